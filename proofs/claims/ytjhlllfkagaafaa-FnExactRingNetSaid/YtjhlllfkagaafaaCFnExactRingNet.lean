/- What each function that the law FnExactRingNet calls comes to. -/
import Derived.Test.YtjhlllfkagaafaaPFnExactRingNetx2
import Derived.Test.YtjhlllfkagaafaaMath
namespace Go.Proofs.Ytjhlllfkagaafaa.CFnExactRingNet
open Go Go.RowKit Go.Proofs.Ytjhlllfkagaafaa.PFnExactRingNet Go.Proofs.YtjhlllfkagaafaaW.PrintWords Go.Proofs.YtjhlllfkagaafaaW.PrintLast Go.Proofs.Ytjhlllfkagaafaa.Pl

theorem eqIntS_l (x y : List Int) (hl : x.length = y.length) (hx : x.length ≤ 35184372088832) : ∀ (d i : Nat), i + d = x.length → (∀ j : Nat, j < i → rd x (j : Int) = rd y (j : Int)) → Ev (fun k => laws_eqIntS.l0 k x y (i : Int)) (decide (x = y)) := by
  intro d
  induction d with
  | zero =>
    intro i hd h
    refine Ev.step (fun k => laws_eqIntS.l0.eq_2 ..) ?_
    exact Ev.neg (by omega) (Ev.one (congrArg some (decide_eq_true (rd_ext hl fun j hj => h j (by omega))).symm))
  | succ d ih =>
    intro i hd h
    refine Ev.step (fun k => laws_eqIntS.l0.eq_2 ..) ?_
    refine Ev.pos (by omega) (Ev.pos (by omega) (Ev.pos (by omega) ?_))
    by_cases e : rd x (i : Int) = rd y (i : Int)
    · refine Ev.pos e ?_
      rw [w64i i (by omega)]
      refine ih (i + 1) (by omega) (fun j hj => ?_)
      by_cases e2 : j = i
      · rw [e2]; exact e
      · exact h j (by omega)
    · exact Ev.neg e (Ev.one (congrArg some (decide_eq_false (fun q => e (by rw [q]))).symm))
theorem eqIntS_ev (x y : List Int) (hx : x.length ≤ 35184372088832) : Ev (fun k => laws_eqIntS.f k x y) (decide (x = y)) := by
  unfold laws_eqIntS.f
  by_cases hl : x.length = y.length
  · refine Ev.pos (by omega) ?_
    exact eqIntS_l x y hl hx x.length 0 (by omega) (fun j hj => by omega)
  · exact Ev.neg (by omega) (Ev.one (congrArg some (decide_eq_false (fun q => hl (by rw [q]))).symm))
theorem l1In_ev (a b c : Int) : Ev (fun _ => spec_l1In.f a b c) (decide (b ≤ a ∧ a ≤ c)) := by
  refine Ev.one ?_
  unfold spec_l1In.f
  by_cases h : a ≥ b
  · rw [if_pos h]; simp [show b ≤ a from h]
  · rw [if_neg h]; simp [show ¬ b ≤ a from h]
theorem pow_less {n : Nat} (h6 : n ≤ 6) : wrap64 (shl .i64 1 (n : Int) - 1) = ((2 ^ n : Nat) : Int) - 1 := by
  have : (2 : Nat) ^ n ≤ 2 ^ 6 := Nat.pow_le_pow_right (by omega) h6
  have : (0 : Nat) < 2 ^ n := Nat.two_pow_pos _
  rw [shl_one _ (by omega), w64 (by omega) (by omega)]
theorem inSet_yes {n : Nat} (h6 : n ≤ 6) {set : Int} (hs : InS n set) : Ev (fun _ => spec_l1In.f set 0 (wrap64 (shl .i64 1 (n : Int) - 1))) true := by
  rw [pow_less h6]
  exact Ev.cast (l1In_ev _ _ _) (decide_eq_true ⟨hs.1, by have := hs.2; push_cast; omega⟩)
theorem inSet_no {n : Nat} (h6 : n ≤ 6) {set : Int} (hs : ¬ InS n set) : Ev (fun _ => spec_l1In.f set 0 (wrap64 (shl .i64 1 (n : Int) - 1))) false := by
  rw [pow_less h6]
  exact Ev.cast (l1In_ev _ _ _) (decide_eq_false fun q => hs ⟨q.1, by have := q.2; push_cast at this; omega⟩)
theorem sRing_some (m : Nat) (h1 : 3 ≤ m) (h6 : m ≤ 6) : ∃ l, Ev (fun k => spec_RingNet.f k (m : Int)) l ∧ l.length = m := by
  have : m = 3 ∨ m = 4 ∨ m = 5 ∨ m = 6 := by omega
  rcases this with rfl | rfl | rfl | rfl
  · exact ⟨[6, 5, 3], Ev.of (fun k => spec_RingNet.mono _ k) (k := 40) (by decide +kernel), rfl⟩
  · exact ⟨[10, 5, 10, 5], Ev.of (fun k => spec_RingNet.mono _ k) (k := 40) (by decide +kernel), rfl⟩
  · exact ⟨[18, 5, 10, 20, 9], Ev.of (fun k => spec_RingNet.mono _ k) (k := 40) (by decide +kernel), rfl⟩
  · exact ⟨[34, 5, 10, 20, 40, 17], Ev.of (fun k => spec_RingNet.mono _ k) (k := 40) (by decide +kernel), rfl⟩
theorem markIntS_l (n : Nat) (hn : n ≤ 35184372088832) (m : Int) (h0 : 0 ≤ m) (h1 : m ≤ 1000000000000000) : ∀ (d i : Nat) (x : List Int), i + d = n → x.length = n → (∀ j : Nat, j < i → rd x (j : Int) = m + (j : Int)) → Ev (fun k => laws_markIntS.l0 k x (m + (i : Int)) (i : Int)) (m + (n : Int), mkL (fun j => m + (j : Int)) n) := by
  intro d
  induction d with
  | zero =>
    intro i x hd hl h
    refine Ev.step (fun k => laws_markIntS.l0.eq_2 ..) ?_
    refine Ev.neg (by omega) (Ev.one (congrArg some ?_))
    rw [mkL_ext hl (fun j hj => h j (by omega)), show i = n by omega]
  | succ d ih =>
    intro i x hd hl h
    refine Ev.step (fun k => laws_markIntS.l0.eq_2 ..) ?_
    refine Ev.pos (by omega) (Ev.pos (by omega) ?_)
    rw [w64i i (by omega), Int.toNat_natCast, w64 (x := m + (i : Int) + 1) (by omega) (by omega), show m + (i : Int) + 1 = m + ((i + 1 : Nat) : Int) by omega]
    refine ih (i + 1) _ (by omega) (by simpa using hl) (fun j hj => ?_)
    rw [rd_set _ _ _ _ (by omega)]
    by_cases e : i = j
    · rw [if_pos e, e]
    · rw [if_neg e]; exact h j (by omega)
theorem markIntS_ev (x : List Int) (hx : x.length ≤ 35184372088832) (m : Int) (h0 : 0 ≤ m) (h1 : m ≤ 1000000000000000) : Ev (fun k => laws_markIntS.f k x m) (m + (x.length : Int), mkL (fun j => m + (j : Int)) x.length) := by
  unfold laws_markIntS.f
  have := markIntS_l x.length hx m h0 h1 x.length 0 x (by omega) rfl (fun j hj => by omega)
  simpa using this
theorem heldIntS_l (n : Nat) (hn : n ≤ 35184372088832) (m : Int) (h0 : 0 ≤ m) (h1 : m ≤ 1000000000000000) : ∀ (d i : Nat), i + d = n → Ev (fun k => laws_heldIntS.l0 k (mkL (fun j => m + (j : Int)) n) (m + (i : Int)) (i : Int)) (m + (n : Int)) := by
  intro d
  induction d with
  | zero =>
    intro i hd
    refine Ev.step (fun k => laws_heldIntS.l0.eq_2 ..) ?_
    refine Ev.neg (by rw [mkL_len]; omega) (Ev.one (congrArg some ?_))
    rw [show i = n by omega]
  | succ d ih =>
    intro i hd
    refine Ev.step (fun k => laws_heldIntS.l0.eq_2 ..) ?_
    rw [rd_mkL _ _ _ (by omega), w64i i (by omega), w64 (x := m + (i : Int) + 1) (by omega) (by omega), show m + (i : Int) + 1 = m + ((i + 1 : Nat) : Int) by omega]
    exact Ev.pos (by rw [mkL_len]; omega) (Ev.pos (by omega) (Ev.pos rfl (ih (i + 1) (by omega))))
theorem heldIntS_ev (n : Nat) (hn : n ≤ 35184372088832) (m : Int) (h0 : 0 ≤ m) (h1 : m ≤ 1000000000000000) : Ev (fun k => laws_heldIntS.f k (mkL (fun j => m + (j : Int)) n) m) (m + (n : Int)) := by
  unfold laws_heldIntS.f
  have := heldIntS_l n hn m h0 h1 n 0 (by omega)
  simpa using this
theorem sRing_yes {m : Nat} (h1 : 3 ≤ m) (h6 : m ≤ 6) : Ev (fun k => spec_RingNet.f k (m : Int)) (ringL m) := by
  have : m = 3 ∨ m = 4 ∨ m = 5 ∨ m = 6 := by omega
  rcases this with rfl | rfl | rfl | rfl
  · exact Ev.of (fun k => spec_RingNet.mono _ k) (k := 40) (by decide +kernel)
  · exact Ev.of (fun k => spec_RingNet.mono _ k) (k := 40) (by decide +kernel)
  · exact Ev.of (fun k => spec_RingNet.mono _ k) (k := 40) (by decide +kernel)
  · exact Ev.of (fun k => spec_RingNet.mono _ k) (k := 40) (by decide +kernel)
theorem sRing_no {a : Int} (h : ¬ (3 ≤ a ∧ a ≤ 6)) : Ev (fun k => spec_RingNet.f k a) [] := by
  unfold spec_RingNet.f
  refine Ev.step (fun k => spec_RingNet.l0.eq_2 ..) ?_
  by_cases c0 : 0 < a
  · exact Ev.pos c0 (Ev.bind (l1In_ev _ _ _) (Ev.neg (by rw [decide_eq_false h]; decide) (Ev.one rfl)))
  · exact Ev.neg c0 (Ev.one rfl)
theorem iRing_yes {m : Nat} (h1 : 3 ≤ m) (h6 : m ≤ 6) : Ev (fun k => impl_RingNet.f k (m : Int)) (ringL m) := by
  have : m = 3 ∨ m = 4 ∨ m = 5 ∨ m = 6 := by omega
  rcases this with rfl | rfl | rfl | rfl
  · exact Ev.of (fun k => impl_RingNet.mono _ k) (k := 40) (by decide +kernel)
  · exact Ev.of (fun k => impl_RingNet.mono _ k) (k := 40) (by decide +kernel)
  · exact Ev.of (fun k => impl_RingNet.mono _ k) (k := 40) (by decide +kernel)
  · exact Ev.of (fun k => impl_RingNet.mono _ k) (k := 40) (by decide +kernel)
theorem iRing_no {a : Int} (h : ¬ (3 ≤ a ∧ a ≤ 6)) : Ev (fun k => impl_RingNet.f k a) [] := by
  have hj : ∀ p : Bool, p = true → Ev (fun k => impl_RingNet.j0 k a p) [] := by
    intro p hp
    refine Ev.step (fun k => impl_RingNet.j0.eq_2 ..) ?_
    exact Ev.pos hp (Ev.one rfl)
  unfold impl_RingNet.f
  by_cases c1 : a < 3
  · exact Ev.pos c1 (hj _ rfl)
  · exact Ev.neg c1 (hj _ (decide_eq_true (by omega)))
end Go.Proofs.Ytjhlllfkagaafaa.CFnExactRingNet
