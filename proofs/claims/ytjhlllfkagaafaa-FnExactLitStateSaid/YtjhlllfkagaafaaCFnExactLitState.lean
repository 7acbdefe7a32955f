/- What each function that the law FnExactLitState calls comes to. -/
import Derived.Test.YtjhlllfkagaafaaPFnExactLitStatex2
import Derived.Test.YtjhlllfkagaafaaMath
namespace Go.Proofs.Ytjhlllfkagaafaa.CFnExactLitState
open Go Go.RowKit Go.Proofs.Ytjhlllfkagaafaa.PFnExactLitState Go.Proofs.YtjhlllfkagaafaaW.PrintWords Go.Proofs.YtjhlllfkagaafaaW.PrintLast Go.Proofs.Ytjhlllfkagaafaa.Pl

theorem eqIntS_l (x y : List Int) (hl : x.length = y.length) (hx : x.length ≤ 35184372088832) : ∀ (d i : Nat), i + d = x.length → (∀ j : Nat, j < i → rd x (j : Int) = rd y (j : Int)) → Ev (fun k => laws_eqIntS.l0 k x y (i : Int)) (decide (x = y)) := by
  intro d
  induction d with
  | zero =>
    intro i hd h
    refine Ev.step (fun k => laws_eqIntS.l0.eq_2 ..) ?_
    exact Ev.neg (by omega) (Ev.one (congrArg some (decide_eq_true (rd_ext hl fun j hj => h j (by omega))).symm))
  | succ d ih =>
    intro i hd h
    refine Ev.step (fun k => laws_eqIntS.l0.eq_2 ..) ?_
    refine Ev.pos (by omega) (Ev.pos (by omega) (Ev.pos (by omega) ?_))
    by_cases e : rd x (i : Int) = rd y (i : Int)
    · refine Ev.pos e ?_
      rw [w64i i (by omega)]
      refine ih (i + 1) (by omega) (fun j hj => ?_)
      by_cases e2 : j = i
      · rw [e2]; exact e
      · exact h j (by omega)
    · exact Ev.neg e (Ev.one (congrArg some (decide_eq_false (fun q => e (by rw [q]))).symm))
theorem eqIntS_ev (x y : List Int) (hx : x.length ≤ 35184372088832) : Ev (fun k => laws_eqIntS.f k x y) (decide (x = y)) := by
  unfold laws_eqIntS.f
  by_cases hl : x.length = y.length
  · refine Ev.pos (by omega) ?_
    exact eqIntS_l x y hl hx x.length 0 (by omega) (fun j hj => by omega)
  · exact Ev.neg (by omega) (Ev.one (congrArg some (decide_eq_false (fun q => hl (by rw [q]))).symm))
theorem l1In_ev (a b c : Int) : Ev (fun _ => spec_l1In.f a b c) (decide (b ≤ a ∧ a ≤ c)) := by
  refine Ev.one ?_
  unfold spec_l1In.f
  by_cases h : a ≥ b
  · rw [if_pos h]; simp [show b ≤ a from h]
  · rw [if_neg h]; simp [show ¬ b ≤ a from h]
theorem pow_less {n : Nat} (h6 : n ≤ 6) : wrap64 (shl .i64 1 (n : Int) - 1) = ((2 ^ n : Nat) : Int) - 1 := by
  have : (2 : Nat) ^ n ≤ 2 ^ 6 := Nat.pow_le_pow_right (by omega) h6
  have : (0 : Nat) < 2 ^ n := Nat.two_pow_pos _
  rw [shl_one _ (by omega), w64 (by omega) (by omega)]
theorem inSet_yes {n : Nat} (h6 : n ≤ 6) {set : Int} (hs : InS n set) : Ev (fun _ => spec_l1In.f set 0 (wrap64 (shl .i64 1 (n : Int) - 1))) true := by
  rw [pow_less h6]
  exact Ev.cast (l1In_ev _ _ _) (decide_eq_true ⟨hs.1, by have := hs.2; push_cast; omega⟩)
theorem inSet_no {n : Nat} (h6 : n ≤ 6) {set : Int} (hs : ¬ InS n set) : Ev (fun _ => spec_l1In.f set 0 (wrap64 (shl .i64 1 (n : Int) - 1))) false := by
  rw [pow_less h6]
  exact Ev.cast (l1In_ev _ _ _) (decide_eq_false fun q => hs ⟨q.1, by have := q.2; push_cast at this; omega⟩)
theorem markIntS_l (n : Nat) (hn : n ≤ 35184372088832) (m : Int) (h0 : 0 ≤ m) (h1 : m ≤ 1000000000000000) : ∀ (d i : Nat) (x : List Int), i + d = n → x.length = n → (∀ j : Nat, j < i → rd x (j : Int) = m + (j : Int)) → Ev (fun k => laws_markIntS.l0 k x (m + (i : Int)) (i : Int)) (m + (n : Int), mkL (fun j => m + (j : Int)) n) := by
  intro d
  induction d with
  | zero =>
    intro i x hd hl h
    refine Ev.step (fun k => laws_markIntS.l0.eq_2 ..) ?_
    refine Ev.neg (by omega) (Ev.one (congrArg some ?_))
    rw [mkL_ext hl (fun j hj => h j (by omega)), show i = n by omega]
  | succ d ih =>
    intro i x hd hl h
    refine Ev.step (fun k => laws_markIntS.l0.eq_2 ..) ?_
    refine Ev.pos (by omega) (Ev.pos (by omega) ?_)
    rw [w64i i (by omega), Int.toNat_natCast, w64 (x := m + (i : Int) + 1) (by omega) (by omega), show m + (i : Int) + 1 = m + ((i + 1 : Nat) : Int) by omega]
    refine ih (i + 1) _ (by omega) (by simpa using hl) (fun j hj => ?_)
    rw [rd_set _ _ _ _ (by omega)]
    by_cases e : i = j
    · rw [if_pos e, e]
    · rw [if_neg e]; exact h j (by omega)
theorem markIntS_ev (x : List Int) (hx : x.length ≤ 35184372088832) (m : Int) (h0 : 0 ≤ m) (h1 : m ≤ 1000000000000000) : Ev (fun k => laws_markIntS.f k x m) (m + (x.length : Int), mkL (fun j => m + (j : Int)) x.length) := by
  unfold laws_markIntS.f
  have := markIntS_l x.length hx m h0 h1 x.length 0 x (by omega) rfl (fun j hj => by omega)
  simpa using this
theorem heldIntS_l (n : Nat) (hn : n ≤ 35184372088832) (m : Int) (h0 : 0 ≤ m) (h1 : m ≤ 1000000000000000) : ∀ (d i : Nat), i + d = n → Ev (fun k => laws_heldIntS.l0 k (mkL (fun j => m + (j : Int)) n) (m + (i : Int)) (i : Int)) (m + (n : Int)) := by
  intro d
  induction d with
  | zero =>
    intro i hd
    refine Ev.step (fun k => laws_heldIntS.l0.eq_2 ..) ?_
    refine Ev.neg (by rw [mkL_len]; omega) (Ev.one (congrArg some ?_))
    rw [show i = n by omega]
  | succ d ih =>
    intro i hd
    refine Ev.step (fun k => laws_heldIntS.l0.eq_2 ..) ?_
    rw [rd_mkL _ _ _ (by omega), w64i i (by omega), w64 (x := m + (i : Int) + 1) (by omega) (by omega), show m + (i : Int) + 1 = m + ((i + 1 : Nat) : Int) by omega]
    exact Ev.pos (by rw [mkL_len]; omega) (Ev.pos (by omega) (Ev.pos rfl (ih (i + 1) (by omega))))
theorem heldIntS_ev (n : Nat) (hn : n ≤ 35184372088832) (m : Int) (h0 : 0 ≤ m) (h1 : m ≤ 1000000000000000) : Ev (fun k => laws_heldIntS.f k (mkL (fun j => m + (j : Int)) n) m) (m + (n : Int)) := by
  unfold laws_heldIntS.f
  have := heldIntS_l n hn m h0 h1 n 0 (by omega)
  simpa using this
theorem iLit_l (set : Int) (n : Nat) (h6 : n ≤ 6) : ∀ (d i : Nat) (x : List Int), i + d = n → x.length = n → (∀ j : Nat, j < i → rd x (j : Int) = set / 2 ^ j % 2) → Ev (fun k => impl_LitState.l0 k set x (n : Int) (i : Int)) (litL n set) := by
  intro d
  induction d with
  | zero =>
    intro i x hd hl h
    refine Ev.step (fun k => impl_LitState.l0.eq_2 ..) ?_
    exact Ev.neg (by omega) (Ev.one (congrArg some (mkL_ext hl (fun j hj => h j (by omega)))))
  | succ d ih =>
    intro i x hd hl h
    refine Ev.step (fun k => impl_LitState.l0.eq_2 ..) ?_
    refine Ev.pos (by omega) (Ev.pos (by omega) (Ev.pos (by omega) ?_))
    rw [w64i i (by omega), Int.toNat_natCast, itest _ i (by omega)]
    refine ih (i + 1) _ (by omega) (by simpa using hl) (fun j hj => ?_)
    rw [rd_set _ _ _ _ (by omega)]
    by_cases e : i = j
    · rw [if_pos e, e]
    · rw [if_neg e]; exact h j (by omega)
theorem iLit_yes {n : Nat} (h1 : 1 ≤ n) (h6 : n ≤ 6) {set : Int} (hs : InS n set) : Ev (fun k => impl_LitState.f k (n : Int) set) (litL n set) := by
  unfold impl_LitState.f
  have := hs.2
  rw [shl_one _ (by omega)]
  refine Ev.neg (by omega) (Ev.neg (by omega) (Ev.neg (by have := hs.1; omega) (Ev.pos (by omega) ?_)))
  refine Ev.step (fun k => impl_LitState.j0.eq_2 ..) ?_
  refine Ev.neg (by simp; omega) (Ev.pos (by omega) (Ev.pos (by omega) (Ev.bind (Ev.now _) ?_)))
  rw [Int.toNat_natCast, List.length_replicate]
  exact iLit_l set n h6 n 0 _ (by omega) (by simp) (fun j hj => by omega)
theorem iLit_no {a s : Int} (h : ¬ ∃ n : Nat, a = n ∧ 1 ≤ n ∧ n ≤ 6 ∧ InS n s) : Ev (fun k => impl_LitState.f k a s) [] := by
  have hj : ∀ p : Bool, p = true → Ev (fun k => impl_LitState.j0 k a s p) [] := by
    intro p hp
    refine Ev.step (fun k => impl_LitState.j0.eq_2 ..) ?_
    exact Ev.pos hp (Ev.one rfl)
  unfold impl_LitState.f
  by_cases c1 : a < 1
  · exact Ev.pos c1 (hj _ rfl)
  by_cases c2 : a > 6
  · exact Ev.neg c1 (Ev.pos c2 (hj _ rfl))
  by_cases c3 : s < 0
  · exact Ev.neg c1 (Ev.neg c2 (Ev.pos c3 (hj _ rfl)))
  obtain ⟨n, rfl⟩ := Int.eq_ofNat_of_zero_le (show 0 ≤ a by omega)
  refine Ev.neg c1 (Ev.neg c2 (Ev.neg c3 (Ev.pos (by omega) (hj _ ?_))))
  rw [shl_one _ (by omega)]
  refine decide_eq_true (Classical.byContradiction fun q => h ⟨n, rfl, by omega, by omega, by omega, ?_⟩)
  push_cast at q; omega
theorem sLit_l (set : Int) (n : Nat) (h1 : 1 ≤ n) (h6 : n ≤ 6) (hs : InS n set) : ∀ (d i : Nat), i + d = n → Ev (fun k => spec_LitState.l0 k (n : Int) set (mkL (fun i => set / 2 ^ i % 2) i) (i : Int)) (litL n set) := by
  intro d
  induction d with
  | zero =>
    intro i hd
    refine Ev.step (fun k => spec_LitState.l0.eq_2 ..) ?_
    refine Ev.neg (by omega) (Ev.one ?_)
    rw [litL, show i = n by omega]
  | succ d ih =>
    intro i hd
    refine Ev.step (fun k => spec_LitState.l0.eq_2 ..) ?_
    rw [w64i i (by omega), stest _ i (by omega) hs.1, mkL_snoc]
    refine Ev.pos (by omega) (Ev.bind (l1In_ev _ _ _) (Ev.pos (decide_eq_true ⟨by omega, by omega⟩) (Ev.pos (by omega) (Ev.bind (inSet_yes h6 hs) (Ev.pos rfl (Ev.pos (by omega) (Ev.pos (by rw [mkL_len]; omega) ?_)))))))
    exact ih (i + 1) (by omega)
theorem sLit_yes {n : Nat} (h1 : 1 ≤ n) (h6 : n ≤ 6) {set : Int} (hs : InS n set) : Ev (fun k => spec_LitState.f k (n : Int) set) (litL n set) := by
  unfold spec_LitState.f
  exact sLit_l set n h1 h6 hs n 0 (by omega)
theorem sLit_no {a s : Int} (h : ¬ ∃ n : Nat, a = n ∧ 1 ≤ n ∧ n ≤ 6 ∧ InS n s) : Ev (fun k => spec_LitState.f k a s) [] := by
  unfold spec_LitState.f
  refine Ev.step (fun k => spec_LitState.l0.eq_2 ..) ?_
  by_cases c0 : 0 < a
  · refine Ev.pos c0 ?_
    by_cases c1 : 1 ≤ a ∧ a ≤ 6
    · obtain ⟨n, rfl⟩ := Int.eq_ofNat_of_zero_le (show 0 ≤ a by omega)
      have hs : ¬ InS n s := fun q => h ⟨n, rfl, by omega, by omega, q⟩
      exact Ev.bind (l1In_ev _ _ _) (Ev.pos (decide_eq_true c1) (Ev.pos (by omega) (Ev.bind (inSet_no (by omega) hs) (Ev.neg (by decide) (Ev.one rfl)))))
    · exact Ev.bind (l1In_ev _ _ _) (Ev.neg (by rw [decide_eq_false c1]; decide) (Ev.one rfl))
  · exact Ev.neg c0 (Ev.one rfl)
end Go.Proofs.Ytjhlllfkagaafaa.CFnExactLitState
