/- What each function that the law FnExactStateOf calls comes to. -/
import Derived.Test.YtjhlllfkagaafaaPFnExactStateOfx2
import Derived.Test.YtjhlllfkagaafaaMath
namespace Go.Proofs.Ytjhlllfkagaafaa.CFnExactStateOf
open Go Go.RowKit Go.Proofs.Ytjhlllfkagaafaa.PFnExactStateOf Go.Proofs.YtjhlllfkagaafaaW.PrintWords Go.Proofs.YtjhlllfkagaafaaW.PrintLast Go.Proofs.Ytjhlllfkagaafaa.Pl

theorem eqIntS_l (x y : List Int) (hl : x.length = y.length) (hx : x.length ≤ 35184372088832) : ∀ (d i : Nat), i + d = x.length → (∀ j : Nat, j < i → rd x (j : Int) = rd y (j : Int)) → Ev (fun k => laws_eqIntS.l0 k x y (i : Int)) (decide (x = y)) := by
  intro d
  induction d with
  | zero =>
    intro i hd h
    refine Ev.step (fun k => laws_eqIntS.l0.eq_2 ..) ?_
    exact Ev.neg (by omega) (Ev.one (congrArg some (decide_eq_true (rd_ext hl fun j hj => h j (by omega))).symm))
  | succ d ih =>
    intro i hd h
    refine Ev.step (fun k => laws_eqIntS.l0.eq_2 ..) ?_
    refine Ev.pos (by omega) (Ev.pos (by omega) (Ev.pos (by omega) ?_))
    by_cases e : rd x (i : Int) = rd y (i : Int)
    · refine Ev.pos e ?_
      rw [w64i i (by omega)]
      refine ih (i + 1) (by omega) (fun j hj => ?_)
      by_cases e2 : j = i
      · rw [e2]; exact e
      · exact h j (by omega)
    · exact Ev.neg e (Ev.one (congrArg some (decide_eq_false (fun q => e (by rw [q]))).symm))
theorem eqIntS_ev (x y : List Int) (hx : x.length ≤ 35184372088832) : Ev (fun k => laws_eqIntS.f k x y) (decide (x = y)) := by
  unfold laws_eqIntS.f
  by_cases hl : x.length = y.length
  · refine Ev.pos (by omega) ?_
    exact eqIntS_l x y hl hx x.length 0 (by omega) (fun j hj => by omega)
  · exact Ev.neg (by omega) (Ev.one (congrArg some (decide_eq_false (fun q => hl (by rw [q]))).symm))
theorem l1In_ev (a b c : Int) : Ev (fun _ => spec_l1In.f a b c) (decide (b ≤ a ∧ a ≤ c)) := by
  refine Ev.one ?_
  unfold spec_l1In.f
  by_cases h : a ≥ b
  · rw [if_pos h]; simp [show b ≤ a from h]
  · rw [if_neg h]; simp [show ¬ b ≤ a from h]
theorem pow_less {n : Nat} (h6 : n ≤ 6) : wrap64 (shl .i64 1 (n : Int) - 1) = ((2 ^ n : Nat) : Int) - 1 := by
  have : (2 : Nat) ^ n ≤ 2 ^ 6 := Nat.pow_le_pow_right (by omega) h6
  have : (0 : Nat) < 2 ^ n := Nat.two_pow_pos _
  rw [shl_one _ (by omega), w64 (by omega) (by omega)]
theorem inSet_yes {n : Nat} (h6 : n ≤ 6) {set : Int} (hs : InS n set) : Ev (fun _ => spec_l1In.f set 0 (wrap64 (shl .i64 1 (n : Int) - 1))) true := by
  rw [pow_less h6]
  exact Ev.cast (l1In_ev _ _ _) (decide_eq_true ⟨hs.1, by have := hs.2; push_cast; omega⟩)
theorem inSet_no {n : Nat} (h6 : n ≤ 6) {set : Int} (hs : ¬ InS n set) : Ev (fun _ => spec_l1In.f set 0 (wrap64 (shl .i64 1 (n : Int) - 1))) false := by
  rw [pow_less h6]
  exact Ev.cast (l1In_ev _ _ _) (decide_eq_false fun q => hs ⟨q.1, by have := q.2; push_cast at this; omega⟩)
theorem markIntS_l (n : Nat) (hn : n ≤ 35184372088832) (m : Int) (h0 : 0 ≤ m) (h1 : m ≤ 1000000000000000) : ∀ (d i : Nat) (x : List Int), i + d = n → x.length = n → (∀ j : Nat, j < i → rd x (j : Int) = m + (j : Int)) → Ev (fun k => laws_markIntS.l0 k x (m + (i : Int)) (i : Int)) (m + (n : Int), mkL (fun j => m + (j : Int)) n) := by
  intro d
  induction d with
  | zero =>
    intro i x hd hl h
    refine Ev.step (fun k => laws_markIntS.l0.eq_2 ..) ?_
    refine Ev.neg (by omega) (Ev.one (congrArg some ?_))
    rw [mkL_ext hl (fun j hj => h j (by omega)), show i = n by omega]
  | succ d ih =>
    intro i x hd hl h
    refine Ev.step (fun k => laws_markIntS.l0.eq_2 ..) ?_
    refine Ev.pos (by omega) (Ev.pos (by omega) ?_)
    rw [w64i i (by omega), Int.toNat_natCast, w64 (x := m + (i : Int) + 1) (by omega) (by omega), show m + (i : Int) + 1 = m + ((i + 1 : Nat) : Int) by omega]
    refine ih (i + 1) _ (by omega) (by simpa using hl) (fun j hj => ?_)
    rw [rd_set _ _ _ _ (by omega)]
    by_cases e : i = j
    · rw [if_pos e, e]
    · rw [if_neg e]; exact h j (by omega)
theorem markIntS_ev (x : List Int) (hx : x.length ≤ 35184372088832) (m : Int) (h0 : 0 ≤ m) (h1 : m ≤ 1000000000000000) : Ev (fun k => laws_markIntS.f k x m) (m + (x.length : Int), mkL (fun j => m + (j : Int)) x.length) := by
  unfold laws_markIntS.f
  have := markIntS_l x.length hx m h0 h1 x.length 0 x (by omega) rfl (fun j hj => by omega)
  simpa using this
theorem heldIntS_l (n : Nat) (hn : n ≤ 35184372088832) (m : Int) (h0 : 0 ≤ m) (h1 : m ≤ 1000000000000000) : ∀ (d i : Nat), i + d = n → Ev (fun k => laws_heldIntS.l0 k (mkL (fun j => m + (j : Int)) n) (m + (i : Int)) (i : Int)) (m + (n : Int)) := by
  intro d
  induction d with
  | zero =>
    intro i hd
    refine Ev.step (fun k => laws_heldIntS.l0.eq_2 ..) ?_
    refine Ev.neg (by rw [mkL_len]; omega) (Ev.one (congrArg some ?_))
    rw [show i = n by omega]
  | succ d ih =>
    intro i hd
    refine Ev.step (fun k => laws_heldIntS.l0.eq_2 ..) ?_
    rw [rd_mkL _ _ _ (by omega), w64i i (by omega), w64 (x := m + (i : Int) + 1) (by omega) (by omega), show m + (i : Int) + 1 = m + ((i + 1 : Nat) : Int) by omega]
    exact Ev.pos (by rw [mkL_len]; omega) (Ev.pos (by omega) (Ev.pos rfl (ih (i + 1) (by omega))))
theorem heldIntS_ev (n : Nat) (hn : n ≤ 35184372088832) (m : Int) (h0 : 0 ≤ m) (h1 : m ≤ 1000000000000000) : Ev (fun k => laws_heldIntS.f k (mkL (fun j => m + (j : Int)) n) m) (m + (n : Int)) := by
  unfold laws_heldIntS.f
  have := heldIntS_l n hn m h0 h1 n 0 (by omega)
  simpa using this
theorem iState_l {kinds : Int} (hk : 1 ≤ kinds) (h5 : kinds ≤ 5) (n : Nat) (h6 : n ≤ 6) : ∀ (d i : Nat) (x : Int) (out : List Int), i + d = n → 0 ≤ x → x < 9223372036854775808 → out.length = i →
    Ev (fun k => impl_StateOf.l0 k kinds x out (n : Int) (i : Int)) (if 0 < restN kinds d x then [] else out ++ digN kinds d x) := by
  intro d
  induction d with
  | zero =>
    intro i x out hd h0 h1 hl
    refine Ev.step (fun k => impl_StateOf.l0.eq_2 ..) ?_
    refine Ev.neg (by omega) ?_
    by_cases c : x > 0
    · exact Ev.pos c (Ev.one (by simp [restN, c]))
    · exact Ev.neg c (Ev.one (by simp [restN, digN, c]))
  | succ d ih =>
    intro i x out hd h0 h1 hl
    have hq0 : 0 ≤ x / kinds := Int.ediv_nonneg h0 (by omega)
    have hq1 : x / kinds ≤ x := Int.ediv_le_self _ h0
    refine Ev.step (fun k => impl_StateOf.l0.eq_2 ..) ?_
    rw [Int.tdiv_eq_ediv_of_nonneg h0, Int.tmod_eq_emod_of_nonneg h0, w64 (x := x / kinds) (by omega) (by omega), w64i i (by omega)]
    refine Ev.pos (by omega) (Ev.neg (by omega) (Ev.pos (by omega) ?_))
    refine Ev.cast (ih (i + 1) (x / kinds) (out ++ [x % kinds]) (by omega) hq0 (by omega) (by simp [hl])) ?_
    show (if 0 < restN kinds d (x / kinds) then [] else (out ++ [x % kinds]) ++ digN kinds d (x / kinds)) = (if 0 < restN kinds d (x / kinds) then [] else out ++ (x % kinds :: digN kinds d (x / kinds)))
    rw [List.append_assoc]; rfl
theorem iState_in {kinds : Int} (hk : 3 ≤ kinds) (h5 : kinds ≤ 5) {n : Nat} (h1 : 1 ≤ n) (h6 : n ≤ 6) {x : Int} (h0 : 0 ≤ x) (hx : x < 9223372036854775808) : Ev (fun k => impl_StateOf.f k (n : Int) kinds x) (stOf n kinds x) := by
  unfold impl_StateOf.f
  refine Ev.neg (by omega) (Ev.neg (by omega) (Ev.neg (by omega) (Ev.neg (by omega) ?_)))
  refine Ev.step (fun k => impl_StateOf.j0.eq_2 ..) ?_
  refine Ev.neg (by simp; omega) ?_
  have := iState_l (by omega) h5 n h6 n 0 x [] (by omega) h0 hx rfl
  simpa [stOf] using this
theorem iState_no {a kinds x : Int} (h : ¬ (1 ≤ a ∧ a ≤ 6 ∧ 3 ≤ kinds ∧ kinds ≤ 5 ∧ 0 ≤ x)) : Ev (fun k => impl_StateOf.f k a kinds x) [] := by
  have hj : ∀ p : Bool, p = true → Ev (fun k => impl_StateOf.j0 k a kinds x p) [] := by
    intro p hp
    refine Ev.step (fun k => impl_StateOf.j0.eq_2 ..) ?_
    exact Ev.pos hp (Ev.one rfl)
  unfold impl_StateOf.f
  by_cases c1 : a < 1
  · exact Ev.pos c1 (hj _ rfl)
  by_cases c2 : a > 6
  · exact Ev.neg c1 (Ev.pos c2 (hj _ rfl))
  by_cases c3 : kinds < 3
  · exact Ev.neg c1 (Ev.neg c2 (Ev.pos c3 (hj _ rfl)))
  by_cases c4 : kinds > 5
  · exact Ev.neg c1 (Ev.neg c2 (Ev.neg c3 (Ev.pos c4 (hj _ rfl))))
  exact Ev.neg c1 (Ev.neg c2 (Ev.neg c3 (Ev.neg c4 (hj _ (decide_eq_true (by omega))))))
theorem l2Power_l (kinds : Int) (hk : 3 ≤ kinds) (h5 : kinds ≤ 5) (n : Nat) (h6 : n ≤ 6) : ∀ (d i : Nat), i + d = n → Ev (fun k => spec_l2Power.l0 k (n : Int) kinds (kinds ^ i) (i : Int)) (kinds ^ n) := by
  intro d
  induction d with
  | zero =>
    intro i hd
    refine Ev.step (fun k => spec_l2Power.l0.eq_2 ..) ?_
    exact Ev.neg (by omega) (Ev.one (by rw [show i = n by omega]))
  | succ d ih =>
    intro i hd
    refine Ev.step (fun k => spec_l2Power.l0.eq_2 ..) ?_
    have hb := pow_kinds hk h5 (i := i + 1) (by omega)
    rw [← Int.pow_succ, w64 (x := kinds ^ (i + 1)) (by omega) (by omega), w64i i (by omega)]
    exact Ev.pos (by omega) (ih (i + 1) (by omega))
theorem l2Power_ev {kinds : Int} (hk : 3 ≤ kinds) (h5 : kinds ≤ 5) {n : Nat} (h6 : n ≤ 6) : Ev (fun k => spec_l2Power.f k (n : Int) kinds) (kinds ^ n) := by
  unfold spec_l2Power.f
  have := l2Power_l kinds hk h5 n h6 n 0 (by omega)
  rw [Int.pow_zero] at this
  exact this
theorem l2State_l {kinds : Int} (hk : 1 ≤ kinds) (h5 : kinds ≤ 5) (n : Nat) (h6 : n ≤ 6) : ∀ (d i : Nat) (x : Int) (out : List Int), i + d = n → 0 ≤ x → x < 9223372036854775808 → out.length = i →
    Ev (fun k => spec_l2State.l0 k (n : Int) kinds x out (i : Int)) (out ++ digN kinds d x) := by
  intro d
  induction d with
  | zero =>
    intro i x out hd h0 h1 hl
    refine Ev.step (fun k => spec_l2State.l0.eq_2 ..) ?_
    exact Ev.neg (by omega) (Ev.one (by simp [digN]))
  | succ d ih =>
    intro i x out hd h0 h1 hl
    have hq0 : 0 ≤ x / kinds := Int.ediv_nonneg h0 (by omega)
    have hq1 : x / kinds ≤ x := Int.ediv_le_self _ h0
    refine Ev.step (fun k => spec_l2State.l0.eq_2 ..) ?_
    rw [Int.tdiv_eq_ediv_of_nonneg h0, Int.tmod_eq_emod_of_nonneg h0, w64 (x := x / kinds) (by omega) (by omega), w64i i (by omega)]
    refine Ev.pos (by omega) (Ev.neg (by omega) (Ev.pos (by omega) ?_))
    refine Ev.cast (ih (i + 1) (x / kinds) (out ++ [x % kinds]) (by omega) hq0 (by omega) (by simp [hl])) ?_
    simp only [digN, List.append_assoc, List.singleton_append]
theorem l2State_ev {kinds : Int} (hk : 3 ≤ kinds) (h5 : kinds ≤ 5) {n : Nat} (h6 : n ≤ 6) {x : Int} (h0 : 0 ≤ x) (hx : x < 9223372036854775808) : Ev (fun k => spec_l2State.f k (n : Int) kinds x) (digN kinds n x) := by
  unfold spec_l2State.f
  have := l2State_l (by omega) h5 n h6 n 0 x [] (by omega) h0 hx rfl
  simpa using this
theorem sState_in {kinds : Int} (hk : 3 ≤ kinds) (h5 : kinds ≤ 5) {n : Nat} (h1 : 1 ≤ n) (h6 : n ≤ 6) {x : Int} (h0 : 0 ≤ x) (hx : x < 9223372036854775808) : Ev (fun k => spec_StateOf.f k (n : Int) kinds x) (stOf n kinds x) := by
  unfold spec_StateOf.f
  refine Ev.bind (l1In_ev _ _ _) (Ev.pos (decide_eq_true ⟨by omega, by omega⟩) (Ev.bind (l1In_ev _ _ _) (Ev.pos (decide_eq_true ⟨hk, h5⟩) (Ev.neg (by omega) (Ev.bind (l2Power_ev hk h5 h6) ?_)))))
  by_cases c : x ≥ kinds ^ n
  · exact Ev.pos c (Ev.one (by rw [stOf, if_pos ((rest_pos (by omega) n h0).2 c)]))
  · exact Ev.neg c (Ev.bind (l2State_ev hk h5 h6 h0 hx) (Ev.one (by rw [stOf, if_neg (fun q => c ((rest_pos (by omega) n h0).1 q))])))
theorem sState_no {a kinds x : Int} (h : ¬ (1 ≤ a ∧ a ≤ 6 ∧ 3 ≤ kinds ∧ kinds ≤ 5 ∧ 0 ≤ x)) : Ev (fun k => spec_StateOf.f k a kinds x) [] := by
  unfold spec_StateOf.f
  by_cases c1 : 1 ≤ a ∧ a ≤ 6
  · by_cases c2 : 3 ≤ kinds ∧ kinds ≤ 5
    · exact Ev.bind (l1In_ev _ _ _) (Ev.pos (decide_eq_true c1) (Ev.bind (l1In_ev _ _ _) (Ev.pos (decide_eq_true c2) (Ev.pos (by omega) (Ev.one rfl)))))
    · exact Ev.bind (l1In_ev _ _ _) (Ev.pos (decide_eq_true c1) (Ev.bind (l1In_ev _ _ _) (Ev.neg (by rw [decide_eq_false c2]; decide) (Ev.one rfl))))
  · exact Ev.bind (l1In_ev _ _ _) (Ev.neg (by rw [decide_eq_false c1]; decide) (Ev.one rfl))
end Go.Proofs.Ytjhlllfkagaafaa.CFnExactStateOf
