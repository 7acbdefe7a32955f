/- What each function that the law FnExactNamedState calls comes to. -/
import Derived.Test.YtjofekchopgfbaaPFnExactNamedStatex4
import Derived.Test.YtjofekchopgfbaaMath
namespace Go.Proofs.Ytjofekchopgfbaa.CFnExactNamedState
open Go Go.RowKit Go.Proofs.Ytjofekchopgfbaa.PFnExactNamedState Go.Proofs.YtjofekchopgfbaaW.PrintWords Go.Proofs.YtjofekchopgfbaaW.PrintLast Go.Proofs.Ytjofekchopgfbaa.Pl

theorem toIntS_l (x0 : List Int) (hx : x0.length ≤ 35184372088832) : ∀ (d i : Nat) (x3 : List Int), i + d = x0.length → x3.length = x0.length → (∀ j : Nat, j < i → rd x3 (j : Int) = rd x0 (j : Int)) → Ev (fun k => laws_toIntS.l0 k x0 x3 (i : Int)) x0 := by
  intro d
  induction d with
  | zero =>
    intro i x3 hd hl h
    refine Ev.step (fun k => laws_toIntS.l0.eq_2 ..) ?_
    exact Ev.neg (by omega) (Ev.one (congrArg some (rd_ext hl fun j hj => h j (by omega))))
  | succ d ih =>
    intro i x3 hd hl h
    refine Ev.step (fun k => laws_toIntS.l0.eq_2 ..) ?_
    refine Ev.pos (by omega) (Ev.pos (by omega) (Ev.pos (by omega) ?_))
    rw [w64i i (by omega), Int.toNat_natCast]
    refine ih (i + 1) _ (by omega) (by simpa using hl) (fun j hj => ?_)
    rw [rd_set _ _ _ _ (by omega)]
    by_cases e : i = j
    · rw [if_pos e, e]
    · rw [if_neg e]; exact h j (by omega)
theorem toIntS_ev (x0 : List Int) (hx : x0.length ≤ 35184372088832) : Ev (fun k => laws_toIntS.f k x0) x0 := by
  unfold laws_toIntS.f
  refine Ev.pos (by omega) (Ev.pos (by omega) ?_)
  exact toIntS_l x0 hx x0.length 0 _ (by omega) (by simp) (fun j hj => by omega)
theorem eqIntS_l (x y : List Int) (hl : x.length = y.length) (hx : x.length ≤ 35184372088832) : ∀ (d i : Nat), i + d = x.length → (∀ j : Nat, j < i → rd x (j : Int) = rd y (j : Int)) → Ev (fun k => laws_eqIntS.l0 k x y (i : Int)) (decide (x = y)) := by
  intro d
  induction d with
  | zero =>
    intro i hd h
    refine Ev.step (fun k => laws_eqIntS.l0.eq_2 ..) ?_
    exact Ev.neg (by omega) (Ev.one (congrArg some (decide_eq_true (rd_ext hl fun j hj => h j (by omega))).symm))
  | succ d ih =>
    intro i hd h
    refine Ev.step (fun k => laws_eqIntS.l0.eq_2 ..) ?_
    refine Ev.pos (by omega) (Ev.pos (by omega) (Ev.pos (by omega) ?_))
    by_cases e : rd x (i : Int) = rd y (i : Int)
    · refine Ev.pos e ?_
      rw [w64i i (by omega)]
      refine ih (i + 1) (by omega) (fun j hj => ?_)
      by_cases e2 : j = i
      · rw [e2]; exact e
      · exact h j (by omega)
    · exact Ev.neg e (Ev.one (congrArg some (decide_eq_false (fun q => e (by rw [q]))).symm))
theorem eqIntS_ev (x y : List Int) (hx : x.length ≤ 35184372088832) : Ev (fun k => laws_eqIntS.f k x y) (decide (x = y)) := by
  unfold laws_eqIntS.f
  by_cases hl : x.length = y.length
  · refine Ev.pos (by omega) ?_
    exact eqIntS_l x y hl hx x.length 0 (by omega) (fun j hj => by omega)
  · exact Ev.neg (by omega) (Ev.one (congrArg some (decide_eq_false (fun q => hl (by rw [q]))).symm))
theorem l1In_ev (a b c : Int) : Ev (fun _ => spec_l1In.f a b c) (decide (b ≤ a ∧ a ≤ c)) := by
  refine Ev.one ?_
  unfold spec_l1In.f
  by_cases h : a ≥ b
  · rw [if_pos h]; simp [show b ≤ a from h]
  · rw [if_neg h]; simp [show ¬ b ≤ a from h]
theorem pow_less {n : Nat} (h6 : n ≤ 6) : wrap64 (shl .i64 1 (n : Int) - 1) = ((2 ^ n : Nat) : Int) - 1 := by
  have : (2 : Nat) ^ n ≤ 2 ^ 6 := Nat.pow_le_pow_right (by omega) h6
  have : (0 : Nat) < 2 ^ n := Nat.two_pow_pos _
  rw [shl_one _ (by omega), w64 (by omega) (by omega)]
theorem inSet_yes {n : Nat} (h6 : n ≤ 6) {set : Int} (hs : InS n set) : Ev (fun _ => spec_l1In.f set 0 (wrap64 (shl .i64 1 (n : Int) - 1))) true := by
  rw [pow_less h6]
  exact Ev.cast (l1In_ev _ _ _) (decide_eq_true ⟨hs.1, by have := hs.2; push_cast; omega⟩)
theorem inSet_no {n : Nat} (h6 : n ≤ 6) {set : Int} (hs : ¬ InS n set) : Ev (fun _ => spec_l1In.f set 0 (wrap64 (shl .i64 1 (n : Int) - 1))) false := by
  rw [pow_less h6]
  exact Ev.cast (l1In_ev _ _ _) (decide_eq_false fun q => hs ⟨q.1, by have := q.2; push_cast at this; omega⟩)
theorem iStOk_l (kinds : Int) (st : List Int) (hl : st.length ≤ 35184372088832) : ∀ d i : Nat, i + d = st.length → (∀ i' : Nat, i' < i → 0 ≤ rd st (i' : Int) ∧ rd st (i' : Int) < kinds) → ∃ b, Ev (fun k => impl_StateOk.l0 k kinds st st (st.length : Int) (i : Int)) b ∧ (b = true ↔ StP kinds st) := by
  intro d
  induction d with
  | zero =>
    intro i hd h
    have hall : ∀ i' : Nat, i' < st.length → 0 ≤ rd st (i' : Int) ∧ rd st (i' : Int) < kinds := fun i' hi' => h i' (by omega)
    by_cases c1 : kinds ≥ 3
    · by_cases c2 : kinds ≤ 5
      · by_cases c3 : (st.length : Int) ≥ 1
        · refine ⟨decide ((st.length : Int) ≤ 6), ?_, ?_⟩
          · refine Ev.step (fun k => impl_StateOk.l0.eq_2 ..) ?_
            exact Ev.neg (by omega) (Ev.pos c1 (Ev.pos c2 (Ev.pos c3 (Ev.one rfl))))
          · rw [decide_eq_true_iff]
            exact ⟨fun q => ⟨c1, c2, by omega, by omega, hall⟩, fun q => by have := q.2.2.2.1; omega⟩
        · refine ⟨false, ?_, ⟨(fun q => Bool.noConfusion q), fun q => by have := q.2.2.1; omega⟩⟩
          refine Ev.step (fun k => impl_StateOk.l0.eq_2 ..) ?_
          exact Ev.neg (by omega) (Ev.pos c1 (Ev.pos c2 (Ev.neg c3 (Ev.one rfl))))
      · refine ⟨false, ?_, ⟨(fun q => Bool.noConfusion q), fun q => by have := q.2.1; omega⟩⟩
        refine Ev.step (fun k => impl_StateOk.l0.eq_2 ..) ?_
        exact Ev.neg (by omega) (Ev.pos c1 (Ev.neg c2 (Ev.one rfl)))
    · refine ⟨false, ?_, ⟨(fun q => Bool.noConfusion q), fun q => by have := q.1; omega⟩⟩
      refine Ev.step (fun k => impl_StateOk.l0.eq_2 ..) ?_
      exact Ev.neg (by omega) (Ev.neg c1 (Ev.one rfl))
  | succ d ih =>
    intro i hd h
    by_cases c1 : rd st (i : Int) < 0
    · refine ⟨false, ?_, ⟨(fun q => Bool.noConfusion q), fun q => by have := (q.2.2.2.2 i (by omega)).1; omega⟩⟩
      refine Ev.step (fun k => impl_StateOk.l0.eq_2 ..) ?_
      exact Ev.pos (by omega) (Ev.pos (by omega) (Ev.pos (by omega) (Ev.pos c1 (Ev.one rfl))))
    · by_cases c2 : rd st (i : Int) ≥ kinds
      · refine ⟨false, ?_, ⟨(fun q => Bool.noConfusion q), fun q => by have := (q.2.2.2.2 i (by omega)).2; omega⟩⟩
        refine Ev.step (fun k => impl_StateOk.l0.eq_2 ..) ?_
        exact Ev.pos (by omega) (Ev.pos (by omega) (Ev.pos (by omega) (Ev.neg c1 (Ev.pos c2 (Ev.one rfl)))))
      · obtain ⟨b, hb, hb2⟩ := ih (i + 1) (by omega) (fun i' hi' => by
          by_cases e : i' = i
          · rw [e]; omega
          · exact h i' (by omega))
        refine ⟨b, ?_, hb2⟩
        refine Ev.step (fun k => impl_StateOk.l0.eq_2 ..) ?_
        rw [w64i i (by omega)]
        exact Ev.pos (by omega) (Ev.pos (by omega) (Ev.pos (by omega) (Ev.neg c1 (Ev.neg c2 hb))))
theorem iStOk_any (kinds : Int) (st : List Int) (hl : st.length ≤ 35184372088832) : ∃ b, Ev (fun k => impl_StateOk.f k kinds st) b ∧ (b = true ↔ StP kinds st) := by
  unfold impl_StateOk.f
  exact iStOk_l kinds st hl st.length 0 (by omega) (fun i' hi' => by omega)
theorem iStOk_yes {kinds : Int} {st : List Int} (h : StP kinds st) : Ev (fun k => impl_StateOk.f k kinds st) true := by
  obtain ⟨b, hb, hb2⟩ := iStOk_any kinds st (by have := h.2.2.2.1; omega)
  exact Ev.cast hb (hb2.2 h)
theorem iStOk_no {kinds : Int} {st : List Int} (hl : st.length ≤ 35184372088832) (h : ¬ StP kinds st) : Ev (fun k => impl_StateOk.f k kinds st) false := by
  obtain ⟨b, hb, hb2⟩ := iStOk_any kinds st hl
  exact Ev.cast hb (by cases b with | false => rfl | true => exact absurd (hb2.1 rfl) h)
theorem sStOk_l (kinds : Int) (st : List Int) (hl : st.length ≤ 35184372088832) : ∀ d i : Nat, i + d = st.length → (∀ i' : Nat, i' < i → 0 ≤ rd st (i' : Int) ∧ rd st (i' : Int) < kinds) → ∃ b, Ev (fun k => spec_StateOk.l0 k kinds st (i : Int)) b ∧ (b = true ↔ StP kinds st) := by
  intro d
  induction d with
  | zero =>
    intro i hd h
    have hall : ∀ i' : Nat, i' < st.length → 0 ≤ rd st (i' : Int) ∧ rd st (i' : Int) < kinds := fun i' hi' => h i' (by omega)
    by_cases c1 : 3 ≤ kinds ∧ kinds ≤ 5
    · refine ⟨decide ((1 : Int) ≤ (st.length : Int) ∧ (st.length : Int) ≤ 6), ?_, ?_⟩
      · refine Ev.step (fun k => spec_StateOk.l0.eq_2 ..) ?_
        exact Ev.neg (by omega) (Ev.bind (l1In_ev _ _ _) (Ev.pos (decide_eq_true c1) (Ev.bind (l1In_ev _ _ _) (Ev.now _))))
      · rw [decide_eq_true_iff]
        exact ⟨fun q => ⟨c1.1, c1.2, by omega, by omega, hall⟩, fun q => ⟨by have := q.2.2.1; omega, by have := q.2.2.2.1; omega⟩⟩
    · refine ⟨false, ?_, ⟨(fun q => Bool.noConfusion q), fun q => absurd ⟨q.1, q.2.1⟩ c1⟩⟩
      refine Ev.step (fun k => spec_StateOk.l0.eq_2 ..) ?_
      exact Ev.neg (by omega) (Ev.bind (l1In_ev _ _ _) (Ev.neg (by rw [decide_eq_false c1]; decide) (Ev.one rfl)))
  | succ d ih =>
    intro i hd h
    by_cases c1 : rd st (i : Int) < 0
    · refine ⟨false, ?_, ⟨(fun q => Bool.noConfusion q), fun q => by have := (q.2.2.2.2 i (by omega)).1; omega⟩⟩
      refine Ev.step (fun k => spec_StateOk.l0.eq_2 ..) ?_
      exact Ev.pos (by omega) (Ev.pos (by omega) (Ev.pos c1 (Ev.one rfl)))
    · by_cases c2 : rd st (i : Int) ≥ kinds
      · refine ⟨false, ?_, ⟨(fun q => Bool.noConfusion q), fun q => by have := (q.2.2.2.2 i (by omega)).2; omega⟩⟩
        refine Ev.step (fun k => spec_StateOk.l0.eq_2 ..) ?_
        exact Ev.pos (by omega) (Ev.pos (by omega) (Ev.neg c1 (Ev.pos c2 (Ev.one rfl))))
      · obtain ⟨b, hb, hb2⟩ := ih (i + 1) (by omega) (fun i' hi' => by
          by_cases e : i' = i
          · rw [e]; omega
          · exact h i' (by omega))
        refine ⟨b, ?_, hb2⟩
        refine Ev.step (fun k => spec_StateOk.l0.eq_2 ..) ?_
        rw [w64i i (by omega)]
        exact Ev.pos (by omega) (Ev.pos (by omega) (Ev.neg c1 (Ev.neg c2 hb)))
theorem sStOk_any (kinds : Int) (st : List Int) (hl : st.length ≤ 35184372088832) : ∃ b, Ev (fun k => spec_StateOk.f k kinds st) b ∧ (b = true ↔ StP kinds st) := by
  unfold spec_StateOk.f
  exact sStOk_l kinds st hl st.length 0 (by omega) (fun i' hi' => by omega)
theorem sStOk_yes {kinds : Int} {st : List Int} (h : StP kinds st) : Ev (fun k => spec_StateOk.f k kinds st) true := by
  obtain ⟨b, hb, hb2⟩ := sStOk_any kinds st (by have := h.2.2.2.1; omega)
  exact Ev.cast hb (hb2.2 h)
theorem sStOk_no {kinds : Int} {st : List Int} (hl : st.length ≤ 35184372088832) (h : ¬ StP kinds st) : Ev (fun k => spec_StateOk.f k kinds st) false := by
  obtain ⟨b, hb, hb2⟩ := sStOk_any kinds st hl
  exact Ev.cast hb (by cases b with | false => rfl | true => exact absurd (hb2.1 rfl) h)
theorem markIntS_l (n : Nat) (hn : n ≤ 35184372088832) (m : Int) (h0 : 0 ≤ m) (h1 : m ≤ 1000000000000000) : ∀ (d i : Nat) (x : List Int), i + d = n → x.length = n → (∀ j : Nat, j < i → rd x (j : Int) = m + (j : Int)) → Ev (fun k => laws_markIntS.l0 k x (m + (i : Int)) (i : Int)) (m + (n : Int), mkL (fun j => m + (j : Int)) n) := by
  intro d
  induction d with
  | zero =>
    intro i x hd hl h
    refine Ev.step (fun k => laws_markIntS.l0.eq_2 ..) ?_
    refine Ev.neg (by omega) (Ev.one (congrArg some ?_))
    rw [mkL_ext hl (fun j hj => h j (by omega)), show i = n by omega]
  | succ d ih =>
    intro i x hd hl h
    refine Ev.step (fun k => laws_markIntS.l0.eq_2 ..) ?_
    refine Ev.pos (by omega) (Ev.pos (by omega) ?_)
    rw [w64i i (by omega), Int.toNat_natCast, w64 (x := m + (i : Int) + 1) (by omega) (by omega), show m + (i : Int) + 1 = m + ((i + 1 : Nat) : Int) by omega]
    refine ih (i + 1) _ (by omega) (by simpa using hl) (fun j hj => ?_)
    rw [rd_set _ _ _ _ (by omega)]
    by_cases e : i = j
    · rw [if_pos e, e]
    · rw [if_neg e]; exact h j (by omega)
theorem markIntS_ev (x : List Int) (hx : x.length ≤ 35184372088832) (m : Int) (h0 : 0 ≤ m) (h1 : m ≤ 1000000000000000) : Ev (fun k => laws_markIntS.f k x m) (m + (x.length : Int), mkL (fun j => m + (j : Int)) x.length) := by
  unfold laws_markIntS.f
  have := markIntS_l x.length hx m h0 h1 x.length 0 x (by omega) rfl (fun j hj => by omega)
  simpa using this
theorem heldIntS_l (n : Nat) (hn : n ≤ 35184372088832) (m : Int) (h0 : 0 ≤ m) (h1 : m ≤ 1000000000000000) : ∀ (d i : Nat), i + d = n → Ev (fun k => laws_heldIntS.l0 k (mkL (fun j => m + (j : Int)) n) (m + (i : Int)) (i : Int)) (m + (n : Int)) := by
  intro d
  induction d with
  | zero =>
    intro i hd
    refine Ev.step (fun k => laws_heldIntS.l0.eq_2 ..) ?_
    refine Ev.neg (by rw [mkL_len]; omega) (Ev.one (congrArg some ?_))
    rw [show i = n by omega]
  | succ d ih =>
    intro i hd
    refine Ev.step (fun k => laws_heldIntS.l0.eq_2 ..) ?_
    rw [rd_mkL _ _ _ (by omega), w64i i (by omega), w64 (x := m + (i : Int) + 1) (by omega) (by omega), show m + (i : Int) + 1 = m + ((i + 1 : Nat) : Int) by omega]
    exact Ev.pos (by rw [mkL_len]; omega) (Ev.pos (by omega) (Ev.pos rfl (ih (i + 1) (by omega))))
theorem heldIntS_ev (n : Nat) (hn : n ≤ 35184372088832) (m : Int) (h0 : 0 ≤ m) (h1 : m ≤ 1000000000000000) : Ev (fun k => laws_heldIntS.f k (mkL (fun j => m + (j : Int)) n) m) (m + (n : Int)) := by
  unfold laws_heldIntS.f
  have := heldIntS_l n hn m h0 h1 n 0 (by omega)
  simpa using this
theorem index_l (x : List Int) (hx : x.length ≤ 35184372088832) (v : Int) : ∀ (d i : Nat), i + d = x.length → (∀ j : Nat, j < i → rd x (j : Int) ≠ v) → ∃ r, Ev (fun k => slices_Index_int_int.l0 k x v (x.length : Int) (i : Int)) r ∧ (r ≥ 0 ↔ ∃ j : Nat, j < x.length ∧ rd x (j : Int) = v) := by
  intro d
  induction d with
  | zero =>
    intro i hd h
    refine ⟨-1, ?_, ⟨fun q => absurd q (by decide), fun ⟨j, hj, e⟩ => absurd e (h j (by omega))⟩⟩
    refine Ev.step (fun k => slices_Index_int_int.l0.eq_2 ..) ?_
    exact Ev.neg (by omega) (Ev.one rfl)
  | succ d ih =>
    intro i hd h
    by_cases e : v = rd x (i : Int)
    · refine ⟨(i : Int), ?_, ⟨fun _ => ⟨i, by omega, e.symm⟩, fun _ => by omega⟩⟩
      refine Ev.step (fun k => slices_Index_int_int.l0.eq_2 ..) ?_
      exact Ev.pos (by omega) (Ev.pos (by omega) (Ev.pos (by omega) (Ev.pos e (Ev.one rfl))))
    · obtain ⟨r, hr, hr2⟩ := ih (i + 1) (by omega) (fun j hj => by
        by_cases q : j = i
        · rw [q]; exact fun z => e z.symm
        · exact h j (by omega))
      refine ⟨r, ?_, hr2⟩
      refine Ev.step (fun k => slices_Index_int_int.l0.eq_2 ..) ?_
      rw [w64i i (by omega)]
      exact Ev.pos (by omega) (Ev.pos (by omega) (Ev.pos (by omega) (Ev.neg e hr)))
theorem contains_ev (x : List Int) (hx : x.length ≤ 35184372088832) (v : Int) : ∃ b, Ev (fun k => slices_Contains_int_int.f k x v) b ∧ (b = true ↔ ∃ j : Nat, j < x.length ∧ rd x (j : Int) = v) := by
  obtain ⟨r, hr, hr2⟩ := index_l x hx v x.length 0 (by omega) (fun j hj => by omega)
  refine ⟨decide (r ≥ 0), ?_, by rw [decide_eq_true_iff]; exact hr2⟩
  unfold slices_Contains_int_int.f
  refine Ev.bind ?_ (Ev.now _)
  unfold slices_Index_int_int.f
  exact hr
theorem iOrd_l (many : Nat) (ord : List Int) (hl : ord.length ≤ 35184372088832) : ∀ d i : Nat, i + d = ord.length → (∀ i' : Nat, i' < i → 0 ≤ rd ord (i' : Int) ∧ rd ord (i' : Int) < many ∧ ∀ j : Nat, j < i' → rd ord (j : Int) ≠ rd ord (i' : Int)) →
    ∃ b, Ev (fun k => impl_orderOk.l0 k (many : Int) ord ord (ord.length : Int) (i : Int)) b ∧ (b = true ↔ OrdP many ord) := by
  intro d
  induction d with
  | zero =>
    intro i hd h
    refine ⟨((ord.length : Int) == (many : Int)), ?_, ?_⟩
    · refine Ev.step (fun k => impl_orderOk.l0.eq_2 ..) ?_
      exact Ev.neg (by omega) (Ev.one rfl)
    · rw [beq_iff_eq]
      exact ⟨fun q => ⟨by omega, fun i' hi' => h i' (by omega)⟩, fun q => by rw [q.1]⟩
  | succ d ih =>
    intro i hd h
    have step : ∀ {b : Bool}, Ev (fun k => if rd ord (i : Int) < 0 then some false else if rd ord (i : Int) ≥ (many : Int) then some false else if (i : Int) ≤ (ord.length : Int) then (slices_Contains_int_int.f k (ord.take ((i : Int)).toNat) (rd ord (i : Int))).bind fun t => if t = true then some false else impl_orderOk.l0 k (many : Int) ord ord (ord.length : Int) (wrap64 ((i : Int) + 1)) else none) b → Ev (fun k => impl_orderOk.l0 k (many : Int) ord ord (ord.length : Int) (i : Int)) b := by
      intro b hb
      refine Ev.step (fun k => impl_orderOk.l0.eq_2 ..) ?_
      exact Ev.pos (by omega) (Ev.pos (by omega) (Ev.pos (by omega) hb))
    by_cases c1 : rd ord (i : Int) < 0
    · exact ⟨false, step (Ev.pos c1 (Ev.one rfl)), ⟨(fun q => Bool.noConfusion q), fun q => by have := (q.2 i (by omega)).1; omega⟩⟩
    by_cases c2 : rd ord (i : Int) ≥ (many : Int)
    · exact ⟨false, step (Ev.neg c1 (Ev.pos c2 (Ev.one rfl))), ⟨(fun q => Bool.noConfusion q), fun q => by have := (q.2 i (by omega)).2.1; omega⟩⟩
    have htl : (ord.take i).length = i := by rw [List.length_take]; omega
    have htr : ∀ j : Nat, j < i → rd (ord.take i) (j : Int) = rd ord (j : Int) := by
      intro j hj
      rw [rd_at _ _ (by omega), rd_at _ _ (by omega)]; simp
    obtain ⟨b, hb, hb2⟩ := contains_ev (ord.take i) (by omega) (rd ord (i : Int))
    cases b with
    | true =>
      refine ⟨false, step (Ev.neg c1 (Ev.neg c2 (Ev.pos (by omega) (Ev.bind (by rw [Int.toNat_natCast]; exact hb) (Ev.pos rfl (Ev.one rfl)))))), ⟨(fun q => Bool.noConfusion q), fun q => ?_⟩⟩
      obtain ⟨j, hj, e⟩ := hb2.1 rfl
      rw [htr j (by omega)] at e
      exact absurd e ((q.2 i (by omega)).2.2 j (by omega))
    | false =>
      obtain ⟨r, hr, hr2⟩ := ih (i + 1) (by omega) (fun i' hi' => by
        by_cases e : i' = i
        · rw [e]
          refine ⟨by omega, by omega, fun j hj q => ?_⟩
          have := hb2.2 ⟨j, by omega, by rw [htr j hj]; exact q⟩
          cases this
        · exact h i' (by omega))
      refine ⟨r, step (Ev.neg c1 (Ev.neg c2 (Ev.pos (by omega) (Ev.bind (by rw [Int.toNat_natCast]; exact hb) (Ev.neg (by decide) ?_))))), hr2⟩
      rw [w64i i (by omega)]; exact hr
theorem iOrd_any (many : Nat) (ord : List Int) (hl : ord.length ≤ 35184372088832) : ∃ b, Ev (fun k => impl_orderOk.f k (many : Int) ord) b ∧ (b = true ↔ OrdP many ord) := by
  unfold impl_orderOk.f
  exact iOrd_l many ord hl ord.length 0 (by omega) (fun i' hi' => by omega)
theorem iOrd_yes {many : Nat} {ord : List Int} (hl : ord.length ≤ 35184372088832) (h : OrdP many ord) : Ev (fun k => impl_orderOk.f k (many : Int) ord) true := by
  obtain ⟨b, hb, hb2⟩ := iOrd_any many ord hl
  exact Ev.cast hb (hb2.2 h)
theorem iOrd_no {many : Nat} {ord : List Int} (hl : ord.length ≤ 35184372088832) (h : ¬ OrdP many ord) : Ev (fun k => impl_orderOk.f k (many : Int) ord) false := by
  obtain ⟨b, hb, hb2⟩ := iOrd_any many ord hl
  exact Ev.cast hb (by cases b with | false => rfl | true => exact absurd (hb2.1 rfl) h)
theorem sOrd_l (many : Nat) (h6 : many ≤ 6) (ord : List Int) (hl : ord.length ≤ 35184372088832) : ∀ (d i : Nat) (seen : Int), i + d = ord.length → (∀ i' : Nat, i' < i → 0 ≤ rd ord (i' : Int) ∧ rd ord (i' : Int) < many ∧ ∀ j : Nat, j < i' → rd ord (j : Int) ≠ rd ord (i' : Int)) →
    InS many seen → (∀ v : Nat, tb seen v = true ↔ ∃ j : Nat, j < i ∧ rd ord (j : Int) = (v : Int)) → ∃ b, Ev (fun k => spec_l1Order.l0 k (many : Int) ord seen (i : Int)) b ∧ (b = true ↔ OrdP many ord) := by
  intro d
  induction d with
  | zero =>
    intro i seen hd h hs hs2
    refine ⟨((ord.length : Int) == (many : Int)), ?_, ?_⟩
    · refine Ev.step (fun k => spec_l1Order.l0.eq_2 ..) ?_
      exact Ev.neg (by omega) (Ev.one rfl)
    · rw [beq_iff_eq]
      exact ⟨fun q => ⟨by omega, fun i' hi' => h i' (by omega)⟩, fun q => by rw [q.1]⟩
  | succ d ih =>
    intro i seen hd h hs hs2
    by_cases c1 : rd ord (i : Int) < 0
    · refine ⟨false, ?_, ⟨(fun q => Bool.noConfusion q), fun q => by have := (q.2 i (by omega)).1; omega⟩⟩
      refine Ev.step (fun k => spec_l1Order.l0.eq_2 ..) ?_
      exact Ev.pos (by omega) (Ev.pos (by omega) (Ev.pos c1 (Ev.one rfl)))
    by_cases c2 : rd ord (i : Int) ≥ (many : Int)
    · refine ⟨false, ?_, ⟨(fun q => Bool.noConfusion q), fun q => by have := (q.2 i (by omega)).2.1; omega⟩⟩
      refine Ev.step (fun k => spec_l1Order.l0.eq_2 ..) ?_
      exact Ev.pos (by omega) (Ev.pos (by omega) (Ev.neg c1 (Ev.pos c2 (Ev.one rfl))))
    obtain ⟨c, hc⟩ := Int.eq_ofNat_of_zero_le (show 0 ≤ rd ord (i : Int) by omega)
    rw [hc] at c1 c2
    cases q : tb seen c with
    | true =>
      refine ⟨false, ?_, ⟨(fun q => Bool.noConfusion q), fun z => ?_⟩⟩
      · refine Ev.step (fun k => spec_l1Order.l0.eq_2 ..) ?_
        rw [hc, stest _ c (by omega) hs.1]
        exact Ev.pos (by omega) (Ev.pos (by omega) (Ev.neg c1 (Ev.neg c2 (Ev.pos (by omega) (Ev.pos ((tb_iff _ _).1 q) (Ev.one rfl))))))
      · obtain ⟨j, hj, e⟩ := (hs2 c).1 q
        exact absurd (e.trans hc.symm) ((z.2 i (by omega)).2.2 j hj)
    | false =>
      have q1 := InS.one (n := many) (i := c) (by omega) (by omega)
      have o := InS.or (by omega) hs q1.1
      obtain ⟨r, hr, hr2⟩ := ih (i + 1) (Go.bits .or .i64 seen (shl .i64 1 (c : Int))) (by omega) (fun i' hi' => by
        by_cases e : i' = i
        · rw [e, hc]
          refine ⟨by omega, by omega, fun j hj z => ?_⟩
          rw [(hs2 c).2 ⟨j, hj, z⟩] at q; cases q
        · exact h i' (by omega)) o.1 (fun v => by
        rw [o.2, Bool.or_eq_true, hs2, q1.2, decide_eq_true_iff]
        constructor
        · rintro (⟨j, a, b⟩ | b)
          · exact ⟨j, by omega, b⟩
          · exact ⟨i, by omega, by rw [hc, b]⟩
        · rintro ⟨j, a, b⟩
          by_cases e : j = i
          · subst e; right; rw [hc] at b; omega
          · exact .inl ⟨j, by omega, b⟩)
      refine ⟨r, ?_, hr2⟩
      refine Ev.step (fun k => spec_l1Order.l0.eq_2 ..) ?_
      rw [hc, stest _ c (by omega) hs.1, w64i i (by omega)]
      exact Ev.pos (by omega) (Ev.pos (by omega) (Ev.neg c1 (Ev.neg c2 (Ev.pos (by omega) (Ev.neg (by rw [(tb_not _ _).1 q]; decide) hr)))))
theorem sOrd_any (many : Nat) (h6 : many ≤ 6) (ord : List Int) (hl : ord.length ≤ 35184372088832) : ∃ b, Ev (fun k => spec_l1Order.f k (many : Int) ord) b ∧ (b = true ↔ OrdP many ord) := by
  unfold spec_l1Order.f
  exact sOrd_l many h6 ord hl ord.length 0 0 (by omega) (fun i' hi' => by omega) (InS.zero _) (fun v => by rw [tb_zero]; exact ⟨(fun q => Bool.noConfusion q), fun ⟨j, a, _⟩ => by omega⟩)
theorem sOrd_yes {many : Nat} (h6 : many ≤ 6) {ord : List Int} (hl : ord.length ≤ 35184372088832) (h : OrdP many ord) : Ev (fun k => spec_l1Order.f k (many : Int) ord) true := by
  obtain ⟨b, hb, hb2⟩ := sOrd_any many h6 ord hl
  exact Ev.cast hb (hb2.2 h)
theorem sOrd_no {many : Nat} (h6 : many ≤ 6) {ord : List Int} (hl : ord.length ≤ 35184372088832) (h : ¬ OrdP many ord) : Ev (fun k => spec_l1Order.f k (many : Int) ord) false := by
  obtain ⟨b, hb, hb2⟩ := sOrd_any many h6 ord hl
  exact Ev.cast hb (by cases b with | false => rfl | true => exact absurd (hb2.1 rfl) h)
theorem iNamS_l {st ord : List Int} (h6 : st.length ≤ 6) (h : OrdP st.length ord) : ∀ (d i : Nat), i + d = st.length → Ev (fun k => impl_NamedState.l0 k ord (nmState st ord i) st (st.length : Int) (i : Int)) (nmS st ord, true) := by
  have hol := h.1
  intro d
  induction d with
  | zero =>
    intro i hd
    refine Ev.step (fun k => impl_NamedState.l0.eq_2 ..) ?_
    exact Ev.neg (by omega) (Ev.one (by rw [nmS, show i = st.length by omega]))
  | succ d ih =>
    intro i hd
    obtain ⟨c, hc, hc2⟩ := h.at (i := i) (by omega)
    refine Ev.step (fun k => impl_NamedState.l0.eq_2 ..) ?_
    rw [w64i i (by omega)]
    exact Ev.pos (by omega) (Ev.pos (by omega) (Ev.pos (by omega) (Ev.pos (by omega) (Ev.pos (by omega) (Ev.pos (by rw [nmState_len]; omega) (ih (i + 1) (by omega)))))))
theorem iNamS_yes {kinds : Int} {st ord : List Int} (hs : StP kinds st) (h : OrdP st.length ord) : Ev (fun k => impl_NamedState.f k kinds st ord) (nmS st ord, true) := by
  have h6 := hs.2.2.2.1
  unfold impl_NamedState.f
  refine Ev.bind (iStOk_yes hs) (Ev.pos rfl (Ev.bind (iOrd_yes (by rw [h.1]; omega) h) ?_))
  refine Ev.step (fun k => impl_NamedState.j0.eq_2 ..) ?_
  refine Ev.neg (by decide) (Ev.pos (by omega) (Ev.pos (by omega) ?_))
  rw [Int.toNat_natCast]
  exact iNamS_l h6 h st.length 0 (by omega)
theorem iNamS_no {kinds : Int} {st ord : List Int} (hl : st.length ≤ 35184372088832) (hl2 : ord.length ≤ 35184372088832) (h : ¬ (StP kinds st ∧ OrdP st.length ord)) : Ev (fun k => impl_NamedState.f k kinds st ord) ([], false) := by
  have hj : ∀ p : Bool, p = true → Ev (fun k => impl_NamedState.j0 k st ord p) ([], false) := by
    intro p hp
    refine Ev.step (fun k => impl_NamedState.j0.eq_2 ..) ?_
    exact Ev.pos hp (Ev.one rfl)
  unfold impl_NamedState.f
  by_cases hs : StP kinds st
  · exact Ev.bind (iStOk_yes hs) (Ev.pos rfl (Ev.bind (iOrd_no hl2 (fun q => h ⟨hs, q⟩)) (hj _ rfl)))
  · exact Ev.bind (iStOk_no hl hs) (Ev.neg (by decide) (hj _ rfl))
theorem sNamS_l {st ord : List Int} (h6 : st.length ≤ 6) (h : OrdP st.length ord) : ∀ (d i : Nat), i + d = st.length → Ev (fun k => spec_NamedState.l0 k st ord (nmState st ord i) (i : Int)) (nmS st ord, true) := by
  have hol := h.1
  intro d
  induction d with
  | zero =>
    intro i hd
    refine Ev.step (fun k => spec_NamedState.l0.eq_2 ..) ?_
    exact Ev.neg (by omega) (Ev.one (by rw [nmS, show i = st.length by omega]))
  | succ d ih =>
    intro i hd
    obtain ⟨c, hc, hc2⟩ := h.at (i := i) (by omega)
    refine Ev.step (fun k => spec_NamedState.l0.eq_2 ..) ?_
    rw [w64i i (by omega)]
    exact Ev.pos (by omega) (Ev.pos (by omega) (Ev.pos (by omega) (Ev.pos (by omega) (Ev.pos (by rw [nmState_len]; omega) (ih (i + 1) (by omega))))))
theorem sNamS_yes {kinds : Int} {st ord : List Int} (hs : StP kinds st) (h : OrdP st.length ord) : Ev (fun k => spec_NamedState.f k kinds st ord) (nmS st ord, true) := by
  have h6 := hs.2.2.2.1
  unfold spec_NamedState.f
  refine Ev.bind (sStOk_yes hs) (Ev.pos rfl (Ev.bind (sOrd_yes h6 (by rw [h.1]; omega) h) ?_))
  refine Ev.step (fun k => spec_NamedState.j0.eq_2 ..) ?_
  refine Ev.neg (by decide) (Ev.pos (by omega) (Ev.pos (by omega) ?_))
  rw [Int.toNat_natCast]
  exact sNamS_l h6 h st.length 0 (by omega)
theorem sNamS_no {kinds : Int} {st ord : List Int} (hl : st.length ≤ 35184372088832) (hl2 : ord.length ≤ 35184372088832) (h : ¬ (StP kinds st ∧ OrdP st.length ord)) : Ev (fun k => spec_NamedState.f k kinds st ord) ([], false) := by
  have hj : ∀ p : Bool, p = true → Ev (fun k => spec_NamedState.j0 k st ord p) ([], false) := by
    intro p hp
    refine Ev.step (fun k => spec_NamedState.j0.eq_2 ..) ?_
    exact Ev.pos hp (Ev.one rfl)
  unfold spec_NamedState.f
  by_cases hs : StP kinds st
  · exact Ev.bind (sStOk_yes hs) (Ev.pos rfl (Ev.bind (sOrd_no hs.2.2.2.1 hl2 (fun q => h ⟨hs, q⟩)) (hj _ rfl)))
  · exact Ev.bind (sStOk_no hl hs) (Ev.neg (by decide) (hj _ rfl))
end Go.Proofs.Ytjofekchopgfbaa.CFnExactNamedState
