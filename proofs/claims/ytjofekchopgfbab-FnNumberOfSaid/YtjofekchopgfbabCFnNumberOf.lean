/- What each function that the law FnNumberOf calls comes to. -/
import Derived.Test.YtjofekchopgfbabPFnNumberOfx3
import Derived.Test.YtjofekchopgfbabMath
namespace Go.Proofs.Ytjofekchopgfbab.CFnNumberOf
open Go Go.RowKit Go.Proofs.Ytjofekchopgfbab.PFnNumberOf Go.Proofs.YtjofekchopgfbabW.PrintWords Go.Proofs.YtjofekchopgfbabW.PrintLast Go.Proofs.Ytjofekchopgfbab.Pl

theorem sameInts_l (x y : List Int) (hl : x.length = y.length) (hx : x.length ≤ 35184372088832) : ∀ (d i : Nat), i + d = x.length → (∀ j : Nat, j < i → rd x (j : Int) = rd y (j : Int)) → Ev (fun k => laws_sameInts.l0 k x y (i : Int)) (decide (x = y)) := by
  intro d
  induction d with
  | zero =>
    intro i hd h
    refine Ev.step (fun k => laws_sameInts.l0.eq_2 ..) ?_
    exact Ev.neg (by omega) (Ev.one (congrArg some (decide_eq_true (rd_ext hl fun j hj => h j (by omega))).symm))
  | succ d ih =>
    intro i hd h
    refine Ev.step (fun k => laws_sameInts.l0.eq_2 ..) ?_
    refine Ev.pos (by omega) (Ev.pos (by omega) (Ev.pos (by omega) ?_))
    by_cases e : rd x (i : Int) = rd y (i : Int)
    · refine Ev.pos e ?_
      rw [w64i i (by omega)]
      refine ih (i + 1) (by omega) (fun j hj => ?_)
      by_cases e2 : j = i
      · rw [e2]; exact e
      · exact h j (by omega)
    · exact Ev.neg e (Ev.one (congrArg some (decide_eq_false (fun q => e (by rw [q]))).symm))
theorem sameInts_ev (x y : List Int) (hx : x.length ≤ 35184372088832) : Ev (fun k => laws_sameInts.f k x y) (decide (x = y)) := by
  unfold laws_sameInts.f
  by_cases hl : x.length = y.length
  · refine Ev.pos (by omega) ?_
    exact sameInts_l x y hl hx x.length 0 (by omega) (fun j hj => by omega)
  · exact Ev.neg (by omega) (Ev.one (congrArg some (decide_eq_false (fun q => hl (by rw [q]))).symm))
theorem l1In_ev (a b c : Int) : Ev (fun _ => spec_l1In.f a b c) (decide (b ≤ a ∧ a ≤ c)) := by
  refine Ev.one ?_
  unfold spec_l1In.f
  by_cases h : a ≥ b
  · rw [if_pos h]; simp [show b ≤ a from h]
  · rw [if_neg h]; simp [show ¬ b ≤ a from h]
theorem iNetOk_l1 (net : List Int) (hn : net.length ≤ 6) (i : Nat) (hi : i < net.length) (c : Bool) (hc : Ev (fun k => impl_NetOk.l0 k net net (net.length : Int) ((i + 1 : Nat) : Int)) c) :
    ∀ d j : Nat, j + d = net.length → ∃ b, Ev (fun k => impl_NetOk.l1 k net (i : Int) (rd net (i : Int)) net (net.length : Int) (i : Int) (net.length : Int) (j : Int)) b ∧
      (b = true ↔ (∀ j' : Nat, j ≤ j' → j' < net.length → rd net (i : Int) / 2 ^ j' % 2 = rd net (j' : Int) / 2 ^ i % 2) ∧ c = true) := by
  intro d
  induction d with
  | zero =>
    intro j hd
    refine ⟨c, ?_, ?_⟩
    · refine Ev.step (fun k => impl_NetOk.l1.eq_2 ..) ?_
      refine Ev.neg (by omega) ?_
      rw [w64i i (by omega)]; exact hc
    · constructor
      · intro h; exact ⟨fun j' h1 h2 => by omega, h⟩
      · exact fun h => h.2
  | succ d ih =>
    intro j hd
    obtain ⟨b, hb, hb2⟩ := ih (j + 1) (by omega)
    by_cases e : rd net (i : Int) / 2 ^ j % 2 = rd net (j : Int) / 2 ^ i % 2
    · refine ⟨b, ?_, hb2.trans ⟨fun h => ⟨fun j' h1 h2 => ?_, h.2⟩, fun h => ⟨fun j' h1 h2 => h.1 j' (by omega) h2, h.2⟩⟩⟩
      · refine Ev.step (fun k => impl_NetOk.l1.eq_2 ..) ?_
        rw [itest _ j (by omega), itest _ i (by omega)]
        refine Ev.pos (by omega) (Ev.pos (by omega) (Ev.pos (by omega) (Ev.pos (by omega) (Ev.pos e ?_))))
        rw [w64i j (by omega)]; exact hb
      · by_cases q : j' = j
        · rw [q]; exact e
        · exact h.1 j' (by omega) h2
    · refine ⟨false, ?_, ⟨(fun h => Bool.noConfusion h), fun h => absurd (h.1 j (by omega) (by omega)) e⟩⟩
      refine Ev.step (fun k => impl_NetOk.l1.eq_2 ..) ?_
      rw [itest _ j (by omega), itest _ i (by omega)]
      exact Ev.pos (by omega) (Ev.pos (by omega) (Ev.pos (by omega) (Ev.pos (by omega) (Ev.neg e (Ev.one rfl)))))
theorem iNetOk_l0 (net : List Int) (hn : net.length ≤ 6) : ∀ d i : Nat, i + d = net.length → ∃ b, Ev (fun k => impl_NetOk.l0 k net net (net.length : Int) (i : Int)) b ∧ (b = true ↔ ∀ i' : Nat, i ≤ i' → i' < net.length → RowP net i') := by
  intro d
  induction d with
  | zero =>
    intro i hd
    refine ⟨true, ?_, ⟨fun _ i' h1 h2 => by omega, fun _ => rfl⟩⟩
    refine Ev.step (fun k => impl_NetOk.l0.eq_2 ..) ?_
    exact Ev.neg (by omega) (Ev.one rfl)
  | succ d ih =>
    intro i hd
    obtain ⟨c, hc, hc2⟩ := ih (i + 1) (by omega)
    obtain ⟨b, hb, hb2⟩ := iNetOk_l1 net hn i (by omega) c hc net.length 0 (by omega)
    have hbad : ∀ p : Bool, p = true → Ev (fun k => impl_NetOk.j2 k net (i : Int) (rd net (i : Int)) net (net.length : Int) (i : Int) p) false := by
      intro p hp
      refine Ev.step (fun k => impl_NetOk.j2.eq_2 ..) ?_
      exact Ev.pos hp (Ev.one rfl)
    have hgood : ∀ p : Bool, p = false → Ev (fun k => impl_NetOk.j2 k net (i : Int) (rd net (i : Int)) net (net.length : Int) (i : Int) p) b := by
      intro p hp
      refine Ev.step (fun k => impl_NetOk.j2.eq_2 ..) ?_
      exact Ev.neg (by simp [hp]) hb
    have hpow : shl .i64 1 (net.length : Int) = ((2 ^ net.length : Nat) : Int) := shl_one _ (by omega)
    by_cases h0 : rd net (i : Int) < 0
    · refine ⟨false, ?_, ⟨(fun h => Bool.noConfusion h), fun h => absurd (h i (by omega) (by omega)).1.1 (by omega)⟩⟩
      refine Ev.step (fun k => impl_NetOk.l0.eq_2 ..) ?_
      exact Ev.pos (by omega) (Ev.pos (by omega) (Ev.pos (by omega) (Ev.pos h0 (hbad true rfl))))
    · by_cases h1 : rd net (i : Int) ≥ ((2 ^ net.length : Nat) : Int)
      · refine ⟨false, ?_, ⟨(fun h => Bool.noConfusion h), fun h => absurd (h i (by omega) (by omega)).1.2 (by push_cast at h1; omega)⟩⟩
        refine Ev.step (fun k => impl_NetOk.l0.eq_2 ..) ?_
        rw [hpow]
        exact Ev.pos (by omega) (Ev.pos (by omega) (Ev.pos (by omega) (Ev.neg h0 (Ev.pos h1 (hbad true rfl)))))
      · by_cases h2 : rd net (i : Int) / 2 ^ i % 2 = 1
        · refine ⟨false, ?_, ⟨(fun h => Bool.noConfusion h), fun h => absurd (h i (by omega) (by omega)).2.1 (by omega)⟩⟩
          refine Ev.step (fun k => impl_NetOk.l0.eq_2 ..) ?_
          rw [hpow, itest _ i (by omega)]
          exact Ev.pos (by omega) (Ev.pos (by omega) (Ev.pos (by omega) (Ev.neg h0 (Ev.neg h1 (hbad _ (by rw [h2]; rfl))))))
        · refine ⟨b, ?_, ?_⟩
          · refine Ev.step (fun k => impl_NetOk.l0.eq_2 ..) ?_
            rw [hpow, itest _ i (by omega)]
            exact Ev.pos (by omega) (Ev.pos (by omega) (Ev.pos (by omega) (Ev.neg h0 (Ev.neg h1 (hgood _ (by simpa using h2))))))
          · rw [hb2, hc2]
            constructor
            · rintro ⟨g1, g2⟩ i' q1 q2
              by_cases q : i' = i
              · subst q
                exact ⟨⟨by omega, by push_cast at h1; omega⟩, by omega, fun j hj => g1 j (by omega) hj⟩
              · exact g2 i' (by omega) q2
            · intro g
              exact ⟨fun j' _ q2 => (g i (by omega) (by omega)).2.2 j' q2, fun i' q1 q2 => g i' (by omega) q2⟩
theorem iNetOk_any (net : List Int) : ∃ b, Ev (fun k => impl_NetOk.f k net) b ∧ (b = true ↔ NetP net) := by
  have hj : ∀ p : Bool, p = true → Ev (fun k => impl_NetOk.j0 k net p) false := by
    intro p hp
    refine Ev.step (fun k => impl_NetOk.j0.eq_2 ..) ?_
    exact Ev.pos hp (Ev.one rfl)
  by_cases h1 : net.length < 1
  · refine ⟨false, ?_, ⟨(fun h => Bool.noConfusion h), fun h => absurd h.1 (by omega)⟩⟩
    unfold impl_NetOk.f
    exact Ev.pos (by omega) (hj true rfl)
  · by_cases h2 : net.length > 6
    · refine ⟨false, ?_, ⟨(fun h => Bool.noConfusion h), fun h => absurd h.2.1 (by omega)⟩⟩
      unfold impl_NetOk.f
      exact Ev.neg (by omega) (hj _ (by simp; omega))
    · obtain ⟨b, hb, hb2⟩ := iNetOk_l0 net (by omega) net.length 0 (by omega)
      refine ⟨b, ?_, hb2.trans ⟨fun h => ⟨by omega, by omega, fun i hi => h i (by omega) hi⟩, fun h i _ hi => h.2.2 i hi⟩⟩
      unfold impl_NetOk.f
      refine Ev.neg (by omega) ?_
      refine Ev.step (fun k => impl_NetOk.j0.eq_2 ..) ?_
      exact Ev.neg (by simp; omega) hb
theorem iNetOk_yes {net : List Int} (h : NetP net) : Ev (fun k => impl_NetOk.f k net) true := by
  obtain ⟨b, hb, hb2⟩ := iNetOk_any net
  exact Ev.cast hb (hb2.2 h)
theorem iNetOk_no {net : List Int} (h : ¬ NetP net) : Ev (fun k => impl_NetOk.f k net) false := by
  obtain ⟨b, hb, hb2⟩ := iNetOk_any net
  exact Ev.cast hb (by cases b with | false => rfl | true => exact absurd (hb2.1 rfl) h)
theorem pow_less {n : Nat} (h6 : n ≤ 6) : wrap64 (shl .i64 1 (n : Int) - 1) = ((2 ^ n : Nat) : Int) - 1 := by
  have : (2 : Nat) ^ n ≤ 2 ^ 6 := Nat.pow_le_pow_right (by omega) h6
  have : (0 : Nat) < 2 ^ n := Nat.two_pow_pos _
  rw [shl_one _ (by omega), w64 (by omega) (by omega)]
theorem inSet_yes {n : Nat} (h6 : n ≤ 6) {set : Int} (hs : InS n set) : Ev (fun _ => spec_l1In.f set 0 (wrap64 (shl .i64 1 (n : Int) - 1))) true := by
  rw [pow_less h6]
  exact Ev.cast (l1In_ev _ _ _) (decide_eq_true ⟨hs.1, by have := hs.2; push_cast; omega⟩)
theorem inSet_no {n : Nat} (h6 : n ≤ 6) {set : Int} (hs : ¬ InS n set) : Ev (fun _ => spec_l1In.f set 0 (wrap64 (shl .i64 1 (n : Int) - 1))) false := by
  rw [pow_less h6]
  exact Ev.cast (l1In_ev _ _ _) (decide_eq_false fun q => hs ⟨q.1, by have := q.2; push_cast at this; omega⟩)
theorem iStOk_l (kinds : Int) (st : List Int) (hl : st.length ≤ 35184372088832) : ∀ d i : Nat, i + d = st.length → (∀ i' : Nat, i' < i → 0 ≤ rd st (i' : Int) ∧ rd st (i' : Int) < kinds) → ∃ b, Ev (fun k => impl_StateOk.l0 k kinds st st (st.length : Int) (i : Int)) b ∧ (b = true ↔ StP kinds st) := by
  intro d
  induction d with
  | zero =>
    intro i hd h
    have hall : ∀ i' : Nat, i' < st.length → 0 ≤ rd st (i' : Int) ∧ rd st (i' : Int) < kinds := fun i' hi' => h i' (by omega)
    by_cases c1 : kinds ≥ 3
    · by_cases c2 : kinds ≤ 5
      · by_cases c3 : (st.length : Int) ≥ 1
        · refine ⟨decide ((st.length : Int) ≤ 6), ?_, ?_⟩
          · refine Ev.step (fun k => impl_StateOk.l0.eq_2 ..) ?_
            exact Ev.neg (by omega) (Ev.pos c1 (Ev.pos c2 (Ev.pos c3 (Ev.one rfl))))
          · rw [decide_eq_true_iff]
            exact ⟨fun q => ⟨c1, c2, by omega, by omega, hall⟩, fun q => by have := q.2.2.2.1; omega⟩
        · refine ⟨false, ?_, ⟨(fun q => Bool.noConfusion q), fun q => by have := q.2.2.1; omega⟩⟩
          refine Ev.step (fun k => impl_StateOk.l0.eq_2 ..) ?_
          exact Ev.neg (by omega) (Ev.pos c1 (Ev.pos c2 (Ev.neg c3 (Ev.one rfl))))
      · refine ⟨false, ?_, ⟨(fun q => Bool.noConfusion q), fun q => by have := q.2.1; omega⟩⟩
        refine Ev.step (fun k => impl_StateOk.l0.eq_2 ..) ?_
        exact Ev.neg (by omega) (Ev.pos c1 (Ev.neg c2 (Ev.one rfl)))
    · refine ⟨false, ?_, ⟨(fun q => Bool.noConfusion q), fun q => by have := q.1; omega⟩⟩
      refine Ev.step (fun k => impl_StateOk.l0.eq_2 ..) ?_
      exact Ev.neg (by omega) (Ev.neg c1 (Ev.one rfl))
  | succ d ih =>
    intro i hd h
    by_cases c1 : rd st (i : Int) < 0
    · refine ⟨false, ?_, ⟨(fun q => Bool.noConfusion q), fun q => by have := (q.2.2.2.2 i (by omega)).1; omega⟩⟩
      refine Ev.step (fun k => impl_StateOk.l0.eq_2 ..) ?_
      exact Ev.pos (by omega) (Ev.pos (by omega) (Ev.pos (by omega) (Ev.pos c1 (Ev.one rfl))))
    · by_cases c2 : rd st (i : Int) ≥ kinds
      · refine ⟨false, ?_, ⟨(fun q => Bool.noConfusion q), fun q => by have := (q.2.2.2.2 i (by omega)).2; omega⟩⟩
        refine Ev.step (fun k => impl_StateOk.l0.eq_2 ..) ?_
        exact Ev.pos (by omega) (Ev.pos (by omega) (Ev.pos (by omega) (Ev.neg c1 (Ev.pos c2 (Ev.one rfl)))))
      · obtain ⟨b, hb, hb2⟩ := ih (i + 1) (by omega) (fun i' hi' => by
          by_cases e : i' = i
          · rw [e]; omega
          · exact h i' (by omega))
        refine ⟨b, ?_, hb2⟩
        refine Ev.step (fun k => impl_StateOk.l0.eq_2 ..) ?_
        rw [w64i i (by omega)]
        exact Ev.pos (by omega) (Ev.pos (by omega) (Ev.pos (by omega) (Ev.neg c1 (Ev.neg c2 hb))))
theorem iStOk_any (kinds : Int) (st : List Int) (hl : st.length ≤ 35184372088832) : ∃ b, Ev (fun k => impl_StateOk.f k kinds st) b ∧ (b = true ↔ StP kinds st) := by
  unfold impl_StateOk.f
  exact iStOk_l kinds st hl st.length 0 (by omega) (fun i' hi' => by omega)
theorem iStOk_yes {kinds : Int} {st : List Int} (h : StP kinds st) : Ev (fun k => impl_StateOk.f k kinds st) true := by
  obtain ⟨b, hb, hb2⟩ := iStOk_any kinds st (by have := h.2.2.2.1; omega)
  exact Ev.cast hb (hb2.2 h)
theorem iStOk_no {kinds : Int} {st : List Int} (hl : st.length ≤ 35184372088832) (h : ¬ StP kinds st) : Ev (fun k => impl_StateOk.f k kinds st) false := by
  obtain ⟨b, hb, hb2⟩ := iStOk_any kinds st hl
  exact Ev.cast hb (by cases b with | false => rfl | true => exact absurd (hb2.1 rfl) h)
theorem sStOk_l (kinds : Int) (st : List Int) (hl : st.length ≤ 35184372088832) : ∀ d i : Nat, i + d = st.length → (∀ i' : Nat, i' < i → 0 ≤ rd st (i' : Int) ∧ rd st (i' : Int) < kinds) → ∃ b, Ev (fun k => spec_StateOk.l0 k kinds st (i : Int)) b ∧ (b = true ↔ StP kinds st) := by
  intro d
  induction d with
  | zero =>
    intro i hd h
    have hall : ∀ i' : Nat, i' < st.length → 0 ≤ rd st (i' : Int) ∧ rd st (i' : Int) < kinds := fun i' hi' => h i' (by omega)
    by_cases c1 : 3 ≤ kinds ∧ kinds ≤ 5
    · refine ⟨decide ((1 : Int) ≤ (st.length : Int) ∧ (st.length : Int) ≤ 6), ?_, ?_⟩
      · refine Ev.step (fun k => spec_StateOk.l0.eq_2 ..) ?_
        exact Ev.neg (by omega) (Ev.bind (l1In_ev _ _ _) (Ev.pos (decide_eq_true c1) (Ev.bind (l1In_ev _ _ _) (Ev.now _))))
      · rw [decide_eq_true_iff]
        exact ⟨fun q => ⟨c1.1, c1.2, by omega, by omega, hall⟩, fun q => ⟨by have := q.2.2.1; omega, by have := q.2.2.2.1; omega⟩⟩
    · refine ⟨false, ?_, ⟨(fun q => Bool.noConfusion q), fun q => absurd ⟨q.1, q.2.1⟩ c1⟩⟩
      refine Ev.step (fun k => spec_StateOk.l0.eq_2 ..) ?_
      exact Ev.neg (by omega) (Ev.bind (l1In_ev _ _ _) (Ev.neg (by rw [decide_eq_false c1]; decide) (Ev.one rfl)))
  | succ d ih =>
    intro i hd h
    by_cases c1 : rd st (i : Int) < 0
    · refine ⟨false, ?_, ⟨(fun q => Bool.noConfusion q), fun q => by have := (q.2.2.2.2 i (by omega)).1; omega⟩⟩
      refine Ev.step (fun k => spec_StateOk.l0.eq_2 ..) ?_
      exact Ev.pos (by omega) (Ev.pos (by omega) (Ev.pos c1 (Ev.one rfl)))
    · by_cases c2 : rd st (i : Int) ≥ kinds
      · refine ⟨false, ?_, ⟨(fun q => Bool.noConfusion q), fun q => by have := (q.2.2.2.2 i (by omega)).2; omega⟩⟩
        refine Ev.step (fun k => spec_StateOk.l0.eq_2 ..) ?_
        exact Ev.pos (by omega) (Ev.pos (by omega) (Ev.neg c1 (Ev.pos c2 (Ev.one rfl))))
      · obtain ⟨b, hb, hb2⟩ := ih (i + 1) (by omega) (fun i' hi' => by
          by_cases e : i' = i
          · rw [e]; omega
          · exact h i' (by omega))
        refine ⟨b, ?_, hb2⟩
        refine Ev.step (fun k => spec_StateOk.l0.eq_2 ..) ?_
        rw [w64i i (by omega)]
        exact Ev.pos (by omega) (Ev.pos (by omega) (Ev.neg c1 (Ev.neg c2 hb)))
theorem sStOk_any (kinds : Int) (st : List Int) (hl : st.length ≤ 35184372088832) : ∃ b, Ev (fun k => spec_StateOk.f k kinds st) b ∧ (b = true ↔ StP kinds st) := by
  unfold spec_StateOk.f
  exact sStOk_l kinds st hl st.length 0 (by omega) (fun i' hi' => by omega)
theorem sStOk_yes {kinds : Int} {st : List Int} (h : StP kinds st) : Ev (fun k => spec_StateOk.f k kinds st) true := by
  obtain ⟨b, hb, hb2⟩ := sStOk_any kinds st (by have := h.2.2.2.1; omega)
  exact Ev.cast hb (hb2.2 h)
theorem sStOk_no {kinds : Int} {st : List Int} (hl : st.length ≤ 35184372088832) (h : ¬ StP kinds st) : Ev (fun k => spec_StateOk.f k kinds st) false := by
  obtain ⟨b, hb, hb2⟩ := sStOk_any kinds st hl
  exact Ev.cast hb (by cases b with | false => rfl | true => exact absurd (hb2.1 rfl) h)
theorem pick_ev {b : List Int} (hb : Byt b) {p : Nat} (hp : p ≤ 100000) (n : Int) : ∃ v, Ev (fun k => spec_l20Rd_pick.f k b (p : Int) n) (v, ((p + 1 : Nat) : Int)) ∧ 0 ≤ v ∧ (1 ≤ n → v < n) := by
  have hw1 : wrap64 (((p + 1 : Nat) : Int) - 1) = (p : Int) := by rw [w64 (by omega) (by omega)]; omega
  have hl := hb.1
  by_cases h1 : n < 1
  · refine ⟨0, ?_, by omega, fun _ => by omega⟩
    unfold spec_l20Rd_pick.f
    rw [w64i p (by omega)]
    refine Ev.pos h1 ?_
    refine Ev.step (fun k => spec_l20Rd_pick.j0.eq_2 ..) ?_
    exact Ev.pos rfl (Ev.one rfl)
  · by_cases h0 : b.length = 0
    · refine ⟨0, ?_, by omega, fun _ => by omega⟩
      unfold spec_l20Rd_pick.f
      rw [w64i p (by omega)]
      refine Ev.neg h1 ?_
      refine Ev.step (fun k => spec_l20Rd_pick.j0.eq_2 ..) ?_
      exact Ev.pos (by simp [h0]) (Ev.one rfl)
    · have hz : ¬ (((b.length : Int) == 0) = true) := by rw [beq_iff_eq]; omega
      by_cases hlt : (p : Int) < (b.length : Int)
      · have hr := byt_rd hb (p : Int)
        refine ⟨Int.tmod (rd b (p : Int)) n, ?_, Int.tmod_nonneg _ hr.1, fun h => Int.tmod_lt_of_pos _ (by omega)⟩
        unfold spec_l20Rd_pick.f
        rw [w64i p (by omega)]
        refine Ev.neg h1 ?_
        refine Ev.step (fun k => spec_l20Rd_pick.j0.eq_2 ..) ?_
        rw [hw1]
        refine Ev.neg hz (Ev.pos hlt (Ev.pos (by omega) (Ev.neg (by omega) (Ev.one ?_))))
        rw [w64 (x := rd b (p : Int)) (by omega) (by omega)]
      · have hw2 : wrap64 (wrap64 ((p : Int) * 7) + 3) = (p : Int) * 7 + 3 := by simp (disch := omega) only [w64]
        have t1 : 0 ≤ Int.tmod (p : Int) (b.length : Int) := Int.tmod_nonneg _ (by omega)
        have t2 : Int.tmod (p : Int) (b.length : Int) < (b.length : Int) := Int.tmod_lt_of_pos _ (by omega)
        have t3 : 0 ≤ Int.tmod ((p : Int) * 7 + 3) (b.length : Int) := Int.tmod_nonneg _ (by omega)
        have t4 : Int.tmod ((p : Int) * 7 + 3) (b.length : Int) < (b.length : Int) := Int.tmod_lt_of_pos _ (by omega)
        have d1 : 0 ≤ Int.tdiv (p : Int) (b.length : Int) := Int.tdiv_nonneg (by omega) (by omega)
        have d2 : Int.tdiv (p : Int) (b.length : Int) ≤ (p : Int) := by
          rw [Int.tdiv_eq_ediv_of_nonneg (by omega)]; exact Int.ediv_le_self _ (by omega)
        refine ⟨_, ?_, mix_mod n (byt_rd hb (Int.tmod (p : Int) (b.length : Int))) (byt_rd hb (Int.tmod ((p : Int) * 7 + 3) (b.length : Int))) (p := (p : Int)) ⟨by omega, by omega⟩ (t := Int.tdiv (p : Int) (b.length : Int)) ⟨d1, by omega⟩, fun h => Int.tmod_lt_of_pos _ (by omega)⟩
        unfold spec_l20Rd_pick.f
        rw [w64i p (by omega)]
        refine Ev.neg h1 ?_
        refine Ev.step (fun k => spec_l20Rd_pick.j0.eq_2 ..) ?_
        rw [hw1, hw2]
        exact Ev.neg hz (Ev.neg hlt (Ev.neg (by omega) (Ev.pos t1 (Ev.pos t2 (Ev.pos t3 (Ev.pos t4 (Ev.neg (by omega) (Ev.one rfl))))))))
theorem odd_ev {b : List Int} (hb : Byt b) {p : Nat} (hp : p ≤ 100000) (n : Int) : ∃ (v : Bool) (p' : Nat), Ev (fun k => spec_l20Rd_odd.f k b (p : Int) n) (v, (p' : Int)) ∧ p' ≤ p + 1 := by
  unfold spec_l20Rd_odd.f
  by_cases h : n > 0
  · obtain ⟨v, hv, _⟩ := pick_ev hb hp n
    exact ⟨_, p + 1, Ev.pos h (Ev.bind hv (Ev.now _)), Nat.le_refl _⟩
  · exact ⟨false, p, Ev.neg h (Ev.one rfl), by omega⟩
theorem iNum_l {kinds : Int} {st : List Int} (h : StP kinds st) : ∀ i : Nat, i ≤ st.length → Ev (fun k => impl_NumberOf.l0 k kinds st (numL kinds (st.drop i)) ((i : Int) - 1)) (numL kinds st) := by
  intro i
  induction i with
  | zero =>
    intro _
    refine Ev.step (fun k => impl_NumberOf.l0.eq_2 ..) ?_
    exact Ev.neg (by omega) (Ev.one rfl)
  | succ i ih =>
    intro hi
    have hb := numL_drop h i hi
    refine Ev.step (fun k => impl_NumberOf.l0.eq_2 ..) ?_
    rw [show ((i + 1 : Nat) : Int) - 1 = (i : Int) by omega, hb.2.2.1, hb.2.2.2, w64 (x := (i : Int) - 1) (by have := h.2.2.2.1; omega) (by have := h.2.2.2.1; omega)]
    exact Ev.pos (by omega) (Ev.pos (by omega) (Ev.pos (by omega) (ih (by omega))))
theorem iNum_yes {kinds : Int} {st : List Int} (h : StP kinds st) : Ev (fun k => impl_NumberOf.f k kinds st) (numL kinds st) := by
  have h6 := h.2.2.2.1
  unfold impl_NumberOf.f
  refine Ev.bind (iStOk_yes h) (Ev.pos rfl ?_)
  rw [w64 (x := (st.length : Int) - 1) (by omega) (by omega)]
  have := iNum_l h st.length (Nat.le_refl _)
  rw [List.drop_length] at this
  exact this
theorem iNum_no {kinds : Int} {st : List Int} (hl : st.length ≤ 35184372088832) (h : ¬ StP kinds st) : Ev (fun k => impl_NumberOf.f k kinds st) (-1) := by
  unfold impl_NumberOf.f
  exact Ev.bind (iStOk_no hl h) (Ev.neg (by decide) (Ev.one rfl))
theorem sNum_l {kinds : Int} {st : List Int} (h : StP kinds st) : ∀ i : Nat, i ≤ st.length → Ev (fun k => spec_NumberOf.l0 k kinds st (numL kinds (st.drop i)) ((i : Int) - 1)) (numL kinds st) := by
  intro i
  induction i with
  | zero =>
    intro _
    refine Ev.step (fun k => spec_NumberOf.l0.eq_2 ..) ?_
    exact Ev.neg (by omega) (Ev.one rfl)
  | succ i ih =>
    intro hi
    have hb := numL_drop h i hi
    refine Ev.step (fun k => spec_NumberOf.l0.eq_2 ..) ?_
    rw [show ((i + 1 : Nat) : Int) - 1 = (i : Int) by omega, hb.2.2.1, hb.2.2.2, w64 (x := (i : Int) - 1) (by have := h.2.2.2.1; omega) (by have := h.2.2.2.1; omega)]
    exact Ev.pos (by omega) (Ev.pos (by omega) (Ev.pos (by omega) (ih (by omega))))
theorem sNum_yes {kinds : Int} {st : List Int} (h : StP kinds st) : Ev (fun k => spec_NumberOf.f k kinds st) (numL kinds st) := by
  have h6 := h.2.2.2.1
  unfold spec_NumberOf.f
  refine Ev.bind (sStOk_yes h) (Ev.pos rfl ?_)
  rw [w64 (x := (st.length : Int) - 1) (by omega) (by omega)]
  have := sNum_l h st.length (Nat.le_refl _)
  rw [List.drop_length] at this
  exact this
theorem sNum_no {kinds : Int} {st : List Int} (hl : st.length ≤ 35184372088832) (h : ¬ StP kinds st) : Ev (fun k => spec_NumberOf.f k kinds st) (-1) := by
  unfold spec_NumberOf.f
  exact Ev.bind (sStOk_no hl h) (Ev.neg (by decide) (Ev.one rfl))
theorem iState_l {kinds : Int} (hk : 1 ≤ kinds) (h5 : kinds ≤ 5) (n : Nat) (h6 : n ≤ 6) : ∀ (d i : Nat) (x : Int) (out : List Int), i + d = n → 0 ≤ x → x < 9223372036854775808 → out.length = i →
    Ev (fun k => impl_StateOf.l0 k kinds x out (n : Int) (i : Int)) (if 0 < restN kinds d x then [] else out ++ digN kinds d x) := by
  intro d
  induction d with
  | zero =>
    intro i x out hd h0 h1 hl
    refine Ev.step (fun k => impl_StateOf.l0.eq_2 ..) ?_
    refine Ev.neg (by omega) ?_
    by_cases c : x > 0
    · exact Ev.pos c (Ev.one (by simp [restN, c]))
    · exact Ev.neg c (Ev.one (by simp [restN, digN, c]))
  | succ d ih =>
    intro i x out hd h0 h1 hl
    have hq0 : 0 ≤ x / kinds := Int.ediv_nonneg h0 (by omega)
    have hq1 : x / kinds ≤ x := Int.ediv_le_self _ h0
    refine Ev.step (fun k => impl_StateOf.l0.eq_2 ..) ?_
    rw [Int.tdiv_eq_ediv_of_nonneg h0, Int.tmod_eq_emod_of_nonneg h0, w64 (x := x / kinds) (by omega) (by omega), w64i i (by omega)]
    refine Ev.pos (by omega) (Ev.neg (by omega) (Ev.pos (by omega) ?_))
    refine Ev.cast (ih (i + 1) (x / kinds) (out ++ [x % kinds]) (by omega) hq0 (by omega) (by simp [hl])) ?_
    show (if 0 < restN kinds d (x / kinds) then [] else (out ++ [x % kinds]) ++ digN kinds d (x / kinds)) = (if 0 < restN kinds d (x / kinds) then [] else out ++ (x % kinds :: digN kinds d (x / kinds)))
    rw [List.append_assoc]; rfl
theorem iState_in {kinds : Int} (hk : 3 ≤ kinds) (h5 : kinds ≤ 5) {n : Nat} (h1 : 1 ≤ n) (h6 : n ≤ 6) {x : Int} (h0 : 0 ≤ x) (hx : x < 9223372036854775808) : Ev (fun k => impl_StateOf.f k (n : Int) kinds x) (stOf n kinds x) := by
  unfold impl_StateOf.f
  refine Ev.neg (by omega) (Ev.neg (by omega) (Ev.neg (by omega) (Ev.neg (by omega) ?_)))
  refine Ev.step (fun k => impl_StateOf.j0.eq_2 ..) ?_
  refine Ev.neg (by simp; omega) ?_
  have := iState_l (by omega) h5 n h6 n 0 x [] (by omega) h0 hx rfl
  simpa [stOf] using this
theorem iState_no {a kinds x : Int} (h : ¬ (1 ≤ a ∧ a ≤ 6 ∧ 3 ≤ kinds ∧ kinds ≤ 5 ∧ 0 ≤ x)) : Ev (fun k => impl_StateOf.f k a kinds x) [] := by
  have hj : ∀ p : Bool, p = true → Ev (fun k => impl_StateOf.j0 k a kinds x p) [] := by
    intro p hp
    refine Ev.step (fun k => impl_StateOf.j0.eq_2 ..) ?_
    exact Ev.pos hp (Ev.one rfl)
  unfold impl_StateOf.f
  by_cases c1 : a < 1
  · exact Ev.pos c1 (hj _ rfl)
  by_cases c2 : a > 6
  · exact Ev.neg c1 (Ev.pos c2 (hj _ rfl))
  by_cases c3 : kinds < 3
  · exact Ev.neg c1 (Ev.neg c2 (Ev.pos c3 (hj _ rfl)))
  by_cases c4 : kinds > 5
  · exact Ev.neg c1 (Ev.neg c2 (Ev.neg c3 (Ev.pos c4 (hj _ rfl))))
  exact Ev.neg c1 (Ev.neg c2 (Ev.neg c3 (Ev.neg c4 (hj _ (decide_eq_true (by omega))))))
theorem alive_ev : Ev (fun k => laws_alive.f k) true := Ev.of (fun k => laws_alive.mono k) (k := 40) (by decide +kernel)
theorem l20Open_ev {l : List Int} (h : ∀ x ∈ l, (Lit.int .u8 x).wf = true) : ∃ b, Ev (fun _ => spec_l20Open.f l) (b, ((0 : Nat) : Int)) ∧ Byt b := by
  have hx : ∀ x ∈ l, 0 ≤ x ∧ x ≤ 255 := by
    intro x hx
    have := h x hx
    simp only [Lit.wf, IntKind.min, IntKind.max, IntKind.signed, IntKind.bits, Bool.and_eq_true, decide_eq_true_eq, Bool.false_eq_true, if_false] at this
    omega
  unfold spec_l20Open.f
  by_cases c : (l.length : Int) > 2000
  · exact ⟨l.take 2000, Ev.pos c (Ev.pos (by omega) (Ev.now _)), by simp; omega, fun x hx' => hx x (List.mem_of_mem_take hx')⟩
  · exact ⟨l, Ev.neg c (Ev.now _), by omega, hx⟩
theorem l20State_l {b : List Int} (hb : Byt b) (kinds n thin : Int) (m : Nat) (h1 : 1 ≤ m) (h6 : m ≤ 6) : ∀ (d i : Nat) (st : List Int) (p : Nat), i + d = m → st.length = i → p + 2 * d ≤ 99990 →
    ∃ (st' : List Int) (p' : Nat), Ev (fun k => spec_l20State.l0 k (m : Int) kinds n st thin (i : Int) b (p : Int)) (st', (p' : Int)) ∧ st'.length ≤ 6 ∧ p' ≤ p + 2 * d + 2 := by
  intro d
  induction d with
  | zero =>
    intro i st p hd hl hp
    obtain ⟨v, q, hv, hq⟩ := odd_ev hb (p := p) (by omega) n
    cases v with
    | false =>
      refine ⟨st, q, ?_, by omega, by omega⟩
      refine Ev.step (fun k => spec_l20State.l0.eq_2 ..) ?_
      exact Ev.neg (by omega) (Ev.bind hv (Ev.neg (by simp) (Ev.now _)))
    | true =>
      obtain ⟨u, hu, u0, u3⟩ := pick_ev hb (p := q) (by omega) 2
      by_cases c0 : u = 0
      · refine ⟨[], q + 1, ?_, by simp, by omega⟩
        refine Ev.step (fun k => spec_l20State.l0.eq_2 ..) ?_
        exact Ev.neg (by omega) (Ev.bind hv (Ev.pos rfl (Ev.bind hu (Ev.pos c0 (Ev.now _)))))
      · refine ⟨st.set ((st.length : Int) - 1).toNat kinds, q + 1, ?_, ?_, by omega⟩
        · refine Ev.step (fun k => spec_l20State.l0.eq_2 ..) ?_
          rw [w64 (x := (st.length : Int) - 1) (by omega) (by omega)]
          exact Ev.neg (by omega) (Ev.bind hv (Ev.pos rfl (Ev.bind hu (Ev.neg c0 (Ev.pos (by omega) (Ev.pos (by omega) (Ev.now _)))))))
        · simp [hl]; omega
  | succ d ih =>
    intro i st p hd hl hp
    have go : ∀ (v : Int) (q : Nat), q ≤ p + 2 → ∃ (st' : List Int) (p' : Nat), Ev (fun k => spec_l20State.l0 k (m : Int) kinds n (st ++ [v]) thin (wrap64 ((i : Int) + 1)) b (q : Int)) (st', (p' : Int)) ∧ st'.length ≤ 6 ∧ p' ≤ p + 2 * (d + 1) + 2 := by
      intro v q hq
      obtain ⟨st', p', h', hs, hp'⟩ := ih (i + 1) (st ++ [v]) q (by omega) (by simp [hl]) (by omega)
      refine ⟨st', p', ?_, hs, by omega⟩
      rw [w64i i (by omega)]; exact h'
    by_cases ct : thin > 0
    · obtain ⟨u, hu, _, _⟩ := pick_ev hb (p := p) (by omega) 3
      by_cases cu : u < thin
      · obtain ⟨st', p', h', hs, hp'⟩ := go 0 (p + 1) (by omega)
        refine ⟨st', p', ?_, hs, hp'⟩
        refine Ev.step (fun k => spec_l20State.l0.eq_2 ..) ?_
        exact Ev.pos (by omega) (Ev.pos ct (Ev.bind hu (Ev.pos cu (Ev.pos (by omega) h'))))
      · obtain ⟨v, hv, _, _⟩ := pick_ev hb (p := p + 1) (by omega) kinds
        obtain ⟨st', p', h', hs, hp'⟩ := go v (p + 1 + 1) (by omega)
        refine ⟨st', p', ?_, hs, hp'⟩
        refine Ev.step (fun k => spec_l20State.l0.eq_2 ..) ?_
        exact Ev.pos (by omega) (Ev.pos ct (Ev.bind hu (Ev.neg cu (Ev.bind hv (Ev.pos (by omega) h')))))
    · obtain ⟨v, hv, _, _⟩ := pick_ev hb (p := p) (by omega) kinds
      obtain ⟨st', p', h', hs, hp'⟩ := go v (p + 1) (by omega)
      refine ⟨st', p', ?_, hs, hp'⟩
      refine Ev.step (fun k => spec_l20State.l0.eq_2 ..) ?_
      exact Ev.pos (by omega) (Ev.neg ct (Ev.bind hv (Ev.pos (by omega) h')))
theorem l20State_ev {b : List Int} (hb : Byt b) {p : Nat} (hp : p ≤ 90000) (m : Nat) (h1 : 1 ≤ m) (h6 : m ≤ 6) (kinds n : Int) : ∃ (st : List Int) (p' : Nat), Ev (fun k => spec_l20State.f k b (p : Int) (m : Int) kinds n) (st, (p' : Int)) ∧ st.length ≤ 6 ∧ p' ≤ p + 20 := by
  obtain ⟨u, hu, _, _⟩ := pick_ev hb (p := p) (by omega) 3
  obtain ⟨st, p', h', hs, hp'⟩ := l20State_l hb kinds n u m h1 h6 m 0 [] (p + 1) (by omega) rfl (by omega)
  refine ⟨st, p', ?_, hs, by omega⟩
  unfold spec_l20State.f
  exact Ev.bind hu h'
theorem l20Kinds_ev {b : List Int} (hb : Byt b) {p : Nat} (hp : p ≤ 80000) (n : Int) : ∃ (kinds : Int) (st : List Int) (p' : Nat), Ev (fun k => spec_l20Kinds.f k b (p : Int) n) (kinds, st, (p' : Int)) ∧ st.length ≤ 6 ∧ p' ≤ p + 30 := by
  obtain ⟨u, hu, u0, u1⟩ := pick_ev hb (p := p) (by omega) 3
  obtain ⟨v, hv, v0, v1⟩ := pick_ev hb (p := p + 1) (by omega) 60
  obtain ⟨w, hw, w0, w1⟩ := pick_ev hb (p := p + 1 + 1) (by omega) 6
  have w1 := w1 (by omega)
  obtain ⟨m, hm⟩ : ∃ m : Nat, wrap64 (1 + w) = (m : Int) := ⟨(1 + w).toNat, by rw [w64 (by omega) (by omega)]; omega⟩
  have hm1 : (m : Int) = 1 + w := by rw [← hm, w64 (by omega) (by omega)]
  obtain ⟨st, p', h', hs, hp'⟩ := l20State_ev hb (p := p + 1 + 1 + 1) (by omega) m (by omega) (by omega) (wrap64 (3 + u)) n
  rw [← hm] at h'
  unfold spec_l20Kinds.f
  exact ⟨_, st, p', Ev.bind hu (Ev.bind hv (Ev.bind hw (Ev.bind h' (Ev.now _)))), hs, by omega⟩
theorem drawNumberOf_ev {l : List Int} (h : ∀ x ∈ l, (Lit.int .u8 x).wf = true) : ∃ (kinds : Int) (st : List Int), Ev (fun k => spec_DrawNumberOf.f k l) (kinds, st) ∧ st.length ≤ 6 := by
  obtain ⟨b, ho, hb⟩ := l20Open_ev h
  obtain ⟨kinds, st, p, hk, hs, hp⟩ := l20Kinds_ev hb (p := 0) (by omega) 9
  unfold spec_DrawNumberOf.f
  exact ⟨_, st, Ev.bind ho (Ev.bind hk (Ev.now _)), hs⟩
end Go.Proofs.Ytjofekchopgfbab.CFnNumberOf
