/- What each function that the law FnNamedState calls comes to. -/
import Derived.Test.YtjofekchopgfbacPFnNamedStatex5
import Derived.Test.YtjofekchopgfbacMath
namespace Go.Proofs.Ytjofekchopgfbac.CFnNamedState
open Go Go.RowKit Go.Proofs.Ytjofekchopgfbac.PFnNamedState Go.Proofs.YtjofekchopgfbacW.PrintWords Go.Proofs.YtjofekchopgfbacW.PrintLast Go.Proofs.Ytjofekchopgfbac.Pl

theorem sameInts_l (x y : List Int) (hl : x.length = y.length) (hx : x.length ≤ 35184372088832) : ∀ (d i : Nat), i + d = x.length → (∀ j : Nat, j < i → rd x (j : Int) = rd y (j : Int)) → Ev (fun k => laws_sameInts.l0 k x y (i : Int)) (decide (x = y)) := by
  intro d
  induction d with
  | zero =>
    intro i hd h
    refine Ev.step (fun k => laws_sameInts.l0.eq_2 ..) ?_
    exact Ev.neg (by omega) (Ev.one (congrArg some (decide_eq_true (rd_ext hl fun j hj => h j (by omega))).symm))
  | succ d ih =>
    intro i hd h
    refine Ev.step (fun k => laws_sameInts.l0.eq_2 ..) ?_
    refine Ev.pos (by omega) (Ev.pos (by omega) (Ev.pos (by omega) ?_))
    by_cases e : rd x (i : Int) = rd y (i : Int)
    · refine Ev.pos e ?_
      rw [w64i i (by omega)]
      refine ih (i + 1) (by omega) (fun j hj => ?_)
      by_cases e2 : j = i
      · rw [e2]; exact e
      · exact h j (by omega)
    · exact Ev.neg e (Ev.one (congrArg some (decide_eq_false (fun q => e (by rw [q]))).symm))
theorem sameInts_ev (x y : List Int) (hx : x.length ≤ 35184372088832) : Ev (fun k => laws_sameInts.f k x y) (decide (x = y)) := by
  unfold laws_sameInts.f
  by_cases hl : x.length = y.length
  · refine Ev.pos (by omega) ?_
    exact sameInts_l x y hl hx x.length 0 (by omega) (fun j hj => by omega)
  · exact Ev.neg (by omega) (Ev.one (congrArg some (decide_eq_false (fun q => hl (by rw [q]))).symm))
theorem l1In_ev (a b c : Int) : Ev (fun _ => spec_l1In.f a b c) (decide (b ≤ a ∧ a ≤ c)) := by
  refine Ev.one ?_
  unfold spec_l1In.f
  by_cases h : a ≥ b
  · rw [if_pos h]; simp [show b ≤ a from h]
  · rw [if_neg h]; simp [show ¬ b ≤ a from h]
theorem iNetOk_l1 (net : List Int) (hn : net.length ≤ 6) (i : Nat) (hi : i < net.length) (c : Bool) (hc : Ev (fun k => impl_NetOk.l0 k net net (net.length : Int) ((i + 1 : Nat) : Int)) c) :
    ∀ d j : Nat, j + d = net.length → ∃ b, Ev (fun k => impl_NetOk.l1 k net (i : Int) (rd net (i : Int)) net (net.length : Int) (i : Int) (net.length : Int) (j : Int)) b ∧
      (b = true ↔ (∀ j' : Nat, j ≤ j' → j' < net.length → rd net (i : Int) / 2 ^ j' % 2 = rd net (j' : Int) / 2 ^ i % 2) ∧ c = true) := by
  intro d
  induction d with
  | zero =>
    intro j hd
    refine ⟨c, ?_, ?_⟩
    · refine Ev.step (fun k => impl_NetOk.l1.eq_2 ..) ?_
      refine Ev.neg (by omega) ?_
      rw [w64i i (by omega)]; exact hc
    · constructor
      · intro h; exact ⟨fun j' h1 h2 => by omega, h⟩
      · exact fun h => h.2
  | succ d ih =>
    intro j hd
    obtain ⟨b, hb, hb2⟩ := ih (j + 1) (by omega)
    by_cases e : rd net (i : Int) / 2 ^ j % 2 = rd net (j : Int) / 2 ^ i % 2
    · refine ⟨b, ?_, hb2.trans ⟨fun h => ⟨fun j' h1 h2 => ?_, h.2⟩, fun h => ⟨fun j' h1 h2 => h.1 j' (by omega) h2, h.2⟩⟩⟩
      · refine Ev.step (fun k => impl_NetOk.l1.eq_2 ..) ?_
        rw [itest _ j (by omega), itest _ i (by omega)]
        refine Ev.pos (by omega) (Ev.pos (by omega) (Ev.pos (by omega) (Ev.pos (by omega) (Ev.pos e ?_))))
        rw [w64i j (by omega)]; exact hb
      · by_cases q : j' = j
        · rw [q]; exact e
        · exact h.1 j' (by omega) h2
    · refine ⟨false, ?_, ⟨(fun h => Bool.noConfusion h), fun h => absurd (h.1 j (by omega) (by omega)) e⟩⟩
      refine Ev.step (fun k => impl_NetOk.l1.eq_2 ..) ?_
      rw [itest _ j (by omega), itest _ i (by omega)]
      exact Ev.pos (by omega) (Ev.pos (by omega) (Ev.pos (by omega) (Ev.pos (by omega) (Ev.neg e (Ev.one rfl)))))
theorem iNetOk_l0 (net : List Int) (hn : net.length ≤ 6) : ∀ d i : Nat, i + d = net.length → ∃ b, Ev (fun k => impl_NetOk.l0 k net net (net.length : Int) (i : Int)) b ∧ (b = true ↔ ∀ i' : Nat, i ≤ i' → i' < net.length → RowP net i') := by
  intro d
  induction d with
  | zero =>
    intro i hd
    refine ⟨true, ?_, ⟨fun _ i' h1 h2 => by omega, fun _ => rfl⟩⟩
    refine Ev.step (fun k => impl_NetOk.l0.eq_2 ..) ?_
    exact Ev.neg (by omega) (Ev.one rfl)
  | succ d ih =>
    intro i hd
    obtain ⟨c, hc, hc2⟩ := ih (i + 1) (by omega)
    obtain ⟨b, hb, hb2⟩ := iNetOk_l1 net hn i (by omega) c hc net.length 0 (by omega)
    have hbad : ∀ p : Bool, p = true → Ev (fun k => impl_NetOk.j2 k net (i : Int) (rd net (i : Int)) net (net.length : Int) (i : Int) p) false := by
      intro p hp
      refine Ev.step (fun k => impl_NetOk.j2.eq_2 ..) ?_
      exact Ev.pos hp (Ev.one rfl)
    have hgood : ∀ p : Bool, p = false → Ev (fun k => impl_NetOk.j2 k net (i : Int) (rd net (i : Int)) net (net.length : Int) (i : Int) p) b := by
      intro p hp
      refine Ev.step (fun k => impl_NetOk.j2.eq_2 ..) ?_
      exact Ev.neg (by simp [hp]) hb
    have hpow : shl .i64 1 (net.length : Int) = ((2 ^ net.length : Nat) : Int) := shl_one _ (by omega)
    by_cases h0 : rd net (i : Int) < 0
    · refine ⟨false, ?_, ⟨(fun h => Bool.noConfusion h), fun h => absurd (h i (by omega) (by omega)).1.1 (by omega)⟩⟩
      refine Ev.step (fun k => impl_NetOk.l0.eq_2 ..) ?_
      exact Ev.pos (by omega) (Ev.pos (by omega) (Ev.pos (by omega) (Ev.pos h0 (hbad true rfl))))
    · by_cases h1 : rd net (i : Int) ≥ ((2 ^ net.length : Nat) : Int)
      · refine ⟨false, ?_, ⟨(fun h => Bool.noConfusion h), fun h => absurd (h i (by omega) (by omega)).1.2 (by push_cast at h1; omega)⟩⟩
        refine Ev.step (fun k => impl_NetOk.l0.eq_2 ..) ?_
        rw [hpow]
        exact Ev.pos (by omega) (Ev.pos (by omega) (Ev.pos (by omega) (Ev.neg h0 (Ev.pos h1 (hbad true rfl)))))
      · by_cases h2 : rd net (i : Int) / 2 ^ i % 2 = 1
        · refine ⟨false, ?_, ⟨(fun h => Bool.noConfusion h), fun h => absurd (h i (by omega) (by omega)).2.1 (by omega)⟩⟩
          refine Ev.step (fun k => impl_NetOk.l0.eq_2 ..) ?_
          rw [hpow, itest _ i (by omega)]
          exact Ev.pos (by omega) (Ev.pos (by omega) (Ev.pos (by omega) (Ev.neg h0 (Ev.neg h1 (hbad _ (by rw [h2]; rfl))))))
        · refine ⟨b, ?_, ?_⟩
          · refine Ev.step (fun k => impl_NetOk.l0.eq_2 ..) ?_
            rw [hpow, itest _ i (by omega)]
            exact Ev.pos (by omega) (Ev.pos (by omega) (Ev.pos (by omega) (Ev.neg h0 (Ev.neg h1 (hgood _ (by simpa using h2))))))
          · rw [hb2, hc2]
            constructor
            · rintro ⟨g1, g2⟩ i' q1 q2
              by_cases q : i' = i
              · subst q
                exact ⟨⟨by omega, by push_cast at h1; omega⟩, by omega, fun j hj => g1 j (by omega) hj⟩
              · exact g2 i' (by omega) q2
            · intro g
              exact ⟨fun j' _ q2 => (g i (by omega) (by omega)).2.2 j' q2, fun i' q1 q2 => g i' (by omega) q2⟩
theorem iNetOk_any (net : List Int) : ∃ b, Ev (fun k => impl_NetOk.f k net) b ∧ (b = true ↔ NetP net) := by
  have hj : ∀ p : Bool, p = true → Ev (fun k => impl_NetOk.j0 k net p) false := by
    intro p hp
    refine Ev.step (fun k => impl_NetOk.j0.eq_2 ..) ?_
    exact Ev.pos hp (Ev.one rfl)
  by_cases h1 : net.length < 1
  · refine ⟨false, ?_, ⟨(fun h => Bool.noConfusion h), fun h => absurd h.1 (by omega)⟩⟩
    unfold impl_NetOk.f
    exact Ev.pos (by omega) (hj true rfl)
  · by_cases h2 : net.length > 6
    · refine ⟨false, ?_, ⟨(fun h => Bool.noConfusion h), fun h => absurd h.2.1 (by omega)⟩⟩
      unfold impl_NetOk.f
      exact Ev.neg (by omega) (hj _ (by simp; omega))
    · obtain ⟨b, hb, hb2⟩ := iNetOk_l0 net (by omega) net.length 0 (by omega)
      refine ⟨b, ?_, hb2.trans ⟨fun h => ⟨by omega, by omega, fun i hi => h i (by omega) hi⟩, fun h i _ hi => h.2.2 i hi⟩⟩
      unfold impl_NetOk.f
      refine Ev.neg (by omega) ?_
      refine Ev.step (fun k => impl_NetOk.j0.eq_2 ..) ?_
      exact Ev.neg (by simp; omega) hb
theorem iNetOk_yes {net : List Int} (h : NetP net) : Ev (fun k => impl_NetOk.f k net) true := by
  obtain ⟨b, hb, hb2⟩ := iNetOk_any net
  exact Ev.cast hb (hb2.2 h)
theorem iNetOk_no {net : List Int} (h : ¬ NetP net) : Ev (fun k => impl_NetOk.f k net) false := by
  obtain ⟨b, hb, hb2⟩ := iNetOk_any net
  exact Ev.cast hb (by cases b with | false => rfl | true => exact absurd (hb2.1 rfl) h)
theorem pow_less {n : Nat} (h6 : n ≤ 6) : wrap64 (shl .i64 1 (n : Int) - 1) = ((2 ^ n : Nat) : Int) - 1 := by
  have : (2 : Nat) ^ n ≤ 2 ^ 6 := Nat.pow_le_pow_right (by omega) h6
  have : (0 : Nat) < 2 ^ n := Nat.two_pow_pos _
  rw [shl_one _ (by omega), w64 (by omega) (by omega)]
theorem inSet_yes {n : Nat} (h6 : n ≤ 6) {set : Int} (hs : InS n set) : Ev (fun _ => spec_l1In.f set 0 (wrap64 (shl .i64 1 (n : Int) - 1))) true := by
  rw [pow_less h6]
  exact Ev.cast (l1In_ev _ _ _) (decide_eq_true ⟨hs.1, by have := hs.2; push_cast; omega⟩)
theorem inSet_no {n : Nat} (h6 : n ≤ 6) {set : Int} (hs : ¬ InS n set) : Ev (fun _ => spec_l1In.f set 0 (wrap64 (shl .i64 1 (n : Int) - 1))) false := by
  rw [pow_less h6]
  exact Ev.cast (l1In_ev _ _ _) (decide_eq_false fun q => hs ⟨q.1, by have := q.2; push_cast at this; omega⟩)
theorem iStOk_l (kinds : Int) (st : List Int) (hl : st.length ≤ 35184372088832) : ∀ d i : Nat, i + d = st.length → (∀ i' : Nat, i' < i → 0 ≤ rd st (i' : Int) ∧ rd st (i' : Int) < kinds) → ∃ b, Ev (fun k => impl_StateOk.l0 k kinds st st (st.length : Int) (i : Int)) b ∧ (b = true ↔ StP kinds st) := by
  intro d
  induction d with
  | zero =>
    intro i hd h
    have hall : ∀ i' : Nat, i' < st.length → 0 ≤ rd st (i' : Int) ∧ rd st (i' : Int) < kinds := fun i' hi' => h i' (by omega)
    by_cases c1 : kinds ≥ 3
    · by_cases c2 : kinds ≤ 5
      · by_cases c3 : (st.length : Int) ≥ 1
        · refine ⟨decide ((st.length : Int) ≤ 6), ?_, ?_⟩
          · refine Ev.step (fun k => impl_StateOk.l0.eq_2 ..) ?_
            exact Ev.neg (by omega) (Ev.pos c1 (Ev.pos c2 (Ev.pos c3 (Ev.one rfl))))
          · rw [decide_eq_true_iff]
            exact ⟨fun q => ⟨c1, c2, by omega, by omega, hall⟩, fun q => by have := q.2.2.2.1; omega⟩
        · refine ⟨false, ?_, ⟨(fun q => Bool.noConfusion q), fun q => by have := q.2.2.1; omega⟩⟩
          refine Ev.step (fun k => impl_StateOk.l0.eq_2 ..) ?_
          exact Ev.neg (by omega) (Ev.pos c1 (Ev.pos c2 (Ev.neg c3 (Ev.one rfl))))
      · refine ⟨false, ?_, ⟨(fun q => Bool.noConfusion q), fun q => by have := q.2.1; omega⟩⟩
        refine Ev.step (fun k => impl_StateOk.l0.eq_2 ..) ?_
        exact Ev.neg (by omega) (Ev.pos c1 (Ev.neg c2 (Ev.one rfl)))
    · refine ⟨false, ?_, ⟨(fun q => Bool.noConfusion q), fun q => by have := q.1; omega⟩⟩
      refine Ev.step (fun k => impl_StateOk.l0.eq_2 ..) ?_
      exact Ev.neg (by omega) (Ev.neg c1 (Ev.one rfl))
  | succ d ih =>
    intro i hd h
    by_cases c1 : rd st (i : Int) < 0
    · refine ⟨false, ?_, ⟨(fun q => Bool.noConfusion q), fun q => by have := (q.2.2.2.2 i (by omega)).1; omega⟩⟩
      refine Ev.step (fun k => impl_StateOk.l0.eq_2 ..) ?_
      exact Ev.pos (by omega) (Ev.pos (by omega) (Ev.pos (by omega) (Ev.pos c1 (Ev.one rfl))))
    · by_cases c2 : rd st (i : Int) ≥ kinds
      · refine ⟨false, ?_, ⟨(fun q => Bool.noConfusion q), fun q => by have := (q.2.2.2.2 i (by omega)).2; omega⟩⟩
        refine Ev.step (fun k => impl_StateOk.l0.eq_2 ..) ?_
        exact Ev.pos (by omega) (Ev.pos (by omega) (Ev.pos (by omega) (Ev.neg c1 (Ev.pos c2 (Ev.one rfl)))))
      · obtain ⟨b, hb, hb2⟩ := ih (i + 1) (by omega) (fun i' hi' => by
          by_cases e : i' = i
          · rw [e]; omega
          · exact h i' (by omega))
        refine ⟨b, ?_, hb2⟩
        refine Ev.step (fun k => impl_StateOk.l0.eq_2 ..) ?_
        rw [w64i i (by omega)]
        exact Ev.pos (by omega) (Ev.pos (by omega) (Ev.pos (by omega) (Ev.neg c1 (Ev.neg c2 hb))))
theorem iStOk_any (kinds : Int) (st : List Int) (hl : st.length ≤ 35184372088832) : ∃ b, Ev (fun k => impl_StateOk.f k kinds st) b ∧ (b = true ↔ StP kinds st) := by
  unfold impl_StateOk.f
  exact iStOk_l kinds st hl st.length 0 (by omega) (fun i' hi' => by omega)
theorem iStOk_yes {kinds : Int} {st : List Int} (h : StP kinds st) : Ev (fun k => impl_StateOk.f k kinds st) true := by
  obtain ⟨b, hb, hb2⟩ := iStOk_any kinds st (by have := h.2.2.2.1; omega)
  exact Ev.cast hb (hb2.2 h)
theorem iStOk_no {kinds : Int} {st : List Int} (hl : st.length ≤ 35184372088832) (h : ¬ StP kinds st) : Ev (fun k => impl_StateOk.f k kinds st) false := by
  obtain ⟨b, hb, hb2⟩ := iStOk_any kinds st hl
  exact Ev.cast hb (by cases b with | false => rfl | true => exact absurd (hb2.1 rfl) h)
theorem sStOk_l (kinds : Int) (st : List Int) (hl : st.length ≤ 35184372088832) : ∀ d i : Nat, i + d = st.length → (∀ i' : Nat, i' < i → 0 ≤ rd st (i' : Int) ∧ rd st (i' : Int) < kinds) → ∃ b, Ev (fun k => spec_StateOk.l0 k kinds st (i : Int)) b ∧ (b = true ↔ StP kinds st) := by
  intro d
  induction d with
  | zero =>
    intro i hd h
    have hall : ∀ i' : Nat, i' < st.length → 0 ≤ rd st (i' : Int) ∧ rd st (i' : Int) < kinds := fun i' hi' => h i' (by omega)
    by_cases c1 : 3 ≤ kinds ∧ kinds ≤ 5
    · refine ⟨decide ((1 : Int) ≤ (st.length : Int) ∧ (st.length : Int) ≤ 6), ?_, ?_⟩
      · refine Ev.step (fun k => spec_StateOk.l0.eq_2 ..) ?_
        exact Ev.neg (by omega) (Ev.bind (l1In_ev _ _ _) (Ev.pos (decide_eq_true c1) (Ev.bind (l1In_ev _ _ _) (Ev.now _))))
      · rw [decide_eq_true_iff]
        exact ⟨fun q => ⟨c1.1, c1.2, by omega, by omega, hall⟩, fun q => ⟨by have := q.2.2.1; omega, by have := q.2.2.2.1; omega⟩⟩
    · refine ⟨false, ?_, ⟨(fun q => Bool.noConfusion q), fun q => absurd ⟨q.1, q.2.1⟩ c1⟩⟩
      refine Ev.step (fun k => spec_StateOk.l0.eq_2 ..) ?_
      exact Ev.neg (by omega) (Ev.bind (l1In_ev _ _ _) (Ev.neg (by rw [decide_eq_false c1]; decide) (Ev.one rfl)))
  | succ d ih =>
    intro i hd h
    by_cases c1 : rd st (i : Int) < 0
    · refine ⟨false, ?_, ⟨(fun q => Bool.noConfusion q), fun q => by have := (q.2.2.2.2 i (by omega)).1; omega⟩⟩
      refine Ev.step (fun k => spec_StateOk.l0.eq_2 ..) ?_
      exact Ev.pos (by omega) (Ev.pos (by omega) (Ev.pos c1 (Ev.one rfl)))
    · by_cases c2 : rd st (i : Int) ≥ kinds
      · refine ⟨false, ?_, ⟨(fun q => Bool.noConfusion q), fun q => by have := (q.2.2.2.2 i (by omega)).2; omega⟩⟩
        refine Ev.step (fun k => spec_StateOk.l0.eq_2 ..) ?_
        exact Ev.pos (by omega) (Ev.pos (by omega) (Ev.neg c1 (Ev.pos c2 (Ev.one rfl))))
      · obtain ⟨b, hb, hb2⟩ := ih (i + 1) (by omega) (fun i' hi' => by
          by_cases e : i' = i
          · rw [e]; omega
          · exact h i' (by omega))
        refine ⟨b, ?_, hb2⟩
        refine Ev.step (fun k => spec_StateOk.l0.eq_2 ..) ?_
        rw [w64i i (by omega)]
        exact Ev.pos (by omega) (Ev.pos (by omega) (Ev.neg c1 (Ev.neg c2 hb)))
theorem sStOk_any (kinds : Int) (st : List Int) (hl : st.length ≤ 35184372088832) : ∃ b, Ev (fun k => spec_StateOk.f k kinds st) b ∧ (b = true ↔ StP kinds st) := by
  unfold spec_StateOk.f
  exact sStOk_l kinds st hl st.length 0 (by omega) (fun i' hi' => by omega)
theorem sStOk_yes {kinds : Int} {st : List Int} (h : StP kinds st) : Ev (fun k => spec_StateOk.f k kinds st) true := by
  obtain ⟨b, hb, hb2⟩ := sStOk_any kinds st (by have := h.2.2.2.1; omega)
  exact Ev.cast hb (hb2.2 h)
theorem sStOk_no {kinds : Int} {st : List Int} (hl : st.length ≤ 35184372088832) (h : ¬ StP kinds st) : Ev (fun k => spec_StateOk.f k kinds st) false := by
  obtain ⟨b, hb, hb2⟩ := sStOk_any kinds st hl
  exact Ev.cast hb (by cases b with | false => rfl | true => exact absurd (hb2.1 rfl) h)
theorem pick_ev {b : List Int} (hb : Byt b) {p : Nat} (hp : p ≤ 100000) (n : Int) : ∃ v, Ev (fun k => spec_l20Rd_pick.f k b (p : Int) n) (v, ((p + 1 : Nat) : Int)) ∧ 0 ≤ v ∧ (1 ≤ n → v < n) := by
  have hw1 : wrap64 (((p + 1 : Nat) : Int) - 1) = (p : Int) := by rw [w64 (by omega) (by omega)]; omega
  have hl := hb.1
  by_cases h1 : n < 1
  · refine ⟨0, ?_, by omega, fun _ => by omega⟩
    unfold spec_l20Rd_pick.f
    rw [w64i p (by omega)]
    refine Ev.pos h1 ?_
    refine Ev.step (fun k => spec_l20Rd_pick.j0.eq_2 ..) ?_
    exact Ev.pos rfl (Ev.one rfl)
  · by_cases h0 : b.length = 0
    · refine ⟨0, ?_, by omega, fun _ => by omega⟩
      unfold spec_l20Rd_pick.f
      rw [w64i p (by omega)]
      refine Ev.neg h1 ?_
      refine Ev.step (fun k => spec_l20Rd_pick.j0.eq_2 ..) ?_
      exact Ev.pos (by simp [h0]) (Ev.one rfl)
    · have hz : ¬ (((b.length : Int) == 0) = true) := by rw [beq_iff_eq]; omega
      by_cases hlt : (p : Int) < (b.length : Int)
      · have hr := byt_rd hb (p : Int)
        refine ⟨Int.tmod (rd b (p : Int)) n, ?_, Int.tmod_nonneg _ hr.1, fun h => Int.tmod_lt_of_pos _ (by omega)⟩
        unfold spec_l20Rd_pick.f
        rw [w64i p (by omega)]
        refine Ev.neg h1 ?_
        refine Ev.step (fun k => spec_l20Rd_pick.j0.eq_2 ..) ?_
        rw [hw1]
        refine Ev.neg hz (Ev.pos hlt (Ev.pos (by omega) (Ev.neg (by omega) (Ev.one ?_))))
        rw [w64 (x := rd b (p : Int)) (by omega) (by omega)]
      · have hw2 : wrap64 (wrap64 ((p : Int) * 7) + 3) = (p : Int) * 7 + 3 := by simp (disch := omega) only [w64]
        have t1 : 0 ≤ Int.tmod (p : Int) (b.length : Int) := Int.tmod_nonneg _ (by omega)
        have t2 : Int.tmod (p : Int) (b.length : Int) < (b.length : Int) := Int.tmod_lt_of_pos _ (by omega)
        have t3 : 0 ≤ Int.tmod ((p : Int) * 7 + 3) (b.length : Int) := Int.tmod_nonneg _ (by omega)
        have t4 : Int.tmod ((p : Int) * 7 + 3) (b.length : Int) < (b.length : Int) := Int.tmod_lt_of_pos _ (by omega)
        have d1 : 0 ≤ Int.tdiv (p : Int) (b.length : Int) := Int.tdiv_nonneg (by omega) (by omega)
        have d2 : Int.tdiv (p : Int) (b.length : Int) ≤ (p : Int) := by
          rw [Int.tdiv_eq_ediv_of_nonneg (by omega)]; exact Int.ediv_le_self _ (by omega)
        refine ⟨_, ?_, mix_mod n (byt_rd hb (Int.tmod (p : Int) (b.length : Int))) (byt_rd hb (Int.tmod ((p : Int) * 7 + 3) (b.length : Int))) (p := (p : Int)) ⟨by omega, by omega⟩ (t := Int.tdiv (p : Int) (b.length : Int)) ⟨d1, by omega⟩, fun h => Int.tmod_lt_of_pos _ (by omega)⟩
        unfold spec_l20Rd_pick.f
        rw [w64i p (by omega)]
        refine Ev.neg h1 ?_
        refine Ev.step (fun k => spec_l20Rd_pick.j0.eq_2 ..) ?_
        rw [hw1, hw2]
        exact Ev.neg hz (Ev.neg hlt (Ev.neg (by omega) (Ev.pos t1 (Ev.pos t2 (Ev.pos t3 (Ev.pos t4 (Ev.neg (by omega) (Ev.one rfl))))))))
theorem odd_ev {b : List Int} (hb : Byt b) {p : Nat} (hp : p ≤ 100000) (n : Int) : ∃ (v : Bool) (p' : Nat), Ev (fun k => spec_l20Rd_odd.f k b (p : Int) n) (v, (p' : Int)) ∧ p' ≤ p + 1 := by
  unfold spec_l20Rd_odd.f
  by_cases h : n > 0
  · obtain ⟨v, hv, _⟩ := pick_ev hb hp n
    exact ⟨_, p + 1, Ev.pos h (Ev.bind hv (Ev.now _)), Nat.le_refl _⟩
  · exact ⟨false, p, Ev.neg h (Ev.one rfl), by omega⟩
theorem iRaise_l {kinds : Int} {st : List Int} (h : StP kinds st) : ∀ (d i : Nat), i + d = st.length → Ev (fun k => impl_RaisedState.l0 k kinds (mkL (fun i => (rd st (i : Int) + 1) % kinds) i) st (st.length : Int) (i : Int)) (raiseL kinds st) := by
  have hk := h.1
  have hk5 := h.2.1
  have h6 := h.2.2.2.1
  intro d
  induction d with
  | zero =>
    intro i hd
    refine Ev.step (fun k => impl_RaisedState.l0.eq_2 ..) ?_
    exact Ev.neg (by omega) (Ev.one (by rw [raiseL, show i = st.length by omega]))
  | succ d ih =>
    intro i hd
    have hi := h.2.2.2.2 i (by omega)
    refine Ev.step (fun k => impl_RaisedState.l0.eq_2 ..) ?_
    rw [w64i i (by omega), w64 (x := rd st (i : Int) + 1) (by omega) (by omega), Int.tmod_eq_emod_of_nonneg (by omega), mkL_snoc]
    exact Ev.pos (by omega) (Ev.pos (by omega) (Ev.pos (by omega) (Ev.neg (by omega) (Ev.pos (by rw [mkL_len]; omega) (ih (i + 1) (by omega))))))
theorem iRaise_yes {kinds : Int} {st : List Int} (h : StP kinds st) : Ev (fun k => impl_RaisedState.f k kinds st) (raiseL kinds st) := by
  unfold impl_RaisedState.f
  exact Ev.bind (iStOk_yes h) (Ev.pos rfl (iRaise_l h st.length 0 (by omega)))
theorem iRaise_no {kinds : Int} {st : List Int} (hl : st.length ≤ 35184372088832) (h : ¬ StP kinds st) : Ev (fun k => impl_RaisedState.f k kinds st) [] := by
  unfold impl_RaisedState.f
  exact Ev.bind (iStOk_no hl h) (Ev.neg (by decide) (Ev.one rfl))
theorem iCount_l {kinds : Int} {st : List Int} (h : StP kinds st) : ∀ (d i : Nat), i + d = st.length → Ev (fun k => impl_CountsOf.l0 k (mkL (fun c => countI st (c : Int) i) kinds.toNat) st (st.length : Int) (i : Int)) (countL kinds st) := by
  have hk := h.1
  have hk5 := h.2.1
  have h6 := h.2.2.2.1
  intro d
  induction d with
  | zero =>
    intro i hd
    refine Ev.step (fun k => impl_CountsOf.l0.eq_2 ..) ?_
    exact Ev.neg (by omega) (Ev.one (by rw [countL, show i = st.length by omega]))
  | succ d ih =>
    intro i hd
    have hi := h.2.2.2.2 i (by omega)
    obtain ⟨c, hc⟩ := Int.eq_ofNat_of_zero_le hi.1
    have hcb := countI_range st (c : Int) i
    refine Ev.step (fun k => impl_CountsOf.l0.eq_2 ..) ?_
    rw [w64i i (by omega), hc, rd_mkL _ _ _ (by omega), w64 (x := countI st (c : Int) i + 1) (by omega) (by omega), Int.toNat_natCast, count_set st kinds.toNat i c hc]
    exact Ev.pos (by omega) (Ev.pos (by omega) (Ev.pos (by omega) (Ev.pos (by omega) (Ev.pos (by rw [mkL_len]; omega) (ih (i + 1) (by omega))))))
theorem iCount_yes {kinds : Int} {st : List Int} (h : StP kinds st) : Ev (fun k => impl_CountsOf.f k kinds st) (countL kinds st) := by
  have hk := h.1
  have hk5 := h.2.1
  unfold impl_CountsOf.f
  refine Ev.bind (iStOk_yes h) (Ev.pos rfl (Ev.pos (by omega) (Ev.pos (by omega) ?_)))
  rw [count_zero st]
  exact iCount_l h st.length 0 (by omega)
theorem iCount_no {kinds : Int} {st : List Int} (hl : st.length ≤ 35184372088832) (h : ¬ StP kinds st) : Ev (fun k => impl_CountsOf.f k kinds st) [] := by
  unfold impl_CountsOf.f
  exact Ev.bind (iStOk_no hl h) (Ev.neg (by decide) (Ev.one rfl))
theorem alive_ev : Ev (fun k => laws_alive.f k) true := Ev.of (fun k => laws_alive.mono k) (k := 40) (by decide +kernel)
theorem l20Open_ev {l : List Int} (h : ∀ x ∈ l, (Lit.int .u8 x).wf = true) : ∃ b, Ev (fun _ => spec_l20Open.f l) (b, ((0 : Nat) : Int)) ∧ Byt b := by
  have hx : ∀ x ∈ l, 0 ≤ x ∧ x ≤ 255 := by
    intro x hx
    have := h x hx
    simp only [Lit.wf, IntKind.min, IntKind.max, IntKind.signed, IntKind.bits, Bool.and_eq_true, decide_eq_true_eq, Bool.false_eq_true, if_false] at this
    omega
  unfold spec_l20Open.f
  by_cases c : (l.length : Int) > 2000
  · exact ⟨l.take 2000, Ev.pos c (Ev.pos (by omega) (Ev.now _)), by simp; omega, fun x hx' => hx x (List.mem_of_mem_take hx')⟩
  · exact ⟨l, Ev.neg c (Ev.now _), by omega, hx⟩
theorem l20State_l {b : List Int} (hb : Byt b) (kinds n thin : Int) (m : Nat) (h1 : 1 ≤ m) (h6 : m ≤ 6) : ∀ (d i : Nat) (st : List Int) (p : Nat), i + d = m → st.length = i → p + 2 * d ≤ 99990 →
    ∃ (st' : List Int) (p' : Nat), Ev (fun k => spec_l20State.l0 k (m : Int) kinds n st thin (i : Int) b (p : Int)) (st', (p' : Int)) ∧ st'.length ≤ 6 ∧ p' ≤ p + 2 * d + 2 := by
  intro d
  induction d with
  | zero =>
    intro i st p hd hl hp
    obtain ⟨v, q, hv, hq⟩ := odd_ev hb (p := p) (by omega) n
    cases v with
    | false =>
      refine ⟨st, q, ?_, by omega, by omega⟩
      refine Ev.step (fun k => spec_l20State.l0.eq_2 ..) ?_
      exact Ev.neg (by omega) (Ev.bind hv (Ev.neg (by simp) (Ev.now _)))
    | true =>
      obtain ⟨u, hu, u0, u3⟩ := pick_ev hb (p := q) (by omega) 2
      by_cases c0 : u = 0
      · refine ⟨[], q + 1, ?_, by simp, by omega⟩
        refine Ev.step (fun k => spec_l20State.l0.eq_2 ..) ?_
        exact Ev.neg (by omega) (Ev.bind hv (Ev.pos rfl (Ev.bind hu (Ev.pos c0 (Ev.now _)))))
      · refine ⟨st.set ((st.length : Int) - 1).toNat kinds, q + 1, ?_, ?_, by omega⟩
        · refine Ev.step (fun k => spec_l20State.l0.eq_2 ..) ?_
          rw [w64 (x := (st.length : Int) - 1) (by omega) (by omega)]
          exact Ev.neg (by omega) (Ev.bind hv (Ev.pos rfl (Ev.bind hu (Ev.neg c0 (Ev.pos (by omega) (Ev.pos (by omega) (Ev.now _)))))))
        · simp [hl]; omega
  | succ d ih =>
    intro i st p hd hl hp
    have go : ∀ (v : Int) (q : Nat), q ≤ p + 2 → ∃ (st' : List Int) (p' : Nat), Ev (fun k => spec_l20State.l0 k (m : Int) kinds n (st ++ [v]) thin (wrap64 ((i : Int) + 1)) b (q : Int)) (st', (p' : Int)) ∧ st'.length ≤ 6 ∧ p' ≤ p + 2 * (d + 1) + 2 := by
      intro v q hq
      obtain ⟨st', p', h', hs, hp'⟩ := ih (i + 1) (st ++ [v]) q (by omega) (by simp [hl]) (by omega)
      refine ⟨st', p', ?_, hs, by omega⟩
      rw [w64i i (by omega)]; exact h'
    by_cases ct : thin > 0
    · obtain ⟨u, hu, _, _⟩ := pick_ev hb (p := p) (by omega) 3
      by_cases cu : u < thin
      · obtain ⟨st', p', h', hs, hp'⟩ := go 0 (p + 1) (by omega)
        refine ⟨st', p', ?_, hs, hp'⟩
        refine Ev.step (fun k => spec_l20State.l0.eq_2 ..) ?_
        exact Ev.pos (by omega) (Ev.pos ct (Ev.bind hu (Ev.pos cu (Ev.pos (by omega) h'))))
      · obtain ⟨v, hv, _, _⟩ := pick_ev hb (p := p + 1) (by omega) kinds
        obtain ⟨st', p', h', hs, hp'⟩ := go v (p + 1 + 1) (by omega)
        refine ⟨st', p', ?_, hs, hp'⟩
        refine Ev.step (fun k => spec_l20State.l0.eq_2 ..) ?_
        exact Ev.pos (by omega) (Ev.pos ct (Ev.bind hu (Ev.neg cu (Ev.bind hv (Ev.pos (by omega) h')))))
    · obtain ⟨v, hv, _, _⟩ := pick_ev hb (p := p) (by omega) kinds
      obtain ⟨st', p', h', hs, hp'⟩ := go v (p + 1) (by omega)
      refine ⟨st', p', ?_, hs, hp'⟩
      refine Ev.step (fun k => spec_l20State.l0.eq_2 ..) ?_
      exact Ev.pos (by omega) (Ev.neg ct (Ev.bind hv (Ev.pos (by omega) h')))
theorem l20State_ev {b : List Int} (hb : Byt b) {p : Nat} (hp : p ≤ 90000) (m : Nat) (h1 : 1 ≤ m) (h6 : m ≤ 6) (kinds n : Int) : ∃ (st : List Int) (p' : Nat), Ev (fun k => spec_l20State.f k b (p : Int) (m : Int) kinds n) (st, (p' : Int)) ∧ st.length ≤ 6 ∧ p' ≤ p + 20 := by
  obtain ⟨u, hu, _, _⟩ := pick_ev hb (p := p) (by omega) 3
  obtain ⟨st, p', h', hs, hp'⟩ := l20State_l hb kinds n u m h1 h6 m 0 [] (p + 1) (by omega) rfl (by omega)
  refine ⟨st, p', ?_, hs, by omega⟩
  unfold spec_l20State.f
  exact Ev.bind hu h'
theorem l20Kinds_ev {b : List Int} (hb : Byt b) {p : Nat} (hp : p ≤ 80000) (n : Int) : ∃ (kinds : Int) (st : List Int) (p' : Nat), Ev (fun k => spec_l20Kinds.f k b (p : Int) n) (kinds, st, (p' : Int)) ∧ st.length ≤ 6 ∧ p' ≤ p + 30 := by
  obtain ⟨u, hu, u0, u1⟩ := pick_ev hb (p := p) (by omega) 3
  obtain ⟨v, hv, v0, v1⟩ := pick_ev hb (p := p + 1) (by omega) 60
  obtain ⟨w, hw, w0, w1⟩ := pick_ev hb (p := p + 1 + 1) (by omega) 6
  have w1 := w1 (by omega)
  obtain ⟨m, hm⟩ : ∃ m : Nat, wrap64 (1 + w) = (m : Int) := ⟨(1 + w).toNat, by rw [w64 (by omega) (by omega)]; omega⟩
  have hm1 : (m : Int) = 1 + w := by rw [← hm, w64 (by omega) (by omega)]
  obtain ⟨st, p', h', hs, hp'⟩ := l20State_ev hb (p := p + 1 + 1 + 1) (by omega) m (by omega) (by omega) (wrap64 (3 + u)) n
  rw [← hm] at h'
  unfold spec_l20Kinds.f
  exact ⟨_, st, p', Ev.bind hu (Ev.bind hv (Ev.bind hw (Ev.bind h' (Ev.now _)))), hs, by omega⟩
theorem l20Order_l {b : List Int} (hb : Byt b) (n : Int) (m : Nat) (h6 : m ≤ 100) : ∀ (d i : Nat) (out : List Int) (p : Nat), i + d = m → out.length = i → p + d ≤ 99990 →
    ∃ (out' : List Int) (p' : Nat), Ev (fun k => spec_l20Order.l0 k (m : Int) n out (i : Int) b (p : Int)) (out', (p' : Int)) ∧ out'.length ≤ 101 := by
  intro d
  induction d with
  | zero =>
    intro i out p hd hl hp
    obtain ⟨v, q, hv, hq⟩ := odd_ev hb (p := p) (by omega) n
    cases v with
    | false =>
      refine ⟨out, q, ?_, by omega⟩
      refine Ev.step (fun k => spec_l20Order.l0.eq_2 ..) ?_
      exact Ev.neg (by omega) (Ev.bind hv (Ev.neg (by simp) (Ev.now _)))
    | true =>
      refine ⟨out ++ [0], q, ?_, by simp; omega⟩
      refine Ev.step (fun k => spec_l20Order.l0.eq_2 ..) ?_
      exact Ev.neg (by omega) (Ev.bind hv (Ev.pos rfl (Ev.pos (by omega) (Ev.now _))))
  | succ d ih =>
    intro i out p hd hl hp
    have hw : wrap64 ((out.length : Int) + 1) = (out.length : Int) + 1 := w64 (by omega) (by omega)
    obtain ⟨v, hv, v0, v1⟩ := pick_ev hb (p := p) (by omega) ((out.length : Int) + 1)
    have v1 := v1 (by omega)
    obtain ⟨out', p', h', ho⟩ := ih (i + 1) ((([] ++ out.take v.toNat) ++ [(i : Int)]) ++ out.drop v.toNat) (p + 1) (by omega) (by simp; omega) (by omega)
    refine ⟨out', p', ?_, ho⟩
    refine Ev.step (fun k => spec_l20Order.l0.eq_2 ..) ?_
    rw [hw, w64i i (by omega)]
    refine Ev.pos (by omega) (Ev.bind hv (Ev.bind (Ev.now _) (Ev.pos v0 (Ev.pos (by omega) (Ev.bind (Ev.now _) (Ev.pos (by simp; omega) (Ev.bind (Ev.now _) (Ev.pos (by simp; omega) (Ev.bind (Ev.now _) (Ev.bind (Ev.now _) (Ev.pos (by simp; omega) h')))))))))))
theorem l20Order_ev {b : List Int} (hb : Byt b) {p : Nat} (hp : p ≤ 90000) (m : Nat) (h6 : m ≤ 100) (n : Int) : ∃ (out : List Int) (p' : Nat), Ev (fun k => spec_l20Order.f k b (p : Int) (m : Int) n) (out, (p' : Int)) ∧ out.length ≤ 101 := by
  unfold spec_l20Order.f
  exact l20Order_l hb n m h6 m 0 [] p (by omega) rfl (by omega)
theorem drawNamedState_ev {l : List Int} (h : ∀ x ∈ l, (Lit.int .u8 x).wf = true) : ∃ (kinds : Int) (st ord : List Int), Ev (fun k => spec_DrawNamedState.f k l) (kinds, st, ord) ∧ st.length ≤ 6 ∧ ord.length ≤ 101 := by
  obtain ⟨b, ho, hb⟩ := l20Open_ev h
  obtain ⟨kinds, st, p, hk, hs, hp⟩ := l20Kinds_ev hb (p := 0) (by omega) 14
  obtain ⟨ord, q, hq, hl⟩ := l20Order_ev hb (p := p) (by omega) st.length (by omega) 14
  unfold spec_DrawNamedState.f
  exact ⟨_, st, ord, Ev.bind ho (Ev.bind hk (Ev.bind hq (Ev.now _))), hs, hl⟩
theorem index_l (x : List Int) (hx : x.length ≤ 35184372088832) (v : Int) : ∀ (d i : Nat), i + d = x.length → (∀ j : Nat, j < i → rd x (j : Int) ≠ v) → ∃ r, Ev (fun k => slices_Index_int_int.l0 k x v (x.length : Int) (i : Int)) r ∧ (r ≥ 0 ↔ ∃ j : Nat, j < x.length ∧ rd x (j : Int) = v) := by
  intro d
  induction d with
  | zero =>
    intro i hd h
    refine ⟨-1, ?_, ⟨fun q => absurd q (by decide), fun ⟨j, hj, e⟩ => absurd e (h j (by omega))⟩⟩
    refine Ev.step (fun k => slices_Index_int_int.l0.eq_2 ..) ?_
    exact Ev.neg (by omega) (Ev.one rfl)
  | succ d ih =>
    intro i hd h
    by_cases e : v = rd x (i : Int)
    · refine ⟨(i : Int), ?_, ⟨fun _ => ⟨i, by omega, e.symm⟩, fun _ => by omega⟩⟩
      refine Ev.step (fun k => slices_Index_int_int.l0.eq_2 ..) ?_
      exact Ev.pos (by omega) (Ev.pos (by omega) (Ev.pos (by omega) (Ev.pos e (Ev.one rfl))))
    · obtain ⟨r, hr, hr2⟩ := ih (i + 1) (by omega) (fun j hj => by
        by_cases q : j = i
        · rw [q]; exact fun z => e z.symm
        · exact h j (by omega))
      refine ⟨r, ?_, hr2⟩
      refine Ev.step (fun k => slices_Index_int_int.l0.eq_2 ..) ?_
      rw [w64i i (by omega)]
      exact Ev.pos (by omega) (Ev.pos (by omega) (Ev.pos (by omega) (Ev.neg e hr)))
theorem contains_ev (x : List Int) (hx : x.length ≤ 35184372088832) (v : Int) : ∃ b, Ev (fun k => slices_Contains_int_int.f k x v) b ∧ (b = true ↔ ∃ j : Nat, j < x.length ∧ rd x (j : Int) = v) := by
  obtain ⟨r, hr, hr2⟩ := index_l x hx v x.length 0 (by omega) (fun j hj => by omega)
  refine ⟨decide (r ≥ 0), ?_, by rw [decide_eq_true_iff]; exact hr2⟩
  unfold slices_Contains_int_int.f
  refine Ev.bind ?_ (Ev.now _)
  unfold slices_Index_int_int.f
  exact hr
theorem iOrd_l (many : Nat) (ord : List Int) (hl : ord.length ≤ 35184372088832) : ∀ d i : Nat, i + d = ord.length → (∀ i' : Nat, i' < i → 0 ≤ rd ord (i' : Int) ∧ rd ord (i' : Int) < many ∧ ∀ j : Nat, j < i' → rd ord (j : Int) ≠ rd ord (i' : Int)) →
    ∃ b, Ev (fun k => impl_orderOk.l0 k (many : Int) ord ord (ord.length : Int) (i : Int)) b ∧ (b = true ↔ OrdP many ord) := by
  intro d
  induction d with
  | zero =>
    intro i hd h
    refine ⟨((ord.length : Int) == (many : Int)), ?_, ?_⟩
    · refine Ev.step (fun k => impl_orderOk.l0.eq_2 ..) ?_
      exact Ev.neg (by omega) (Ev.one rfl)
    · rw [beq_iff_eq]
      exact ⟨fun q => ⟨by omega, fun i' hi' => h i' (by omega)⟩, fun q => by rw [q.1]⟩
  | succ d ih =>
    intro i hd h
    have step : ∀ {b : Bool}, Ev (fun k => if rd ord (i : Int) < 0 then some false else if rd ord (i : Int) ≥ (many : Int) then some false else if (i : Int) ≤ (ord.length : Int) then (slices_Contains_int_int.f k (ord.take ((i : Int)).toNat) (rd ord (i : Int))).bind fun t => if t = true then some false else impl_orderOk.l0 k (many : Int) ord ord (ord.length : Int) (wrap64 ((i : Int) + 1)) else none) b → Ev (fun k => impl_orderOk.l0 k (many : Int) ord ord (ord.length : Int) (i : Int)) b := by
      intro b hb
      refine Ev.step (fun k => impl_orderOk.l0.eq_2 ..) ?_
      exact Ev.pos (by omega) (Ev.pos (by omega) (Ev.pos (by omega) hb))
    by_cases c1 : rd ord (i : Int) < 0
    · exact ⟨false, step (Ev.pos c1 (Ev.one rfl)), ⟨(fun q => Bool.noConfusion q), fun q => by have := (q.2 i (by omega)).1; omega⟩⟩
    by_cases c2 : rd ord (i : Int) ≥ (many : Int)
    · exact ⟨false, step (Ev.neg c1 (Ev.pos c2 (Ev.one rfl))), ⟨(fun q => Bool.noConfusion q), fun q => by have := (q.2 i (by omega)).2.1; omega⟩⟩
    have htl : (ord.take i).length = i := by rw [List.length_take]; omega
    have htr : ∀ j : Nat, j < i → rd (ord.take i) (j : Int) = rd ord (j : Int) := by
      intro j hj
      rw [rd_at _ _ (by omega), rd_at _ _ (by omega)]; simp
    obtain ⟨b, hb, hb2⟩ := contains_ev (ord.take i) (by omega) (rd ord (i : Int))
    cases b with
    | true =>
      refine ⟨false, step (Ev.neg c1 (Ev.neg c2 (Ev.pos (by omega) (Ev.bind (by rw [Int.toNat_natCast]; exact hb) (Ev.pos rfl (Ev.one rfl)))))), ⟨(fun q => Bool.noConfusion q), fun q => ?_⟩⟩
      obtain ⟨j, hj, e⟩ := hb2.1 rfl
      rw [htr j (by omega)] at e
      exact absurd e ((q.2 i (by omega)).2.2 j (by omega))
    | false =>
      obtain ⟨r, hr, hr2⟩ := ih (i + 1) (by omega) (fun i' hi' => by
        by_cases e : i' = i
        · rw [e]
          refine ⟨by omega, by omega, fun j hj q => ?_⟩
          have := hb2.2 ⟨j, by omega, by rw [htr j hj]; exact q⟩
          cases this
        · exact h i' (by omega))
      refine ⟨r, step (Ev.neg c1 (Ev.neg c2 (Ev.pos (by omega) (Ev.bind (by rw [Int.toNat_natCast]; exact hb) (Ev.neg (by decide) ?_))))), hr2⟩
      rw [w64i i (by omega)]; exact hr
theorem iOrd_any (many : Nat) (ord : List Int) (hl : ord.length ≤ 35184372088832) : ∃ b, Ev (fun k => impl_orderOk.f k (many : Int) ord) b ∧ (b = true ↔ OrdP many ord) := by
  unfold impl_orderOk.f
  exact iOrd_l many ord hl ord.length 0 (by omega) (fun i' hi' => by omega)
theorem iOrd_yes {many : Nat} {ord : List Int} (hl : ord.length ≤ 35184372088832) (h : OrdP many ord) : Ev (fun k => impl_orderOk.f k (many : Int) ord) true := by
  obtain ⟨b, hb, hb2⟩ := iOrd_any many ord hl
  exact Ev.cast hb (hb2.2 h)
theorem iOrd_no {many : Nat} {ord : List Int} (hl : ord.length ≤ 35184372088832) (h : ¬ OrdP many ord) : Ev (fun k => impl_orderOk.f k (many : Int) ord) false := by
  obtain ⟨b, hb, hb2⟩ := iOrd_any many ord hl
  exact Ev.cast hb (by cases b with | false => rfl | true => exact absurd (hb2.1 rfl) h)
theorem sOrd_l (many : Nat) (h6 : many ≤ 6) (ord : List Int) (hl : ord.length ≤ 35184372088832) : ∀ (d i : Nat) (seen : Int), i + d = ord.length → (∀ i' : Nat, i' < i → 0 ≤ rd ord (i' : Int) ∧ rd ord (i' : Int) < many ∧ ∀ j : Nat, j < i' → rd ord (j : Int) ≠ rd ord (i' : Int)) →
    InS many seen → (∀ v : Nat, tb seen v = true ↔ ∃ j : Nat, j < i ∧ rd ord (j : Int) = (v : Int)) → ∃ b, Ev (fun k => spec_l1Order.l0 k (many : Int) ord seen (i : Int)) b ∧ (b = true ↔ OrdP many ord) := by
  intro d
  induction d with
  | zero =>
    intro i seen hd h hs hs2
    refine ⟨((ord.length : Int) == (many : Int)), ?_, ?_⟩
    · refine Ev.step (fun k => spec_l1Order.l0.eq_2 ..) ?_
      exact Ev.neg (by omega) (Ev.one rfl)
    · rw [beq_iff_eq]
      exact ⟨fun q => ⟨by omega, fun i' hi' => h i' (by omega)⟩, fun q => by rw [q.1]⟩
  | succ d ih =>
    intro i seen hd h hs hs2
    by_cases c1 : rd ord (i : Int) < 0
    · refine ⟨false, ?_, ⟨(fun q => Bool.noConfusion q), fun q => by have := (q.2 i (by omega)).1; omega⟩⟩
      refine Ev.step (fun k => spec_l1Order.l0.eq_2 ..) ?_
      exact Ev.pos (by omega) (Ev.pos (by omega) (Ev.pos c1 (Ev.one rfl)))
    by_cases c2 : rd ord (i : Int) ≥ (many : Int)
    · refine ⟨false, ?_, ⟨(fun q => Bool.noConfusion q), fun q => by have := (q.2 i (by omega)).2.1; omega⟩⟩
      refine Ev.step (fun k => spec_l1Order.l0.eq_2 ..) ?_
      exact Ev.pos (by omega) (Ev.pos (by omega) (Ev.neg c1 (Ev.pos c2 (Ev.one rfl))))
    obtain ⟨c, hc⟩ := Int.eq_ofNat_of_zero_le (show 0 ≤ rd ord (i : Int) by omega)
    rw [hc] at c1 c2
    cases q : tb seen c with
    | true =>
      refine ⟨false, ?_, ⟨(fun q => Bool.noConfusion q), fun z => ?_⟩⟩
      · refine Ev.step (fun k => spec_l1Order.l0.eq_2 ..) ?_
        rw [hc, stest _ c (by omega) hs.1]
        exact Ev.pos (by omega) (Ev.pos (by omega) (Ev.neg c1 (Ev.neg c2 (Ev.pos (by omega) (Ev.pos ((tb_iff _ _).1 q) (Ev.one rfl))))))
      · obtain ⟨j, hj, e⟩ := (hs2 c).1 q
        exact absurd (e.trans hc.symm) ((z.2 i (by omega)).2.2 j hj)
    | false =>
      have q1 := InS.one (n := many) (i := c) (by omega) (by omega)
      have o := InS.or (by omega) hs q1.1
      obtain ⟨r, hr, hr2⟩ := ih (i + 1) (Go.bits .or .i64 seen (shl .i64 1 (c : Int))) (by omega) (fun i' hi' => by
        by_cases e : i' = i
        · rw [e, hc]
          refine ⟨by omega, by omega, fun j hj z => ?_⟩
          rw [(hs2 c).2 ⟨j, hj, z⟩] at q; cases q
        · exact h i' (by omega)) o.1 (fun v => by
        rw [o.2, Bool.or_eq_true, hs2, q1.2, decide_eq_true_iff]
        constructor
        · rintro (⟨j, a, b⟩ | b)
          · exact ⟨j, by omega, b⟩
          · exact ⟨i, by omega, by rw [hc, b]⟩
        · rintro ⟨j, a, b⟩
          by_cases e : j = i
          · subst e; right; rw [hc] at b; omega
          · exact .inl ⟨j, by omega, b⟩)
      refine ⟨r, ?_, hr2⟩
      refine Ev.step (fun k => spec_l1Order.l0.eq_2 ..) ?_
      rw [hc, stest _ c (by omega) hs.1, w64i i (by omega)]
      exact Ev.pos (by omega) (Ev.pos (by omega) (Ev.neg c1 (Ev.neg c2 (Ev.pos (by omega) (Ev.neg (by rw [(tb_not _ _).1 q]; decide) hr)))))
theorem sOrd_any (many : Nat) (h6 : many ≤ 6) (ord : List Int) (hl : ord.length ≤ 35184372088832) : ∃ b, Ev (fun k => spec_l1Order.f k (many : Int) ord) b ∧ (b = true ↔ OrdP many ord) := by
  unfold spec_l1Order.f
  exact sOrd_l many h6 ord hl ord.length 0 0 (by omega) (fun i' hi' => by omega) (InS.zero _) (fun v => by rw [tb_zero]; exact ⟨(fun q => Bool.noConfusion q), fun ⟨j, a, _⟩ => by omega⟩)
theorem sOrd_yes {many : Nat} (h6 : many ≤ 6) {ord : List Int} (hl : ord.length ≤ 35184372088832) (h : OrdP many ord) : Ev (fun k => spec_l1Order.f k (many : Int) ord) true := by
  obtain ⟨b, hb, hb2⟩ := sOrd_any many h6 ord hl
  exact Ev.cast hb (hb2.2 h)
theorem sOrd_no {many : Nat} (h6 : many ≤ 6) {ord : List Int} (hl : ord.length ≤ 35184372088832) (h : ¬ OrdP many ord) : Ev (fun k => spec_l1Order.f k (many : Int) ord) false := by
  obtain ⟨b, hb, hb2⟩ := sOrd_any many h6 ord hl
  exact Ev.cast hb (by cases b with | false => rfl | true => exact absurd (hb2.1 rfl) h)
theorem iNamS_l {st ord : List Int} (h6 : st.length ≤ 6) (h : OrdP st.length ord) : ∀ (d i : Nat), i + d = st.length → Ev (fun k => impl_NamedState.l0 k ord (nmState st ord i) st (st.length : Int) (i : Int)) (nmS st ord, true) := by
  have hol := h.1
  intro d
  induction d with
  | zero =>
    intro i hd
    refine Ev.step (fun k => impl_NamedState.l0.eq_2 ..) ?_
    exact Ev.neg (by omega) (Ev.one (by rw [nmS, show i = st.length by omega]))
  | succ d ih =>
    intro i hd
    obtain ⟨c, hc, hc2⟩ := h.at (i := i) (by omega)
    refine Ev.step (fun k => impl_NamedState.l0.eq_2 ..) ?_
    rw [w64i i (by omega)]
    exact Ev.pos (by omega) (Ev.pos (by omega) (Ev.pos (by omega) (Ev.pos (by omega) (Ev.pos (by omega) (Ev.pos (by rw [nmState_len]; omega) (ih (i + 1) (by omega)))))))
theorem iNamS_yes {kinds : Int} {st ord : List Int} (hs : StP kinds st) (h : OrdP st.length ord) : Ev (fun k => impl_NamedState.f k kinds st ord) (nmS st ord, true) := by
  have h6 := hs.2.2.2.1
  unfold impl_NamedState.f
  refine Ev.bind (iStOk_yes hs) (Ev.pos rfl (Ev.bind (iOrd_yes (by rw [h.1]; omega) h) ?_))
  refine Ev.step (fun k => impl_NamedState.j0.eq_2 ..) ?_
  refine Ev.neg (by decide) (Ev.pos (by omega) (Ev.pos (by omega) ?_))
  rw [Int.toNat_natCast]
  exact iNamS_l h6 h st.length 0 (by omega)
theorem iNamS_no {kinds : Int} {st ord : List Int} (hl : st.length ≤ 35184372088832) (hl2 : ord.length ≤ 35184372088832) (h : ¬ (StP kinds st ∧ OrdP st.length ord)) : Ev (fun k => impl_NamedState.f k kinds st ord) ([], false) := by
  have hj : ∀ p : Bool, p = true → Ev (fun k => impl_NamedState.j0 k st ord p) ([], false) := by
    intro p hp
    refine Ev.step (fun k => impl_NamedState.j0.eq_2 ..) ?_
    exact Ev.pos hp (Ev.one rfl)
  unfold impl_NamedState.f
  by_cases hs : StP kinds st
  · exact Ev.bind (iStOk_yes hs) (Ev.pos rfl (Ev.bind (iOrd_no hl2 (fun q => h ⟨hs, q⟩)) (hj _ rfl)))
  · exact Ev.bind (iStOk_no hl hs) (Ev.neg (by decide) (hj _ rfl))
theorem sNamS_l {st ord : List Int} (h6 : st.length ≤ 6) (h : OrdP st.length ord) : ∀ (d i : Nat), i + d = st.length → Ev (fun k => spec_NamedState.l0 k st ord (nmState st ord i) (i : Int)) (nmS st ord, true) := by
  have hol := h.1
  intro d
  induction d with
  | zero =>
    intro i hd
    refine Ev.step (fun k => spec_NamedState.l0.eq_2 ..) ?_
    exact Ev.neg (by omega) (Ev.one (by rw [nmS, show i = st.length by omega]))
  | succ d ih =>
    intro i hd
    obtain ⟨c, hc, hc2⟩ := h.at (i := i) (by omega)
    refine Ev.step (fun k => spec_NamedState.l0.eq_2 ..) ?_
    rw [w64i i (by omega)]
    exact Ev.pos (by omega) (Ev.pos (by omega) (Ev.pos (by omega) (Ev.pos (by omega) (Ev.pos (by rw [nmState_len]; omega) (ih (i + 1) (by omega))))))
theorem sNamS_yes {kinds : Int} {st ord : List Int} (hs : StP kinds st) (h : OrdP st.length ord) : Ev (fun k => spec_NamedState.f k kinds st ord) (nmS st ord, true) := by
  have h6 := hs.2.2.2.1
  unfold spec_NamedState.f
  refine Ev.bind (sStOk_yes hs) (Ev.pos rfl (Ev.bind (sOrd_yes h6 (by rw [h.1]; omega) h) ?_))
  refine Ev.step (fun k => spec_NamedState.j0.eq_2 ..) ?_
  refine Ev.neg (by decide) (Ev.pos (by omega) (Ev.pos (by omega) ?_))
  rw [Int.toNat_natCast]
  exact sNamS_l h6 h st.length 0 (by omega)
theorem sNamS_no {kinds : Int} {st ord : List Int} (hl : st.length ≤ 35184372088832) (hl2 : ord.length ≤ 35184372088832) (h : ¬ (StP kinds st ∧ OrdP st.length ord)) : Ev (fun k => spec_NamedState.f k kinds st ord) ([], false) := by
  have hj : ∀ p : Bool, p = true → Ev (fun k => spec_NamedState.j0 k st ord p) ([], false) := by
    intro p hp
    refine Ev.step (fun k => spec_NamedState.j0.eq_2 ..) ?_
    exact Ev.pos hp (Ev.one rfl)
  unfold spec_NamedState.f
  by_cases hs : StP kinds st
  · exact Ev.bind (sStOk_yes hs) (Ev.pos rfl (Ev.bind (sOrd_no hs.2.2.2.1 hl2 (fun q => h ⟨hs, q⟩)) (hj _ rfl)))
  · exact Ev.bind (sStOk_no hl hs) (Ev.neg (by decide) (hj _ rfl))
end Go.Proofs.Ytjofekchopgfbac.CFnNamedState
