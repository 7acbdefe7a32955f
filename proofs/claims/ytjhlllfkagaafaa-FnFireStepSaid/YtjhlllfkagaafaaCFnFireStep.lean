/- What each function that the law FnFireStep calls comes to. -/
import Derived.Test.YtjhlllfkagaafaaPFnFireStepx9
import Derived.Test.YtjhlllfkagaafaaMath
namespace Go.Proofs.Ytjhlllfkagaafaa.CFnFireStep
open Go Go.RowKit Go.Proofs.Ytjhlllfkagaafaa.PFnFireStep Go.Proofs.YtjhlllfkagaafaaW.PrintWords Go.Proofs.YtjhlllfkagaafaaW.PrintLast Go.Proofs.Ytjhlllfkagaafaa.Pl

theorem sameInts_l (x y : List Int) (hl : x.length = y.length) (hx : x.length ≤ 35184372088832) : ∀ (d i : Nat), i + d = x.length → (∀ j : Nat, j < i → rd x (j : Int) = rd y (j : Int)) → Ev (fun k => laws_sameInts.l0 k x y (i : Int)) (decide (x = y)) := by
  intro d
  induction d with
  | zero =>
    intro i hd h
    refine Ev.step (fun k => laws_sameInts.l0.eq_2 ..) ?_
    exact Ev.neg (by omega) (Ev.one (congrArg some (decide_eq_true (rd_ext hl fun j hj => h j (by omega))).symm))
  | succ d ih =>
    intro i hd h
    refine Ev.step (fun k => laws_sameInts.l0.eq_2 ..) ?_
    refine Ev.pos (by omega) (Ev.pos (by omega) (Ev.pos (by omega) ?_))
    by_cases e : rd x (i : Int) = rd y (i : Int)
    · refine Ev.pos e ?_
      rw [w64i i (by omega)]
      refine ih (i + 1) (by omega) (fun j hj => ?_)
      by_cases e2 : j = i
      · rw [e2]; exact e
      · exact h j (by omega)
    · exact Ev.neg e (Ev.one (congrArg some (decide_eq_false (fun q => e (by rw [q]))).symm))
theorem sameInts_ev (x y : List Int) (hx : x.length ≤ 35184372088832) : Ev (fun k => laws_sameInts.f k x y) (decide (x = y)) := by
  unfold laws_sameInts.f
  by_cases hl : x.length = y.length
  · refine Ev.pos (by omega) ?_
    exact sameInts_l x y hl hx x.length 0 (by omega) (fun j hj => by omega)
  · exact Ev.neg (by omega) (Ev.one (congrArg some (decide_eq_false (fun q => hl (by rw [q]))).symm))
theorem l1In_ev (a b c : Int) : Ev (fun _ => spec_l1In.f a b c) (decide (b ≤ a ∧ a ≤ c)) := by
  refine Ev.one ?_
  unfold spec_l1In.f
  by_cases h : a ≥ b
  · rw [if_pos h]; simp [show b ≤ a from h]
  · rw [if_neg h]; simp [show ¬ b ≤ a from h]
theorem iNetOk_l1 (net : List Int) (hn : net.length ≤ 6) (i : Nat) (hi : i < net.length) (c : Bool) (hc : Ev (fun k => impl_NetOk.l0 k net net (net.length : Int) ((i + 1 : Nat) : Int)) c) :
    ∀ d j : Nat, j + d = net.length → ∃ b, Ev (fun k => impl_NetOk.l1 k net (i : Int) (rd net (i : Int)) net (net.length : Int) (i : Int) (net.length : Int) (j : Int)) b ∧
      (b = true ↔ (∀ j' : Nat, j ≤ j' → j' < net.length → rd net (i : Int) / 2 ^ j' % 2 = rd net (j' : Int) / 2 ^ i % 2) ∧ c = true) := by
  intro d
  induction d with
  | zero =>
    intro j hd
    refine ⟨c, ?_, ?_⟩
    · refine Ev.step (fun k => impl_NetOk.l1.eq_2 ..) ?_
      refine Ev.neg (by omega) ?_
      rw [w64i i (by omega)]; exact hc
    · constructor
      · intro h; exact ⟨fun j' h1 h2 => by omega, h⟩
      · exact fun h => h.2
  | succ d ih =>
    intro j hd
    obtain ⟨b, hb, hb2⟩ := ih (j + 1) (by omega)
    by_cases e : rd net (i : Int) / 2 ^ j % 2 = rd net (j : Int) / 2 ^ i % 2
    · refine ⟨b, ?_, hb2.trans ⟨fun h => ⟨fun j' h1 h2 => ?_, h.2⟩, fun h => ⟨fun j' h1 h2 => h.1 j' (by omega) h2, h.2⟩⟩⟩
      · refine Ev.step (fun k => impl_NetOk.l1.eq_2 ..) ?_
        rw [itest _ j (by omega), itest _ i (by omega)]
        refine Ev.pos (by omega) (Ev.pos (by omega) (Ev.pos (by omega) (Ev.pos (by omega) (Ev.pos e ?_))))
        rw [w64i j (by omega)]; exact hb
      · by_cases q : j' = j
        · rw [q]; exact e
        · exact h.1 j' (by omega) h2
    · refine ⟨false, ?_, ⟨(fun h => Bool.noConfusion h), fun h => absurd (h.1 j (by omega) (by omega)) e⟩⟩
      refine Ev.step (fun k => impl_NetOk.l1.eq_2 ..) ?_
      rw [itest _ j (by omega), itest _ i (by omega)]
      exact Ev.pos (by omega) (Ev.pos (by omega) (Ev.pos (by omega) (Ev.pos (by omega) (Ev.neg e (Ev.one rfl)))))
theorem iNetOk_l0 (net : List Int) (hn : net.length ≤ 6) : ∀ d i : Nat, i + d = net.length → ∃ b, Ev (fun k => impl_NetOk.l0 k net net (net.length : Int) (i : Int)) b ∧ (b = true ↔ ∀ i' : Nat, i ≤ i' → i' < net.length → RowP net i') := by
  intro d
  induction d with
  | zero =>
    intro i hd
    refine ⟨true, ?_, ⟨fun _ i' h1 h2 => by omega, fun _ => rfl⟩⟩
    refine Ev.step (fun k => impl_NetOk.l0.eq_2 ..) ?_
    exact Ev.neg (by omega) (Ev.one rfl)
  | succ d ih =>
    intro i hd
    obtain ⟨c, hc, hc2⟩ := ih (i + 1) (by omega)
    obtain ⟨b, hb, hb2⟩ := iNetOk_l1 net hn i (by omega) c hc net.length 0 (by omega)
    have hbad : ∀ p : Bool, p = true → Ev (fun k => impl_NetOk.j2 k net (i : Int) (rd net (i : Int)) net (net.length : Int) (i : Int) p) false := by
      intro p hp
      refine Ev.step (fun k => impl_NetOk.j2.eq_2 ..) ?_
      exact Ev.pos hp (Ev.one rfl)
    have hgood : ∀ p : Bool, p = false → Ev (fun k => impl_NetOk.j2 k net (i : Int) (rd net (i : Int)) net (net.length : Int) (i : Int) p) b := by
      intro p hp
      refine Ev.step (fun k => impl_NetOk.j2.eq_2 ..) ?_
      exact Ev.neg (by simp [hp]) hb
    have hpow : shl .i64 1 (net.length : Int) = ((2 ^ net.length : Nat) : Int) := shl_one _ (by omega)
    by_cases h0 : rd net (i : Int) < 0
    · refine ⟨false, ?_, ⟨(fun h => Bool.noConfusion h), fun h => absurd (h i (by omega) (by omega)).1.1 (by omega)⟩⟩
      refine Ev.step (fun k => impl_NetOk.l0.eq_2 ..) ?_
      exact Ev.pos (by omega) (Ev.pos (by omega) (Ev.pos (by omega) (Ev.pos h0 (hbad true rfl))))
    · by_cases h1 : rd net (i : Int) ≥ ((2 ^ net.length : Nat) : Int)
      · refine ⟨false, ?_, ⟨(fun h => Bool.noConfusion h), fun h => absurd (h i (by omega) (by omega)).1.2 (by push_cast at h1; omega)⟩⟩
        refine Ev.step (fun k => impl_NetOk.l0.eq_2 ..) ?_
        rw [hpow]
        exact Ev.pos (by omega) (Ev.pos (by omega) (Ev.pos (by omega) (Ev.neg h0 (Ev.pos h1 (hbad true rfl)))))
      · by_cases h2 : rd net (i : Int) / 2 ^ i % 2 = 1
        · refine ⟨false, ?_, ⟨(fun h => Bool.noConfusion h), fun h => absurd (h i (by omega) (by omega)).2.1 (by omega)⟩⟩
          refine Ev.step (fun k => impl_NetOk.l0.eq_2 ..) ?_
          rw [hpow, itest _ i (by omega)]
          exact Ev.pos (by omega) (Ev.pos (by omega) (Ev.pos (by omega) (Ev.neg h0 (Ev.neg h1 (hbad _ (by rw [h2]; rfl))))))
        · refine ⟨b, ?_, ?_⟩
          · refine Ev.step (fun k => impl_NetOk.l0.eq_2 ..) ?_
            rw [hpow, itest _ i (by omega)]
            exact Ev.pos (by omega) (Ev.pos (by omega) (Ev.pos (by omega) (Ev.neg h0 (Ev.neg h1 (hgood _ (by simpa using h2))))))
          · rw [hb2, hc2]
            constructor
            · rintro ⟨g1, g2⟩ i' q1 q2
              by_cases q : i' = i
              · subst q
                exact ⟨⟨by omega, by push_cast at h1; omega⟩, by omega, fun j hj => g1 j (by omega) hj⟩
              · exact g2 i' (by omega) q2
            · intro g
              exact ⟨fun j' _ q2 => (g i (by omega) (by omega)).2.2 j' q2, fun i' q1 q2 => g i' (by omega) q2⟩
theorem iNetOk_any (net : List Int) : ∃ b, Ev (fun k => impl_NetOk.f k net) b ∧ (b = true ↔ NetP net) := by
  have hj : ∀ p : Bool, p = true → Ev (fun k => impl_NetOk.j0 k net p) false := by
    intro p hp
    refine Ev.step (fun k => impl_NetOk.j0.eq_2 ..) ?_
    exact Ev.pos hp (Ev.one rfl)
  by_cases h1 : net.length < 1
  · refine ⟨false, ?_, ⟨(fun h => Bool.noConfusion h), fun h => absurd h.1 (by omega)⟩⟩
    unfold impl_NetOk.f
    exact Ev.pos (by omega) (hj true rfl)
  · by_cases h2 : net.length > 6
    · refine ⟨false, ?_, ⟨(fun h => Bool.noConfusion h), fun h => absurd h.2.1 (by omega)⟩⟩
      unfold impl_NetOk.f
      exact Ev.neg (by omega) (hj _ (by simp; omega))
    · obtain ⟨b, hb, hb2⟩ := iNetOk_l0 net (by omega) net.length 0 (by omega)
      refine ⟨b, ?_, hb2.trans ⟨fun h => ⟨by omega, by omega, fun i hi => h i (by omega) hi⟩, fun h i _ hi => h.2.2 i hi⟩⟩
      unfold impl_NetOk.f
      refine Ev.neg (by omega) ?_
      refine Ev.step (fun k => impl_NetOk.j0.eq_2 ..) ?_
      exact Ev.neg (by simp; omega) hb
theorem iNetOk_yes {net : List Int} (h : NetP net) : Ev (fun k => impl_NetOk.f k net) true := by
  obtain ⟨b, hb, hb2⟩ := iNetOk_any net
  exact Ev.cast hb (hb2.2 h)
theorem iNetOk_no {net : List Int} (h : ¬ NetP net) : Ev (fun k => impl_NetOk.f k net) false := by
  obtain ⟨b, hb, hb2⟩ := iNetOk_any net
  exact Ev.cast hb (by cases b with | false => rfl | true => exact absurd (hb2.1 rfl) h)
theorem sNetOk_l2 (net : List Int) (hn : net.length ≤ 6) (hin : ∀ i : Nat, i < net.length → InS net.length (rd net (i : Int))) (i : Nat) (hi : i < net.length) (c : Bool) (hc : Ev (fun k => spec_NetOk.l1 k net ((i + 1 : Nat) : Int)) c) :
    ∀ d j : Nat, j + d = net.length → ∃ b, Ev (fun k => spec_NetOk.l2 k net (i : Int) (j : Int)) b ∧
      (b = true ↔ (∀ j' : Nat, j ≤ j' → j' < net.length → rd net (i : Int) / 2 ^ j' % 2 = rd net (j' : Int) / 2 ^ i % 2 ∧ (j' = i → rd net (i : Int) / 2 ^ i % 2 = 0)) ∧ c = true) := by
  intro d
  induction d with
  | zero =>
    intro j hd
    refine ⟨c, ?_, ?_⟩
    · refine Ev.step (fun k => spec_NetOk.l2.eq_2 ..) ?_
      refine Ev.neg (by omega) ?_
      rw [w64i i (by omega)]; exact hc
    · constructor
      · intro h; exact ⟨fun j' h1 h2 => by omega, h⟩
      · exact fun h => h.2
  | succ d ih =>
    intro j hd
    obtain ⟨b, hb, hb2⟩ := ih (j + 1) (by omega)
    have hstep : Ev (fun k => spec_NetOk.l2 k net (i : Int) ((j + 1 : Nat) : Int)) b := hb
    by_cases e : rd net (i : Int) / 2 ^ j % 2 = rd net (j : Int) / 2 ^ i % 2
    · by_cases e2 : j = i ∧ rd net (i : Int) / 2 ^ j % 2 = 1
      · refine ⟨false, ?_, ⟨(fun h => Bool.noConfusion h), fun h => ?_⟩⟩
        · refine Ev.step (fun k => spec_NetOk.l2.eq_2 ..) ?_
          rw [stest _ j (by omega) (hin i hi).1, stest _ i (by omega) (hin j (by omega)).1]
          exact Ev.pos (by omega) (Ev.pos (by omega) (Ev.pos (by omega) (Ev.pos (by omega) (Ev.pos e (Ev.pos (by omega) (Ev.pos e2.2 (Ev.one rfl)))))))
        · have := (h.1 j (by omega) (by omega)).2 e2.1
          have q := e2.2
          rw [e2.1] at q
          omega
      · refine ⟨b, ?_, hb2.trans ⟨fun h => ⟨fun j' h1 h2 => ?_, h.2⟩, fun h => ⟨fun j' h1 h2 => h.1 j' (by omega) h2, h.2⟩⟩⟩
        · refine Ev.step (fun k => spec_NetOk.l2.eq_2 ..) ?_
          rw [stest _ j (by omega) (hin i hi).1, stest _ i (by omega) (hin j (by omega)).1]
          refine Ev.pos (by omega) (Ev.pos (by omega) (Ev.pos (by omega) (Ev.pos (by omega) (Ev.pos e ?_))))
          rw [w64i j (by omega)]
          by_cases q : j = i
          · exact Ev.pos (by omega) (Ev.neg (fun z => e2 ⟨q, z⟩) hstep)
          · exact Ev.neg (by omega) hstep
        · by_cases q : j' = j
          · subst q
            refine ⟨e, fun z => ?_⟩
            have : ¬ rd net (i : Int) / 2 ^ j' % 2 = 1 := fun w => e2 ⟨z, w⟩
            rw [← z]; rw [← z] at this; omega
          · exact h.1 j' (by omega) h2
    · refine ⟨false, ?_, ⟨(fun h => Bool.noConfusion h), fun h => absurd (h.1 j (by omega) (by omega)).1 e⟩⟩
      refine Ev.step (fun k => spec_NetOk.l2.eq_2 ..) ?_
      rw [stest _ j (by omega) (hin i hi).1, stest _ i (by omega) (hin j (by omega)).1]
      exact Ev.pos (by omega) (Ev.pos (by omega) (Ev.pos (by omega) (Ev.pos (by omega) (Ev.neg e (Ev.one rfl)))))
theorem sNetOk_l1 (net : List Int) (hn : net.length ≤ 6) (hin : ∀ i : Nat, i < net.length → InS net.length (rd net (i : Int))) : ∀ d i : Nat, i + d = net.length → ∃ b, Ev (fun k => spec_NetOk.l1 k net (i : Int)) b ∧ (b = true ↔ ∀ i' : Nat, i ≤ i' → i' < net.length → RowP net i') := by
  intro d
  induction d with
  | zero =>
    intro i hd
    refine ⟨true, ?_, ⟨fun _ i' h1 h2 => by omega, fun _ => rfl⟩⟩
    refine Ev.step (fun k => spec_NetOk.l1.eq_2 ..) ?_
    exact Ev.neg (by omega) (Ev.one rfl)
  | succ d ih =>
    intro i hd
    obtain ⟨c, hc, hc2⟩ := ih (i + 1) (by omega)
    obtain ⟨b, hb, hb2⟩ := sNetOk_l2 net hn hin i (by omega) c hc net.length 0 (by omega)
    refine ⟨b, ?_, ?_⟩
    · refine Ev.step (fun k => spec_NetOk.l1.eq_2 ..) ?_
      exact Ev.pos (by omega) hb
    · rw [hb2, hc2]
      constructor
      · rintro ⟨g1, g2⟩ i' q1 q2
        by_cases q : i' = i
        · subst q
          exact ⟨hin _ q2, (g1 i' (by omega) q2).2 rfl, fun j hj => (g1 j (by omega) hj).1⟩
        · exact g2 i' (by omega) q2
      · intro g
        exact ⟨fun j' _ q2 => ⟨(g i (by omega) (by omega)).2.2 j' q2, fun _ => (g i (by omega) (by omega)).2.1⟩, fun i' q1 q2 => g i' (by omega) q2⟩
theorem sNetOk_l0 (net : List Int) (hn : net.length ≤ 6) : ∀ d i : Nat, i + d = net.length → (∀ i' : Nat, i' < i → InS net.length (rd net (i' : Int))) → ∃ b, Ev (fun k => spec_NetOk.l0 k net (i : Int)) b ∧ (b = true ↔ ∀ i' : Nat, i' < net.length → RowP net i') := by
  intro d
  induction d with
  | zero =>
    intro i hd hin
    obtain ⟨b, hb, hb2⟩ := sNetOk_l1 net hn (fun i' hi' => hin i' (by omega)) net.length 0 (by omega)
    refine ⟨b, ?_, hb2.trans ⟨fun h i' hi' => h i' (by omega) hi', fun h i' _ hi' => h i' hi'⟩⟩
    refine Ev.step (fun k => spec_NetOk.l0.eq_2 ..) ?_
    exact Ev.neg (by omega) hb
  | succ d ih =>
    intro i hd hin
    have hpow : wrap64 (shl .i64 1 (net.length : Int) - 1) = ((2 ^ net.length : Nat) : Int) - 1 := by
      have : (2 : Nat) ^ net.length ≤ 2 ^ 6 := Nat.pow_le_pow_right (by omega) hn
      have : (0 : Nat) < 2 ^ net.length := Nat.two_pow_pos _
      rw [shl_one _ (by omega), w64 (by omega) (by omega)]
    by_cases q : 0 ≤ rd net (i : Int) ∧ rd net (i : Int) ≤ ((2 ^ net.length : Nat) : Int) - 1
    · have hin' : ∀ i' : Nat, i' < i + 1 → InS net.length (rd net (i' : Int)) := by
        intro i' hi'
        by_cases e : i' = i
        · rw [e]; exact ⟨q.1, by have := q.2; push_cast at this; omega⟩
        · exact hin i' (by omega)
      obtain ⟨b, hb, hb2⟩ := ih (i + 1) (by omega) hin'
      refine ⟨b, ?_, hb2⟩
      refine Ev.step (fun k => spec_NetOk.l0.eq_2 ..) ?_
      rw [hpow]
      refine Ev.pos (by omega) (Ev.pos (by omega) (Ev.bind (l1In_ev _ _ _) (Ev.pos (decide_eq_true q) ?_)))
      rw [w64i i (by omega)]; exact hb
    · refine ⟨false, ?_, ⟨(fun h => Bool.noConfusion h), fun h => ?_⟩⟩
      · refine Ev.step (fun k => spec_NetOk.l0.eq_2 ..) ?_
        rw [hpow]
        exact Ev.pos (by omega) (Ev.pos (by omega) (Ev.bind (l1In_ev _ _ _) (Ev.neg (by rw [decide_eq_false q]; decide) (Ev.one rfl))))
      · have := (h i (by omega)).1
        exact absurd ⟨this.1, by have := this.2; push_cast; omega⟩ q
theorem sNetOk_any (net : List Int) : ∃ b, Ev (fun k => spec_NetOk.f k net) b ∧ (b = true ↔ NetP net) := by
  by_cases h : (1 : Int) ≤ (net.length : Int) ∧ (net.length : Int) ≤ 6
  · obtain ⟨b, hb, hb2⟩ := sNetOk_l0 net (by omega) net.length 0 (by omega) (fun i' hi' => by omega)
    refine ⟨b, ?_, hb2.trans ⟨fun g => ⟨by omega, by omega, g⟩, fun g => g.2.2⟩⟩
    unfold spec_NetOk.f
    exact Ev.bind (l1In_ev _ _ _) (Ev.pos (decide_eq_true h) hb)
  · refine ⟨false, ?_, ⟨(fun h => Bool.noConfusion h), fun g => absurd ⟨by have := g.1; omega, by have := g.2.1; omega⟩ h⟩⟩
    unfold spec_NetOk.f
    exact Ev.bind (l1In_ev _ _ _) (Ev.neg (by rw [decide_eq_false h]; decide) (Ev.one rfl))
theorem sNetOk_yes {net : List Int} (h : NetP net) : Ev (fun k => spec_NetOk.f k net) true := by
  obtain ⟨b, hb, hb2⟩ := sNetOk_any net
  exact Ev.cast hb (hb2.2 h)
theorem sNetOk_no {net : List Int} (h : ¬ NetP net) : Ev (fun k => spec_NetOk.f k net) false := by
  obtain ⟨b, hb, hb2⟩ := sNetOk_any net
  exact Ev.cast hb (by cases b with | false => rfl | true => exact absurd (hb2.1 rfl) h)
theorem pow_less {n : Nat} (h6 : n ≤ 6) : wrap64 (shl .i64 1 (n : Int) - 1) = ((2 ^ n : Nat) : Int) - 1 := by
  have : (2 : Nat) ^ n ≤ 2 ^ 6 := Nat.pow_le_pow_right (by omega) h6
  have : (0 : Nat) < 2 ^ n := Nat.two_pow_pos _
  rw [shl_one _ (by omega), w64 (by omega) (by omega)]
theorem inSet_yes {n : Nat} (h6 : n ≤ 6) {set : Int} (hs : InS n set) : Ev (fun _ => spec_l1In.f set 0 (wrap64 (shl .i64 1 (n : Int) - 1))) true := by
  rw [pow_less h6]
  exact Ev.cast (l1In_ev _ _ _) (decide_eq_true ⟨hs.1, by have := hs.2; push_cast; omega⟩)
theorem inSet_no {n : Nat} (h6 : n ≤ 6) {set : Int} (hs : ¬ InS n set) : Ev (fun _ => spec_l1In.f set 0 (wrap64 (shl .i64 1 (n : Int) - 1))) false := by
  rw [pow_less h6]
  exact Ev.cast (l1In_ev _ _ _) (decide_eq_false fun q => hs ⟨q.1, by have := q.2; push_cast at this; omega⟩)
theorem iStOk_l (kinds : Int) (st : List Int) (hl : st.length ≤ 35184372088832) : ∀ d i : Nat, i + d = st.length → (∀ i' : Nat, i' < i → 0 ≤ rd st (i' : Int) ∧ rd st (i' : Int) < kinds) → ∃ b, Ev (fun k => impl_StateOk.l0 k kinds st st (st.length : Int) (i : Int)) b ∧ (b = true ↔ StP kinds st) := by
  intro d
  induction d with
  | zero =>
    intro i hd h
    have hall : ∀ i' : Nat, i' < st.length → 0 ≤ rd st (i' : Int) ∧ rd st (i' : Int) < kinds := fun i' hi' => h i' (by omega)
    by_cases c1 : kinds ≥ 3
    · by_cases c2 : kinds ≤ 5
      · by_cases c3 : (st.length : Int) ≥ 1
        · refine ⟨decide ((st.length : Int) ≤ 6), ?_, ?_⟩
          · refine Ev.step (fun k => impl_StateOk.l0.eq_2 ..) ?_
            exact Ev.neg (by omega) (Ev.pos c1 (Ev.pos c2 (Ev.pos c3 (Ev.one rfl))))
          · rw [decide_eq_true_iff]
            exact ⟨fun q => ⟨c1, c2, by omega, by omega, hall⟩, fun q => by have := q.2.2.2.1; omega⟩
        · refine ⟨false, ?_, ⟨(fun q => Bool.noConfusion q), fun q => by have := q.2.2.1; omega⟩⟩
          refine Ev.step (fun k => impl_StateOk.l0.eq_2 ..) ?_
          exact Ev.neg (by omega) (Ev.pos c1 (Ev.pos c2 (Ev.neg c3 (Ev.one rfl))))
      · refine ⟨false, ?_, ⟨(fun q => Bool.noConfusion q), fun q => by have := q.2.1; omega⟩⟩
        refine Ev.step (fun k => impl_StateOk.l0.eq_2 ..) ?_
        exact Ev.neg (by omega) (Ev.pos c1 (Ev.neg c2 (Ev.one rfl)))
    · refine ⟨false, ?_, ⟨(fun q => Bool.noConfusion q), fun q => by have := q.1; omega⟩⟩
      refine Ev.step (fun k => impl_StateOk.l0.eq_2 ..) ?_
      exact Ev.neg (by omega) (Ev.neg c1 (Ev.one rfl))
  | succ d ih =>
    intro i hd h
    by_cases c1 : rd st (i : Int) < 0
    · refine ⟨false, ?_, ⟨(fun q => Bool.noConfusion q), fun q => by have := (q.2.2.2.2 i (by omega)).1; omega⟩⟩
      refine Ev.step (fun k => impl_StateOk.l0.eq_2 ..) ?_
      exact Ev.pos (by omega) (Ev.pos (by omega) (Ev.pos (by omega) (Ev.pos c1 (Ev.one rfl))))
    · by_cases c2 : rd st (i : Int) ≥ kinds
      · refine ⟨false, ?_, ⟨(fun q => Bool.noConfusion q), fun q => by have := (q.2.2.2.2 i (by omega)).2; omega⟩⟩
        refine Ev.step (fun k => impl_StateOk.l0.eq_2 ..) ?_
        exact Ev.pos (by omega) (Ev.pos (by omega) (Ev.pos (by omega) (Ev.neg c1 (Ev.pos c2 (Ev.one rfl)))))
      · obtain ⟨b, hb, hb2⟩ := ih (i + 1) (by omega) (fun i' hi' => by
          by_cases e : i' = i
          · rw [e]; omega
          · exact h i' (by omega))
        refine ⟨b, ?_, hb2⟩
        refine Ev.step (fun k => impl_StateOk.l0.eq_2 ..) ?_
        rw [w64i i (by omega)]
        exact Ev.pos (by omega) (Ev.pos (by omega) (Ev.pos (by omega) (Ev.neg c1 (Ev.neg c2 hb))))
theorem iStOk_any (kinds : Int) (st : List Int) (hl : st.length ≤ 35184372088832) : ∃ b, Ev (fun k => impl_StateOk.f k kinds st) b ∧ (b = true ↔ StP kinds st) := by
  unfold impl_StateOk.f
  exact iStOk_l kinds st hl st.length 0 (by omega) (fun i' hi' => by omega)
theorem iStOk_yes {kinds : Int} {st : List Int} (h : StP kinds st) : Ev (fun k => impl_StateOk.f k kinds st) true := by
  obtain ⟨b, hb, hb2⟩ := iStOk_any kinds st (by have := h.2.2.2.1; omega)
  exact Ev.cast hb (hb2.2 h)
theorem iStOk_no {kinds : Int} {st : List Int} (hl : st.length ≤ 35184372088832) (h : ¬ StP kinds st) : Ev (fun k => impl_StateOk.f k kinds st) false := by
  obtain ⟨b, hb, hb2⟩ := iStOk_any kinds st hl
  exact Ev.cast hb (by cases b with | false => rfl | true => exact absurd (hb2.1 rfl) h)
theorem sStOk_l (kinds : Int) (st : List Int) (hl : st.length ≤ 35184372088832) : ∀ d i : Nat, i + d = st.length → (∀ i' : Nat, i' < i → 0 ≤ rd st (i' : Int) ∧ rd st (i' : Int) < kinds) → ∃ b, Ev (fun k => spec_StateOk.l0 k kinds st (i : Int)) b ∧ (b = true ↔ StP kinds st) := by
  intro d
  induction d with
  | zero =>
    intro i hd h
    have hall : ∀ i' : Nat, i' < st.length → 0 ≤ rd st (i' : Int) ∧ rd st (i' : Int) < kinds := fun i' hi' => h i' (by omega)
    by_cases c1 : 3 ≤ kinds ∧ kinds ≤ 5
    · refine ⟨decide ((1 : Int) ≤ (st.length : Int) ∧ (st.length : Int) ≤ 6), ?_, ?_⟩
      · refine Ev.step (fun k => spec_StateOk.l0.eq_2 ..) ?_
        exact Ev.neg (by omega) (Ev.bind (l1In_ev _ _ _) (Ev.pos (decide_eq_true c1) (Ev.bind (l1In_ev _ _ _) (Ev.now _))))
      · rw [decide_eq_true_iff]
        exact ⟨fun q => ⟨c1.1, c1.2, by omega, by omega, hall⟩, fun q => ⟨by have := q.2.2.1; omega, by have := q.2.2.2.1; omega⟩⟩
    · refine ⟨false, ?_, ⟨(fun q => Bool.noConfusion q), fun q => absurd ⟨q.1, q.2.1⟩ c1⟩⟩
      refine Ev.step (fun k => spec_StateOk.l0.eq_2 ..) ?_
      exact Ev.neg (by omega) (Ev.bind (l1In_ev _ _ _) (Ev.neg (by rw [decide_eq_false c1]; decide) (Ev.one rfl)))
  | succ d ih =>
    intro i hd h
    by_cases c1 : rd st (i : Int) < 0
    · refine ⟨false, ?_, ⟨(fun q => Bool.noConfusion q), fun q => by have := (q.2.2.2.2 i (by omega)).1; omega⟩⟩
      refine Ev.step (fun k => spec_StateOk.l0.eq_2 ..) ?_
      exact Ev.pos (by omega) (Ev.pos (by omega) (Ev.pos c1 (Ev.one rfl)))
    · by_cases c2 : rd st (i : Int) ≥ kinds
      · refine ⟨false, ?_, ⟨(fun q => Bool.noConfusion q), fun q => by have := (q.2.2.2.2 i (by omega)).2; omega⟩⟩
        refine Ev.step (fun k => spec_StateOk.l0.eq_2 ..) ?_
        exact Ev.pos (by omega) (Ev.pos (by omega) (Ev.neg c1 (Ev.pos c2 (Ev.one rfl))))
      · obtain ⟨b, hb, hb2⟩ := ih (i + 1) (by omega) (fun i' hi' => by
          by_cases e : i' = i
          · rw [e]; omega
          · exact h i' (by omega))
        refine ⟨b, ?_, hb2⟩
        refine Ev.step (fun k => spec_StateOk.l0.eq_2 ..) ?_
        rw [w64i i (by omega)]
        exact Ev.pos (by omega) (Ev.pos (by omega) (Ev.neg c1 (Ev.neg c2 hb)))
theorem sStOk_any (kinds : Int) (st : List Int) (hl : st.length ≤ 35184372088832) : ∃ b, Ev (fun k => spec_StateOk.f k kinds st) b ∧ (b = true ↔ StP kinds st) := by
  unfold spec_StateOk.f
  exact sStOk_l kinds st hl st.length 0 (by omega) (fun i' hi' => by omega)
theorem sStOk_yes {kinds : Int} {st : List Int} (h : StP kinds st) : Ev (fun k => spec_StateOk.f k kinds st) true := by
  obtain ⟨b, hb, hb2⟩ := sStOk_any kinds st (by have := h.2.2.2.1; omega)
  exact Ev.cast hb (hb2.2 h)
theorem sStOk_no {kinds : Int} {st : List Int} (hl : st.length ≤ 35184372088832) (h : ¬ StP kinds st) : Ev (fun k => spec_StateOk.f k kinds st) false := by
  obtain ⟨b, hb, hb2⟩ := sStOk_any kinds st hl
  exact Ev.cast hb (by cases b with | false => rfl | true => exact absurd (hb2.1 rfl) h)
theorem pick_ev {b : List Int} (hb : Byt b) {p : Nat} (hp : p ≤ 100000) (n : Int) : ∃ v, Ev (fun k => spec_l20Rd_pick.f k b (p : Int) n) (v, ((p + 1 : Nat) : Int)) ∧ 0 ≤ v ∧ (1 ≤ n → v < n) := by
  have hw1 : wrap64 (((p + 1 : Nat) : Int) - 1) = (p : Int) := by rw [w64 (by omega) (by omega)]; omega
  have hl := hb.1
  by_cases h1 : n < 1
  · refine ⟨0, ?_, by omega, fun _ => by omega⟩
    unfold spec_l20Rd_pick.f
    rw [w64i p (by omega)]
    refine Ev.pos h1 ?_
    refine Ev.step (fun k => spec_l20Rd_pick.j0.eq_2 ..) ?_
    exact Ev.pos rfl (Ev.one rfl)
  · by_cases h0 : b.length = 0
    · refine ⟨0, ?_, by omega, fun _ => by omega⟩
      unfold spec_l20Rd_pick.f
      rw [w64i p (by omega)]
      refine Ev.neg h1 ?_
      refine Ev.step (fun k => spec_l20Rd_pick.j0.eq_2 ..) ?_
      exact Ev.pos (by simp [h0]) (Ev.one rfl)
    · have hz : ¬ (((b.length : Int) == 0) = true) := by rw [beq_iff_eq]; omega
      by_cases hlt : (p : Int) < (b.length : Int)
      · have hr := byt_rd hb (p : Int)
        refine ⟨Int.tmod (rd b (p : Int)) n, ?_, Int.tmod_nonneg _ hr.1, fun h => Int.tmod_lt_of_pos _ (by omega)⟩
        unfold spec_l20Rd_pick.f
        rw [w64i p (by omega)]
        refine Ev.neg h1 ?_
        refine Ev.step (fun k => spec_l20Rd_pick.j0.eq_2 ..) ?_
        rw [hw1]
        refine Ev.neg hz (Ev.pos hlt (Ev.pos (by omega) (Ev.neg (by omega) (Ev.one ?_))))
        rw [w64 (x := rd b (p : Int)) (by omega) (by omega)]
      · have hw2 : wrap64 (wrap64 ((p : Int) * 7) + 3) = (p : Int) * 7 + 3 := by simp (disch := omega) only [w64]
        have t1 : 0 ≤ Int.tmod (p : Int) (b.length : Int) := Int.tmod_nonneg _ (by omega)
        have t2 : Int.tmod (p : Int) (b.length : Int) < (b.length : Int) := Int.tmod_lt_of_pos _ (by omega)
        have t3 : 0 ≤ Int.tmod ((p : Int) * 7 + 3) (b.length : Int) := Int.tmod_nonneg _ (by omega)
        have t4 : Int.tmod ((p : Int) * 7 + 3) (b.length : Int) < (b.length : Int) := Int.tmod_lt_of_pos _ (by omega)
        have d1 : 0 ≤ Int.tdiv (p : Int) (b.length : Int) := Int.tdiv_nonneg (by omega) (by omega)
        have d2 : Int.tdiv (p : Int) (b.length : Int) ≤ (p : Int) := by
          rw [Int.tdiv_eq_ediv_of_nonneg (by omega)]; exact Int.ediv_le_self _ (by omega)
        refine ⟨_, ?_, mix_mod n (byt_rd hb (Int.tmod (p : Int) (b.length : Int))) (byt_rd hb (Int.tmod ((p : Int) * 7 + 3) (b.length : Int))) (p := (p : Int)) ⟨by omega, by omega⟩ (t := Int.tdiv (p : Int) (b.length : Int)) ⟨d1, by omega⟩, fun h => Int.tmod_lt_of_pos _ (by omega)⟩
        unfold spec_l20Rd_pick.f
        rw [w64i p (by omega)]
        refine Ev.neg h1 ?_
        refine Ev.step (fun k => spec_l20Rd_pick.j0.eq_2 ..) ?_
        rw [hw1, hw2]
        exact Ev.neg hz (Ev.neg hlt (Ev.neg (by omega) (Ev.pos t1 (Ev.pos t2 (Ev.pos t3 (Ev.pos t4 (Ev.neg (by omega) (Ev.one rfl))))))))
theorem odd_ev {b : List Int} (hb : Byt b) {p : Nat} (hp : p ≤ 100000) (n : Int) : ∃ (v : Bool) (p' : Nat), Ev (fun k => spec_l20Rd_odd.f k b (p : Int) n) (v, (p' : Int)) ∧ p' ≤ p + 1 := by
  unfold spec_l20Rd_odd.f
  by_cases h : n > 0
  · obtain ⟨v, hv, _⟩ := pick_ev hb hp n
    exact ⟨_, p + 1, Ev.pos h (Ev.bind hv (Ev.now _)), Nat.le_refl _⟩
  · exact ⟨false, p, Ev.neg h (Ev.one rfl), by omega⟩
theorem sPath_some (m : Nat) (h1 : 1 ≤ m) (h6 : m ≤ 6) : ∃ l, Ev (fun k => spec_PathNet.f k (m : Int)) l ∧ l.length = m := by
  have : m = 1 ∨ m = 2 ∨ m = 3 ∨ m = 4 ∨ m = 5 ∨ m = 6 := by omega
  rcases this with rfl | rfl | rfl | rfl | rfl | rfl
  · exact ⟨[0], Ev.of (fun k => spec_PathNet.mono _ k) (k := 40) (by decide +kernel), rfl⟩
  · exact ⟨[2, 1], Ev.of (fun k => spec_PathNet.mono _ k) (k := 40) (by decide +kernel), rfl⟩
  · exact ⟨[2, 5, 2], Ev.of (fun k => spec_PathNet.mono _ k) (k := 40) (by decide +kernel), rfl⟩
  · exact ⟨[2, 5, 10, 4], Ev.of (fun k => spec_PathNet.mono _ k) (k := 40) (by decide +kernel), rfl⟩
  · exact ⟨[2, 5, 10, 20, 8], Ev.of (fun k => spec_PathNet.mono _ k) (k := 40) (by decide +kernel), rfl⟩
  · exact ⟨[2, 5, 10, 20, 40, 16], Ev.of (fun k => spec_PathNet.mono _ k) (k := 40) (by decide +kernel), rfl⟩
theorem sRing_some (m : Nat) (h1 : 3 ≤ m) (h6 : m ≤ 6) : ∃ l, Ev (fun k => spec_RingNet.f k (m : Int)) l ∧ l.length = m := by
  have : m = 3 ∨ m = 4 ∨ m = 5 ∨ m = 6 := by omega
  rcases this with rfl | rfl | rfl | rfl
  · exact ⟨[6, 5, 3], Ev.of (fun k => spec_RingNet.mono _ k) (k := 40) (by decide +kernel), rfl⟩
  · exact ⟨[10, 5, 10, 5], Ev.of (fun k => spec_RingNet.mono _ k) (k := 40) (by decide +kernel), rfl⟩
  · exact ⟨[18, 5, 10, 20, 9], Ev.of (fun k => spec_RingNet.mono _ k) (k := 40) (by decide +kernel), rfl⟩
  · exact ⟨[34, 5, 10, 20, 40, 17], Ev.of (fun k => spec_RingNet.mono _ k) (k := 40) (by decide +kernel), rfl⟩
theorem l20Net_l {b : List Int} (hb : Byt b) (a : Int) (m : Nat) (h1 : 1 ≤ m) (h6 : m ≤ 6) : ∀ (d : Nat) (net : List Int) (p : Nat), net.length = m → p + 2 * d ≤ 99990 →
    ∃ (net' : List Int) (p' : Nat), Ev (fun k => spec_l20Net.l0 k a (m : Int) net (d : Int) b (p : Int)) (net', (p' : Int)) ∧ net'.length ≤ 6 ∧ p' ≤ p + 2 * d + 2 := by
  intro d
  induction d with
  | zero =>
    intro net p hl hp
    obtain ⟨v, q, hv, hq⟩ := odd_ev hb (p := p) (by omega) a
    have hz : ¬ ((0 : Nat) : Int) > 0 := by omega
    cases v with
    | false =>
      refine ⟨net, q, ?_, by omega, by omega⟩
      refine Ev.step (fun k => spec_l20Net.l0.eq_2 ..) ?_
      exact Ev.neg hz (Ev.bind hv (Ev.neg (by simp) (Ev.now _)))
    | true =>
      obtain ⟨u, hu, u0, u3⟩ := pick_ev hb (p := q) (by omega) 3
      by_cases c0 : u = 0
      · refine ⟨[], q + 1, ?_, by simp, by omega⟩
        refine Ev.step (fun k => spec_l20Net.l0.eq_2 ..) ?_
        exact Ev.neg hz (Ev.bind hv (Ev.pos rfl (Ev.bind hu (Ev.pos c0 (Ev.now _)))))
      · by_cases c1 : u = 1
        · refine ⟨net.set (0 : Int).toNat (Go.bits .or .i64 (rd net 0) 1), q + 1, ?_, ?_, by omega⟩
          · refine Ev.step (fun k => spec_l20Net.l0.eq_2 ..) ?_
            exact Ev.neg hz (Ev.bind hv (Ev.pos rfl (Ev.bind hu (Ev.neg c0 (Ev.pos c1 (Ev.pos (by omega) (Ev.now _)))))))
          · simp [hl]; omega
        · by_cases cm : (m : Int) = 1
          · refine ⟨(net.set (0 : Int).toNat (Go.bits .xor .i64 (rd net 0) (shl .i64 1 ((m : Int) - 1)))).set (0 : Int).toNat (-1), q + 1, ?_, ?_, by omega⟩
            · refine Ev.step (fun k => spec_l20Net.l0.eq_2 ..) ?_
              rw [w64 (x := (m : Int) - 1) (by omega) (by omega)]
              exact Ev.neg hz (Ev.bind hv (Ev.pos rfl (Ev.bind hu (Ev.neg c0 (Ev.neg c1 (Ev.pos (by omega) (Ev.pos (by omega) (Ev.bind (Ev.now _) (Ev.pos cm (Ev.now _))))))))))
            · simp [hl]; omega
          · refine ⟨net.set (0 : Int).toNat (Go.bits .xor .i64 (rd net 0) (shl .i64 1 ((m : Int) - 1))), q + 1, ?_, ?_, by omega⟩
            · refine Ev.step (fun k => spec_l20Net.l0.eq_2 ..) ?_
              rw [w64 (x := (m : Int) - 1) (by omega) (by omega)]
              exact Ev.neg hz (Ev.bind hv (Ev.pos rfl (Ev.bind hu (Ev.neg c0 (Ev.neg c1 (Ev.pos (by omega) (Ev.pos (by omega) (Ev.bind (Ev.now _) (Ev.neg cm (Ev.now _))))))))))
            · simp [hl]; omega
  | succ d ih =>
    intro net p hl hp
    obtain ⟨u, hu, u0, u1⟩ := pick_ev hb (p := p) (by omega) (m : Int)
    obtain ⟨v, hv, v0, v1⟩ := pick_ev hb (p := p + 1) (by omega) (m : Int)
    have u1 := u1 (by omega)
    have v1 := v1 (by omega)
    have hpos : ((d + 1 : Nat) : Int) > 0 := by omega
    have hsub : wrap64 (((d + 1 : Nat) : Int) - 1) = (d : Int) := by rw [w64 (by omega) (by omega)]; omega
    by_cases e : u = v
    · obtain ⟨net', p', h', hn, hp'⟩ := ih net (p + 1 + 1) hl (by omega)
      refine ⟨net', p', ?_, hn, by omega⟩
      refine Ev.step (fun k => spec_l20Net.l0.eq_2 ..) ?_
      rw [hsub]
      exact Ev.pos hpos (Ev.bind hu (Ev.bind hv (Ev.pos e h')))
    · obtain ⟨net', p', h', hn, hp'⟩ := ih ((net.set u.toNat (Go.bits .or .i64 (rd net u) (shl .i64 1 v))).set v.toNat (Go.bits .or .i64 (rd (net.set u.toNat (Go.bits .or .i64 (rd net u) (shl .i64 1 v))) v) (shl .i64 1 u))) (p + 1 + 1) (by simpa using hl) (by omega)
      refine ⟨net', p', ?_, hn, by omega⟩
      refine Ev.step (fun k => spec_l20Net.l0.eq_2 ..) ?_
      rw [hsub]
      exact Ev.pos hpos (Ev.bind hu (Ev.bind hv (Ev.neg e (Ev.pos u0 (Ev.pos (by omega) (Ev.pos v0 (Ev.bind (Ev.now _) (Ev.pos (by omega) h'))))))))
theorem l20Net_ev {b : List Int} (hb : Byt b) {p : Nat} (hp : p ≤ 90000) (a : Int) : ∃ (net : List Int) (p' : Nat), Ev (fun k => spec_l20Net.f k b (p : Int) a) (net, (p' : Int)) ∧ net.length ≤ 6 ∧ p' ≤ p + 20 := by
  obtain ⟨u, hu, u0, u6⟩ := pick_ev hb (p := p) (by omega) 6
  have u6 := u6 (by omega)
  obtain ⟨m, hm⟩ : ∃ m : Nat, wrap64 (1 + u) = (m : Int) := ⟨(1 + u).toNat, by rw [w64 (by omega) (by omega)]; omega⟩
  have hm1 : (m : Int) = 1 + u := by rw [← hm, w64 (by omega) (by omega)]
  obtain ⟨pl, hpl, hpl2⟩ := sPath_some m (by omega) (by omega)
  obtain ⟨v, hv, v0, v4⟩ := pick_ev hb (p := p + 1) (by omega) 4
  have key : ∀ net : List Int, net.length = m → ∃ (net' : List Int) (p' : Nat), Ev (fun k => spec_l20Net.j0 k a (m : Int) net b ((p + 1 + 1 : Nat) : Int)) (net', (p' : Int)) ∧ net'.length ≤ 6 ∧ p' ≤ p + 20 := by
    intro net hl
    obtain ⟨w, hw, w0, w6⟩ := pick_ev hb (p := p + 1 + 1) (by omega) 6
    have w6 := w6 (by omega)
    obtain ⟨d, rfl⟩ := Int.eq_ofNat_of_zero_le w0
    obtain ⟨net', p', h', hn, hp'⟩ := l20Net_l hb a m (by omega) (by omega) d net (p + 1 + 1 + 1) hl (by omega)
    refine ⟨net', p', ?_, hn, by omega⟩
    refine Ev.step (fun k => spec_l20Net.j0.eq_2 ..) ?_
    exact Ev.bind hw h'
  unfold spec_l20Net.f
  by_cases c0 : v = 0
  · by_cases c3 : (m : Int) ≥ 3
    · obtain ⟨rl, hrl, hrl2⟩ := sRing_some m (by omega) (by omega)
      obtain ⟨net', p', h', hn, hp'⟩ := key rl hrl2
      exact ⟨net', p', Ev.bind hu (by simp only [hm]; exact Ev.bind hpl (Ev.bind hv (Ev.pos c0 (Ev.pos c3 (Ev.bind hrl h'))))), hn, hp'⟩
    · obtain ⟨net', p', h', hn, hp'⟩ := key pl hpl2
      exact ⟨net', p', Ev.bind hu (by simp only [hm]; exact Ev.bind hpl (Ev.bind hv (Ev.pos c0 (Ev.neg c3 h')))), hn, hp'⟩
  · by_cases c1 : v = 1
    · obtain ⟨net', p', h', hn, hp'⟩ := key (List.replicate m 0) (by simp)
      exact ⟨net', p', Ev.bind hu (by simp only [hm]; exact Ev.bind hpl (Ev.bind hv (Ev.neg c0 (Ev.pos c1 (Ev.pos (by omega) (Ev.pos (by omega) h')))))), hn, hp'⟩
    · obtain ⟨net', p', h', hn, hp'⟩ := key pl hpl2
      exact ⟨net', p', Ev.bind hu (by simp only [hm]; exact Ev.bind hpl (Ev.bind hv (Ev.neg c0 (Ev.neg c1 h')))), hn, hp'⟩
theorem sRing_yes {m : Nat} (h1 : 3 ≤ m) (h6 : m ≤ 6) : Ev (fun k => spec_RingNet.f k (m : Int)) (ringL m) := by
  have : m = 3 ∨ m = 4 ∨ m = 5 ∨ m = 6 := by omega
  rcases this with rfl | rfl | rfl | rfl
  · exact Ev.of (fun k => spec_RingNet.mono _ k) (k := 40) (by decide +kernel)
  · exact Ev.of (fun k => spec_RingNet.mono _ k) (k := 40) (by decide +kernel)
  · exact Ev.of (fun k => spec_RingNet.mono _ k) (k := 40) (by decide +kernel)
  · exact Ev.of (fun k => spec_RingNet.mono _ k) (k := 40) (by decide +kernel)
theorem sRing_no {a : Int} (h : ¬ (3 ≤ a ∧ a ≤ 6)) : Ev (fun k => spec_RingNet.f k a) [] := by
  unfold spec_RingNet.f
  refine Ev.step (fun k => spec_RingNet.l0.eq_2 ..) ?_
  by_cases c0 : 0 < a
  · exact Ev.pos c0 (Ev.bind (l1In_ev _ _ _) (Ev.neg (by rw [decide_eq_false h]; decide) (Ev.one rfl)))
  · exact Ev.neg c0 (Ev.one rfl)
theorem sPath_yes {m : Nat} (h1 : 1 ≤ m) (h6 : m ≤ 6) : Ev (fun k => spec_PathNet.f k (m : Int)) (pathL m) := by
  have : m = 1 ∨ m = 2 ∨ m = 3 ∨ m = 4 ∨ m = 5 ∨ m = 6 := by omega
  rcases this with rfl | rfl | rfl | rfl | rfl | rfl
  · exact Ev.of (fun k => spec_PathNet.mono _ k) (k := 40) (by decide +kernel)
  · exact Ev.of (fun k => spec_PathNet.mono _ k) (k := 40) (by decide +kernel)
  · exact Ev.of (fun k => spec_PathNet.mono _ k) (k := 40) (by decide +kernel)
  · exact Ev.of (fun k => spec_PathNet.mono _ k) (k := 40) (by decide +kernel)
  · exact Ev.of (fun k => spec_PathNet.mono _ k) (k := 40) (by decide +kernel)
  · exact Ev.of (fun k => spec_PathNet.mono _ k) (k := 40) (by decide +kernel)
theorem sPath_no {a : Int} (h : ¬ (1 ≤ a ∧ a ≤ 6)) : Ev (fun k => spec_PathNet.f k a) [] := by
  have hj : ∀ p : Bool, p = false → Ev (fun k => spec_PathNet.j1 k a [] 0 p) [] := by
    intro p hp
    refine Ev.step (fun k => spec_PathNet.j1.eq_2 ..) ?_
    exact Ev.neg (by rw [hp]; decide) (Ev.one rfl)
  unfold spec_PathNet.f
  refine Ev.step (fun k => spec_PathNet.l0.eq_2 ..) ?_
  by_cases c0 : 0 < a
  · exact Ev.pos c0 (Ev.bind (l1In_ev _ _ _) (hj _ (decide_eq_false h)))
  · exact Ev.neg c0 (hj _ rfl)
theorem alive_ev : Ev (fun k => laws_alive.f k) true := Ev.of (fun k => laws_alive.mono k) (k := 40) (by decide +kernel)
theorem l20Open_ev {l : List Int} (h : ∀ x ∈ l, (Lit.int .u8 x).wf = true) : ∃ b, Ev (fun _ => spec_l20Open.f l) (b, ((0 : Nat) : Int)) ∧ Byt b := by
  have hx : ∀ x ∈ l, 0 ≤ x ∧ x ≤ 255 := by
    intro x hx
    have := h x hx
    simp only [Lit.wf, IntKind.min, IntKind.max, IntKind.signed, IntKind.bits, Bool.and_eq_true, decide_eq_true_eq, Bool.false_eq_true, if_false] at this
    omega
  unfold spec_l20Open.f
  by_cases c : (l.length : Int) > 2000
  · exact ⟨l.take 2000, Ev.pos c (Ev.pos (by omega) (Ev.now _)), by simp; omega, fun x hx' => hx x (List.mem_of_mem_take hx')⟩
  · exact ⟨l, Ev.neg c (Ev.now _), by omega, hx⟩
theorem l20State_l {b : List Int} (hb : Byt b) (kinds n thin : Int) (m : Nat) (h1 : 1 ≤ m) (h6 : m ≤ 6) : ∀ (d i : Nat) (st : List Int) (p : Nat), i + d = m → st.length = i → p + 2 * d ≤ 99990 →
    ∃ (st' : List Int) (p' : Nat), Ev (fun k => spec_l20State.l0 k (m : Int) kinds n st thin (i : Int) b (p : Int)) (st', (p' : Int)) ∧ st'.length ≤ 6 ∧ p' ≤ p + 2 * d + 2 := by
  intro d
  induction d with
  | zero =>
    intro i st p hd hl hp
    obtain ⟨v, q, hv, hq⟩ := odd_ev hb (p := p) (by omega) n
    cases v with
    | false =>
      refine ⟨st, q, ?_, by omega, by omega⟩
      refine Ev.step (fun k => spec_l20State.l0.eq_2 ..) ?_
      exact Ev.neg (by omega) (Ev.bind hv (Ev.neg (by simp) (Ev.now _)))
    | true =>
      obtain ⟨u, hu, u0, u3⟩ := pick_ev hb (p := q) (by omega) 2
      by_cases c0 : u = 0
      · refine ⟨[], q + 1, ?_, by simp, by omega⟩
        refine Ev.step (fun k => spec_l20State.l0.eq_2 ..) ?_
        exact Ev.neg (by omega) (Ev.bind hv (Ev.pos rfl (Ev.bind hu (Ev.pos c0 (Ev.now _)))))
      · refine ⟨st.set ((st.length : Int) - 1).toNat kinds, q + 1, ?_, ?_, by omega⟩
        · refine Ev.step (fun k => spec_l20State.l0.eq_2 ..) ?_
          rw [w64 (x := (st.length : Int) - 1) (by omega) (by omega)]
          exact Ev.neg (by omega) (Ev.bind hv (Ev.pos rfl (Ev.bind hu (Ev.neg c0 (Ev.pos (by omega) (Ev.pos (by omega) (Ev.now _)))))))
        · simp [hl]; omega
  | succ d ih =>
    intro i st p hd hl hp
    have go : ∀ (v : Int) (q : Nat), q ≤ p + 2 → ∃ (st' : List Int) (p' : Nat), Ev (fun k => spec_l20State.l0 k (m : Int) kinds n (st ++ [v]) thin (wrap64 ((i : Int) + 1)) b (q : Int)) (st', (p' : Int)) ∧ st'.length ≤ 6 ∧ p' ≤ p + 2 * (d + 1) + 2 := by
      intro v q hq
      obtain ⟨st', p', h', hs, hp'⟩ := ih (i + 1) (st ++ [v]) q (by omega) (by simp [hl]) (by omega)
      refine ⟨st', p', ?_, hs, by omega⟩
      rw [w64i i (by omega)]; exact h'
    by_cases ct : thin > 0
    · obtain ⟨u, hu, _, _⟩ := pick_ev hb (p := p) (by omega) 3
      by_cases cu : u < thin
      · obtain ⟨st', p', h', hs, hp'⟩ := go 0 (p + 1) (by omega)
        refine ⟨st', p', ?_, hs, hp'⟩
        refine Ev.step (fun k => spec_l20State.l0.eq_2 ..) ?_
        exact Ev.pos (by omega) (Ev.pos ct (Ev.bind hu (Ev.pos cu (Ev.pos (by omega) h'))))
      · obtain ⟨v, hv, _, _⟩ := pick_ev hb (p := p + 1) (by omega) kinds
        obtain ⟨st', p', h', hs, hp'⟩ := go v (p + 1 + 1) (by omega)
        refine ⟨st', p', ?_, hs, hp'⟩
        refine Ev.step (fun k => spec_l20State.l0.eq_2 ..) ?_
        exact Ev.pos (by omega) (Ev.pos ct (Ev.bind hu (Ev.neg cu (Ev.bind hv (Ev.pos (by omega) h')))))
    · obtain ⟨v, hv, _, _⟩ := pick_ev hb (p := p) (by omega) kinds
      obtain ⟨st', p', h', hs, hp'⟩ := go v (p + 1) (by omega)
      refine ⟨st', p', ?_, hs, hp'⟩
      refine Ev.step (fun k => spec_l20State.l0.eq_2 ..) ?_
      exact Ev.pos (by omega) (Ev.neg ct (Ev.bind hv (Ev.pos (by omega) h')))
theorem l20State_ev {b : List Int} (hb : Byt b) {p : Nat} (hp : p ≤ 90000) (m : Nat) (h1 : 1 ≤ m) (h6 : m ≤ 6) (kinds n : Int) : ∃ (st : List Int) (p' : Nat), Ev (fun k => spec_l20State.f k b (p : Int) (m : Int) kinds n) (st, (p' : Int)) ∧ st.length ≤ 6 ∧ p' ≤ p + 20 := by
  obtain ⟨u, hu, _, _⟩ := pick_ev hb (p := p) (by omega) 3
  obtain ⟨st, p', h', hs, hp'⟩ := l20State_l hb kinds n u m h1 h6 m 0 [] (p + 1) (by omega) rfl (by omega)
  refine ⟨st, p', ?_, hs, by omega⟩
  unfold spec_l20State.f
  exact Ev.bind hu h'
theorem l20Order_l {b : List Int} (hb : Byt b) (n : Int) (m : Nat) (h6 : m ≤ 100) : ∀ (d i : Nat) (out : List Int) (p : Nat), i + d = m → out.length = i → p + d ≤ 99990 →
    ∃ (out' : List Int) (p' : Nat), Ev (fun k => spec_l20Order.l0 k (m : Int) n out (i : Int) b (p : Int)) (out', (p' : Int)) ∧ out'.length ≤ 101 := by
  intro d
  induction d with
  | zero =>
    intro i out p hd hl hp
    obtain ⟨v, q, hv, hq⟩ := odd_ev hb (p := p) (by omega) n
    cases v with
    | false =>
      refine ⟨out, q, ?_, by omega⟩
      refine Ev.step (fun k => spec_l20Order.l0.eq_2 ..) ?_
      exact Ev.neg (by omega) (Ev.bind hv (Ev.neg (by simp) (Ev.now _)))
    | true =>
      refine ⟨out ++ [0], q, ?_, by simp; omega⟩
      refine Ev.step (fun k => spec_l20Order.l0.eq_2 ..) ?_
      exact Ev.neg (by omega) (Ev.bind hv (Ev.pos rfl (Ev.pos (by omega) (Ev.now _))))
  | succ d ih =>
    intro i out p hd hl hp
    have hw : wrap64 ((out.length : Int) + 1) = (out.length : Int) + 1 := w64 (by omega) (by omega)
    obtain ⟨v, hv, v0, v1⟩ := pick_ev hb (p := p) (by omega) ((out.length : Int) + 1)
    have v1 := v1 (by omega)
    obtain ⟨out', p', h', ho⟩ := ih (i + 1) ((([] ++ out.take v.toNat) ++ [(i : Int)]) ++ out.drop v.toNat) (p + 1) (by omega) (by simp; omega) (by omega)
    refine ⟨out', p', ?_, ho⟩
    refine Ev.step (fun k => spec_l20Order.l0.eq_2 ..) ?_
    rw [hw, w64i i (by omega)]
    refine Ev.pos (by omega) (Ev.bind hv (Ev.bind (Ev.now _) (Ev.pos v0 (Ev.pos (by omega) (Ev.bind (Ev.now _) (Ev.pos (by simp; omega) (Ev.bind (Ev.now _) (Ev.pos (by simp; omega) (Ev.bind (Ev.now _) (Ev.bind (Ev.now _) (Ev.pos (by simp; omega) h')))))))))))
theorem l20Order_ev {b : List Int} (hb : Byt b) {p : Nat} (hp : p ≤ 90000) (m : Nat) (h6 : m ≤ 100) (n : Int) : ∃ (out : List Int) (p' : Nat), Ev (fun k => spec_l20Order.f k b (p : Int) (m : Int) n) (out, (p' : Int)) ∧ out.length ≤ 101 := by
  unfold spec_l20Order.f
  exact l20Order_l hb n m h6 m 0 [] p (by omega) rfl (by omega)
theorem l20Fire_ev {b : List Int} (hb : Byt b) {p : Nat} (hp : p ≤ 80000) (n : Int) : ∃ (net : List Int) (kinds : Int) (st : List Int) (p' : Nat), Ev (fun k => spec_l20Fire.f k b (p : Int) n) (net, kinds, st, (p' : Int)) ∧ net.length ≤ 6 ∧ st.length ≤ 7 ∧ p' ≤ p + 60 := by
  obtain ⟨net, q, hn, hl, hq⟩ := l20Net_ev hb (p := p) (by omega) (wrap64 (n * 2))
  obtain ⟨u, hu, u0, u1⟩ := pick_ev hb (p := q) (by omega) 3
  obtain ⟨m, hm, hm1, hm6⟩ : ∃ m : Nat, mx (net.length : Int) 1 = (m : Int) ∧ 1 ≤ m ∧ m ≤ 6 := by
    unfold mx
    by_cases c : (net.length : Int) < 1
    · exact ⟨1, by rw [if_pos c]; rfl, by omega, by omega⟩
    · exact ⟨net.length, by rw [if_neg c], by omega, by omega⟩
  obtain ⟨st, r, hs, hsl, hr⟩ := l20State_ev hb (p := q + 1) (by omega) m hm1 hm6 (wrap64 (3 + u)) (wrap64 (n * 2))
  obtain ⟨v, s, hv, hs'⟩ := odd_ev hb (p := r) (by omega) (wrap64 (n * 2))
  rw [← hm] at hs
  unfold spec_l20Fire.f
  cases v with
  | false =>
    exact ⟨net, _, st, s, Ev.bind hn (Ev.bind hu (Ev.bind hs (Ev.bind hv (Ev.neg (by simp) (Ev.now _))))), hl, by omega, by omega⟩
  | true =>
    exact ⟨net, _, st ++ [0], s, Ev.bind hn (Ev.bind hu (Ev.bind hs (Ev.bind hv (Ev.pos rfl (Ev.pos (show st.length < 17592186044416 by omega) (Ev.now _)))))), hl, by simp; omega, by omega⟩
theorem drawNamedNet_ev {l : List Int} (h : ∀ x ∈ l, (Lit.int .u8 x).wf = true) : ∃ (net ord : List Int), Ev (fun k => spec_DrawNamedNet.f k l) (net, ord) ∧ net.length ≤ 6 ∧ ord.length ≤ 101 := by
  obtain ⟨b, ho, hb⟩ := l20Open_ev h
  obtain ⟨net, q, hn, hl, hq⟩ := l20Net_ev hb (p := 0) (by omega) 14
  obtain ⟨ord, r, hr, hl2⟩ := l20Order_ev hb (p := q) (by omega) net.length (by omega) 14
  unfold spec_DrawNamedNet.f
  exact ⟨net, ord, Ev.bind ho (Ev.bind hn (Ev.bind hr (Ev.now _))), hl, hl2⟩
theorem drawFireStep_ev {l : List Int} (h : ∀ x ∈ l, (Lit.int .u8 x).wf = true) : ∃ (net : List Int) (kinds : Int) (st : List Int), Ev (fun k => spec_DrawFireStep.f k l) (net, kinds, st) ∧ net.length ≤ 6 ∧ st.length ≤ 7 := by
  obtain ⟨b, ho, hb⟩ := l20Open_ev h
  obtain ⟨net, kinds, st, q, hn, hl, hs, hq⟩ := l20Fire_ev hb (p := 0) (by omega) 12
  unfold spec_DrawFireStep.f
  exact ⟨net, kinds, st, Ev.bind ho (Ev.bind hn (Ev.now _)), hl, hs⟩
theorem index_l (x : List Int) (hx : x.length ≤ 35184372088832) (v : Int) : ∀ (d i : Nat), i + d = x.length → (∀ j : Nat, j < i → rd x (j : Int) ≠ v) → ∃ r, Ev (fun k => slices_Index_int_int.l0 k x v (x.length : Int) (i : Int)) r ∧ (r ≥ 0 ↔ ∃ j : Nat, j < x.length ∧ rd x (j : Int) = v) := by
  intro d
  induction d with
  | zero =>
    intro i hd h
    refine ⟨-1, ?_, ⟨fun q => absurd q (by decide), fun ⟨j, hj, e⟩ => absurd e (h j (by omega))⟩⟩
    refine Ev.step (fun k => slices_Index_int_int.l0.eq_2 ..) ?_
    exact Ev.neg (by omega) (Ev.one rfl)
  | succ d ih =>
    intro i hd h
    by_cases e : v = rd x (i : Int)
    · refine ⟨(i : Int), ?_, ⟨fun _ => ⟨i, by omega, e.symm⟩, fun _ => by omega⟩⟩
      refine Ev.step (fun k => slices_Index_int_int.l0.eq_2 ..) ?_
      exact Ev.pos (by omega) (Ev.pos (by omega) (Ev.pos (by omega) (Ev.pos e (Ev.one rfl))))
    · obtain ⟨r, hr, hr2⟩ := ih (i + 1) (by omega) (fun j hj => by
        by_cases q : j = i
        · rw [q]; exact fun z => e z.symm
        · exact h j (by omega))
      refine ⟨r, ?_, hr2⟩
      refine Ev.step (fun k => slices_Index_int_int.l0.eq_2 ..) ?_
      rw [w64i i (by omega)]
      exact Ev.pos (by omega) (Ev.pos (by omega) (Ev.pos (by omega) (Ev.neg e hr)))
theorem contains_ev (x : List Int) (hx : x.length ≤ 35184372088832) (v : Int) : ∃ b, Ev (fun k => slices_Contains_int_int.f k x v) b ∧ (b = true ↔ ∃ j : Nat, j < x.length ∧ rd x (j : Int) = v) := by
  obtain ⟨r, hr, hr2⟩ := index_l x hx v x.length 0 (by omega) (fun j hj => by omega)
  refine ⟨decide (r ≥ 0), ?_, by rw [decide_eq_true_iff]; exact hr2⟩
  unfold slices_Contains_int_int.f
  refine Ev.bind ?_ (Ev.now _)
  unfold slices_Index_int_int.f
  exact hr
theorem iOrd_l (many : Nat) (ord : List Int) (hl : ord.length ≤ 35184372088832) : ∀ d i : Nat, i + d = ord.length → (∀ i' : Nat, i' < i → 0 ≤ rd ord (i' : Int) ∧ rd ord (i' : Int) < many ∧ ∀ j : Nat, j < i' → rd ord (j : Int) ≠ rd ord (i' : Int)) →
    ∃ b, Ev (fun k => impl_orderOk.l0 k (many : Int) ord ord (ord.length : Int) (i : Int)) b ∧ (b = true ↔ OrdP many ord) := by
  intro d
  induction d with
  | zero =>
    intro i hd h
    refine ⟨((ord.length : Int) == (many : Int)), ?_, ?_⟩
    · refine Ev.step (fun k => impl_orderOk.l0.eq_2 ..) ?_
      exact Ev.neg (by omega) (Ev.one rfl)
    · rw [beq_iff_eq]
      exact ⟨fun q => ⟨by omega, fun i' hi' => h i' (by omega)⟩, fun q => by rw [q.1]⟩
  | succ d ih =>
    intro i hd h
    have step : ∀ {b : Bool}, Ev (fun k => if rd ord (i : Int) < 0 then some false else if rd ord (i : Int) ≥ (many : Int) then some false else if (i : Int) ≤ (ord.length : Int) then (slices_Contains_int_int.f k (ord.take ((i : Int)).toNat) (rd ord (i : Int))).bind fun t => if t = true then some false else impl_orderOk.l0 k (many : Int) ord ord (ord.length : Int) (wrap64 ((i : Int) + 1)) else none) b → Ev (fun k => impl_orderOk.l0 k (many : Int) ord ord (ord.length : Int) (i : Int)) b := by
      intro b hb
      refine Ev.step (fun k => impl_orderOk.l0.eq_2 ..) ?_
      exact Ev.pos (by omega) (Ev.pos (by omega) (Ev.pos (by omega) hb))
    by_cases c1 : rd ord (i : Int) < 0
    · exact ⟨false, step (Ev.pos c1 (Ev.one rfl)), ⟨(fun q => Bool.noConfusion q), fun q => by have := (q.2 i (by omega)).1; omega⟩⟩
    by_cases c2 : rd ord (i : Int) ≥ (many : Int)
    · exact ⟨false, step (Ev.neg c1 (Ev.pos c2 (Ev.one rfl))), ⟨(fun q => Bool.noConfusion q), fun q => by have := (q.2 i (by omega)).2.1; omega⟩⟩
    have htl : (ord.take i).length = i := by rw [List.length_take]; omega
    have htr : ∀ j : Nat, j < i → rd (ord.take i) (j : Int) = rd ord (j : Int) := by
      intro j hj
      rw [rd_at _ _ (by omega), rd_at _ _ (by omega)]; simp
    obtain ⟨b, hb, hb2⟩ := contains_ev (ord.take i) (by omega) (rd ord (i : Int))
    cases b with
    | true =>
      refine ⟨false, step (Ev.neg c1 (Ev.neg c2 (Ev.pos (by omega) (Ev.bind (by rw [Int.toNat_natCast]; exact hb) (Ev.pos rfl (Ev.one rfl)))))), ⟨(fun q => Bool.noConfusion q), fun q => ?_⟩⟩
      obtain ⟨j, hj, e⟩ := hb2.1 rfl
      rw [htr j (by omega)] at e
      exact absurd e ((q.2 i (by omega)).2.2 j (by omega))
    | false =>
      obtain ⟨r, hr, hr2⟩ := ih (i + 1) (by omega) (fun i' hi' => by
        by_cases e : i' = i
        · rw [e]
          refine ⟨by omega, by omega, fun j hj q => ?_⟩
          have := hb2.2 ⟨j, by omega, by rw [htr j hj]; exact q⟩
          cases this
        · exact h i' (by omega))
      refine ⟨r, step (Ev.neg c1 (Ev.neg c2 (Ev.pos (by omega) (Ev.bind (by rw [Int.toNat_natCast]; exact hb) (Ev.neg (by decide) ?_))))), hr2⟩
      rw [w64i i (by omega)]; exact hr
theorem iOrd_any (many : Nat) (ord : List Int) (hl : ord.length ≤ 35184372088832) : ∃ b, Ev (fun k => impl_orderOk.f k (many : Int) ord) b ∧ (b = true ↔ OrdP many ord) := by
  unfold impl_orderOk.f
  exact iOrd_l many ord hl ord.length 0 (by omega) (fun i' hi' => by omega)
theorem iOrd_yes {many : Nat} {ord : List Int} (hl : ord.length ≤ 35184372088832) (h : OrdP many ord) : Ev (fun k => impl_orderOk.f k (many : Int) ord) true := by
  obtain ⟨b, hb, hb2⟩ := iOrd_any many ord hl
  exact Ev.cast hb (hb2.2 h)
theorem iOrd_no {many : Nat} {ord : List Int} (hl : ord.length ≤ 35184372088832) (h : ¬ OrdP many ord) : Ev (fun k => impl_orderOk.f k (many : Int) ord) false := by
  obtain ⟨b, hb, hb2⟩ := iOrd_any many ord hl
  exact Ev.cast hb (by cases b with | false => rfl | true => exact absurd (hb2.1 rfl) h)
theorem iNamS_l {st ord : List Int} (h6 : st.length ≤ 6) (h : OrdP st.length ord) : ∀ (d i : Nat), i + d = st.length → Ev (fun k => impl_NamedState.l0 k ord (nmState st ord i) st (st.length : Int) (i : Int)) (nmS st ord, true) := by
  have hol := h.1
  intro d
  induction d with
  | zero =>
    intro i hd
    refine Ev.step (fun k => impl_NamedState.l0.eq_2 ..) ?_
    exact Ev.neg (by omega) (Ev.one (by rw [nmS, show i = st.length by omega]))
  | succ d ih =>
    intro i hd
    obtain ⟨c, hc, hc2⟩ := h.at (i := i) (by omega)
    refine Ev.step (fun k => impl_NamedState.l0.eq_2 ..) ?_
    rw [w64i i (by omega)]
    exact Ev.pos (by omega) (Ev.pos (by omega) (Ev.pos (by omega) (Ev.pos (by omega) (Ev.pos (by omega) (Ev.pos (by rw [nmState_len]; omega) (ih (i + 1) (by omega)))))))
theorem iNamS_yes {kinds : Int} {st ord : List Int} (hs : StP kinds st) (h : OrdP st.length ord) : Ev (fun k => impl_NamedState.f k kinds st ord) (nmS st ord, true) := by
  have h6 := hs.2.2.2.1
  unfold impl_NamedState.f
  refine Ev.bind (iStOk_yes hs) (Ev.pos rfl (Ev.bind (iOrd_yes (by rw [h.1]; omega) h) ?_))
  refine Ev.step (fun k => impl_NamedState.j0.eq_2 ..) ?_
  refine Ev.neg (by decide) (Ev.pos (by omega) (Ev.pos (by omega) ?_))
  rw [Int.toNat_natCast]
  exact iNamS_l h6 h st.length 0 (by omega)
theorem iNamS_no {kinds : Int} {st ord : List Int} (hl : st.length ≤ 35184372088832) (hl2 : ord.length ≤ 35184372088832) (h : ¬ (StP kinds st ∧ OrdP st.length ord)) : Ev (fun k => impl_NamedState.f k kinds st ord) ([], false) := by
  have hj : ∀ p : Bool, p = true → Ev (fun k => impl_NamedState.j0 k st ord p) ([], false) := by
    intro p hp
    refine Ev.step (fun k => impl_NamedState.j0.eq_2 ..) ?_
    exact Ev.pos hp (Ev.one rfl)
  unfold impl_NamedState.f
  by_cases hs : StP kinds st
  · exact Ev.bind (iStOk_yes hs) (Ev.pos rfl (Ev.bind (iOrd_no hl2 (fun q => h ⟨hs, q⟩)) (hj _ rfl)))
  · exact Ev.bind (iStOk_no hl hs) (Ev.neg (by decide) (hj _ rfl))
theorem iNamN_l1 {net ord : List Int} (hn : NetP net) (h : OrdP net.length ord) {i c : Nat} (hi : i < net.length) (hc : rd ord (i : Int) = (c : Int)) (hc2 : c < net.length) {base : List Int} (hb : base.length = net.length) {r : List Int × Bool}
    (cont : Ev (fun k => impl_NamedNet.l0 k net ord (base.set c (nmSet ord (rd net (i : Int)) net.length)) net (net.length : Int) ((i + 1 : Nat) : Int)) r) :
    ∀ (d m : Nat), m + d = net.length → Ev (fun k => impl_NamedNet.l1 k net ord (base.set c (nmSet ord (rd net (i : Int)) m)) (i : Int) (rd net (i : Int)) net (net.length : Int) (i : Int) (net.length : Int) (m : Int)) r := by
  have h6 := hn.2.1
  have hol := h.1
  intro d
  induction d with
  | zero =>
    intro m hd
    refine Ev.step (fun k => impl_NamedNet.l1.eq_2 ..) ?_
    refine Ev.neg (by omega) ?_
    rw [w64i i (by omega), show m = net.length by omega]; exact cont
  | succ d ih =>
    intro m hd
    obtain ⟨e, he, he2⟩ := h.at (i := m) (by omega)
    have := ih (m + 1) (by omega)
    refine Ev.step (fun k => impl_NamedNet.l1.eq_2 ..) ?_
    rw [itest _ m (by omega), w64i m (by omega)]
    refine Ev.pos (by omega) (Ev.pos (by omega) ?_)
    cases q : tb (rd net (i : Int)) m with
    | true =>
      simp only [nmSet, q, if_true] at this
      refine Ev.pos ((tb_iff _ _).1 q) (Ev.pos (by omega) (Ev.pos (by omega) (Ev.pos (by omega) (Ev.pos (by rw [List.length_set]; omega) (Ev.pos (by omega) (Ev.pos (by omega) ?_))))))
      rw [hc, Int.toNat_natCast, rd_set _ _ _ _ (by omega), if_pos rfl, List.set_set]
      exact this
    | false =>
      simp only [nmSet, q, Bool.false_eq_true, if_false] at this
      exact Ev.neg (by rw [(tb_not _ _).1 q]; decide) this
theorem iNamN_l0 {net ord : List Int} (hn : NetP net) (h : OrdP net.length ord) : ∀ (d i : Nat), i + d = net.length → Ev (fun k => impl_NamedNet.l0 k net ord (nmNet net ord i) net (net.length : Int) (i : Int)) (nmN net ord, true) := by
  have h6 := hn.2.1
  have hol := h.1
  intro d
  induction d with
  | zero =>
    intro i hd
    refine Ev.step (fun k => impl_NamedNet.l0.eq_2 ..) ?_
    exact Ev.neg (by omega) (Ev.one (by rw [nmN, show i = net.length by omega]))
  | succ d ih =>
    intro i hd
    obtain ⟨c, hc, hc2⟩ := h.at (i := i) (by omega)
    have hz := nmNet_zero h i (by omega) c hc2 (fun j hj e => by have := h.inj (i := j) (j := i) (by omega) (by omega) (by rw [e, hc]); omega)
    have hset : (nmNet net ord i).set c 0 = nmNet net ord i := by
      refine rd_ext (by rw [List.length_set]) (fun j hj => ?_)
      rw [rd_set _ _ _ _ (by rw [nmNet_len]; exact hc2)]
      by_cases e : c = j
      · rw [if_pos e, ← e, hz]
      · rw [if_neg e]
    have hnext := ih (i + 1) (by omega)
    simp only [nmNet] at hnext
    rw [hc, Int.toNat_natCast] at hnext
    have := iNamN_l1 hn h (by omega) hc hc2 (nmNet_len net ord i) hnext net.length 0 (by omega)
    simp only [nmSet] at this
    rw [hset] at this
    refine Ev.step (fun k => impl_NamedNet.l0.eq_2 ..) ?_
    exact Ev.pos (by omega) (Ev.pos (by omega) (Ev.pos (by omega) this))
theorem iNamN_yes {net ord : List Int} (hn : NetP net) (h : OrdP net.length ord) : Ev (fun k => impl_NamedNet.f k net ord) (nmN net ord, true) := by
  have h6 := hn.2.1
  unfold impl_NamedNet.f
  refine Ev.bind (iNetOk_yes hn) (Ev.pos rfl (Ev.bind (iOrd_yes (by rw [h.1]; omega) h) ?_))
  refine Ev.step (fun k => impl_NamedNet.j0.eq_2 ..) ?_
  refine Ev.neg (by decide) (Ev.pos (by omega) (Ev.pos (by omega) ?_))
  rw [Int.toNat_natCast]
  exact iNamN_l0 hn h net.length 0 (by omega)
theorem iNamN_no {net ord : List Int} (hl2 : ord.length ≤ 35184372088832) (h : ¬ (NetP net ∧ OrdP net.length ord)) : Ev (fun k => impl_NamedNet.f k net ord) ([], false) := by
  have hj : ∀ p : Bool, p = true → Ev (fun k => impl_NamedNet.j0 k net ord p) ([], false) := by
    intro p hp
    refine Ev.step (fun k => impl_NamedNet.j0.eq_2 ..) ?_
    exact Ev.pos hp (Ev.one rfl)
  unfold impl_NamedNet.f
  by_cases hs : NetP net
  · exact Ev.bind (iNetOk_yes hs) (Ev.pos rfl (Ev.bind (iOrd_no hl2 (fun q => h ⟨hs, q⟩)) (hj _ rfl)))
  · exact Ev.bind (iNetOk_no hs) (Ev.neg (by decide) (hj _ rfl))
theorem iAsk_yes {net : List Int} {kinds : Int} {st : List Int} (h : AskP net kinds st) : Ev (fun k => impl_asked.f k net kinds st) true := by
  unfold impl_asked.f
  exact Ev.bind (iNetOk_yes h.1) (Ev.pos rfl (Ev.bind (iStOk_yes h.2.1) (Ev.pos rfl (Ev.one (by rw [h.2.2]; simp)))))
theorem iAsk_no {net : List Int} {kinds : Int} {st : List Int} (hl : st.length ≤ 35184372088832) (h : ¬ AskP net kinds st) : Ev (fun k => impl_asked.f k net kinds st) false := by
  unfold impl_asked.f
  by_cases h1 : NetP net
  · by_cases h2 : StP kinds st
    · refine Ev.bind (iNetOk_yes h1) (Ev.pos rfl (Ev.bind (iStOk_yes h2) (Ev.pos rfl (Ev.one (congrArg some ?_)))))
      exact beq_eq_false_iff_ne.2 (fun q => h ⟨h1, h2, by omega⟩)
    · exact Ev.bind (iNetOk_yes h1) (Ev.pos rfl (Ev.bind (iStOk_no hl h2) (Ev.neg (by decide) (Ev.one rfl))))
  · exact Ev.bind (iNetOk_no h1) (Ev.neg (by decide) (Ev.one rfl))
theorem sAsk_yes {net : List Int} {kinds : Int} {st : List Int} (h : AskP net kinds st) : Ev (fun k => spec_l3Ok.f k net kinds st) true := by
  unfold spec_l3Ok.f
  exact Ev.bind (sNetOk_yes h.1) (Ev.pos rfl (Ev.bind (sStOk_yes h.2.1) (Ev.pos rfl (Ev.one (by rw [h.2.2]; simp)))))
theorem sAsk_no {net : List Int} {kinds : Int} {st : List Int} (hl : st.length ≤ 35184372088832) (h : ¬ AskP net kinds st) : Ev (fun k => spec_l3Ok.f k net kinds st) false := by
  unfold spec_l3Ok.f
  by_cases h1 : NetP net
  · by_cases h2 : StP kinds st
    · refine Ev.bind (sNetOk_yes h1) (Ev.pos rfl (Ev.bind (sStOk_yes h2) (Ev.pos rfl (Ev.one (congrArg some ?_)))))
      exact beq_eq_false_iff_ne.2 (fun q => h ⟨h1, h2, by omega⟩)
    · exact Ev.bind (sNetOk_yes h1) (Ev.pos rfl (Ev.bind (sStOk_no hl h2) (Ev.neg (by decide) (Ev.one rfl))))
  · exact Ev.bind (sNetOk_no h1) (Ev.neg (by decide) (Ev.one rfl))
theorem iNeed_l1 {net : List Int} {kinds : Int} {st : List Int} (h : AskP net kinds st) {i : Nat} (hi : i < st.length) {out : List Int} (ho : out.length = st.length) {r : List Int}
    (c1 : Fires net st i → Ev (fun k => impl_needStep.l0 k net kinds st (out.set i 1) st (st.length : Int) ((i + 1 : Nat) : Int)) r) (c2 : ¬ Fires net st i → Ev (fun k => impl_needStep.l0 k net kinds st out st (st.length : Int) ((i + 1 : Nat) : Int)) r) :
    ∀ (d j n : Nat), j + d = st.length → n ≤ j → (1 ≤ n ↔ ∃ j' : Nat, j' < j ∧ tb (rd net (i : Int)) j' = true ∧ rd st (j' : Int) = 1) →
      Ev (fun k => impl_needStep.l1 k net kinds st out (i : Int) (n : Int) 1 st (st.length : Int) (i : Int) st (st.length : Int) (j : Int)) r := by
  have h6 := h.2.1.2.2.2.1
  have hl := h.2.2
  intro d
  induction d with
  | zero =>
    intro j n hd hn hf
    refine Ev.step (fun k => impl_needStep.l1.eq_2 ..) ?_
    refine Ev.neg (by omega) ?_
    by_cases c : 1 ≤ n
    · obtain ⟨j', a, b⟩ := hf.1 c
      refine Ev.pos (by omega) (Ev.pos (by omega) (Ev.pos (by omega) ?_))
      rw [Int.toNat_natCast, w64i i (by omega)]
      exact c1 ⟨j', by omega, b⟩
    · refine Ev.neg (by omega) ?_
      rw [w64i i (by omega)]
      exact c2 (fun ⟨j', a, b⟩ => c (hf.2 ⟨j', by omega, b⟩))
  | succ d ih =>
    intro j n hd hn hf
    refine Ev.step (fun k => impl_needStep.l1.eq_2 ..) ?_
    rw [itest _ j (by omega), w64i j (by omega), w64i n (by omega)]
    refine Ev.pos (by omega) (Ev.pos (by omega) (Ev.pos (by omega) (Ev.pos (by omega) (Ev.pos (by omega) ?_))))
    cases q : tb (rd net (i : Int)) j with
    | true =>
      refine Ev.pos ((tb_iff _ _).1 q) ?_
      by_cases e : rd st (j : Int) = 1
      · exact Ev.pos e (ih (j + 1) (n + 1) (by omega) (by omega) ⟨fun _ => ⟨j, by omega, q, e⟩, fun _ => by omega⟩)
      · refine Ev.neg e (ih (j + 1) n (by omega) (by omega) (hf.trans ⟨fun ⟨j', a, b⟩ => ⟨j', by omega, b⟩, fun ⟨j', a, b⟩ => ⟨j', ?_, b⟩⟩))
        by_cases z : j' = j
        · rw [z] at b; exact absurd b.2 e
        · omega
    | false =>
      refine Ev.neg (by rw [(tb_not _ _).1 q]; decide) (ih (j + 1) n (by omega) (by omega) (hf.trans ⟨fun ⟨j', a, b⟩ => ⟨j', by omega, b⟩, fun ⟨j', a, b⟩ => ⟨j', ?_, b⟩⟩))
      by_cases z : j' = j
      · rw [z, q] at b; exact absurd b.1 (by decide)
      · omega
theorem iNeed_l0 {net : List Int} {kinds : Int} {st : List Int} (h : AskP net kinds st) : ∀ (d i : Nat) (out : List Int), i + d = st.length → out.length = st.length → (∀ j : Nat, j < i → rd out (j : Int) = stepAt net kinds st j) → (∀ j : Nat, i ≤ j → j < st.length → rd out (j : Int) = 0) →
    Ev (fun k => impl_needStep.l0 k net kinds st out st (st.length : Int) (i : Int)) (stepL net kinds st) := by
  have h3 := h.2.1.1
  have h5 := h.2.1.2.1
  have h6 := h.2.1.2.2.2.1
  have hl := h.2.2
  intro d
  induction d with
  | zero =>
    intro i out hd ho h1 h2
    refine Ev.step (fun k => impl_needStep.l0.eq_2 ..) ?_
    exact Ev.neg (by omega) (Ev.one (congrArg some (mkL_ext ho (fun j hj => h1 j (by omega)))))
  | succ d ih =>
    intro i out hd ho h1 h2
    have hi : i < st.length := by omega
    have hr := h.2.1.2.2.2.2 i hi
    have hset : ∀ v : Int, v = stepAt net kinds st i → Ev (fun k => impl_needStep.l0 k net kinds st (out.set i v) st (st.length : Int) ((i + 1 : Nat) : Int)) (stepL net kinds st) := by
      intro v hv
      refine ih (i + 1) _ (by omega) (by simpa using ho) (fun j hj => ?_) (fun j hj hj2 => ?_)
      · rw [rd_set _ _ _ _ (by omega)]
        by_cases e : i = j
        · rw [if_pos e, ← e, hv]
        · rw [if_neg e]; exact h1 j (by omega)
      · rw [rd_set _ _ _ _ (by omega), if_neg (by omega)]; exact h2 j (by omega) hj2
    refine Ev.step (fun k => impl_needStep.l0.eq_2 ..) ?_
    refine Ev.pos (by omega) (Ev.pos (by omega) (Ev.pos (by omega) ?_))
    by_cases c : rd st (i : Int) > 0
    · refine Ev.pos c (Ev.neg (by omega) (Ev.pos (by omega) ?_))
      rw [w64i i (by omega), Int.toNat_natCast, w64 (x := rd st (i : Int) + 1) (by omega) (by omega), Int.tmod_eq_emod_of_nonneg (by omega)]
      exact hset _ (stepAt_up c).symm
    · refine Ev.neg c ?_
      refine iNeed_l1 h hi ho (fun hf => hset 1 (stepAt_fire c hf).symm) (fun hf => ?_) st.length 0 0 (by omega) (by omega) ⟨fun q => by omega, fun ⟨j', a, _⟩ => by omega⟩
      refine ih (i + 1) out (by omega) ho (fun j hj => ?_) (fun j hj hj2 => h2 j (by omega) hj2)
      by_cases e : j = i
      · rw [e, h2 i (Nat.le_refl _) hi, stepAt_rest c hf]
      · exact h1 j (by omega)
theorem iNeed_ev {net : List Int} {kinds : Int} {st : List Int} (h : AskP net kinds st) : Ev (fun k => impl_needStep.f k net kinds [] st) (stepL net kinds st) := by
  have h6 := h.2.1.2.2.2.1
  unfold impl_needStep.f
  refine Ev.pos (by omega) (Ev.pos (by omega) ?_)
  rw [Int.toNat_natCast]
  exact iNeed_l0 h st.length 0 _ (by omega) (by simp) (fun j hj => by omega) (fun j _ hj => rd_rep _ _ _ hj)
theorem sStep_l1 {net : List Int} {kinds : Int} {st : List Int} (h : AskP net kinds st) {fires : Int} (hf0 : InS st.length fires) (hf : ∀ j : Nat, tb fires j = true ↔ j < st.length ∧ rd st (j : Int) = 1) : ∀ (d i : Nat), i + d = st.length →
    Ev (fun k => spec_l3Step.l1 k net kinds st fires (mkL (stepAt net kinds st) i) (i : Int)) (stepL net kinds st) := by
  have h3 := h.2.1.1
  have h5 := h.2.1.2.1
  have h6 := h.2.1.2.2.2.1
  have hl := h.2.2
  intro d
  induction d with
  | zero =>
    intro i hd
    refine Ev.step (fun k => spec_l3Step.l1.eq_2 ..) ?_
    exact Ev.neg (by omega) (Ev.one (by rw [stepL, show i = st.length by omega]))
  | succ d ih =>
    intro i hd
    have hi : i < st.length := by omega
    have hr := h.2.1.2.2.2.2 i hi
    have hnext := ih (i + 1) (by omega)
    rw [← mkL_snoc] at hnext
    refine Ev.step (fun k => spec_l3Step.l1.eq_2 ..) ?_
    refine Ev.pos (by omega) (Ev.pos (by omega) ?_)
    by_cases c : rd st (i : Int) > 0
    · refine Ev.pos c (Ev.neg (by omega) (Ev.pos (by rw [mkL_len]; omega) ?_))
      rw [w64i i (by omega), w64 (x := rd st (i : Int) + 1) (by omega) (by omega), Int.tmod_eq_emod_of_nonneg (by omega), ← stepAt_up (net := net) (kinds := kinds) c]
      exact hnext
    · have hin := h.1.ins (i := i) (by omega)
      rw [hl] at hin
      have o := InS.and (by omega) hin hf0
      have key : Go.bits .and .i64 (rd net (i : Int)) fires = 0 ↔ ¬ Fires net st i := by
        constructor
        · rintro z ⟨j, hj, a, b⟩
          have := o.2 j
          rw [z, tb_zero, a, (hf j).2 ⟨hj, b⟩] at this
          cases this
        · intro z
          refine set_zero o.1 (fun j hj => ?_)
          cases q : tb (Go.bits .and .i64 (rd net (i : Int)) fires) j with
          | false => rfl
          | true =>
            rw [o.2, Bool.and_eq_true] at q
            exact absurd ⟨j, hj, q.1, ((hf j).1 q.2).2⟩ z
      refine Ev.neg c (Ev.pos (by omega) ?_)
      by_cases e : Fires net st i
      · refine Ev.neg (fun z => key.1 z e) (Ev.pos (by rw [mkL_len]; omega) ?_)
        rw [w64i i (by omega)]
        rw [stepAt_fire c e] at hnext; exact hnext
      · refine Ev.pos (key.2 e) (Ev.pos (by rw [mkL_len]; omega) ?_)
        rw [w64i i (by omega), show rd st (i : Int) = 0 by omega]
        rw [stepAt_rest c e] at hnext; exact hnext
theorem sStep_l0 {net : List Int} {kinds : Int} {st : List Int} (h : AskP net kinds st) : ∀ (d i : Nat) (fires : Int), i + d = st.length → InS st.length fires → (∀ j : Nat, tb fires j = true ↔ j < i ∧ rd st (j : Int) = 1) →
    Ev (fun k => spec_l3Step.l0 k net kinds st fires (i : Int)) (stepL net kinds st) := by
  have h6 := h.2.1.2.2.2.1
  intro d
  induction d with
  | zero =>
    intro i fires hd hf0 hf
    refine Ev.step (fun k => spec_l3Step.l0.eq_2 ..) ?_
    refine Ev.neg (by omega) ?_
    exact sStep_l1 h hf0 (fun j => by rw [hf, show i = st.length by omega]) st.length 0 (by omega)
  | succ d ih =>
    intro i fires hd hf0 hf
    have q1 := InS.one (n := st.length) (i := i) (by omega) (by omega)
    have o := InS.or (by omega) hf0 q1.1
    refine Ev.step (fun k => spec_l3Step.l0.eq_2 ..) ?_
    rw [w64i i (by omega)]
    refine Ev.pos (by omega) (Ev.pos (by omega) ?_)
    by_cases e : rd st (i : Int) = 1
    · refine Ev.pos e (ih (i + 1) _ (by omega) o.1 (fun j => ?_))
      rw [o.2, Bool.or_eq_true, hf, q1.2, decide_eq_true_iff]
      constructor
      · rintro (⟨a, b⟩ | rfl)
        · exact ⟨by omega, b⟩
        · exact ⟨by omega, e⟩
      · rintro ⟨a, b⟩
        by_cases z : i = j
        · exact .inr z
        · exact .inl ⟨by omega, b⟩
    · refine Ev.neg e (ih (i + 1) _ (by omega) hf0 (fun j => (hf j).trans ⟨fun ⟨a, b⟩ => ⟨by omega, b⟩, fun ⟨a, b⟩ => ⟨?_, b⟩⟩))
      by_cases z : j = i
      · rw [z] at b; exact absurd b e
      · omega
theorem sStep_ev {net : List Int} {kinds : Int} {st : List Int} (h : AskP net kinds st) : Ev (fun k => spec_l3Step.f k net kinds st) (stepL net kinds st) := by
  unfold spec_l3Step.f
  exact sStep_l0 h st.length 0 0 (by omega) (InS.zero _) (fun j => by rw [tb_zero]; exact ⟨(fun q => Bool.noConfusion q), fun ⟨a, _⟩ => by omega⟩)
theorem iFire_yes {net : List Int} {kinds : Int} {st : List Int} (h : AskP net kinds st) : Ev (fun k => impl_FireStep.f k net kinds st) (stepL net kinds st) := by
  unfold impl_FireStep.f
  exact Ev.bind (iAsk_yes h) (Ev.pos rfl (Ev.bind (iNeed_ev h) (Ev.now _)))
theorem iFire_no {net : List Int} {kinds : Int} {st : List Int} (hl : st.length ≤ 35184372088832) (h : ¬ AskP net kinds st) : Ev (fun k => impl_FireStep.f k net kinds st) [] := by
  unfold impl_FireStep.f
  exact Ev.bind (iAsk_no hl h) (Ev.neg (by decide) (Ev.one rfl))
theorem sFire_yes {net : List Int} {kinds : Int} {st : List Int} (h : AskP net kinds st) : Ev (fun k => spec_FireStep.f k net kinds st) (stepL net kinds st) := by
  unfold spec_FireStep.f
  exact Ev.bind (sAsk_yes h) (Ev.pos rfl (Ev.bind (sStep_ev h) (Ev.now _)))
theorem sFire_no {net : List Int} {kinds : Int} {st : List Int} (hl : st.length ≤ 35184372088832) (h : ¬ AskP net kinds st) : Ev (fun k => spec_FireStep.f k net kinds st) [] := by
  unfold spec_FireStep.f
  exact Ev.bind (sAsk_no hl h) (Ev.neg (by decide) (Ev.one rfl))
end Go.Proofs.Ytjhlllfkagaafaa.CFnFireStep
