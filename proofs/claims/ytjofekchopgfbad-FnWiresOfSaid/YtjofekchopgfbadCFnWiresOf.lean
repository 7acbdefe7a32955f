/- What each function that the law FnWiresOf calls comes to. -/
import Derived.Test.YtjofekchopgfbadPFnWiresOfx7
import Derived.Test.YtjofekchopgfbadMath
namespace Go.Proofs.Ytjofekchopgfbad.CFnWiresOf
open Go Go.RowKit Go.Proofs.Ytjofekchopgfbad.PFnWiresOf Go.Proofs.YtjofekchopgfbadW.PrintWords Go.Proofs.YtjofekchopgfbadW.PrintLast Go.Proofs.Ytjofekchopgfbad.Pl

theorem l1In_ev (a b c : Int) : Ev (fun _ => spec_l1In.f a b c) (decide (b ≤ a ∧ a ≤ c)) := by
  refine Ev.one ?_
  unfold spec_l1In.f
  by_cases h : a ≥ b
  · rw [if_pos h]; simp [show b ≤ a from h]
  · rw [if_neg h]; simp [show ¬ b ≤ a from h]
theorem iNetOk_l1 (net : List Int) (hn : net.length ≤ 6) (i : Nat) (hi : i < net.length) (c : Bool) (hc : Ev (fun k => impl_NetOk.l0 k net net (net.length : Int) ((i + 1 : Nat) : Int)) c) :
    ∀ d j : Nat, j + d = net.length → ∃ b, Ev (fun k => impl_NetOk.l1 k net (i : Int) (rd net (i : Int)) net (net.length : Int) (i : Int) (net.length : Int) (j : Int)) b ∧
      (b = true ↔ (∀ j' : Nat, j ≤ j' → j' < net.length → rd net (i : Int) / 2 ^ j' % 2 = rd net (j' : Int) / 2 ^ i % 2) ∧ c = true) := by
  intro d
  induction d with
  | zero =>
    intro j hd
    refine ⟨c, ?_, ?_⟩
    · refine Ev.step (fun k => impl_NetOk.l1.eq_2 ..) ?_
      refine Ev.neg (by omega) ?_
      rw [w64i i (by omega)]; exact hc
    · constructor
      · intro h; exact ⟨fun j' h1 h2 => by omega, h⟩
      · exact fun h => h.2
  | succ d ih =>
    intro j hd
    obtain ⟨b, hb, hb2⟩ := ih (j + 1) (by omega)
    by_cases e : rd net (i : Int) / 2 ^ j % 2 = rd net (j : Int) / 2 ^ i % 2
    · refine ⟨b, ?_, hb2.trans ⟨fun h => ⟨fun j' h1 h2 => ?_, h.2⟩, fun h => ⟨fun j' h1 h2 => h.1 j' (by omega) h2, h.2⟩⟩⟩
      · refine Ev.step (fun k => impl_NetOk.l1.eq_2 ..) ?_
        rw [itest _ j (by omega), itest _ i (by omega)]
        refine Ev.pos (by omega) (Ev.pos (by omega) (Ev.pos (by omega) (Ev.pos (by omega) (Ev.pos e ?_))))
        rw [w64i j (by omega)]; exact hb
      · by_cases q : j' = j
        · rw [q]; exact e
        · exact h.1 j' (by omega) h2
    · refine ⟨false, ?_, ⟨(fun h => Bool.noConfusion h), fun h => absurd (h.1 j (by omega) (by omega)) e⟩⟩
      refine Ev.step (fun k => impl_NetOk.l1.eq_2 ..) ?_
      rw [itest _ j (by omega), itest _ i (by omega)]
      exact Ev.pos (by omega) (Ev.pos (by omega) (Ev.pos (by omega) (Ev.pos (by omega) (Ev.neg e (Ev.one rfl)))))
theorem iNetOk_l0 (net : List Int) (hn : net.length ≤ 6) : ∀ d i : Nat, i + d = net.length → ∃ b, Ev (fun k => impl_NetOk.l0 k net net (net.length : Int) (i : Int)) b ∧ (b = true ↔ ∀ i' : Nat, i ≤ i' → i' < net.length → RowP net i') := by
  intro d
  induction d with
  | zero =>
    intro i hd
    refine ⟨true, ?_, ⟨fun _ i' h1 h2 => by omega, fun _ => rfl⟩⟩
    refine Ev.step (fun k => impl_NetOk.l0.eq_2 ..) ?_
    exact Ev.neg (by omega) (Ev.one rfl)
  | succ d ih =>
    intro i hd
    obtain ⟨c, hc, hc2⟩ := ih (i + 1) (by omega)
    obtain ⟨b, hb, hb2⟩ := iNetOk_l1 net hn i (by omega) c hc net.length 0 (by omega)
    have hbad : ∀ p : Bool, p = true → Ev (fun k => impl_NetOk.j2 k net (i : Int) (rd net (i : Int)) net (net.length : Int) (i : Int) p) false := by
      intro p hp
      refine Ev.step (fun k => impl_NetOk.j2.eq_2 ..) ?_
      exact Ev.pos hp (Ev.one rfl)
    have hgood : ∀ p : Bool, p = false → Ev (fun k => impl_NetOk.j2 k net (i : Int) (rd net (i : Int)) net (net.length : Int) (i : Int) p) b := by
      intro p hp
      refine Ev.step (fun k => impl_NetOk.j2.eq_2 ..) ?_
      exact Ev.neg (by simp [hp]) hb
    have hpow : shl .i64 1 (net.length : Int) = ((2 ^ net.length : Nat) : Int) := shl_one _ (by omega)
    by_cases h0 : rd net (i : Int) < 0
    · refine ⟨false, ?_, ⟨(fun h => Bool.noConfusion h), fun h => absurd (h i (by omega) (by omega)).1.1 (by omega)⟩⟩
      refine Ev.step (fun k => impl_NetOk.l0.eq_2 ..) ?_
      exact Ev.pos (by omega) (Ev.pos (by omega) (Ev.pos (by omega) (Ev.pos h0 (hbad true rfl))))
    · by_cases h1 : rd net (i : Int) ≥ ((2 ^ net.length : Nat) : Int)
      · refine ⟨false, ?_, ⟨(fun h => Bool.noConfusion h), fun h => absurd (h i (by omega) (by omega)).1.2 (by push_cast at h1; omega)⟩⟩
        refine Ev.step (fun k => impl_NetOk.l0.eq_2 ..) ?_
        rw [hpow]
        exact Ev.pos (by omega) (Ev.pos (by omega) (Ev.pos (by omega) (Ev.neg h0 (Ev.pos h1 (hbad true rfl)))))
      · by_cases h2 : rd net (i : Int) / 2 ^ i % 2 = 1
        · refine ⟨false, ?_, ⟨(fun h => Bool.noConfusion h), fun h => absurd (h i (by omega) (by omega)).2.1 (by omega)⟩⟩
          refine Ev.step (fun k => impl_NetOk.l0.eq_2 ..) ?_
          rw [hpow, itest _ i (by omega)]
          exact Ev.pos (by omega) (Ev.pos (by omega) (Ev.pos (by omega) (Ev.neg h0 (Ev.neg h1 (hbad _ (by rw [h2]; rfl))))))
        · refine ⟨b, ?_, ?_⟩
          · refine Ev.step (fun k => impl_NetOk.l0.eq_2 ..) ?_
            rw [hpow, itest _ i (by omega)]
            exact Ev.pos (by omega) (Ev.pos (by omega) (Ev.pos (by omega) (Ev.neg h0 (Ev.neg h1 (hgood _ (by simpa using h2))))))
          · rw [hb2, hc2]
            constructor
            · rintro ⟨g1, g2⟩ i' q1 q2
              by_cases q : i' = i
              · subst q
                exact ⟨⟨by omega, by push_cast at h1; omega⟩, by omega, fun j hj => g1 j (by omega) hj⟩
              · exact g2 i' (by omega) q2
            · intro g
              exact ⟨fun j' _ q2 => (g i (by omega) (by omega)).2.2 j' q2, fun i' q1 q2 => g i' (by omega) q2⟩
theorem iNetOk_any (net : List Int) : ∃ b, Ev (fun k => impl_NetOk.f k net) b ∧ (b = true ↔ NetP net) := by
  have hj : ∀ p : Bool, p = true → Ev (fun k => impl_NetOk.j0 k net p) false := by
    intro p hp
    refine Ev.step (fun k => impl_NetOk.j0.eq_2 ..) ?_
    exact Ev.pos hp (Ev.one rfl)
  by_cases h1 : net.length < 1
  · refine ⟨false, ?_, ⟨(fun h => Bool.noConfusion h), fun h => absurd h.1 (by omega)⟩⟩
    unfold impl_NetOk.f
    exact Ev.pos (by omega) (hj true rfl)
  · by_cases h2 : net.length > 6
    · refine ⟨false, ?_, ⟨(fun h => Bool.noConfusion h), fun h => absurd h.2.1 (by omega)⟩⟩
      unfold impl_NetOk.f
      exact Ev.neg (by omega) (hj _ (by simp; omega))
    · obtain ⟨b, hb, hb2⟩ := iNetOk_l0 net (by omega) net.length 0 (by omega)
      refine ⟨b, ?_, hb2.trans ⟨fun h => ⟨by omega, by omega, fun i hi => h i (by omega) hi⟩, fun h i _ hi => h.2.2 i hi⟩⟩
      unfold impl_NetOk.f
      refine Ev.neg (by omega) ?_
      refine Ev.step (fun k => impl_NetOk.j0.eq_2 ..) ?_
      exact Ev.neg (by simp; omega) hb
theorem iNetOk_yes {net : List Int} (h : NetP net) : Ev (fun k => impl_NetOk.f k net) true := by
  obtain ⟨b, hb, hb2⟩ := iNetOk_any net
  exact Ev.cast hb (hb2.2 h)
theorem iNetOk_no {net : List Int} (h : ¬ NetP net) : Ev (fun k => impl_NetOk.f k net) false := by
  obtain ⟨b, hb, hb2⟩ := iNetOk_any net
  exact Ev.cast hb (by cases b with | false => rfl | true => exact absurd (hb2.1 rfl) h)
theorem sNetOk_l2 (net : List Int) (hn : net.length ≤ 6) (hin : ∀ i : Nat, i < net.length → InS net.length (rd net (i : Int))) (i : Nat) (hi : i < net.length) (c : Bool) (hc : Ev (fun k => spec_NetOk.l1 k net ((i + 1 : Nat) : Int)) c) :
    ∀ d j : Nat, j + d = net.length → ∃ b, Ev (fun k => spec_NetOk.l2 k net (i : Int) (j : Int)) b ∧
      (b = true ↔ (∀ j' : Nat, j ≤ j' → j' < net.length → rd net (i : Int) / 2 ^ j' % 2 = rd net (j' : Int) / 2 ^ i % 2 ∧ (j' = i → rd net (i : Int) / 2 ^ i % 2 = 0)) ∧ c = true) := by
  intro d
  induction d with
  | zero =>
    intro j hd
    refine ⟨c, ?_, ?_⟩
    · refine Ev.step (fun k => spec_NetOk.l2.eq_2 ..) ?_
      refine Ev.neg (by omega) ?_
      rw [w64i i (by omega)]; exact hc
    · constructor
      · intro h; exact ⟨fun j' h1 h2 => by omega, h⟩
      · exact fun h => h.2
  | succ d ih =>
    intro j hd
    obtain ⟨b, hb, hb2⟩ := ih (j + 1) (by omega)
    have hstep : Ev (fun k => spec_NetOk.l2 k net (i : Int) ((j + 1 : Nat) : Int)) b := hb
    by_cases e : rd net (i : Int) / 2 ^ j % 2 = rd net (j : Int) / 2 ^ i % 2
    · by_cases e2 : j = i ∧ rd net (i : Int) / 2 ^ j % 2 = 1
      · refine ⟨false, ?_, ⟨(fun h => Bool.noConfusion h), fun h => ?_⟩⟩
        · refine Ev.step (fun k => spec_NetOk.l2.eq_2 ..) ?_
          rw [stest _ j (by omega) (hin i hi).1, stest _ i (by omega) (hin j (by omega)).1]
          exact Ev.pos (by omega) (Ev.pos (by omega) (Ev.pos (by omega) (Ev.pos (by omega) (Ev.pos e (Ev.pos (by omega) (Ev.pos e2.2 (Ev.one rfl)))))))
        · have := (h.1 j (by omega) (by omega)).2 e2.1
          have q := e2.2
          rw [e2.1] at q
          omega
      · refine ⟨b, ?_, hb2.trans ⟨fun h => ⟨fun j' h1 h2 => ?_, h.2⟩, fun h => ⟨fun j' h1 h2 => h.1 j' (by omega) h2, h.2⟩⟩⟩
        · refine Ev.step (fun k => spec_NetOk.l2.eq_2 ..) ?_
          rw [stest _ j (by omega) (hin i hi).1, stest _ i (by omega) (hin j (by omega)).1]
          refine Ev.pos (by omega) (Ev.pos (by omega) (Ev.pos (by omega) (Ev.pos (by omega) (Ev.pos e ?_))))
          rw [w64i j (by omega)]
          by_cases q : j = i
          · exact Ev.pos (by omega) (Ev.neg (fun z => e2 ⟨q, z⟩) hstep)
          · exact Ev.neg (by omega) hstep
        · by_cases q : j' = j
          · subst q
            refine ⟨e, fun z => ?_⟩
            have : ¬ rd net (i : Int) / 2 ^ j' % 2 = 1 := fun w => e2 ⟨z, w⟩
            rw [← z]; rw [← z] at this; omega
          · exact h.1 j' (by omega) h2
    · refine ⟨false, ?_, ⟨(fun h => Bool.noConfusion h), fun h => absurd (h.1 j (by omega) (by omega)).1 e⟩⟩
      refine Ev.step (fun k => spec_NetOk.l2.eq_2 ..) ?_
      rw [stest _ j (by omega) (hin i hi).1, stest _ i (by omega) (hin j (by omega)).1]
      exact Ev.pos (by omega) (Ev.pos (by omega) (Ev.pos (by omega) (Ev.pos (by omega) (Ev.neg e (Ev.one rfl)))))
theorem sNetOk_l1 (net : List Int) (hn : net.length ≤ 6) (hin : ∀ i : Nat, i < net.length → InS net.length (rd net (i : Int))) : ∀ d i : Nat, i + d = net.length → ∃ b, Ev (fun k => spec_NetOk.l1 k net (i : Int)) b ∧ (b = true ↔ ∀ i' : Nat, i ≤ i' → i' < net.length → RowP net i') := by
  intro d
  induction d with
  | zero =>
    intro i hd
    refine ⟨true, ?_, ⟨fun _ i' h1 h2 => by omega, fun _ => rfl⟩⟩
    refine Ev.step (fun k => spec_NetOk.l1.eq_2 ..) ?_
    exact Ev.neg (by omega) (Ev.one rfl)
  | succ d ih =>
    intro i hd
    obtain ⟨c, hc, hc2⟩ := ih (i + 1) (by omega)
    obtain ⟨b, hb, hb2⟩ := sNetOk_l2 net hn hin i (by omega) c hc net.length 0 (by omega)
    refine ⟨b, ?_, ?_⟩
    · refine Ev.step (fun k => spec_NetOk.l1.eq_2 ..) ?_
      exact Ev.pos (by omega) hb
    · rw [hb2, hc2]
      constructor
      · rintro ⟨g1, g2⟩ i' q1 q2
        by_cases q : i' = i
        · subst q
          exact ⟨hin _ q2, (g1 i' (by omega) q2).2 rfl, fun j hj => (g1 j (by omega) hj).1⟩
        · exact g2 i' (by omega) q2
      · intro g
        exact ⟨fun j' _ q2 => ⟨(g i (by omega) (by omega)).2.2 j' q2, fun _ => (g i (by omega) (by omega)).2.1⟩, fun i' q1 q2 => g i' (by omega) q2⟩
theorem sNetOk_l0 (net : List Int) (hn : net.length ≤ 6) : ∀ d i : Nat, i + d = net.length → (∀ i' : Nat, i' < i → InS net.length (rd net (i' : Int))) → ∃ b, Ev (fun k => spec_NetOk.l0 k net (i : Int)) b ∧ (b = true ↔ ∀ i' : Nat, i' < net.length → RowP net i') := by
  intro d
  induction d with
  | zero =>
    intro i hd hin
    obtain ⟨b, hb, hb2⟩ := sNetOk_l1 net hn (fun i' hi' => hin i' (by omega)) net.length 0 (by omega)
    refine ⟨b, ?_, hb2.trans ⟨fun h i' hi' => h i' (by omega) hi', fun h i' _ hi' => h i' hi'⟩⟩
    refine Ev.step (fun k => spec_NetOk.l0.eq_2 ..) ?_
    exact Ev.neg (by omega) hb
  | succ d ih =>
    intro i hd hin
    have hpow : wrap64 (shl .i64 1 (net.length : Int) - 1) = ((2 ^ net.length : Nat) : Int) - 1 := by
      have : (2 : Nat) ^ net.length ≤ 2 ^ 6 := Nat.pow_le_pow_right (by omega) hn
      have : (0 : Nat) < 2 ^ net.length := Nat.two_pow_pos _
      rw [shl_one _ (by omega), w64 (by omega) (by omega)]
    by_cases q : 0 ≤ rd net (i : Int) ∧ rd net (i : Int) ≤ ((2 ^ net.length : Nat) : Int) - 1
    · have hin' : ∀ i' : Nat, i' < i + 1 → InS net.length (rd net (i' : Int)) := by
        intro i' hi'
        by_cases e : i' = i
        · rw [e]; exact ⟨q.1, by have := q.2; push_cast at this; omega⟩
        · exact hin i' (by omega)
      obtain ⟨b, hb, hb2⟩ := ih (i + 1) (by omega) hin'
      refine ⟨b, ?_, hb2⟩
      refine Ev.step (fun k => spec_NetOk.l0.eq_2 ..) ?_
      rw [hpow]
      refine Ev.pos (by omega) (Ev.pos (by omega) (Ev.bind (l1In_ev _ _ _) (Ev.pos (decide_eq_true q) ?_)))
      rw [w64i i (by omega)]; exact hb
    · refine ⟨false, ?_, ⟨(fun h => Bool.noConfusion h), fun h => ?_⟩⟩
      · refine Ev.step (fun k => spec_NetOk.l0.eq_2 ..) ?_
        rw [hpow]
        exact Ev.pos (by omega) (Ev.pos (by omega) (Ev.bind (l1In_ev _ _ _) (Ev.neg (by rw [decide_eq_false q]; decide) (Ev.one rfl))))
      · have := (h i (by omega)).1
        exact absurd ⟨this.1, by have := this.2; push_cast; omega⟩ q
theorem sNetOk_any (net : List Int) : ∃ b, Ev (fun k => spec_NetOk.f k net) b ∧ (b = true ↔ NetP net) := by
  by_cases h : (1 : Int) ≤ (net.length : Int) ∧ (net.length : Int) ≤ 6
  · obtain ⟨b, hb, hb2⟩ := sNetOk_l0 net (by omega) net.length 0 (by omega) (fun i' hi' => by omega)
    refine ⟨b, ?_, hb2.trans ⟨fun g => ⟨by omega, by omega, g⟩, fun g => g.2.2⟩⟩
    unfold spec_NetOk.f
    exact Ev.bind (l1In_ev _ _ _) (Ev.pos (decide_eq_true h) hb)
  · refine ⟨false, ?_, ⟨(fun h => Bool.noConfusion h), fun g => absurd ⟨by have := g.1; omega, by have := g.2.1; omega⟩ h⟩⟩
    unfold spec_NetOk.f
    exact Ev.bind (l1In_ev _ _ _) (Ev.neg (by rw [decide_eq_false h]; decide) (Ev.one rfl))
theorem sNetOk_yes {net : List Int} (h : NetP net) : Ev (fun k => spec_NetOk.f k net) true := by
  obtain ⟨b, hb, hb2⟩ := sNetOk_any net
  exact Ev.cast hb (hb2.2 h)
theorem sNetOk_no {net : List Int} (h : ¬ NetP net) : Ev (fun k => spec_NetOk.f k net) false := by
  obtain ⟨b, hb, hb2⟩ := sNetOk_any net
  exact Ev.cast hb (by cases b with | false => rfl | true => exact absurd (hb2.1 rfl) h)
theorem setOk_yes {net : List Int} {set : Int} (h : NetP net) (hs : InS net.length set) : Ev (fun k => impl_setOk.f k net set) true := by
  have h6 := h.2.1
  unfold impl_setOk.f
  rw [shl_one _ (by omega)]
  refine Ev.bind (iNetOk_yes h) (Ev.pos rfl (Ev.pos hs.1 (Ev.one (congrArg some (decide_eq_true ?_)))))
  have := hs.2
  push_cast; exact this
theorem setOk_no {net : List Int} {set : Int} (h : ¬ (NetP net ∧ InS net.length set)) : Ev (fun k => impl_setOk.f k net set) false := by
  by_cases hn : NetP net
  · have h6 := hn.2.1
    unfold impl_setOk.f
    rw [shl_one _ (by omega)]
    refine Ev.bind (iNetOk_yes hn) (Ev.pos rfl ?_)
    by_cases h0 : set ≥ 0
    · refine Ev.pos h0 (Ev.one (congrArg some (decide_eq_false fun q => h ⟨hn, h0, ?_⟩)))
      push_cast at q; exact q
    · exact Ev.neg h0 (Ev.one rfl)
  · unfold impl_setOk.f
    exact Ev.bind (iNetOk_no hn) (Ev.neg (by decide) (Ev.one rfl))
theorem inear_l {net : List Int} (hn : NetP net) {set : Int} : ∀ d i : Nat, i + d = net.length → Ev (fun k => impl_nearOf.l0 k set (nearI net set i) net (net.length : Int) (i : Int)) (near net set) := by
  have h6 := hn.2.1
  intro d
  induction d with
  | zero =>
    intro i hd
    refine Ev.step (fun k => impl_nearOf.l0.eq_2 ..) ?_
    refine Ev.neg (by omega) (Ev.one ?_)
    rw [near, ← hd]; rfl
  | succ d ih =>
    intro i hd
    refine Ev.step (fun k => impl_nearOf.l0.eq_2 ..) ?_
    rw [itest _ i (by omega), w64i i (by omega)]
    refine Ev.pos (by omega) (Ev.pos (by omega) (Ev.pos (by omega) ?_))
    have := ih (i + 1) (by omega)
    cases c : tb set i with
    | true => simp only [nearI, c, if_true] at this; exact Ev.pos ((tb_iff _ _).1 c) this
    | false => simp only [nearI, c, Bool.false_eq_true, if_false] at this; exact Ev.neg (by rw [(tb_not _ _).1 c]; decide) this
theorem inear_ev {net : List Int} (hn : NetP net) (set : Int) : Ev (fun k => impl_nearOf.f k net set) (near net set) := by
  unfold impl_nearOf.f
  exact inear_l hn net.length 0 (by omega)
theorem iNearOf_yes {net : List Int} {set : Int} (h : NetP net) (hs : InS net.length set) : Ev (fun k => impl_NearOf.f k net set) (near net set) := by
  unfold impl_NearOf.f
  exact Ev.bind (setOk_yes h hs) (Ev.pos rfl (Ev.bind (inear_ev h set) (Ev.now _)))
theorem iNearOf_no {net : List Int} {set : Int} (h : ¬ (NetP net ∧ InS net.length set)) : Ev (fun k => impl_NearOf.f k net set) (-1) := by
  unfold impl_NearOf.f
  exact Ev.bind (setOk_no h) (Ev.neg (by decide) (Ev.one rfl))
theorem pow_less {n : Nat} (h6 : n ≤ 6) : wrap64 (shl .i64 1 (n : Int) - 1) = ((2 ^ n : Nat) : Int) - 1 := by
  have : (2 : Nat) ^ n ≤ 2 ^ 6 := Nat.pow_le_pow_right (by omega) h6
  have : (0 : Nat) < 2 ^ n := Nat.two_pow_pos _
  rw [shl_one _ (by omega), w64 (by omega) (by omega)]
theorem inSet_yes {n : Nat} (h6 : n ≤ 6) {set : Int} (hs : InS n set) : Ev (fun _ => spec_l1In.f set 0 (wrap64 (shl .i64 1 (n : Int) - 1))) true := by
  rw [pow_less h6]
  exact Ev.cast (l1In_ev _ _ _) (decide_eq_true ⟨hs.1, by have := hs.2; push_cast; omega⟩)
theorem inSet_no {n : Nat} (h6 : n ≤ 6) {set : Int} (hs : ¬ InS n set) : Ev (fun _ => spec_l1In.f set 0 (wrap64 (shl .i64 1 (n : Int) - 1))) false := by
  rw [pow_less h6]
  exact Ev.cast (l1In_ev _ _ _) (decide_eq_false fun q => hs ⟨q.1, by have := q.2; push_cast at this; omega⟩)
theorem pick_ev {b : List Int} (hb : Byt b) {p : Nat} (hp : p ≤ 100000) (n : Int) : ∃ v, Ev (fun k => spec_l20Rd_pick.f k b (p : Int) n) (v, ((p + 1 : Nat) : Int)) ∧ 0 ≤ v ∧ (1 ≤ n → v < n) := by
  have hw1 : wrap64 (((p + 1 : Nat) : Int) - 1) = (p : Int) := by rw [w64 (by omega) (by omega)]; omega
  have hl := hb.1
  by_cases h1 : n < 1
  · refine ⟨0, ?_, by omega, fun _ => by omega⟩
    unfold spec_l20Rd_pick.f
    rw [w64i p (by omega)]
    refine Ev.pos h1 ?_
    refine Ev.step (fun k => spec_l20Rd_pick.j0.eq_2 ..) ?_
    exact Ev.pos rfl (Ev.one rfl)
  · by_cases h0 : b.length = 0
    · refine ⟨0, ?_, by omega, fun _ => by omega⟩
      unfold spec_l20Rd_pick.f
      rw [w64i p (by omega)]
      refine Ev.neg h1 ?_
      refine Ev.step (fun k => spec_l20Rd_pick.j0.eq_2 ..) ?_
      exact Ev.pos (by simp [h0]) (Ev.one rfl)
    · have hz : ¬ (((b.length : Int) == 0) = true) := by rw [beq_iff_eq]; omega
      by_cases hlt : (p : Int) < (b.length : Int)
      · have hr := byt_rd hb (p : Int)
        refine ⟨Int.tmod (rd b (p : Int)) n, ?_, Int.tmod_nonneg _ hr.1, fun h => Int.tmod_lt_of_pos _ (by omega)⟩
        unfold spec_l20Rd_pick.f
        rw [w64i p (by omega)]
        refine Ev.neg h1 ?_
        refine Ev.step (fun k => spec_l20Rd_pick.j0.eq_2 ..) ?_
        rw [hw1]
        refine Ev.neg hz (Ev.pos hlt (Ev.pos (by omega) (Ev.neg (by omega) (Ev.one ?_))))
        rw [w64 (x := rd b (p : Int)) (by omega) (by omega)]
      · have hw2 : wrap64 (wrap64 ((p : Int) * 7) + 3) = (p : Int) * 7 + 3 := by simp (disch := omega) only [w64]
        have t1 : 0 ≤ Int.tmod (p : Int) (b.length : Int) := Int.tmod_nonneg _ (by omega)
        have t2 : Int.tmod (p : Int) (b.length : Int) < (b.length : Int) := Int.tmod_lt_of_pos _ (by omega)
        have t3 : 0 ≤ Int.tmod ((p : Int) * 7 + 3) (b.length : Int) := Int.tmod_nonneg _ (by omega)
        have t4 : Int.tmod ((p : Int) * 7 + 3) (b.length : Int) < (b.length : Int) := Int.tmod_lt_of_pos _ (by omega)
        have d1 : 0 ≤ Int.tdiv (p : Int) (b.length : Int) := Int.tdiv_nonneg (by omega) (by omega)
        have d2 : Int.tdiv (p : Int) (b.length : Int) ≤ (p : Int) := by
          rw [Int.tdiv_eq_ediv_of_nonneg (by omega)]; exact Int.ediv_le_self _ (by omega)
        refine ⟨_, ?_, mix_mod n (byt_rd hb (Int.tmod (p : Int) (b.length : Int))) (byt_rd hb (Int.tmod ((p : Int) * 7 + 3) (b.length : Int))) (p := (p : Int)) ⟨by omega, by omega⟩ (t := Int.tdiv (p : Int) (b.length : Int)) ⟨d1, by omega⟩, fun h => Int.tmod_lt_of_pos _ (by omega)⟩
        unfold spec_l20Rd_pick.f
        rw [w64i p (by omega)]
        refine Ev.neg h1 ?_
        refine Ev.step (fun k => spec_l20Rd_pick.j0.eq_2 ..) ?_
        rw [hw1, hw2]
        exact Ev.neg hz (Ev.neg hlt (Ev.neg (by omega) (Ev.pos t1 (Ev.pos t2 (Ev.pos t3 (Ev.pos t4 (Ev.neg (by omega) (Ev.one rfl))))))))
theorem odd_ev {b : List Int} (hb : Byt b) {p : Nat} (hp : p ≤ 100000) (n : Int) : ∃ (v : Bool) (p' : Nat), Ev (fun k => spec_l20Rd_odd.f k b (p : Int) n) (v, (p' : Int)) ∧ p' ≤ p + 1 := by
  unfold spec_l20Rd_odd.f
  by_cases h : n > 0
  · obtain ⟨v, hv, _⟩ := pick_ev hb hp n
    exact ⟨_, p + 1, Ev.pos h (Ev.bind hv (Ev.now _)), Nat.le_refl _⟩
  · exact ⟨false, p, Ev.neg h (Ev.one rfl), by omega⟩
theorem sPath_some (m : Nat) (h1 : 1 ≤ m) (h6 : m ≤ 6) : ∃ l, Ev (fun k => spec_PathNet.f k (m : Int)) l ∧ l.length = m := by
  have : m = 1 ∨ m = 2 ∨ m = 3 ∨ m = 4 ∨ m = 5 ∨ m = 6 := by omega
  rcases this with rfl | rfl | rfl | rfl | rfl | rfl
  · exact ⟨[0], Ev.of (fun k => spec_PathNet.mono _ k) (k := 40) (by decide +kernel), rfl⟩
  · exact ⟨[2, 1], Ev.of (fun k => spec_PathNet.mono _ k) (k := 40) (by decide +kernel), rfl⟩
  · exact ⟨[2, 5, 2], Ev.of (fun k => spec_PathNet.mono _ k) (k := 40) (by decide +kernel), rfl⟩
  · exact ⟨[2, 5, 10, 4], Ev.of (fun k => spec_PathNet.mono _ k) (k := 40) (by decide +kernel), rfl⟩
  · exact ⟨[2, 5, 10, 20, 8], Ev.of (fun k => spec_PathNet.mono _ k) (k := 40) (by decide +kernel), rfl⟩
  · exact ⟨[2, 5, 10, 20, 40, 16], Ev.of (fun k => spec_PathNet.mono _ k) (k := 40) (by decide +kernel), rfl⟩
theorem sRing_some (m : Nat) (h1 : 3 ≤ m) (h6 : m ≤ 6) : ∃ l, Ev (fun k => spec_RingNet.f k (m : Int)) l ∧ l.length = m := by
  have : m = 3 ∨ m = 4 ∨ m = 5 ∨ m = 6 := by omega
  rcases this with rfl | rfl | rfl | rfl
  · exact ⟨[6, 5, 3], Ev.of (fun k => spec_RingNet.mono _ k) (k := 40) (by decide +kernel), rfl⟩
  · exact ⟨[10, 5, 10, 5], Ev.of (fun k => spec_RingNet.mono _ k) (k := 40) (by decide +kernel), rfl⟩
  · exact ⟨[18, 5, 10, 20, 9], Ev.of (fun k => spec_RingNet.mono _ k) (k := 40) (by decide +kernel), rfl⟩
  · exact ⟨[34, 5, 10, 20, 40, 17], Ev.of (fun k => spec_RingNet.mono _ k) (k := 40) (by decide +kernel), rfl⟩
theorem l20Net_l {b : List Int} (hb : Byt b) (a : Int) (m : Nat) (h1 : 1 ≤ m) (h6 : m ≤ 6) : ∀ (d : Nat) (net : List Int) (p : Nat), net.length = m → p + 2 * d ≤ 99990 →
    ∃ (net' : List Int) (p' : Nat), Ev (fun k => spec_l20Net.l0 k a (m : Int) net (d : Int) b (p : Int)) (net', (p' : Int)) ∧ net'.length ≤ 6 ∧ p' ≤ p + 2 * d + 2 := by
  intro d
  induction d with
  | zero =>
    intro net p hl hp
    obtain ⟨v, q, hv, hq⟩ := odd_ev hb (p := p) (by omega) a
    have hz : ¬ ((0 : Nat) : Int) > 0 := by omega
    cases v with
    | false =>
      refine ⟨net, q, ?_, by omega, by omega⟩
      refine Ev.step (fun k => spec_l20Net.l0.eq_2 ..) ?_
      exact Ev.neg hz (Ev.bind hv (Ev.neg (by simp) (Ev.now _)))
    | true =>
      obtain ⟨u, hu, u0, u3⟩ := pick_ev hb (p := q) (by omega) 3
      by_cases c0 : u = 0
      · refine ⟨[], q + 1, ?_, by simp, by omega⟩
        refine Ev.step (fun k => spec_l20Net.l0.eq_2 ..) ?_
        exact Ev.neg hz (Ev.bind hv (Ev.pos rfl (Ev.bind hu (Ev.pos c0 (Ev.now _)))))
      · by_cases c1 : u = 1
        · refine ⟨net.set (0 : Int).toNat (Go.bits .or .i64 (rd net 0) 1), q + 1, ?_, ?_, by omega⟩
          · refine Ev.step (fun k => spec_l20Net.l0.eq_2 ..) ?_
            exact Ev.neg hz (Ev.bind hv (Ev.pos rfl (Ev.bind hu (Ev.neg c0 (Ev.pos c1 (Ev.pos (by omega) (Ev.now _)))))))
          · simp [hl]; omega
        · by_cases cm : (m : Int) = 1
          · refine ⟨(net.set (0 : Int).toNat (Go.bits .xor .i64 (rd net 0) (shl .i64 1 ((m : Int) - 1)))).set (0 : Int).toNat (-1), q + 1, ?_, ?_, by omega⟩
            · refine Ev.step (fun k => spec_l20Net.l0.eq_2 ..) ?_
              rw [w64 (x := (m : Int) - 1) (by omega) (by omega)]
              exact Ev.neg hz (Ev.bind hv (Ev.pos rfl (Ev.bind hu (Ev.neg c0 (Ev.neg c1 (Ev.pos (by omega) (Ev.pos (by omega) (Ev.bind (Ev.now _) (Ev.pos cm (Ev.now _))))))))))
            · simp [hl]; omega
          · refine ⟨net.set (0 : Int).toNat (Go.bits .xor .i64 (rd net 0) (shl .i64 1 ((m : Int) - 1))), q + 1, ?_, ?_, by omega⟩
            · refine Ev.step (fun k => spec_l20Net.l0.eq_2 ..) ?_
              rw [w64 (x := (m : Int) - 1) (by omega) (by omega)]
              exact Ev.neg hz (Ev.bind hv (Ev.pos rfl (Ev.bind hu (Ev.neg c0 (Ev.neg c1 (Ev.pos (by omega) (Ev.pos (by omega) (Ev.bind (Ev.now _) (Ev.neg cm (Ev.now _))))))))))
            · simp [hl]; omega
  | succ d ih =>
    intro net p hl hp
    obtain ⟨u, hu, u0, u1⟩ := pick_ev hb (p := p) (by omega) (m : Int)
    obtain ⟨v, hv, v0, v1⟩ := pick_ev hb (p := p + 1) (by omega) (m : Int)
    have u1 := u1 (by omega)
    have v1 := v1 (by omega)
    have hpos : ((d + 1 : Nat) : Int) > 0 := by omega
    have hsub : wrap64 (((d + 1 : Nat) : Int) - 1) = (d : Int) := by rw [w64 (by omega) (by omega)]; omega
    by_cases e : u = v
    · obtain ⟨net', p', h', hn, hp'⟩ := ih net (p + 1 + 1) hl (by omega)
      refine ⟨net', p', ?_, hn, by omega⟩
      refine Ev.step (fun k => spec_l20Net.l0.eq_2 ..) ?_
      rw [hsub]
      exact Ev.pos hpos (Ev.bind hu (Ev.bind hv (Ev.pos e h')))
    · obtain ⟨net', p', h', hn, hp'⟩ := ih ((net.set u.toNat (Go.bits .or .i64 (rd net u) (shl .i64 1 v))).set v.toNat (Go.bits .or .i64 (rd (net.set u.toNat (Go.bits .or .i64 (rd net u) (shl .i64 1 v))) v) (shl .i64 1 u))) (p + 1 + 1) (by simpa using hl) (by omega)
      refine ⟨net', p', ?_, hn, by omega⟩
      refine Ev.step (fun k => spec_l20Net.l0.eq_2 ..) ?_
      rw [hsub]
      exact Ev.pos hpos (Ev.bind hu (Ev.bind hv (Ev.neg e (Ev.pos u0 (Ev.pos (by omega) (Ev.pos v0 (Ev.bind (Ev.now _) (Ev.pos (by omega) h'))))))))
theorem l20Net_ev {b : List Int} (hb : Byt b) {p : Nat} (hp : p ≤ 90000) (a : Int) : ∃ (net : List Int) (p' : Nat), Ev (fun k => spec_l20Net.f k b (p : Int) a) (net, (p' : Int)) ∧ net.length ≤ 6 ∧ p' ≤ p + 20 := by
  obtain ⟨u, hu, u0, u6⟩ := pick_ev hb (p := p) (by omega) 6
  have u6 := u6 (by omega)
  obtain ⟨m, hm⟩ : ∃ m : Nat, wrap64 (1 + u) = (m : Int) := ⟨(1 + u).toNat, by rw [w64 (by omega) (by omega)]; omega⟩
  have hm1 : (m : Int) = 1 + u := by rw [← hm, w64 (by omega) (by omega)]
  obtain ⟨pl, hpl, hpl2⟩ := sPath_some m (by omega) (by omega)
  obtain ⟨v, hv, v0, v4⟩ := pick_ev hb (p := p + 1) (by omega) 4
  have key : ∀ net : List Int, net.length = m → ∃ (net' : List Int) (p' : Nat), Ev (fun k => spec_l20Net.j0 k a (m : Int) net b ((p + 1 + 1 : Nat) : Int)) (net', (p' : Int)) ∧ net'.length ≤ 6 ∧ p' ≤ p + 20 := by
    intro net hl
    obtain ⟨w, hw, w0, w6⟩ := pick_ev hb (p := p + 1 + 1) (by omega) 6
    have w6 := w6 (by omega)
    obtain ⟨d, rfl⟩ := Int.eq_ofNat_of_zero_le w0
    obtain ⟨net', p', h', hn, hp'⟩ := l20Net_l hb a m (by omega) (by omega) d net (p + 1 + 1 + 1) hl (by omega)
    refine ⟨net', p', ?_, hn, by omega⟩
    refine Ev.step (fun k => spec_l20Net.j0.eq_2 ..) ?_
    exact Ev.bind hw h'
  unfold spec_l20Net.f
  by_cases c0 : v = 0
  · by_cases c3 : (m : Int) ≥ 3
    · obtain ⟨rl, hrl, hrl2⟩ := sRing_some m (by omega) (by omega)
      obtain ⟨net', p', h', hn, hp'⟩ := key rl hrl2
      exact ⟨net', p', Ev.bind hu (by simp only [hm]; exact Ev.bind hpl (Ev.bind hv (Ev.pos c0 (Ev.pos c3 (Ev.bind hrl h'))))), hn, hp'⟩
    · obtain ⟨net', p', h', hn, hp'⟩ := key pl hpl2
      exact ⟨net', p', Ev.bind hu (by simp only [hm]; exact Ev.bind hpl (Ev.bind hv (Ev.pos c0 (Ev.neg c3 h')))), hn, hp'⟩
  · by_cases c1 : v = 1
    · obtain ⟨net', p', h', hn, hp'⟩ := key (List.replicate m 0) (by simp)
      exact ⟨net', p', Ev.bind hu (by simp only [hm]; exact Ev.bind hpl (Ev.bind hv (Ev.neg c0 (Ev.pos c1 (Ev.pos (by omega) (Ev.pos (by omega) h')))))), hn, hp'⟩
    · obtain ⟨net', p', h', hn, hp'⟩ := key pl hpl2
      exact ⟨net', p', Ev.bind hu (by simp only [hm]; exact Ev.bind hpl (Ev.bind hv (Ev.neg c0 (Ev.neg c1 h')))), hn, hp'⟩
theorem sRing_yes {m : Nat} (h1 : 3 ≤ m) (h6 : m ≤ 6) : Ev (fun k => spec_RingNet.f k (m : Int)) (ringL m) := by
  have : m = 3 ∨ m = 4 ∨ m = 5 ∨ m = 6 := by omega
  rcases this with rfl | rfl | rfl | rfl
  · exact Ev.of (fun k => spec_RingNet.mono _ k) (k := 40) (by decide +kernel)
  · exact Ev.of (fun k => spec_RingNet.mono _ k) (k := 40) (by decide +kernel)
  · exact Ev.of (fun k => spec_RingNet.mono _ k) (k := 40) (by decide +kernel)
  · exact Ev.of (fun k => spec_RingNet.mono _ k) (k := 40) (by decide +kernel)
theorem sRing_no {a : Int} (h : ¬ (3 ≤ a ∧ a ≤ 6)) : Ev (fun k => spec_RingNet.f k a) [] := by
  unfold spec_RingNet.f
  refine Ev.step (fun k => spec_RingNet.l0.eq_2 ..) ?_
  by_cases c0 : 0 < a
  · exact Ev.pos c0 (Ev.bind (l1In_ev _ _ _) (Ev.neg (by rw [decide_eq_false h]; decide) (Ev.one rfl)))
  · exact Ev.neg c0 (Ev.one rfl)
theorem sPath_yes {m : Nat} (h1 : 1 ≤ m) (h6 : m ≤ 6) : Ev (fun k => spec_PathNet.f k (m : Int)) (pathL m) := by
  have : m = 1 ∨ m = 2 ∨ m = 3 ∨ m = 4 ∨ m = 5 ∨ m = 6 := by omega
  rcases this with rfl | rfl | rfl | rfl | rfl | rfl
  · exact Ev.of (fun k => spec_PathNet.mono _ k) (k := 40) (by decide +kernel)
  · exact Ev.of (fun k => spec_PathNet.mono _ k) (k := 40) (by decide +kernel)
  · exact Ev.of (fun k => spec_PathNet.mono _ k) (k := 40) (by decide +kernel)
  · exact Ev.of (fun k => spec_PathNet.mono _ k) (k := 40) (by decide +kernel)
  · exact Ev.of (fun k => spec_PathNet.mono _ k) (k := 40) (by decide +kernel)
  · exact Ev.of (fun k => spec_PathNet.mono _ k) (k := 40) (by decide +kernel)
theorem sPath_no {a : Int} (h : ¬ (1 ≤ a ∧ a ≤ 6)) : Ev (fun k => spec_PathNet.f k a) [] := by
  have hj : ∀ p : Bool, p = false → Ev (fun k => spec_PathNet.j1 k a [] 0 p) [] := by
    intro p hp
    refine Ev.step (fun k => spec_PathNet.j1.eq_2 ..) ?_
    exact Ev.neg (by rw [hp]; decide) (Ev.one rfl)
  unfold spec_PathNet.f
  refine Ev.step (fun k => spec_PathNet.l0.eq_2 ..) ?_
  by_cases c0 : 0 < a
  · exact Ev.pos c0 (Ev.bind (l1In_ev _ _ _) (hj _ (decide_eq_false h)))
  · exact Ev.neg c0 (hj _ rfl)
theorem alive_ev : Ev (fun k => laws_alive.f k) true := Ev.of (fun k => laws_alive.mono k) (k := 40) (by decide +kernel)
theorem l20Open_ev {l : List Int} (h : ∀ x ∈ l, (Lit.int .u8 x).wf = true) : ∃ b, Ev (fun _ => spec_l20Open.f l) (b, ((0 : Nat) : Int)) ∧ Byt b := by
  have hx : ∀ x ∈ l, 0 ≤ x ∧ x ≤ 255 := by
    intro x hx
    have := h x hx
    simp only [Lit.wf, IntKind.min, IntKind.max, IntKind.signed, IntKind.bits, Bool.and_eq_true, decide_eq_true_eq, Bool.false_eq_true, if_false] at this
    omega
  unfold spec_l20Open.f
  by_cases c : (l.length : Int) > 2000
  · exact ⟨l.take 2000, Ev.pos c (Ev.pos (by omega) (Ev.now _)), by simp; omega, fun x hx' => hx x (List.mem_of_mem_take hx')⟩
  · exact ⟨l, Ev.neg c (Ev.now _), by omega, hx⟩
theorem drawWiresOf_ev {l : List Int} (h : ∀ x ∈ l, (Lit.int .u8 x).wf = true) : ∃ net : List Int, Ev (fun k => spec_DrawWiresOf.f k l) net ∧ net.length ≤ 6 := by
  obtain ⟨b, ho, hb⟩ := l20Open_ev h
  obtain ⟨net, q, hn, hl, hq⟩ := l20Net_ev hb (p := 0) (by omega) 9
  unfold spec_DrawWiresOf.f
  exact ⟨net, Ev.bind ho (Ev.bind hn (Ev.now _)), hl⟩
theorem iDist_l2 {net : List Int} (hn : NetP net) {set S : Int} {t : Nat} (ht : t ≤ 100) (hS1 : ∀ i, i < net.length → tb S i = true → Walk net set t i) (hS2 : ∀ i, First net set t i → tb S i = true) {r : List Int}
    (cont : ∀ (out : List Int) (nx : Int), out.length = net.length → (∀ i : Nat, i < net.length → DStat net set (t + 1) i (rd out (i : Int))) → InS net.length nx → (∀ v, tb nx v = true ↔ ∃ j, j < net.length ∧ First net set t j ∧ tb (rd net (j : Int)) v = true) → Ev (fun k => impl_DistancesFrom.l1 k net nx out ((t + 1 : Nat) : Int)) r) :
    ∀ (d i : Nat) (out : List Int) (nx : Int), i + d = net.length → out.length = net.length → (∀ j : Nat, j < i → DStat net set (t + 1) j (rd out (j : Int))) → (∀ j : Nat, i ≤ j → j < net.length → DStat net set t j (rd out (j : Int))) →
      InS net.length nx → (∀ v, tb nx v = true ↔ ∃ j, j < i ∧ First net set t j ∧ tb (rd net (j : Int)) v = true) →
      Ev (fun k => impl_DistancesFrom.l2 k net S out (t : Int) nx (net.length : Int) (i : Int)) r := by
  have h6 := hn.2.1
  intro d
  induction d with
  | zero =>
    intro i out nx hd hl h1 h2 h3 h4
    refine Ev.step (fun k => impl_DistancesFrom.l2.eq_2 ..) ?_
    refine Ev.neg (by omega) ?_
    rw [w64i t (by omega)]
    exact cont out nx hl (fun j hj => h1 j (by omega)) h3 (fun v => (h4 v).trans ⟨fun ⟨j, a, b⟩ => ⟨j, by omega, b⟩, fun ⟨j, a, b⟩ => ⟨j, by omega, b⟩⟩)
  | succ d ih =>
    intro i out nx hd hl h1 h2 h3 h4
    have hi : i < net.length := by omega
    have hstat := h2 i (Nat.le_refl _) hi
    by_cases hf : First net set t i
    · have hb := hS2 i hf
      have hv := hstat.first hf
      have o := InS.or (by omega) h3 (hn.ins hi)
      refine Ev.step (fun k => impl_DistancesFrom.l2.eq_2 ..) ?_
      rw [itest _ i (by omega), w64i i (by omega), Int.toNat_natCast]
      refine Ev.pos (by omega) (Ev.pos (by omega) (Ev.pos ((tb_iff _ _).1 hb) (Ev.pos (by omega) (Ev.pos (by omega) (Ev.pos (by omega) ?_)))))
      refine ih (i + 1) _ _ (by omega) (by simpa using hl) (fun j hj => ?_) (fun j hj hj2 => ?_) o.1 (fun v => ?_)
      · rw [rd_set _ _ _ _ (by omega)]
        by_cases e : i = j
        · rw [if_pos e, ← e]; exact DStat.now hf
        · rw [if_neg e]; exact h1 j (by omega)
      · rw [rd_set _ _ _ _ (by omega), if_neg (by omega)]; exact h2 j (by omega) hj2
      · rw [o.2, Bool.or_eq_true, h4]
        constructor
        · rintro (⟨j, a, b⟩ | b)
          · exact ⟨j, by omega, b⟩
          · exact ⟨i, by omega, hf, b⟩
        · rintro ⟨j, a, b⟩
          by_cases e : j = i
          · rw [e] at b; exact .inr b.2
          · exact .inl ⟨j, by omega, b⟩
    · have hgo : Ev (fun k => impl_DistancesFrom.l2 k net S out (t : Int) nx (net.length : Int) ((i + 1 : Nat) : Int)) r := by
        refine ih (i + 1) out nx (by omega) hl (fun j hj => ?_) (fun j hj hj2 => h2 j (by omega) hj2) h3 (fun v => (h4 v).trans ⟨fun ⟨j, a, b⟩ => ⟨j, by omega, b⟩, fun ⟨j, a, b⟩ => ⟨j, ?_, b⟩⟩)
        · by_cases e : j = i
          · rw [e]; exact hstat.up hf
          · exact h1 j (by omega)
        · by_cases e : j = i
          · rw [e] at b; exact absurd b.1 hf
          · omega
      refine Ev.step (fun k => impl_DistancesFrom.l2.eq_2 ..) ?_
      rw [itest _ i (by omega), w64i i (by omega)]
      refine Ev.pos (by omega) (Ev.pos (by omega) ?_)
      cases c : tb S i with
      | true =>
        refine Ev.pos ((tb_iff _ _).1 c) (Ev.pos (by omega) (Ev.neg (fun q => hf (hstat.neg q (hS1 i hi c))) hgo))
      | false => exact Ev.neg (by rw [(tb_not _ _).1 c]; decide) hgo
theorem iDist_l1 {net : List Int} (hn : NetP net) {set : Int} : ∀ (e t : Nat) (S : Int) (out : List Int), t + e = net.length + 1 → out.length = net.length → (∀ i : Nat, i < net.length → DStat net set t i (rd out (i : Int))) → InS net.length S →
    (∀ i, i < net.length → tb S i = true → Walk net set t i) → (∀ i, First net set t i → tb S i = true) → (1 ≤ t → ∀ i, tb S i = true → ∃ j, First net set (t - 1) j) → Ev (fun k => impl_DistancesFrom.l1 k net S out (t : Int)) (distRow net set) := by
  have h6 := hn.2.1
  have stop : ∀ (t : Nat) (S : Int) (out : List Int), out.length = net.length → (∀ i : Nat, i < net.length → DStat net set t i (rd out (i : Int))) → (∀ i, First net set t i → tb S i = true) → S = 0 → Ev (fun k => impl_DistancesFrom.l1 k net S out (t : Int)) (distRow net set) := by
    intro t S out hl h1 hS2 hz
    refine Ev.step (fun k => impl_DistancesFrom.l1.eq_2 ..) ?_
    exact Ev.pos hz (Ev.one (congrArg some (DStat.done hl h1 (fun i hi => by have := hS2 i hi; rw [hz, tb_zero] at this; cases this))))
  intro e
  induction e with
  | zero =>
    intro t S out he hl h1 h2 hS1 hS2 hS3
    refine stop t S out hl h1 hS2 (set_zero h2 (fun j hj => ?_))
    cases c : tb S j with
    | false => rfl
    | true => obtain ⟨j', hj'⟩ := hS3 (by omega) j c; have := hj'.small; omega
  | succ e ih =>
    intro t S out he hl h1 h2 hS1 hS2 hS3
    by_cases hz : S = 0
    · exact stop t S out hl h1 hS2 hz
    · refine Ev.step (fun k => impl_DistancesFrom.l1.eq_2 ..) ?_
      rw [hl]
      refine Ev.neg hz (iDist_l2 hn (by omega) hS1 hS2 (fun out' nx hl' h1' h3' h4' => ?_) net.length 0 out 0 (by omega) hl (fun j hj => by omega) (fun j _ hj => h1 j hj) (InS.zero _) (fun v => by rw [tb_zero]; exact ⟨(fun q => Bool.noConfusion q), fun ⟨j, a, _⟩ => by omega⟩))
      refine ih (t + 1) nx out' (by omega) hl' h1' h3' (fun i hi hb => ?_) (fun i hi => ?_) (fun _ i hb => ?_)
      · obtain ⟨j, hj, hf, hb⟩ := (h4' i).1 hb
        exact ⟨j, hf.1, hj, hi, hb⟩
      · obtain ⟨j, hf, hj, hb⟩ := hi.next
        exact (h4' i).2 ⟨j, hj, hf, hb⟩
      · obtain ⟨j, hj, hf, hb⟩ := (h4' i).1 hb
        exact ⟨j, hf⟩
theorem iDist_l0 {net : List Int} (hn : NetP net) {set : Int} (hs : InS net.length set) : ∀ (d i : Nat) (x : List Int), i + d = net.length → x.length = net.length → (∀ j : Nat, j < i → rd x (j : Int) = -1) → Ev (fun k => impl_DistancesFrom.l0 k net set x (net.length : Int) (i : Int)) (distRow net set) := by
  have h6 := hn.2.1
  intro d
  induction d with
  | zero =>
    intro i x hd hl h
    refine Ev.step (fun k => impl_DistancesFrom.l0.eq_2 ..) ?_
    refine Ev.neg (by omega) ?_
    refine iDist_l1 hn (net.length + 1) 0 set x (by omega) hl (fun j hj => by rw [h j (by omega)]; exact DStat.none _ _ _) hs (fun j hj hb => ⟨hj, hb⟩) (fun j hj => (First.zero.1 hj).2) (fun q => by omega)
  | succ d ih =>
    intro i x hd hl h
    refine Ev.step (fun k => impl_DistancesFrom.l0.eq_2 ..) ?_
    refine Ev.pos (by omega) (Ev.pos (by omega) (Ev.pos (by omega) ?_))
    rw [w64i i (by omega), Int.toNat_natCast]
    refine ih (i + 1) _ (by omega) (by simpa using hl) (fun j hj => ?_)
    rw [rd_set _ _ _ _ (by omega)]
    by_cases e : i = j
    · rw [if_pos e]
    · rw [if_neg e]; exact h j (by omega)
theorem iDist_yes {net : List Int} {set : Int} (hn : NetP net) (hs : InS net.length set) : Ev (fun k => impl_DistancesFrom.f k net set) (distRow net set) := by
  have h6 := hn.2.1
  unfold impl_DistancesFrom.f
  refine Ev.bind (setOk_yes hn hs) (Ev.pos rfl (Ev.pos (by omega) (Ev.pos (by omega) (Ev.bind (Ev.now _) ?_))))
  rw [List.length_replicate, Int.toNat_natCast]
  exact iDist_l0 hn hs net.length 0 _ (by omega) (by simp) (fun j hj => by omega)
theorem iDist_no {net : List Int} {set : Int} (h : ¬ (NetP net ∧ InS net.length set)) : Ev (fun k => impl_DistancesFrom.f k net set) [] := by
  unfold impl_DistancesFrom.f
  exact Ev.bind (setOk_no h) (Ev.neg (by decide) (Ev.one rfl))
theorem iParts_l1 {net : List Int} (hn : NetP net) {i : Nat} (hi : i < net.length) {out : List Int} (ho : out.length = i) {r : List Int} (cont : Ev (fun k => impl_PartsOf.l0 k net (out ++ [partOf net i]) (net.length : Int) ((i + 1 : Nat) : Int)) r) :
    ∀ (d j : Nat), j + d = net.length → (∀ j' : Nat, j' < j → ¬ Rch net i j') → Ev (fun k => impl_PartsOf.l1 k net out (net.length : Int) (i : Int) (distRow net (2 ^ i)) (net.length : Int) (j : Int)) r := by
  have h6 := hn.2.1
  intro d
  induction d with
  | zero => intro j hd h; exact absurd (Rch.refl hi) (h i (by omega))
  | succ d ih =>
    intro j hd h
    refine Ev.step (fun k => impl_PartsOf.l1.eq_2 ..) ?_
    refine Ev.pos (by omega) (Ev.pos (by omega) (Ev.pos (by rw [distRow_len]; omega) ?_))
    by_cases c : Rch net i j
    · refine Ev.pos ((rch_dist h6 hi (by omega)).2 c) (Ev.pos (by omega) ?_)
      rw [w64i i (by omega), ← partOf_is hi c h]; exact cont
    · refine Ev.neg (fun q => c ((rch_dist h6 hi (by omega)).1 q)) ?_
      rw [w64i j (by omega)]
      exact ih (j + 1) (by omega) (fun j' hj' => by
        by_cases e : j' = j
        · rw [e]; exact c
        · exact h j' (by omega))
theorem iParts_l0 {net : List Int} (hn : NetP net) : ∀ (d i : Nat), i + d = net.length → Ev (fun k => impl_PartsOf.l0 k net (mkL (partOf net) i) (net.length : Int) (i : Int)) (partRow net) := by
  have h6 := hn.2.1
  intro d
  induction d with
  | zero =>
    intro i hd
    refine Ev.step (fun k => impl_PartsOf.l0.eq_2 ..) ?_
    exact Ev.neg (by omega) (Ev.one (by rw [partRow, show i = net.length by omega]))
  | succ d ih =>
    intro i hd
    have e : shl .i64 1 (i : Int) = 2 ^ i := by rw [shl_one i (by omega)]; simp
    have hnext := ih (i + 1) (by omega)
    rw [← mkL_snoc] at hnext
    refine Ev.step (fun k => impl_PartsOf.l0.eq_2 ..) ?_
    refine Ev.pos (by omega) (Ev.pos (by omega) (Ev.bind (iDist_yes hn (InS.one (by omega) (show i < net.length by omega)).1) ?_))
    rw [e, distRow_len]
    exact iParts_l1 hn (by omega) (mkL_len _ _) hnext net.length 0 (by omega) (fun j' hj' => by omega)
theorem iParts_yes {net : List Int} (hn : NetP net) : Ev (fun k => impl_PartsOf.f k net) (partRow net) := by
  unfold impl_PartsOf.f
  exact Ev.bind (iNetOk_yes hn) (Ev.pos rfl (iParts_l0 hn net.length 0 (by omega)))
theorem iParts_no {net : List Int} (hn : ¬ NetP net) : Ev (fun k => impl_PartsOf.f k net) [] := by
  unfold impl_PartsOf.f
  exact Ev.bind (iNetOk_no hn) (Ev.neg (by decide) (Ev.one rfl))
theorem ones_all : ∀ x : Fin 64, bits_OnesCount.f ((x.val : Nat) : Int) = some (popc ((x.val : Nat) : Int)) := by decide +kernel
theorem ones_ev {x : Int} (h0 : 0 ≤ x) (h1 : x < 64) : Ev (fun _ => bits_OnesCount.f (IntKind.u64.wrap x)) (popc x) := by
  obtain ⟨a, rfl⟩ := Int.eq_ofNat_of_zero_le h0
  have e : IntKind.u64.wrap (a : Int) = (a : Int) := by simp [IntKind.wrap, IntKind.bits, IntKind.signed]; omega
  rw [e]
  exact Ev.one (ones_all ⟨a, by omega⟩)
theorem iWires_l {net : List Int} (hn : NetP net) : ∀ (d i : Nat), i + d = net.length → Ev (fun k => impl_WiresOf.l0 k (sumN (fun i => popc (rd net (i : Int))) i) net (net.length : Int) (i : Int)) (sumN (fun i => popc (rd net (i : Int))) net.length / 2) := by
  have h6 := hn.2.1
  intro d
  induction d with
  | zero =>
    intro i hd
    have hb := sumN_range (fun i => popc (rd net (i : Int))) 6 (fun i => popc_range _) i
    refine Ev.step (fun k => impl_WiresOf.l0.eq_2 ..) ?_
    refine Ev.neg (by omega) (Ev.one ?_)
    rw [Int.tdiv_eq_ediv_of_nonneg hb.1, w64 (by omega) (by omega), show i = net.length by omega]
  | succ d ih =>
    intro i hd
    have hin := hn.ins (i := i) (by omega)
    have h64 : rd net (i : Int) < 64 := by
      have := (hin.mono h6).2
      simpa using this
    have hb := sumN_range (fun i => popc (rd net (i : Int))) 6 (fun i => popc_range _) i
    have hp := popc_range (rd net (i : Int))
    refine Ev.step (fun k => impl_WiresOf.l0.eq_2 ..) ?_
    refine Ev.pos (by omega) (Ev.pos (by omega) (Ev.pos (by omega) (Ev.bind (ones_ev hin.1 h64) ?_)))
    rw [w64 (x := sumN (fun i => popc (rd net (i : Int))) i + popc (rd net (i : Int))) (by omega) (by omega), w64i i (by omega)]
    exact ih (i + 1) (by omega)
theorem iWires_yes {net : List Int} (hn : NetP net) : Ev (fun k => impl_WiresOf.f k net) (wires net) := by
  unfold impl_WiresOf.f
  refine Ev.bind (iNetOk_yes hn) (Ev.pos rfl (Ev.cast (iWires_l hn net.length 0 (by omega)) ?_))
  exact pop_wires hn
theorem iWires_no {net : List Int} (hn : ¬ NetP net) : Ev (fun k => impl_WiresOf.f k net) (-1) := by
  unfold impl_WiresOf.f
  exact Ev.bind (iNetOk_no hn) (Ev.neg (by decide) (Ev.one rfl))
theorem sWires_l1 {net : List Int} (hn : NetP net) {i : Nat} (hi : i < net.length) {acc : Int} (ha : 0 ≤ acc ∧ acc ≤ 1000) {r : Int} (cont : Ev (fun k => spec_WiresOf.l0 k net (acc + sumN (fun j => rd net (i : Int) / 2 ^ j % 2) i) ((i + 1 : Nat) : Int)) r) :
    ∀ (d j : Nat), j + d = i → Ev (fun k => spec_WiresOf.l1 k net (acc + sumN (fun j => rd net (i : Int) / 2 ^ j % 2) j) (i : Int) (j : Int)) r := by
  have h6 := hn.2.1
  intro d
  induction d with
  | zero =>
    intro j hd
    refine Ev.step (fun k => spec_WiresOf.l1.eq_2 ..) ?_
    refine Ev.neg (by omega) ?_
    rw [w64i i (by omega), show j = i by omega]; exact cont
  | succ d ih =>
    intro j hd
    have hb := sumN_range (fun j => rd net (i : Int) / 2 ^ j % 2) 1 (fun j => by show 0 ≤ rd net (i : Int) / 2 ^ j % 2 ∧ rd net (i : Int) / 2 ^ j % 2 ≤ 1; omega) j
    refine Ev.step (fun k => spec_WiresOf.l1.eq_2 ..) ?_
    rw [stest _ j (by omega) (hn.ins hi).1, w64 (x := acc + sumN (fun j => rd net (i : Int) / 2 ^ j % 2) j + rd net (i : Int) / 2 ^ j % 2) (by omega) (by omega), w64i j (by omega), Int.add_assoc]
    exact Ev.pos (by omega) (Ev.pos (by omega) (Ev.pos (by omega) (Ev.pos (by omega) (ih (j + 1) (by omega)))))
theorem sWires_l0 {net : List Int} (hn : NetP net) : ∀ (d i : Nat), i + d = net.length → Ev (fun k => spec_WiresOf.l0 k net (sumN (fun i => sumN (fun j => rd net (i : Int) / 2 ^ j % 2) i) i) (i : Int)) (wires net) := by
  have h6 := hn.2.1
  intro d
  induction d with
  | zero =>
    intro i hd
    refine Ev.step (fun k => spec_WiresOf.l0.eq_2 ..) ?_
    exact Ev.neg (by omega) (Ev.one (by rw [wires, show i = net.length by omega]))
  | succ d ih =>
    intro i hd
    have hb := tri_range net i (by omega)
    refine Ev.step (fun k => spec_WiresOf.l0.eq_2 ..) ?_
    refine Ev.pos (by omega) ?_
    have := sWires_l1 hn (i := i) (by omega) (acc := sumN (fun i => sumN (fun j => rd net (i : Int) / 2 ^ j % 2) i) i) hb (r := wires net) (ih (i + 1) (by omega)) i 0 (by omega)
    simpa [sumN] using this
theorem sWires_yes {net : List Int} (hn : NetP net) : Ev (fun k => spec_WiresOf.f k net) (wires net) := by
  unfold spec_WiresOf.f
  exact Ev.bind (sNetOk_yes hn) (Ev.pos rfl (sWires_l0 hn net.length 0 (by omega)))
theorem sWires_no {net : List Int} (hn : ¬ NetP net) : Ev (fun k => spec_WiresOf.f k net) (-1) := by
  unfold spec_WiresOf.f
  exact Ev.bind (sNetOk_no hn) (Ev.neg (by decide) (Ev.one rfl))
end Go.Proofs.Ytjofekchopgfbad.CFnWiresOf
