/- What each function that the law FnExactFewestLights calls comes to. -/
import Derived.Test.YtjofekchopgfbacPFnExactFewestLightsx5
import Derived.Test.YtjofekchopgfbacMath
namespace Go.Proofs.Ytjofekchopgfbac.CFnExactFewestLights
open Go Go.RowKit Go.Proofs.Ytjofekchopgfbac.PFnExactFewestLights Go.Proofs.YtjofekchopgfbacW.PrintWords Go.Proofs.YtjofekchopgfbacW.PrintLast Go.Proofs.Ytjofekchopgfbac.Pl

theorem toIntS_l (x0 : List Int) (hx : x0.length ≤ 35184372088832) : ∀ (d i : Nat) (x3 : List Int), i + d = x0.length → x3.length = x0.length → (∀ j : Nat, j < i → rd x3 (j : Int) = rd x0 (j : Int)) → Ev (fun k => laws_toIntS.l0 k x0 x3 (i : Int)) x0 := by
  intro d
  induction d with
  | zero =>
    intro i x3 hd hl h
    refine Ev.step (fun k => laws_toIntS.l0.eq_2 ..) ?_
    exact Ev.neg (by omega) (Ev.one (congrArg some (rd_ext hl fun j hj => h j (by omega))))
  | succ d ih =>
    intro i x3 hd hl h
    refine Ev.step (fun k => laws_toIntS.l0.eq_2 ..) ?_
    refine Ev.pos (by omega) (Ev.pos (by omega) (Ev.pos (by omega) ?_))
    rw [w64i i (by omega), Int.toNat_natCast]
    refine ih (i + 1) _ (by omega) (by simpa using hl) (fun j hj => ?_)
    rw [rd_set _ _ _ _ (by omega)]
    by_cases e : i = j
    · rw [if_pos e, e]
    · rw [if_neg e]; exact h j (by omega)
theorem toIntS_ev (x0 : List Int) (hx : x0.length ≤ 35184372088832) : Ev (fun k => laws_toIntS.f k x0) x0 := by
  unfold laws_toIntS.f
  refine Ev.pos (by omega) (Ev.pos (by omega) ?_)
  exact toIntS_l x0 hx x0.length 0 _ (by omega) (by simp) (fun j hj => by omega)
theorem eqIntS_l (x y : List Int) (hl : x.length = y.length) (hx : x.length ≤ 35184372088832) : ∀ (d i : Nat), i + d = x.length → (∀ j : Nat, j < i → rd x (j : Int) = rd y (j : Int)) → Ev (fun k => laws_eqIntS.l0 k x y (i : Int)) (decide (x = y)) := by
  intro d
  induction d with
  | zero =>
    intro i hd h
    refine Ev.step (fun k => laws_eqIntS.l0.eq_2 ..) ?_
    exact Ev.neg (by omega) (Ev.one (congrArg some (decide_eq_true (rd_ext hl fun j hj => h j (by omega))).symm))
  | succ d ih =>
    intro i hd h
    refine Ev.step (fun k => laws_eqIntS.l0.eq_2 ..) ?_
    refine Ev.pos (by omega) (Ev.pos (by omega) (Ev.pos (by omega) ?_))
    by_cases e : rd x (i : Int) = rd y (i : Int)
    · refine Ev.pos e ?_
      rw [w64i i (by omega)]
      refine ih (i + 1) (by omega) (fun j hj => ?_)
      by_cases e2 : j = i
      · rw [e2]; exact e
      · exact h j (by omega)
    · exact Ev.neg e (Ev.one (congrArg some (decide_eq_false (fun q => e (by rw [q]))).symm))
theorem eqIntS_ev (x y : List Int) (hx : x.length ≤ 35184372088832) : Ev (fun k => laws_eqIntS.f k x y) (decide (x = y)) := by
  unfold laws_eqIntS.f
  by_cases hl : x.length = y.length
  · refine Ev.pos (by omega) ?_
    exact eqIntS_l x y hl hx x.length 0 (by omega) (fun j hj => by omega)
  · exact Ev.neg (by omega) (Ev.one (congrArg some (decide_eq_false (fun q => hl (by rw [q]))).symm))
theorem l1In_ev (a b c : Int) : Ev (fun _ => spec_l1In.f a b c) (decide (b ≤ a ∧ a ≤ c)) := by
  refine Ev.one ?_
  unfold spec_l1In.f
  by_cases h : a ≥ b
  · rw [if_pos h]; simp [show b ≤ a from h]
  · rw [if_neg h]; simp [show ¬ b ≤ a from h]
theorem iNetOk_l1 (net : List Int) (hn : net.length ≤ 6) (i : Nat) (hi : i < net.length) (c : Bool) (hc : Ev (fun k => impl_NetOk.l0 k net net (net.length : Int) ((i + 1 : Nat) : Int)) c) :
    ∀ d j : Nat, j + d = net.length → ∃ b, Ev (fun k => impl_NetOk.l1 k net (i : Int) (rd net (i : Int)) net (net.length : Int) (i : Int) (net.length : Int) (j : Int)) b ∧
      (b = true ↔ (∀ j' : Nat, j ≤ j' → j' < net.length → rd net (i : Int) / 2 ^ j' % 2 = rd net (j' : Int) / 2 ^ i % 2) ∧ c = true) := by
  intro d
  induction d with
  | zero =>
    intro j hd
    refine ⟨c, ?_, ?_⟩
    · refine Ev.step (fun k => impl_NetOk.l1.eq_2 ..) ?_
      refine Ev.neg (by omega) ?_
      rw [w64i i (by omega)]; exact hc
    · constructor
      · intro h; exact ⟨fun j' h1 h2 => by omega, h⟩
      · exact fun h => h.2
  | succ d ih =>
    intro j hd
    obtain ⟨b, hb, hb2⟩ := ih (j + 1) (by omega)
    by_cases e : rd net (i : Int) / 2 ^ j % 2 = rd net (j : Int) / 2 ^ i % 2
    · refine ⟨b, ?_, hb2.trans ⟨fun h => ⟨fun j' h1 h2 => ?_, h.2⟩, fun h => ⟨fun j' h1 h2 => h.1 j' (by omega) h2, h.2⟩⟩⟩
      · refine Ev.step (fun k => impl_NetOk.l1.eq_2 ..) ?_
        rw [itest _ j (by omega), itest _ i (by omega)]
        refine Ev.pos (by omega) (Ev.pos (by omega) (Ev.pos (by omega) (Ev.pos (by omega) (Ev.pos e ?_))))
        rw [w64i j (by omega)]; exact hb
      · by_cases q : j' = j
        · rw [q]; exact e
        · exact h.1 j' (by omega) h2
    · refine ⟨false, ?_, ⟨(fun h => Bool.noConfusion h), fun h => absurd (h.1 j (by omega) (by omega)) e⟩⟩
      refine Ev.step (fun k => impl_NetOk.l1.eq_2 ..) ?_
      rw [itest _ j (by omega), itest _ i (by omega)]
      exact Ev.pos (by omega) (Ev.pos (by omega) (Ev.pos (by omega) (Ev.pos (by omega) (Ev.neg e (Ev.one rfl)))))
theorem iNetOk_l0 (net : List Int) (hn : net.length ≤ 6) : ∀ d i : Nat, i + d = net.length → ∃ b, Ev (fun k => impl_NetOk.l0 k net net (net.length : Int) (i : Int)) b ∧ (b = true ↔ ∀ i' : Nat, i ≤ i' → i' < net.length → RowP net i') := by
  intro d
  induction d with
  | zero =>
    intro i hd
    refine ⟨true, ?_, ⟨fun _ i' h1 h2 => by omega, fun _ => rfl⟩⟩
    refine Ev.step (fun k => impl_NetOk.l0.eq_2 ..) ?_
    exact Ev.neg (by omega) (Ev.one rfl)
  | succ d ih =>
    intro i hd
    obtain ⟨c, hc, hc2⟩ := ih (i + 1) (by omega)
    obtain ⟨b, hb, hb2⟩ := iNetOk_l1 net hn i (by omega) c hc net.length 0 (by omega)
    have hbad : ∀ p : Bool, p = true → Ev (fun k => impl_NetOk.j2 k net (i : Int) (rd net (i : Int)) net (net.length : Int) (i : Int) p) false := by
      intro p hp
      refine Ev.step (fun k => impl_NetOk.j2.eq_2 ..) ?_
      exact Ev.pos hp (Ev.one rfl)
    have hgood : ∀ p : Bool, p = false → Ev (fun k => impl_NetOk.j2 k net (i : Int) (rd net (i : Int)) net (net.length : Int) (i : Int) p) b := by
      intro p hp
      refine Ev.step (fun k => impl_NetOk.j2.eq_2 ..) ?_
      exact Ev.neg (by simp [hp]) hb
    have hpow : shl .i64 1 (net.length : Int) = ((2 ^ net.length : Nat) : Int) := shl_one _ (by omega)
    by_cases h0 : rd net (i : Int) < 0
    · refine ⟨false, ?_, ⟨(fun h => Bool.noConfusion h), fun h => absurd (h i (by omega) (by omega)).1.1 (by omega)⟩⟩
      refine Ev.step (fun k => impl_NetOk.l0.eq_2 ..) ?_
      exact Ev.pos (by omega) (Ev.pos (by omega) (Ev.pos (by omega) (Ev.pos h0 (hbad true rfl))))
    · by_cases h1 : rd net (i : Int) ≥ ((2 ^ net.length : Nat) : Int)
      · refine ⟨false, ?_, ⟨(fun h => Bool.noConfusion h), fun h => absurd (h i (by omega) (by omega)).1.2 (by push_cast at h1; omega)⟩⟩
        refine Ev.step (fun k => impl_NetOk.l0.eq_2 ..) ?_
        rw [hpow]
        exact Ev.pos (by omega) (Ev.pos (by omega) (Ev.pos (by omega) (Ev.neg h0 (Ev.pos h1 (hbad true rfl)))))
      · by_cases h2 : rd net (i : Int) / 2 ^ i % 2 = 1
        · refine ⟨false, ?_, ⟨(fun h => Bool.noConfusion h), fun h => absurd (h i (by omega) (by omega)).2.1 (by omega)⟩⟩
          refine Ev.step (fun k => impl_NetOk.l0.eq_2 ..) ?_
          rw [hpow, itest _ i (by omega)]
          exact Ev.pos (by omega) (Ev.pos (by omega) (Ev.pos (by omega) (Ev.neg h0 (Ev.neg h1 (hbad _ (by rw [h2]; rfl))))))
        · refine ⟨b, ?_, ?_⟩
          · refine Ev.step (fun k => impl_NetOk.l0.eq_2 ..) ?_
            rw [hpow, itest _ i (by omega)]
            exact Ev.pos (by omega) (Ev.pos (by omega) (Ev.pos (by omega) (Ev.neg h0 (Ev.neg h1 (hgood _ (by simpa using h2))))))
          · rw [hb2, hc2]
            constructor
            · rintro ⟨g1, g2⟩ i' q1 q2
              by_cases q : i' = i
              · subst q
                exact ⟨⟨by omega, by push_cast at h1; omega⟩, by omega, fun j hj => g1 j (by omega) hj⟩
              · exact g2 i' (by omega) q2
            · intro g
              exact ⟨fun j' _ q2 => (g i (by omega) (by omega)).2.2 j' q2, fun i' q1 q2 => g i' (by omega) q2⟩
theorem iNetOk_any (net : List Int) : ∃ b, Ev (fun k => impl_NetOk.f k net) b ∧ (b = true ↔ NetP net) := by
  have hj : ∀ p : Bool, p = true → Ev (fun k => impl_NetOk.j0 k net p) false := by
    intro p hp
    refine Ev.step (fun k => impl_NetOk.j0.eq_2 ..) ?_
    exact Ev.pos hp (Ev.one rfl)
  by_cases h1 : net.length < 1
  · refine ⟨false, ?_, ⟨(fun h => Bool.noConfusion h), fun h => absurd h.1 (by omega)⟩⟩
    unfold impl_NetOk.f
    exact Ev.pos (by omega) (hj true rfl)
  · by_cases h2 : net.length > 6
    · refine ⟨false, ?_, ⟨(fun h => Bool.noConfusion h), fun h => absurd h.2.1 (by omega)⟩⟩
      unfold impl_NetOk.f
      exact Ev.neg (by omega) (hj _ (by simp; omega))
    · obtain ⟨b, hb, hb2⟩ := iNetOk_l0 net (by omega) net.length 0 (by omega)
      refine ⟨b, ?_, hb2.trans ⟨fun h => ⟨by omega, by omega, fun i hi => h i (by omega) hi⟩, fun h i _ hi => h.2.2 i hi⟩⟩
      unfold impl_NetOk.f
      refine Ev.neg (by omega) ?_
      refine Ev.step (fun k => impl_NetOk.j0.eq_2 ..) ?_
      exact Ev.neg (by simp; omega) hb
theorem iNetOk_yes {net : List Int} (h : NetP net) : Ev (fun k => impl_NetOk.f k net) true := by
  obtain ⟨b, hb, hb2⟩ := iNetOk_any net
  exact Ev.cast hb (hb2.2 h)
theorem iNetOk_no {net : List Int} (h : ¬ NetP net) : Ev (fun k => impl_NetOk.f k net) false := by
  obtain ⟨b, hb, hb2⟩ := iNetOk_any net
  exact Ev.cast hb (by cases b with | false => rfl | true => exact absurd (hb2.1 rfl) h)
theorem sNetOk_l2 (net : List Int) (hn : net.length ≤ 6) (hin : ∀ i : Nat, i < net.length → InS net.length (rd net (i : Int))) (i : Nat) (hi : i < net.length) (c : Bool) (hc : Ev (fun k => spec_NetOk.l1 k net ((i + 1 : Nat) : Int)) c) :
    ∀ d j : Nat, j + d = net.length → ∃ b, Ev (fun k => spec_NetOk.l2 k net (i : Int) (j : Int)) b ∧
      (b = true ↔ (∀ j' : Nat, j ≤ j' → j' < net.length → rd net (i : Int) / 2 ^ j' % 2 = rd net (j' : Int) / 2 ^ i % 2 ∧ (j' = i → rd net (i : Int) / 2 ^ i % 2 = 0)) ∧ c = true) := by
  intro d
  induction d with
  | zero =>
    intro j hd
    refine ⟨c, ?_, ?_⟩
    · refine Ev.step (fun k => spec_NetOk.l2.eq_2 ..) ?_
      refine Ev.neg (by omega) ?_
      rw [w64i i (by omega)]; exact hc
    · constructor
      · intro h; exact ⟨fun j' h1 h2 => by omega, h⟩
      · exact fun h => h.2
  | succ d ih =>
    intro j hd
    obtain ⟨b, hb, hb2⟩ := ih (j + 1) (by omega)
    have hstep : Ev (fun k => spec_NetOk.l2 k net (i : Int) ((j + 1 : Nat) : Int)) b := hb
    by_cases e : rd net (i : Int) / 2 ^ j % 2 = rd net (j : Int) / 2 ^ i % 2
    · by_cases e2 : j = i ∧ rd net (i : Int) / 2 ^ j % 2 = 1
      · refine ⟨false, ?_, ⟨(fun h => Bool.noConfusion h), fun h => ?_⟩⟩
        · refine Ev.step (fun k => spec_NetOk.l2.eq_2 ..) ?_
          rw [stest _ j (by omega) (hin i hi).1, stest _ i (by omega) (hin j (by omega)).1]
          exact Ev.pos (by omega) (Ev.pos (by omega) (Ev.pos (by omega) (Ev.pos (by omega) (Ev.pos e (Ev.pos (by omega) (Ev.pos e2.2 (Ev.one rfl)))))))
        · have := (h.1 j (by omega) (by omega)).2 e2.1
          have q := e2.2
          rw [e2.1] at q
          omega
      · refine ⟨b, ?_, hb2.trans ⟨fun h => ⟨fun j' h1 h2 => ?_, h.2⟩, fun h => ⟨fun j' h1 h2 => h.1 j' (by omega) h2, h.2⟩⟩⟩
        · refine Ev.step (fun k => spec_NetOk.l2.eq_2 ..) ?_
          rw [stest _ j (by omega) (hin i hi).1, stest _ i (by omega) (hin j (by omega)).1]
          refine Ev.pos (by omega) (Ev.pos (by omega) (Ev.pos (by omega) (Ev.pos (by omega) (Ev.pos e ?_))))
          rw [w64i j (by omega)]
          by_cases q : j = i
          · exact Ev.pos (by omega) (Ev.neg (fun z => e2 ⟨q, z⟩) hstep)
          · exact Ev.neg (by omega) hstep
        · by_cases q : j' = j
          · subst q
            refine ⟨e, fun z => ?_⟩
            have : ¬ rd net (i : Int) / 2 ^ j' % 2 = 1 := fun w => e2 ⟨z, w⟩
            rw [← z]; rw [← z] at this; omega
          · exact h.1 j' (by omega) h2
    · refine ⟨false, ?_, ⟨(fun h => Bool.noConfusion h), fun h => absurd (h.1 j (by omega) (by omega)).1 e⟩⟩
      refine Ev.step (fun k => spec_NetOk.l2.eq_2 ..) ?_
      rw [stest _ j (by omega) (hin i hi).1, stest _ i (by omega) (hin j (by omega)).1]
      exact Ev.pos (by omega) (Ev.pos (by omega) (Ev.pos (by omega) (Ev.pos (by omega) (Ev.neg e (Ev.one rfl)))))
theorem sNetOk_l1 (net : List Int) (hn : net.length ≤ 6) (hin : ∀ i : Nat, i < net.length → InS net.length (rd net (i : Int))) : ∀ d i : Nat, i + d = net.length → ∃ b, Ev (fun k => spec_NetOk.l1 k net (i : Int)) b ∧ (b = true ↔ ∀ i' : Nat, i ≤ i' → i' < net.length → RowP net i') := by
  intro d
  induction d with
  | zero =>
    intro i hd
    refine ⟨true, ?_, ⟨fun _ i' h1 h2 => by omega, fun _ => rfl⟩⟩
    refine Ev.step (fun k => spec_NetOk.l1.eq_2 ..) ?_
    exact Ev.neg (by omega) (Ev.one rfl)
  | succ d ih =>
    intro i hd
    obtain ⟨c, hc, hc2⟩ := ih (i + 1) (by omega)
    obtain ⟨b, hb, hb2⟩ := sNetOk_l2 net hn hin i (by omega) c hc net.length 0 (by omega)
    refine ⟨b, ?_, ?_⟩
    · refine Ev.step (fun k => spec_NetOk.l1.eq_2 ..) ?_
      exact Ev.pos (by omega) hb
    · rw [hb2, hc2]
      constructor
      · rintro ⟨g1, g2⟩ i' q1 q2
        by_cases q : i' = i
        · subst q
          exact ⟨hin _ q2, (g1 i' (by omega) q2).2 rfl, fun j hj => (g1 j (by omega) hj).1⟩
        · exact g2 i' (by omega) q2
      · intro g
        exact ⟨fun j' _ q2 => ⟨(g i (by omega) (by omega)).2.2 j' q2, fun _ => (g i (by omega) (by omega)).2.1⟩, fun i' q1 q2 => g i' (by omega) q2⟩
theorem sNetOk_l0 (net : List Int) (hn : net.length ≤ 6) : ∀ d i : Nat, i + d = net.length → (∀ i' : Nat, i' < i → InS net.length (rd net (i' : Int))) → ∃ b, Ev (fun k => spec_NetOk.l0 k net (i : Int)) b ∧ (b = true ↔ ∀ i' : Nat, i' < net.length → RowP net i') := by
  intro d
  induction d with
  | zero =>
    intro i hd hin
    obtain ⟨b, hb, hb2⟩ := sNetOk_l1 net hn (fun i' hi' => hin i' (by omega)) net.length 0 (by omega)
    refine ⟨b, ?_, hb2.trans ⟨fun h i' hi' => h i' (by omega) hi', fun h i' _ hi' => h i' hi'⟩⟩
    refine Ev.step (fun k => spec_NetOk.l0.eq_2 ..) ?_
    exact Ev.neg (by omega) hb
  | succ d ih =>
    intro i hd hin
    have hpow : wrap64 (shl .i64 1 (net.length : Int) - 1) = ((2 ^ net.length : Nat) : Int) - 1 := by
      have : (2 : Nat) ^ net.length ≤ 2 ^ 6 := Nat.pow_le_pow_right (by omega) hn
      have : (0 : Nat) < 2 ^ net.length := Nat.two_pow_pos _
      rw [shl_one _ (by omega), w64 (by omega) (by omega)]
    by_cases q : 0 ≤ rd net (i : Int) ∧ rd net (i : Int) ≤ ((2 ^ net.length : Nat) : Int) - 1
    · have hin' : ∀ i' : Nat, i' < i + 1 → InS net.length (rd net (i' : Int)) := by
        intro i' hi'
        by_cases e : i' = i
        · rw [e]; exact ⟨q.1, by have := q.2; push_cast at this; omega⟩
        · exact hin i' (by omega)
      obtain ⟨b, hb, hb2⟩ := ih (i + 1) (by omega) hin'
      refine ⟨b, ?_, hb2⟩
      refine Ev.step (fun k => spec_NetOk.l0.eq_2 ..) ?_
      rw [hpow]
      refine Ev.pos (by omega) (Ev.pos (by omega) (Ev.bind (l1In_ev _ _ _) (Ev.pos (decide_eq_true q) ?_)))
      rw [w64i i (by omega)]; exact hb
    · refine ⟨false, ?_, ⟨(fun h => Bool.noConfusion h), fun h => ?_⟩⟩
      · refine Ev.step (fun k => spec_NetOk.l0.eq_2 ..) ?_
        rw [hpow]
        exact Ev.pos (by omega) (Ev.pos (by omega) (Ev.bind (l1In_ev _ _ _) (Ev.neg (by rw [decide_eq_false q]; decide) (Ev.one rfl))))
      · have := (h i (by omega)).1
        exact absurd ⟨this.1, by have := this.2; push_cast; omega⟩ q
theorem sNetOk_any (net : List Int) : ∃ b, Ev (fun k => spec_NetOk.f k net) b ∧ (b = true ↔ NetP net) := by
  by_cases h : (1 : Int) ≤ (net.length : Int) ∧ (net.length : Int) ≤ 6
  · obtain ⟨b, hb, hb2⟩ := sNetOk_l0 net (by omega) net.length 0 (by omega) (fun i' hi' => by omega)
    refine ⟨b, ?_, hb2.trans ⟨fun g => ⟨by omega, by omega, g⟩, fun g => g.2.2⟩⟩
    unfold spec_NetOk.f
    exact Ev.bind (l1In_ev _ _ _) (Ev.pos (decide_eq_true h) hb)
  · refine ⟨false, ?_, ⟨(fun h => Bool.noConfusion h), fun g => absurd ⟨by have := g.1; omega, by have := g.2.1; omega⟩ h⟩⟩
    unfold spec_NetOk.f
    exact Ev.bind (l1In_ev _ _ _) (Ev.neg (by rw [decide_eq_false h]; decide) (Ev.one rfl))
theorem sNetOk_yes {net : List Int} (h : NetP net) : Ev (fun k => spec_NetOk.f k net) true := by
  obtain ⟨b, hb, hb2⟩ := sNetOk_any net
  exact Ev.cast hb (hb2.2 h)
theorem sNetOk_no {net : List Int} (h : ¬ NetP net) : Ev (fun k => spec_NetOk.f k net) false := by
  obtain ⟨b, hb, hb2⟩ := sNetOk_any net
  exact Ev.cast hb (by cases b with | false => rfl | true => exact absurd (hb2.1 rfl) h)
theorem setOk_yes {net : List Int} {set : Int} (h : NetP net) (hs : InS net.length set) : Ev (fun k => impl_setOk.f k net set) true := by
  have h6 := h.2.1
  unfold impl_setOk.f
  rw [shl_one _ (by omega)]
  refine Ev.bind (iNetOk_yes h) (Ev.pos rfl (Ev.pos hs.1 (Ev.one (congrArg some (decide_eq_true ?_)))))
  have := hs.2
  push_cast; exact this
theorem setOk_no {net : List Int} {set : Int} (h : ¬ (NetP net ∧ InS net.length set)) : Ev (fun k => impl_setOk.f k net set) false := by
  by_cases hn : NetP net
  · have h6 := hn.2.1
    unfold impl_setOk.f
    rw [shl_one _ (by omega)]
    refine Ev.bind (iNetOk_yes hn) (Ev.pos rfl ?_)
    by_cases h0 : set ≥ 0
    · refine Ev.pos h0 (Ev.one (congrArg some (decide_eq_false fun q => h ⟨hn, h0, ?_⟩)))
      push_cast at q; exact q
    · exact Ev.neg h0 (Ev.one rfl)
  · unfold impl_setOk.f
    exact Ev.bind (iNetOk_no hn) (Ev.neg (by decide) (Ev.one rfl))
theorem snear_l {net : List Int} (hn : NetP net) {set : Int} (hs : 0 ≤ set) : ∀ d i : Nat, i + d = net.length → Ev (fun k => spec_l1Near.l0 k net set (nearI net set i) (i : Int)) (near net set) := by
  have h6 := hn.2.1
  intro d
  induction d with
  | zero =>
    intro i hd
    refine Ev.step (fun k => spec_l1Near.l0.eq_2 ..) ?_
    refine Ev.neg (by omega) (Ev.one ?_)
    rw [near, ← hd]; rfl
  | succ d ih =>
    intro i hd
    refine Ev.step (fun k => spec_l1Near.l0.eq_2 ..) ?_
    rw [stest _ i (by omega) hs, w64i i (by omega)]
    refine Ev.pos (by omega) (Ev.pos (by omega) ?_)
    have := ih (i + 1) (by omega)
    cases c : tb set i with
    | true => simp only [nearI, c, if_true] at this; exact Ev.pos ((tb_iff _ _).1 c) this
    | false => simp only [nearI, c, Bool.false_eq_true, if_false] at this; exact Ev.neg (by rw [(tb_not _ _).1 c]; decide) this
theorem snear_ev {net : List Int} (hn : NetP net) {set : Int} (hs : 0 ≤ set) : Ev (fun k => spec_l1Near.f k net set) (near net set) := by
  unfold spec_l1Near.f
  exact snear_l hn hs net.length 0 (by omega)
theorem pow_less {n : Nat} (h6 : n ≤ 6) : wrap64 (shl .i64 1 (n : Int) - 1) = ((2 ^ n : Nat) : Int) - 1 := by
  have : (2 : Nat) ^ n ≤ 2 ^ 6 := Nat.pow_le_pow_right (by omega) h6
  have : (0 : Nat) < 2 ^ n := Nat.two_pow_pos _
  rw [shl_one _ (by omega), w64 (by omega) (by omega)]
theorem inSet_yes {n : Nat} (h6 : n ≤ 6) {set : Int} (hs : InS n set) : Ev (fun _ => spec_l1In.f set 0 (wrap64 (shl .i64 1 (n : Int) - 1))) true := by
  rw [pow_less h6]
  exact Ev.cast (l1In_ev _ _ _) (decide_eq_true ⟨hs.1, by have := hs.2; push_cast; omega⟩)
theorem inSet_no {n : Nat} (h6 : n ≤ 6) {set : Int} (hs : ¬ InS n set) : Ev (fun _ => spec_l1In.f set 0 (wrap64 (shl .i64 1 (n : Int) - 1))) false := by
  rw [pow_less h6]
  exact Ev.cast (l1In_ev _ _ _) (decide_eq_false fun q => hs ⟨q.1, by have := q.2; push_cast at this; omega⟩)
theorem iDist_l2 {net : List Int} (hn : NetP net) {set S : Int} {t : Nat} (ht : t ≤ 100) (hS1 : ∀ i, i < net.length → tb S i = true → Walk net set t i) (hS2 : ∀ i, First net set t i → tb S i = true) {r : List Int}
    (cont : ∀ (out : List Int) (nx : Int), out.length = net.length → (∀ i : Nat, i < net.length → DStat net set (t + 1) i (rd out (i : Int))) → InS net.length nx → (∀ v, tb nx v = true ↔ ∃ j, j < net.length ∧ First net set t j ∧ tb (rd net (j : Int)) v = true) → Ev (fun k => impl_DistancesFrom.l1 k net nx out ((t + 1 : Nat) : Int)) r) :
    ∀ (d i : Nat) (out : List Int) (nx : Int), i + d = net.length → out.length = net.length → (∀ j : Nat, j < i → DStat net set (t + 1) j (rd out (j : Int))) → (∀ j : Nat, i ≤ j → j < net.length → DStat net set t j (rd out (j : Int))) →
      InS net.length nx → (∀ v, tb nx v = true ↔ ∃ j, j < i ∧ First net set t j ∧ tb (rd net (j : Int)) v = true) →
      Ev (fun k => impl_DistancesFrom.l2 k net S out (t : Int) nx (net.length : Int) (i : Int)) r := by
  have h6 := hn.2.1
  intro d
  induction d with
  | zero =>
    intro i out nx hd hl h1 h2 h3 h4
    refine Ev.step (fun k => impl_DistancesFrom.l2.eq_2 ..) ?_
    refine Ev.neg (by omega) ?_
    rw [w64i t (by omega)]
    exact cont out nx hl (fun j hj => h1 j (by omega)) h3 (fun v => (h4 v).trans ⟨fun ⟨j, a, b⟩ => ⟨j, by omega, b⟩, fun ⟨j, a, b⟩ => ⟨j, by omega, b⟩⟩)
  | succ d ih =>
    intro i out nx hd hl h1 h2 h3 h4
    have hi : i < net.length := by omega
    have hstat := h2 i (Nat.le_refl _) hi
    by_cases hf : First net set t i
    · have hb := hS2 i hf
      have hv := hstat.first hf
      have o := InS.or (by omega) h3 (hn.ins hi)
      refine Ev.step (fun k => impl_DistancesFrom.l2.eq_2 ..) ?_
      rw [itest _ i (by omega), w64i i (by omega), Int.toNat_natCast]
      refine Ev.pos (by omega) (Ev.pos (by omega) (Ev.pos ((tb_iff _ _).1 hb) (Ev.pos (by omega) (Ev.pos (by omega) (Ev.pos (by omega) ?_)))))
      refine ih (i + 1) _ _ (by omega) (by simpa using hl) (fun j hj => ?_) (fun j hj hj2 => ?_) o.1 (fun v => ?_)
      · rw [rd_set _ _ _ _ (by omega)]
        by_cases e : i = j
        · rw [if_pos e, ← e]; exact DStat.now hf
        · rw [if_neg e]; exact h1 j (by omega)
      · rw [rd_set _ _ _ _ (by omega), if_neg (by omega)]; exact h2 j (by omega) hj2
      · rw [o.2, Bool.or_eq_true, h4]
        constructor
        · rintro (⟨j, a, b⟩ | b)
          · exact ⟨j, by omega, b⟩
          · exact ⟨i, by omega, hf, b⟩
        · rintro ⟨j, a, b⟩
          by_cases e : j = i
          · rw [e] at b; exact .inr b.2
          · exact .inl ⟨j, by omega, b⟩
    · have hgo : Ev (fun k => impl_DistancesFrom.l2 k net S out (t : Int) nx (net.length : Int) ((i + 1 : Nat) : Int)) r := by
        refine ih (i + 1) out nx (by omega) hl (fun j hj => ?_) (fun j hj hj2 => h2 j (by omega) hj2) h3 (fun v => (h4 v).trans ⟨fun ⟨j, a, b⟩ => ⟨j, by omega, b⟩, fun ⟨j, a, b⟩ => ⟨j, ?_, b⟩⟩)
        · by_cases e : j = i
          · rw [e]; exact hstat.up hf
          · exact h1 j (by omega)
        · by_cases e : j = i
          · rw [e] at b; exact absurd b.1 hf
          · omega
      refine Ev.step (fun k => impl_DistancesFrom.l2.eq_2 ..) ?_
      rw [itest _ i (by omega), w64i i (by omega)]
      refine Ev.pos (by omega) (Ev.pos (by omega) ?_)
      cases c : tb S i with
      | true =>
        refine Ev.pos ((tb_iff _ _).1 c) (Ev.pos (by omega) (Ev.neg (fun q => hf (hstat.neg q (hS1 i hi c))) hgo))
      | false => exact Ev.neg (by rw [(tb_not _ _).1 c]; decide) hgo
theorem iDist_l1 {net : List Int} (hn : NetP net) {set : Int} : ∀ (e t : Nat) (S : Int) (out : List Int), t + e = net.length + 1 → out.length = net.length → (∀ i : Nat, i < net.length → DStat net set t i (rd out (i : Int))) → InS net.length S →
    (∀ i, i < net.length → tb S i = true → Walk net set t i) → (∀ i, First net set t i → tb S i = true) → (1 ≤ t → ∀ i, tb S i = true → ∃ j, First net set (t - 1) j) → Ev (fun k => impl_DistancesFrom.l1 k net S out (t : Int)) (distRow net set) := by
  have h6 := hn.2.1
  have stop : ∀ (t : Nat) (S : Int) (out : List Int), out.length = net.length → (∀ i : Nat, i < net.length → DStat net set t i (rd out (i : Int))) → (∀ i, First net set t i → tb S i = true) → S = 0 → Ev (fun k => impl_DistancesFrom.l1 k net S out (t : Int)) (distRow net set) := by
    intro t S out hl h1 hS2 hz
    refine Ev.step (fun k => impl_DistancesFrom.l1.eq_2 ..) ?_
    exact Ev.pos hz (Ev.one (congrArg some (DStat.done hl h1 (fun i hi => by have := hS2 i hi; rw [hz, tb_zero] at this; cases this))))
  intro e
  induction e with
  | zero =>
    intro t S out he hl h1 h2 hS1 hS2 hS3
    refine stop t S out hl h1 hS2 (set_zero h2 (fun j hj => ?_))
    cases c : tb S j with
    | false => rfl
    | true => obtain ⟨j', hj'⟩ := hS3 (by omega) j c; have := hj'.small; omega
  | succ e ih =>
    intro t S out he hl h1 h2 hS1 hS2 hS3
    by_cases hz : S = 0
    · exact stop t S out hl h1 hS2 hz
    · refine Ev.step (fun k => impl_DistancesFrom.l1.eq_2 ..) ?_
      rw [hl]
      refine Ev.neg hz (iDist_l2 hn (by omega) hS1 hS2 (fun out' nx hl' h1' h3' h4' => ?_) net.length 0 out 0 (by omega) hl (fun j hj => by omega) (fun j _ hj => h1 j hj) (InS.zero _) (fun v => by rw [tb_zero]; exact ⟨(fun q => Bool.noConfusion q), fun ⟨j, a, _⟩ => by omega⟩))
      refine ih (t + 1) nx out' (by omega) hl' h1' h3' (fun i hi hb => ?_) (fun i hi => ?_) (fun _ i hb => ?_)
      · obtain ⟨j, hj, hf, hb⟩ := (h4' i).1 hb
        exact ⟨j, hf.1, hj, hi, hb⟩
      · obtain ⟨j, hf, hj, hb⟩ := hi.next
        exact (h4' i).2 ⟨j, hj, hf, hb⟩
      · obtain ⟨j, hj, hf, hb⟩ := (h4' i).1 hb
        exact ⟨j, hf⟩
theorem iDist_l0 {net : List Int} (hn : NetP net) {set : Int} (hs : InS net.length set) : ∀ (d i : Nat) (x : List Int), i + d = net.length → x.length = net.length → (∀ j : Nat, j < i → rd x (j : Int) = -1) → Ev (fun k => impl_DistancesFrom.l0 k net set x (net.length : Int) (i : Int)) (distRow net set) := by
  have h6 := hn.2.1
  intro d
  induction d with
  | zero =>
    intro i x hd hl h
    refine Ev.step (fun k => impl_DistancesFrom.l0.eq_2 ..) ?_
    refine Ev.neg (by omega) ?_
    refine iDist_l1 hn (net.length + 1) 0 set x (by omega) hl (fun j hj => by rw [h j (by omega)]; exact DStat.none _ _ _) hs (fun j hj hb => ⟨hj, hb⟩) (fun j hj => (First.zero.1 hj).2) (fun q => by omega)
  | succ d ih =>
    intro i x hd hl h
    refine Ev.step (fun k => impl_DistancesFrom.l0.eq_2 ..) ?_
    refine Ev.pos (by omega) (Ev.pos (by omega) (Ev.pos (by omega) ?_))
    rw [w64i i (by omega), Int.toNat_natCast]
    refine ih (i + 1) _ (by omega) (by simpa using hl) (fun j hj => ?_)
    rw [rd_set _ _ _ _ (by omega)]
    by_cases e : i = j
    · rw [if_pos e]
    · rw [if_neg e]; exact h j (by omega)
theorem iDist_yes {net : List Int} {set : Int} (hn : NetP net) (hs : InS net.length set) : Ev (fun k => impl_DistancesFrom.f k net set) (distRow net set) := by
  have h6 := hn.2.1
  unfold impl_DistancesFrom.f
  refine Ev.bind (setOk_yes hn hs) (Ev.pos rfl (Ev.pos (by omega) (Ev.pos (by omega) (Ev.bind (Ev.now _) ?_))))
  rw [List.length_replicate, Int.toNat_natCast]
  exact iDist_l0 hn hs net.length 0 _ (by omega) (by simp) (fun j hj => by omega)
theorem iDist_no {net : List Int} {set : Int} (h : ¬ (NetP net ∧ InS net.length set)) : Ev (fun k => impl_DistancesFrom.f k net set) [] := by
  unfold impl_DistancesFrom.f
  exact Ev.bind (setOk_no h) (Ev.neg (by decide) (Ev.one rfl))
theorem sFar_l2 {net : List Int} (hn : NetP net) {set S seen : Int} {t : Nat} (ht : t ≤ 100) (hS0 : InS net.length S) (hS : ∀ i, tb S i = true ↔ First net set t i) (hQ0 : InS net.length seen) (hQ : ∀ i, tb seen i = true ↔ ∃ s, s < t ∧ First net set s i) {r : List Int}
    (cont : ∀ (out : List Int) (seen' S' : Int), out.length = net.length → (∀ i : Nat, i < net.length → DStat net set (t + 1) i (rd out (i : Int))) → InS net.length S' → (∀ i, tb S' i = true ↔ First net set (t + 1) i) → InS net.length seen' → (∀ i, tb seen' i = true ↔ ∃ s, s < t + 1 ∧ First net set s i) → Ev (fun k => spec_l1Far.l1 k net out seen' S' ((t + 1 : Nat) : Int)) r) :
    ∀ (d i : Nat) (out : List Int), i + d = net.length → out.length = net.length → (∀ j : Nat, j < i → DStat net set (t + 1) j (rd out (j : Int))) → (∀ j : Nat, i ≤ j → j < net.length → DStat net set t j (rd out (j : Int))) →
      Ev (fun k => spec_l1Far.l2 k net out seen S (t : Int) (i : Int)) r := by
  have h6 := hn.2.1
  intro d
  induction d with
  | zero =>
    intro i out hd hl h1 h2
    refine Ev.step (fun k => spec_l1Far.l2.eq_2 ..) ?_
    refine Ev.neg (by omega) (Ev.bind (snear_ev hn hS0.1) ?_)
    rw [w64i t (by omega)]
    have o := InS.or (by omega) hQ0 hS0
    have hseen : ∀ i, tb (Go.bits .or .i64 seen S) i = true ↔ ∃ s, s < t + 1 ∧ First net set s i := by
      intro v
      rw [o.2, Bool.or_eq_true, hQ, hS]
      constructor
      · rintro (⟨s, a, b⟩ | b)
        · exact ⟨s, by omega, b⟩
        · exact ⟨t, by omega, b⟩
      · rintro ⟨s, a, b⟩
        by_cases e : s = t
        · rw [e] at b; exact .inr b
        · exact .inl ⟨s, by omega, b⟩
    have m := InS.andNot (by omega) (near_ins hn S) o.1
    refine cont out _ _ hl (fun j hj => h1 j (by omega)) m.1 (fun v => ?_) o.1 hseen
    rw [m.2, Bool.and_eq_true, Bool.not_eq_true', ← Bool.not_eq_true, hseen, near_tb hn]
    constructor
    · rintro ⟨⟨j, hj, a, b⟩, c⟩
      have hv : v < net.length := by
        refine Classical.byContradiction fun q => ?_
        rw [tb_far (hn.ins hj) (by omega)] at b; cases b
      refine ⟨⟨j, ((hS j).1 a).1, hj, hv, b⟩, fun s hs hw => c ?_⟩
      obtain ⟨s', q1, q2⟩ := First.of_walk s hw
      exact ⟨s', by omega, q2⟩
    · intro hf
      obtain ⟨j, q1, q2, q3⟩ := hf.next
      refine ⟨⟨j, q2, (hS j).2 q1, q3⟩, ?_⟩
      rintro ⟨s, a, b⟩
      exact hf.2 s a b.1
  | succ d ih =>
    intro i out hd hl h1 h2
    have hi : i < net.length := by omega
    have hstat := h2 i (Nat.le_refl _) hi
    refine Ev.step (fun k => spec_l1Far.l2.eq_2 ..) ?_
    rw [stest _ i (by omega) hS0.1, w64i i (by omega), Int.toNat_natCast]
    refine Ev.pos (by omega) (Ev.pos (by omega) ?_)
    cases c : tb S i with
    | true =>
      have hf := (hS i).1 c
      refine Ev.pos ((tb_iff _ _).1 c) (Ev.pos (by omega) ?_)
      refine ih (i + 1) _ (by omega) (by simpa using hl) (fun j hj => ?_) (fun j hj hj2 => ?_)
      · rw [rd_set _ _ _ _ (by omega)]
        by_cases e : i = j
        · rw [if_pos e, ← e]; exact DStat.now hf
        · rw [if_neg e]; exact h1 j (by omega)
      · rw [rd_set _ _ _ _ (by omega), if_neg (by omega)]; exact h2 j (by omega) hj2
    | false =>
      refine Ev.neg (by rw [(tb_not _ _).1 c]; decide) (ih (i + 1) out (by omega) hl (fun j hj => ?_) (fun j hj hj2 => h2 j (by omega) hj2))
      by_cases e : j = i
      · rw [e]; exact hstat.up (fun q => by rw [(hS i).2 q] at c; cases c)
      · exact h1 j (by omega)
theorem sFar_l1 {net : List Int} (hn : NetP net) {set : Int} : ∀ (e t : Nat) (S seen : Int) (out : List Int), t + e = net.length + 1 → out.length = net.length → (∀ i : Nat, i < net.length → DStat net set t i (rd out (i : Int))) → InS net.length S →
    (∀ i, tb S i = true ↔ First net set t i) → InS net.length seen → (∀ i, tb seen i = true ↔ ∃ s, s < t ∧ First net set s i) → Ev (fun k => spec_l1Far.l1 k net out seen S (t : Int)) (distRow net set) := by
  have h6 := hn.2.1
  intro e
  induction e with
  | zero =>
    intro t S seen out he hl h1 h2 hS hQ0 hQ
    have hz : S = 0 := set_zero h2 (fun j hj => by
      cases c : tb S j with
      | false => rfl
      | true => have := ((hS j).1 c).small; omega)
    refine Ev.step (fun k => spec_l1Far.l1.eq_2 ..) ?_
    exact Ev.pos hz (Ev.one (congrArg some (DStat.done hl h1 (fun i hi => by have := (hS i).2 hi; rw [hz, tb_zero] at this; cases this))))
  | succ e ih =>
    intro t S seen out he hl h1 h2 hS hQ0 hQ
    refine Ev.step (fun k => spec_l1Far.l1.eq_2 ..) ?_
    by_cases hz : S = 0
    · exact Ev.pos hz (Ev.one (congrArg some (DStat.done hl h1 (fun i hi => by have := (hS i).2 hi; rw [hz, tb_zero] at this; cases this))))
    · exact Ev.neg hz (sFar_l2 hn (by omega) h2 hS hQ0 hQ (fun out' seen' S' a1 a2 a3 a4 a5 a6 => ih (t + 1) S' seen' out' (by omega) a1 a2 a3 a4 a5 a6) net.length 0 out (by omega) hl (fun j hj => by omega) (fun j _ hj => h1 j hj))
theorem sFar_l0 {net : List Int} (hn : NetP net) {set : Int} (hs : InS net.length set) : ∀ (d i : Nat), i + d = net.length → Ev (fun k => spec_l1Far.l0 k net set (mkL (fun _ => -1) i) (i : Int)) (distRow net set) := by
  have h6 := hn.2.1
  intro d
  induction d with
  | zero =>
    intro i hd
    refine Ev.step (fun k => spec_l1Far.l0.eq_2 ..) ?_
    refine Ev.neg (by omega) ?_
    refine sFar_l1 hn (net.length + 1) 0 set 0 _ (by omega) (by rw [mkL_len]; omega) (fun j hj => by rw [rd_mkL _ _ _ (by omega)]; exact DStat.none _ _ _) hs (fun j => ?_) (InS.zero _) (fun j => by rw [tb_zero]; exact ⟨(fun q => Bool.noConfusion q), fun ⟨s, a, _⟩ => by omega⟩)
    rw [First.zero]
    refine ⟨fun q => ⟨?_, q⟩, fun q => q.2⟩
    refine Classical.byContradiction fun w => ?_
    rw [tb_far hs (by omega)] at q; cases q
  | succ d ih =>
    intro i hd
    refine Ev.step (fun k => spec_l1Far.l0.eq_2 ..) ?_
    rw [w64i i (by omega), show mkL (fun _ => -1) i ++ [(-1 : Int)] = mkL (fun _ => -1) (i + 1) from mkL_snoc (fun _ => -1) i]
    exact Ev.pos (by omega) (Ev.pos (by rw [mkL_len]; omega) (ih (i + 1) (by omega)))
theorem sFar_ev {net : List Int} {set : Int} (hn : NetP net) (hs : InS net.length set) : Ev (fun k => spec_l1Far.f k net set) (distRow net set) := by
  unfold spec_l1Far.f
  exact sFar_l0 hn hs net.length 0 (by omega)
theorem ones_all : ∀ x : Fin 64, bits_OnesCount.f ((x.val : Nat) : Int) = some (popc ((x.val : Nat) : Int)) := by decide +kernel
theorem ones_ev {x : Int} (h0 : 0 ≤ x) (h1 : x < 64) : Ev (fun _ => bits_OnesCount.f (IntKind.u64.wrap x)) (popc x) := by
  obtain ⟨a, rfl⟩ := Int.eq_ofNat_of_zero_le h0
  have e : IntKind.u64.wrap (a : Int) = (a : Int) := by simp [IntKind.wrap, IntKind.bits, IntKind.signed]; omega
  rw [e]
  exact Ev.one (ones_all ⟨a, by omega⟩)
/-- Lit at the nodes of the set, the wave has reached every node after so many steps. -/
def Cov (net : List Int) (steps s : Int) : Prop := ∀ j : Nat, j < net.length → 0 ≤ rd (distRow net s) (j : Int) ∧ rd (distRow net s) (j : Int) ≤ steps
/-- The least of the smallest sets that cover. -/
def Best (net : List Int) (steps : Int) (b : Nat) : Prop := b < 2 ^ net.length ∧ Cov net steps (b : Int) ∧ ∀ s : Nat, s < 2 ^ net.length → Cov net steps (s : Int) → popc (b : Int) ≤ popc (s : Int) ∧ (s < b → popc (b : Int) < popc (s : Int))
theorem pow64 {n : Nat} (h6 : n ≤ 6) : 1 ≤ 2 ^ n ∧ 2 ^ n ≤ 64 := ⟨Nat.two_pow_pos n, by have : (2 : Nat) ^ n ≤ 2 ^ 6 := Nat.pow_le_pow_right (by omega) h6; omega⟩
theorem pop_full_all : ∀ (n : Fin 7), popc ((2 ^ n.val - 1 : Nat) : Int) = (n.val : Int) ∧ ∀ x : Fin 64, x.val < 2 ^ n.val - 1 → popc ((x.val : Nat) : Int) < (n.val : Int) := by decide +kernel
theorem pop_full {n : Nat} (h6 : n ≤ 6) : popc ((2 ^ n - 1 : Nat) : Int) = (n : Int) := (pop_full_all ⟨n, by omega⟩).1
theorem pop_less {n : Nat} (h6 : n ≤ 6) {x : Nat} (h : x < 2 ^ n - 1) : popc (x : Int) < (n : Int) := (pop_full_all ⟨n, by omega⟩).2 ⟨x, by have := pow64 h6; omega⟩ h
theorem cov_full {net : List Int} (_hn : NetP net) {steps : Int} (hs : 0 ≤ steps) : Cov net steps ((2 ^ net.length - 1 : Nat) : Int) := by
  intro j hj
  have : rd (distRow net ((2 ^ net.length - 1 : Nat) : Int)) (j : Int) = 0 := (dist_zero hj).2 (by rw [tb_nat, Nat.testBit_two_pow_sub_one]; exact decide_eq_true hj)
  omega
theorem cov_zero {net : List Int} (hn : NetP net) {steps : Int} : ¬ Cov net steps ((0 : Nat) : Int) := by
  intro h
  have h1 := (h 0 (by have := hn.1; omega)).1
  obtain ⟨t, ht⟩ := (dist_nonneg (by have := hn.1; omega)).1 h1
  have none : ∀ (t i : Nat), ¬ Walk net ((0 : Nat) : Int) t i := by
    intro t
    induction t with
    | zero => intro i hw; have := hw.2; rw [show ((0 : Nat) : Int) = 0 from rfl, tb_zero] at this; cases this
    | succ t ih => rintro i ⟨j, hw, _⟩; exact ih j hw
  exact none t 0 ht
theorem Best.pos {net : List Int} (hn : NetP net) {steps : Int} {b : Nat} (h : Best net steps b) : 1 ≤ b := by
  refine Nat.pos_of_ne_zero (fun e => ?_)
  have := h.2.1
  rw [e] at this
  exact cov_zero hn this
theorem Best.le {net : List Int} (hn : NetP net) {steps : Int} (hs : 0 ≤ steps) {b : Nat} (h : Best net steps b) : popc (b : Int) ≤ net.length := by
  have := pow64 hn.2.1
  have h2 := (h.2.2 (2 ^ net.length - 1) (by omega) (cov_full hn hs)).1
  rw [pop_full hn.2.1] at h2
  exact h2
theorem cov_l {net : List Int} (hn : NetP net) (steps s : Int) : ∀ (d i : Nat), i + d = net.length → (∀ j : Nat, j < i → 0 ≤ rd (distRow net s) (j : Int) ∧ rd (distRow net s) (j : Int) ≤ steps) → ∃ b, Ev (fun k => spec_l4Covers.l0 k steps (distRow net s) (i : Int)) b ∧ (b = true ↔ Cov net steps s) := by
  have h6 := hn.2.1
  have hl := distRow_len net s
  intro d
  induction d with
  | zero =>
    intro i hd h
    refine ⟨true, Ev.step (fun k => spec_l4Covers.l0.eq_2 ..) (Ev.neg (by omega) (Ev.one rfl)), fun _ j hj => h j (by omega), fun _ => rfl⟩
  | succ d ih =>
    intro i hd h
    by_cases c : rd (distRow net s) (i : Int) < 0
    · exact ⟨false, Ev.step (fun k => spec_l4Covers.l0.eq_2 ..) (Ev.pos (by omega) (Ev.pos (by omega) (Ev.pos c (Ev.one rfl)))), (fun q => Bool.noConfusion q), fun q => by have := (q i (by omega)).1; omega⟩
    · by_cases c2 : rd (distRow net s) (i : Int) > steps
      · exact ⟨false, Ev.step (fun k => spec_l4Covers.l0.eq_2 ..) (Ev.pos (by omega) (Ev.pos (by omega) (Ev.neg c (Ev.pos c2 (Ev.one rfl))))), (fun q => Bool.noConfusion q), fun q => by have := (q i (by omega)).2; omega⟩
      · obtain ⟨b, hb, hb2⟩ := ih (i + 1) (by omega) (fun j hj => by
          by_cases e : j = i
          · rw [e]; omega
          · exact h j (by omega))
        refine ⟨b, Ev.step (fun k => spec_l4Covers.l0.eq_2 ..) ?_, hb2⟩
        rw [w64i i (by omega)]
        exact Ev.pos (by omega) (Ev.pos (by omega) (Ev.neg c (Ev.neg c2 hb)))
theorem cov_ev {net : List Int} (hn : NetP net) (steps : Int) {s : Int} (hs : InS net.length s) : ∃ b, Ev (fun k => spec_l4Covers.f k net s steps) b ∧ (b = true ↔ Cov net steps s) := by
  obtain ⟨b, hb, hb2⟩ := cov_l hn steps s net.length 0 (by omega) (fun j hj => by omega)
  refine ⟨b, ?_, hb2⟩
  unfold spec_l4Covers.f
  exact Ev.bind (sFar_ev hn hs) hb
theorem size_all : ∀ x : Fin 64, spec_l4Size.f 20 ((x.val : Nat) : Int) = some (popc ((x.val : Nat) : Int)) := by decide +kernel
theorem size_ev {x : Nat} (h : x < 64) : Ev (fun k => spec_l4Size.f k (x : Int)) (popc (x : Int)) := Ev.of (fun k => spec_l4Size.mono _ k) (k := 20) (size_all ⟨x, h⟩)
theorem sFew_l {net : List Int} (hn : NetP net) {steps : Int} (hs : 0 ≤ steps) {b : Nat} (hb : Best net steps b) : ∀ (d m : Nat) (F : Int), m + d = 2 ^ net.length → 1 ≤ m → (F = net.length ∨ ∃ s : Nat, s < m ∧ Cov net steps (s : Int) ∧ popc (s : Int) = F) → F ≤ net.length → (∀ s : Nat, s < m → Cov net steps (s : Int) → F ≤ popc (s : Int)) →
    Ev (fun k => spec_FewestLights.l0 k net steps F (m : Int)) (popc (b : Int)) := by
  have h6 := hn.2.1
  have hp := pow64 h6
  have hmn : ∀ a c : Int, mn a c = if c < a then c else a := fun _ _ => rfl
  intro d
  induction d with
  | zero =>
    intro m F hd hm hF hFn hall
    refine Ev.step (fun k => spec_FewestLights.l0.eq_2 ..) ?_
    rw [shl_one _ (by omega)]
    refine Ev.neg (by omega) (Ev.one (congrArg some ?_))
    have h1 := hall b (by have := hb.1; omega) hb.2.1
    have h2 := hb.le hn hs
    rcases hF with e | ⟨s, hs', hc, e⟩
    · omega
    · have := (hb.2.2 s (by omega) hc).1; omega
  | succ d ih =>
    intro m F hd hm hF hFn hall
    obtain ⟨c, hc, hc2⟩ := cov_ev hn steps (s := (m : Int)) (InS.of (by omega))
    refine Ev.step (fun k => spec_FewestLights.l0.eq_2 ..) ?_
    rw [shl_one _ (by omega), w64i m (by omega)]
    refine Ev.pos (by omega) (Ev.bind hc ?_)
    cases c with
    | true =>
      have hcov := hc2.1 rfl
      refine Ev.pos rfl (Ev.bind (size_ev (by omega)) (ih (m + 1) _ (by omega) (by omega) ?_ ?_ ?_))
      · rw [hmn]
        by_cases q : popc (m : Int) < F
        · rw [if_pos q]; exact .inr ⟨m, by omega, hcov, rfl⟩
        · rw [if_neg q]
          rcases hF with e | ⟨s, hs', hc, e⟩
          · exact .inl e
          · exact .inr ⟨s, by omega, hc, e⟩
      · rw [hmn]; split <;> omega
      · intro s hs' hc
        rw [hmn]
        by_cases e : s = m
        · rw [e]; split <;> omega
        · have := hall s (by omega) hc
          split <;> omega
    | false =>
      refine Ev.neg (by decide) (ih (m + 1) F (by omega) (by omega) ?_ hFn ?_)
      · rcases hF with e | ⟨s, hs', hc, e⟩
        · exact .inl e
        · exact .inr ⟨s, by omega, hc, e⟩
      · intro s hs' hc
        by_cases e : s = m
        · rw [e] at hc; exact absurd (hc2.2 hc) (by decide)
        · exact hall s (by omega) hc
theorem sFew_yes {net : List Int} (hn : NetP net) {steps : Int} (hs : 0 ≤ steps) {b : Nat} (hb : Best net steps b) : Ev (fun k => spec_FewestLights.f k net steps) (popc (b : Int)) := by
  have hp := pow64 hn.2.1
  unfold spec_FewestLights.f
  refine Ev.bind (sNetOk_yes hn) (Ev.pos rfl ?_)
  refine Ev.step (fun k => spec_FewestLights.j0.eq_2 ..) ?_
  refine Ev.neg (by simp; omega) (sFew_l hn hs hb (2 ^ net.length - 1) 1 _ (by omega) (by omega) (.inl rfl) (Int.le_refl _) (fun s hs' hc => ?_))
  rw [show s = 0 by omega] at hc
  exact absurd hc (cov_zero hn)
theorem sFew_no {net : List Int} {steps : Int} (h : ¬ (NetP net ∧ 0 ≤ steps)) : Ev (fun k => spec_FewestLights.f k net steps) (-1) := by
  have hj : ∀ p : Bool, p = true → Ev (fun k => spec_FewestLights.j0 k net steps p) (-1) := by
    intro p hp
    refine Ev.step (fun k => spec_FewestLights.j0.eq_2 ..) ?_
    exact Ev.pos hp (Ev.one rfl)
  unfold spec_FewestLights.f
  by_cases hn : NetP net
  · exact Ev.bind (sNetOk_yes hn) (Ev.pos rfl (hj _ (decide_eq_true (Classical.byContradiction fun q => h ⟨hn, by omega⟩))))
  · exact Ev.bind (sNetOk_no hn) (Ev.neg (by decide) (hj _ rfl))
theorem iLF_l1 {net : List Int} (hn : NetP net) {steps : Int} {s : Nat} {B z : Int} {r : Int} (c1 : Cov net steps (s : Int) → Ev (fun k => impl_LightsFor.l0 k net steps (s : Int) z ((s + 1 : Nat) : Int)) r) (c2 : ¬ Cov net steps (s : Int) → Ev (fun k => impl_LightsFor.l0 k net steps B z ((s + 1 : Nat) : Int)) r) (hs : s < 64) :
    ∀ (d i : Nat) (p : Bool), i + d = net.length → (p = true ↔ ∀ j : Nat, j < i → 0 ≤ rd (distRow net (s : Int)) (j : Int) ∧ rd (distRow net (s : Int)) (j : Int) ≤ steps) →
      Ev (fun k => impl_LightsFor.l1 k net steps B (s : Int) p z (s : Int) (distRow net (s : Int)) (net.length : Int) (i : Int)) r := by
  have h6 := hn.2.1
  have hl := distRow_len net (s : Int)
  intro d
  induction d with
  | zero =>
    intro i p hd hp
    refine Ev.step (fun k => impl_LightsFor.l1.eq_2 ..) ?_
    rw [w64i s (by omega)]
    refine Ev.neg (by omega) ?_
    by_cases q : p = true
    · exact Ev.pos q (c1 (fun j hj => hp.1 q j (by omega)))
    · exact Ev.neg q (c2 (fun c => q (hp.2 (fun j hj => c j (by omega)))))
  | succ d ih =>
    intro i p hd hp
    refine Ev.step (fun k => impl_LightsFor.l1.eq_2 ..) ?_
    rw [w64i i (by omega)]
    refine Ev.pos (by omega) (Ev.pos (by omega) (Ev.pos (by omega) ?_))
    have down : (¬ (p = true ∧ 0 ≤ rd (distRow net (s : Int)) (i : Int))) → Ev (fun k => impl_LightsFor.l1 k net steps B (s : Int) false z (s : Int) (distRow net (s : Int)) (net.length : Int) ((i + 1 : Nat) : Int)) r := by
      intro q
      refine ih (i + 1) false (by omega) ⟨(fun q => Bool.noConfusion q), fun h => absurd ⟨hp.2 (fun j hj => h j (by omega)), (h i (by omega)).1⟩ q⟩
    by_cases q : p = true
    · by_cases c : rd (distRow net (s : Int)) (i : Int) ≥ 0
      · refine Ev.pos q (Ev.pos c (ih (i + 1) _ (by omega) ?_))
        rw [decide_eq_true_iff]
        constructor
        · intro h j hj
          by_cases e : j = i
          · rw [e]; exact ⟨c, h⟩
          · exact hp.1 q j (by omega)
        · intro h; exact (h i (by omega)).2
      · exact Ev.pos q (Ev.neg c (down (fun z => c z.2)))
    · exact Ev.neg q (down (fun z => q z.1))
theorem iLF_l0 {net : List Int} (hn : NetP net) {steps : Int} : ∀ (d m B : Nat), m + d = 2 ^ net.length → B < 2 ^ net.length → Cov net steps (B : Int) → (∀ s : Nat, s < m → Cov net steps (s : Int) → popc (B : Int) ≤ popc (s : Int) ∧ (s < B → popc (B : Int) < popc (s : Int))) → (B < m ∨ B = 2 ^ net.length - 1) →
    ∃ b : Nat, Ev (fun k => impl_LightsFor.l0 k net steps (B : Int) ((2 ^ net.length : Nat) : Int) (m : Int)) (b : Int) ∧ Best net steps b := by
  have h6 := hn.2.1
  have hp := pow64 h6
  intro d
  induction d with
  | zero =>
    intro m B hd hB hc hall _
    exact ⟨B, Ev.step (fun k => impl_LightsFor.l0.eq_2 ..) (Ev.neg (by omega) (Ev.one rfl)), hB, hc, fun s hs => hall s (by omega)⟩
  | succ d ih =>
    intro m B hd hB hc hall hor
    have keep : ¬ (popc (m : Int) < popc (B : Int) ∧ Cov net steps (m : Int)) → ∃ b : Nat, Ev (fun k => impl_LightsFor.l0 k net steps (B : Int) ((2 ^ net.length : Nat) : Int) ((m + 1 : Nat) : Int)) (b : Int) ∧ Best net steps b := by
      intro q
      refine ih (m + 1) B (by omega) hB hc (fun s hs hcs => ?_) (by omega)
      by_cases e : s = m
      · rw [e] at hcs ⊢
        have hle : popc (B : Int) ≤ popc (m : Int) := by
          refine Classical.byContradiction fun w => q ⟨by omega, hcs⟩
        refine ⟨hle, fun hlt => ?_⟩
        rcases hor with w | w
        · omega
        · have h1 := pop_less h6 (x := m) (by omega)
          have h2 := pop_full h6
          rw [← w] at h2
          omega
      · exact hall s (by omega) hcs
    have hm1 := ones_ev (x := (m : Int)) (by omega) (by omega)
    have hb1 := ones_ev (x := (B : Int)) (by omega) (by omega)
    by_cases c : popc (m : Int) ≥ popc (B : Int)
    · obtain ⟨b, hb, hb2⟩ := keep (fun q => by omega)
      refine ⟨b, Ev.step (fun k => impl_LightsFor.l0.eq_2 ..) ?_, hb2⟩
      rw [w64i m (by omega)]
      exact Ev.pos (by omega) (Ev.bind hm1 (Ev.bind hb1 (Ev.pos c hb)))
    · have fin : ∀ b : Nat, (Cov net steps (m : Int) → Ev (fun k => impl_LightsFor.l0 k net steps (m : Int) ((2 ^ net.length : Nat) : Int) ((m + 1 : Nat) : Int)) (b : Int)) → (¬ Cov net steps (m : Int) → Ev (fun k => impl_LightsFor.l0 k net steps (B : Int) ((2 ^ net.length : Nat) : Int) ((m + 1 : Nat) : Int)) (b : Int)) → Ev (fun k => impl_LightsFor.l0 k net steps (B : Int) ((2 ^ net.length : Nat) : Int) (m : Int)) (b : Int) := by
        intro b q1 q2
        refine Ev.step (fun k => impl_LightsFor.l0.eq_2 ..) ?_
        refine Ev.pos (by omega) (Ev.bind hm1 (Ev.bind hb1 (Ev.neg c (Ev.bind (iDist_yes hn (InS.of (by omega))) ?_))))
        rw [distRow_len]
        exact iLF_l1 hn q1 q2 (by omega) net.length 0 true (by omega) ⟨fun _ j hj => by omega, fun _ => rfl⟩
      by_cases hcm : Cov net steps (m : Int)
      · obtain ⟨b, hb, hb2⟩ := ih (m + 1) m (by omega) (by omega) hcm (fun s hs hcs => by
          by_cases e : s = m
          · rw [e]; exact ⟨Int.le_refl _, fun q => by omega⟩
          · have := (hall s (by omega) hcs).1
            exact ⟨by omega, fun _ => by omega⟩) (.inl (by omega))
        exact ⟨b, fin b (fun _ => hb) (fun q => absurd hcm q), hb2⟩
      · obtain ⟨b, hb, hb2⟩ := keep (fun q => hcm q.2)
        exact ⟨b, fin b (fun q => absurd q hcm) (fun _ => hb), hb2⟩
theorem iLF_yes {net : List Int} (hn : NetP net) {steps : Int} (hs : 0 ≤ steps) : ∃ b : Nat, Ev (fun k => impl_LightsFor.f k net steps) (b : Int) ∧ Best net steps b := by
  have h6 := hn.2.1
  have hp := pow64 h6
  obtain ⟨b, hb, hb2⟩ := iLF_l0 hn (2 ^ net.length) 0 (2 ^ net.length - 1) (by omega) (by omega) (cov_full hn hs) (fun s hs => by omega) (.inr rfl)
  refine ⟨b, ?_, hb2⟩
  unfold impl_LightsFor.f
  refine Ev.bind (iNetOk_yes hn) (Ev.pos rfl ?_)
  refine Ev.step (fun k => impl_LightsFor.j0.eq_2 ..) (Ev.neg (by simp; omega) ?_)
  rw [shl_one _ (by omega), w64 (by omega) (by omega), show ((2 ^ net.length : Nat) : Int) - 1 = ((2 ^ net.length - 1 : Nat) : Int) by omega]
  exact hb
theorem iLF_no {net : List Int} {steps : Int} (h : ¬ (NetP net ∧ 0 ≤ steps)) : Ev (fun k => impl_LightsFor.f k net steps) (-1) := by
  have hj : ∀ p : Bool, p = true → Ev (fun k => impl_LightsFor.j0 k net steps p) (-1) := by
    intro p hp
    refine Ev.step (fun k => impl_LightsFor.j0.eq_2 ..) ?_
    exact Ev.pos hp (Ev.one rfl)
  unfold impl_LightsFor.f
  by_cases hn : NetP net
  · exact Ev.bind (iNetOk_yes hn) (Ev.pos rfl (hj _ (decide_eq_true (Classical.byContradiction fun q => h ⟨hn, by omega⟩))))
  · exact Ev.bind (iNetOk_no hn) (Ev.neg (by decide) (hj _ rfl))
theorem iFew_yes {net : List Int} (hn : NetP net) {steps : Int} (hs : 0 ≤ steps) : ∃ b : Nat, Ev (fun k => impl_FewestLights.f k net steps) (popc (b : Int)) ∧ Best net steps b := by
  have hp := pow64 hn.2.1
  obtain ⟨b, hb, hb2⟩ := iLF_yes hn hs
  have := hb2.1
  refine ⟨b, ?_, hb2⟩
  unfold impl_FewestLights.f
  exact Ev.bind hb (Ev.neg (by omega) (Ev.bind (ones_ev (by omega) (by omega)) (Ev.now _)))
theorem iFew_no {net : List Int} {steps : Int} (h : ¬ (NetP net ∧ 0 ≤ steps)) : Ev (fun k => impl_FewestLights.f k net steps) (-1) := by
  unfold impl_FewestLights.f
  exact Ev.bind (iLF_no h) (Ev.pos (by omega) (Ev.one rfl))
end Go.Proofs.Ytjofekchopgfbac.CFnExactFewestLights
