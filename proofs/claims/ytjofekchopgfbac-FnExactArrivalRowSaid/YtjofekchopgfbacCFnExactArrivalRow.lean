/- What each function that the law FnExactArrivalRow calls comes to. -/
import Derived.Test.YtjofekchopgfbacPFnExactArrivalRowx7
import Derived.Test.YtjofekchopgfbacMath
namespace Go.Proofs.Ytjofekchopgfbac.CFnExactArrivalRow
open Go Go.RowKit Go.Proofs.Ytjofekchopgfbac.PFnExactArrivalRow Go.Proofs.YtjofekchopgfbacW.PrintWords Go.Proofs.YtjofekchopgfbacW.PrintLast Go.Proofs.Ytjofekchopgfbac.Pl

theorem toIntS_l (x0 : List Int) (hx : x0.length ≤ 35184372088832) : ∀ (d i : Nat) (x3 : List Int), i + d = x0.length → x3.length = x0.length → (∀ j : Nat, j < i → rd x3 (j : Int) = rd x0 (j : Int)) → Ev (fun k => laws_toIntS.l0 k x0 x3 (i : Int)) x0 := by
  intro d
  induction d with
  | zero =>
    intro i x3 hd hl h
    refine Ev.step (fun k => laws_toIntS.l0.eq_2 ..) ?_
    exact Ev.neg (by omega) (Ev.one (congrArg some (rd_ext hl fun j hj => h j (by omega))))
  | succ d ih =>
    intro i x3 hd hl h
    refine Ev.step (fun k => laws_toIntS.l0.eq_2 ..) ?_
    refine Ev.pos (by omega) (Ev.pos (by omega) (Ev.pos (by omega) ?_))
    rw [w64i i (by omega), Int.toNat_natCast]
    refine ih (i + 1) _ (by omega) (by simpa using hl) (fun j hj => ?_)
    rw [rd_set _ _ _ _ (by omega)]
    by_cases e : i = j
    · rw [if_pos e, e]
    · rw [if_neg e]; exact h j (by omega)
theorem toIntS_ev (x0 : List Int) (hx : x0.length ≤ 35184372088832) : Ev (fun k => laws_toIntS.f k x0) x0 := by
  unfold laws_toIntS.f
  refine Ev.pos (by omega) (Ev.pos (by omega) ?_)
  exact toIntS_l x0 hx x0.length 0 _ (by omega) (by simp) (fun j hj => by omega)
theorem eqIntS_l (x y : List Int) (hl : x.length = y.length) (hx : x.length ≤ 35184372088832) : ∀ (d i : Nat), i + d = x.length → (∀ j : Nat, j < i → rd x (j : Int) = rd y (j : Int)) → Ev (fun k => laws_eqIntS.l0 k x y (i : Int)) (decide (x = y)) := by
  intro d
  induction d with
  | zero =>
    intro i hd h
    refine Ev.step (fun k => laws_eqIntS.l0.eq_2 ..) ?_
    exact Ev.neg (by omega) (Ev.one (congrArg some (decide_eq_true (rd_ext hl fun j hj => h j (by omega))).symm))
  | succ d ih =>
    intro i hd h
    refine Ev.step (fun k => laws_eqIntS.l0.eq_2 ..) ?_
    refine Ev.pos (by omega) (Ev.pos (by omega) (Ev.pos (by omega) ?_))
    by_cases e : rd x (i : Int) = rd y (i : Int)
    · refine Ev.pos e ?_
      rw [w64i i (by omega)]
      refine ih (i + 1) (by omega) (fun j hj => ?_)
      by_cases e2 : j = i
      · rw [e2]; exact e
      · exact h j (by omega)
    · exact Ev.neg e (Ev.one (congrArg some (decide_eq_false (fun q => e (by rw [q]))).symm))
theorem eqIntS_ev (x y : List Int) (hx : x.length ≤ 35184372088832) : Ev (fun k => laws_eqIntS.f k x y) (decide (x = y)) := by
  unfold laws_eqIntS.f
  by_cases hl : x.length = y.length
  · refine Ev.pos (by omega) ?_
    exact eqIntS_l x y hl hx x.length 0 (by omega) (fun j hj => by omega)
  · exact Ev.neg (by omega) (Ev.one (congrArg some (decide_eq_false (fun q => hl (by rw [q]))).symm))
theorem l1In_ev (a b c : Int) : Ev (fun _ => spec_l1In.f a b c) (decide (b ≤ a ∧ a ≤ c)) := by
  refine Ev.one ?_
  unfold spec_l1In.f
  by_cases h : a ≥ b
  · rw [if_pos h]; simp [show b ≤ a from h]
  · rw [if_neg h]; simp [show ¬ b ≤ a from h]
theorem iNetOk_l1 (net : List Int) (hn : net.length ≤ 6) (i : Nat) (hi : i < net.length) (c : Bool) (hc : Ev (fun k => impl_NetOk.l0 k net net (net.length : Int) ((i + 1 : Nat) : Int)) c) :
    ∀ d j : Nat, j + d = net.length → ∃ b, Ev (fun k => impl_NetOk.l1 k net (i : Int) (rd net (i : Int)) net (net.length : Int) (i : Int) (net.length : Int) (j : Int)) b ∧
      (b = true ↔ (∀ j' : Nat, j ≤ j' → j' < net.length → rd net (i : Int) / 2 ^ j' % 2 = rd net (j' : Int) / 2 ^ i % 2) ∧ c = true) := by
  intro d
  induction d with
  | zero =>
    intro j hd
    refine ⟨c, ?_, ?_⟩
    · refine Ev.step (fun k => impl_NetOk.l1.eq_2 ..) ?_
      refine Ev.neg (by omega) ?_
      rw [w64i i (by omega)]; exact hc
    · constructor
      · intro h; exact ⟨fun j' h1 h2 => by omega, h⟩
      · exact fun h => h.2
  | succ d ih =>
    intro j hd
    obtain ⟨b, hb, hb2⟩ := ih (j + 1) (by omega)
    by_cases e : rd net (i : Int) / 2 ^ j % 2 = rd net (j : Int) / 2 ^ i % 2
    · refine ⟨b, ?_, hb2.trans ⟨fun h => ⟨fun j' h1 h2 => ?_, h.2⟩, fun h => ⟨fun j' h1 h2 => h.1 j' (by omega) h2, h.2⟩⟩⟩
      · refine Ev.step (fun k => impl_NetOk.l1.eq_2 ..) ?_
        rw [itest _ j (by omega), itest _ i (by omega)]
        refine Ev.pos (by omega) (Ev.pos (by omega) (Ev.pos (by omega) (Ev.pos (by omega) (Ev.pos e ?_))))
        rw [w64i j (by omega)]; exact hb
      · by_cases q : j' = j
        · rw [q]; exact e
        · exact h.1 j' (by omega) h2
    · refine ⟨false, ?_, ⟨(fun h => Bool.noConfusion h), fun h => absurd (h.1 j (by omega) (by omega)) e⟩⟩
      refine Ev.step (fun k => impl_NetOk.l1.eq_2 ..) ?_
      rw [itest _ j (by omega), itest _ i (by omega)]
      exact Ev.pos (by omega) (Ev.pos (by omega) (Ev.pos (by omega) (Ev.pos (by omega) (Ev.neg e (Ev.one rfl)))))
theorem iNetOk_l0 (net : List Int) (hn : net.length ≤ 6) : ∀ d i : Nat, i + d = net.length → ∃ b, Ev (fun k => impl_NetOk.l0 k net net (net.length : Int) (i : Int)) b ∧ (b = true ↔ ∀ i' : Nat, i ≤ i' → i' < net.length → RowP net i') := by
  intro d
  induction d with
  | zero =>
    intro i hd
    refine ⟨true, ?_, ⟨fun _ i' h1 h2 => by omega, fun _ => rfl⟩⟩
    refine Ev.step (fun k => impl_NetOk.l0.eq_2 ..) ?_
    exact Ev.neg (by omega) (Ev.one rfl)
  | succ d ih =>
    intro i hd
    obtain ⟨c, hc, hc2⟩ := ih (i + 1) (by omega)
    obtain ⟨b, hb, hb2⟩ := iNetOk_l1 net hn i (by omega) c hc net.length 0 (by omega)
    have hbad : ∀ p : Bool, p = true → Ev (fun k => impl_NetOk.j2 k net (i : Int) (rd net (i : Int)) net (net.length : Int) (i : Int) p) false := by
      intro p hp
      refine Ev.step (fun k => impl_NetOk.j2.eq_2 ..) ?_
      exact Ev.pos hp (Ev.one rfl)
    have hgood : ∀ p : Bool, p = false → Ev (fun k => impl_NetOk.j2 k net (i : Int) (rd net (i : Int)) net (net.length : Int) (i : Int) p) b := by
      intro p hp
      refine Ev.step (fun k => impl_NetOk.j2.eq_2 ..) ?_
      exact Ev.neg (by simp [hp]) hb
    have hpow : shl .i64 1 (net.length : Int) = ((2 ^ net.length : Nat) : Int) := shl_one _ (by omega)
    by_cases h0 : rd net (i : Int) < 0
    · refine ⟨false, ?_, ⟨(fun h => Bool.noConfusion h), fun h => absurd (h i (by omega) (by omega)).1.1 (by omega)⟩⟩
      refine Ev.step (fun k => impl_NetOk.l0.eq_2 ..) ?_
      exact Ev.pos (by omega) (Ev.pos (by omega) (Ev.pos (by omega) (Ev.pos h0 (hbad true rfl))))
    · by_cases h1 : rd net (i : Int) ≥ ((2 ^ net.length : Nat) : Int)
      · refine ⟨false, ?_, ⟨(fun h => Bool.noConfusion h), fun h => absurd (h i (by omega) (by omega)).1.2 (by push_cast at h1; omega)⟩⟩
        refine Ev.step (fun k => impl_NetOk.l0.eq_2 ..) ?_
        rw [hpow]
        exact Ev.pos (by omega) (Ev.pos (by omega) (Ev.pos (by omega) (Ev.neg h0 (Ev.pos h1 (hbad true rfl)))))
      · by_cases h2 : rd net (i : Int) / 2 ^ i % 2 = 1
        · refine ⟨false, ?_, ⟨(fun h => Bool.noConfusion h), fun h => absurd (h i (by omega) (by omega)).2.1 (by omega)⟩⟩
          refine Ev.step (fun k => impl_NetOk.l0.eq_2 ..) ?_
          rw [hpow, itest _ i (by omega)]
          exact Ev.pos (by omega) (Ev.pos (by omega) (Ev.pos (by omega) (Ev.neg h0 (Ev.neg h1 (hbad _ (by rw [h2]; rfl))))))
        · refine ⟨b, ?_, ?_⟩
          · refine Ev.step (fun k => impl_NetOk.l0.eq_2 ..) ?_
            rw [hpow, itest _ i (by omega)]
            exact Ev.pos (by omega) (Ev.pos (by omega) (Ev.pos (by omega) (Ev.neg h0 (Ev.neg h1 (hgood _ (by simpa using h2))))))
          · rw [hb2, hc2]
            constructor
            · rintro ⟨g1, g2⟩ i' q1 q2
              by_cases q : i' = i
              · subst q
                exact ⟨⟨by omega, by push_cast at h1; omega⟩, by omega, fun j hj => g1 j (by omega) hj⟩
              · exact g2 i' (by omega) q2
            · intro g
              exact ⟨fun j' _ q2 => (g i (by omega) (by omega)).2.2 j' q2, fun i' q1 q2 => g i' (by omega) q2⟩
theorem iNetOk_any (net : List Int) : ∃ b, Ev (fun k => impl_NetOk.f k net) b ∧ (b = true ↔ NetP net) := by
  have hj : ∀ p : Bool, p = true → Ev (fun k => impl_NetOk.j0 k net p) false := by
    intro p hp
    refine Ev.step (fun k => impl_NetOk.j0.eq_2 ..) ?_
    exact Ev.pos hp (Ev.one rfl)
  by_cases h1 : net.length < 1
  · refine ⟨false, ?_, ⟨(fun h => Bool.noConfusion h), fun h => absurd h.1 (by omega)⟩⟩
    unfold impl_NetOk.f
    exact Ev.pos (by omega) (hj true rfl)
  · by_cases h2 : net.length > 6
    · refine ⟨false, ?_, ⟨(fun h => Bool.noConfusion h), fun h => absurd h.2.1 (by omega)⟩⟩
      unfold impl_NetOk.f
      exact Ev.neg (by omega) (hj _ (by simp; omega))
    · obtain ⟨b, hb, hb2⟩ := iNetOk_l0 net (by omega) net.length 0 (by omega)
      refine ⟨b, ?_, hb2.trans ⟨fun h => ⟨by omega, by omega, fun i hi => h i (by omega) hi⟩, fun h i _ hi => h.2.2 i hi⟩⟩
      unfold impl_NetOk.f
      refine Ev.neg (by omega) ?_
      refine Ev.step (fun k => impl_NetOk.j0.eq_2 ..) ?_
      exact Ev.neg (by simp; omega) hb
theorem iNetOk_yes {net : List Int} (h : NetP net) : Ev (fun k => impl_NetOk.f k net) true := by
  obtain ⟨b, hb, hb2⟩ := iNetOk_any net
  exact Ev.cast hb (hb2.2 h)
theorem iNetOk_no {net : List Int} (h : ¬ NetP net) : Ev (fun k => impl_NetOk.f k net) false := by
  obtain ⟨b, hb, hb2⟩ := iNetOk_any net
  exact Ev.cast hb (by cases b with | false => rfl | true => exact absurd (hb2.1 rfl) h)
theorem sNetOk_l2 (net : List Int) (hn : net.length ≤ 6) (hin : ∀ i : Nat, i < net.length → InS net.length (rd net (i : Int))) (i : Nat) (hi : i < net.length) (c : Bool) (hc : Ev (fun k => spec_NetOk.l1 k net ((i + 1 : Nat) : Int)) c) :
    ∀ d j : Nat, j + d = net.length → ∃ b, Ev (fun k => spec_NetOk.l2 k net (i : Int) (j : Int)) b ∧
      (b = true ↔ (∀ j' : Nat, j ≤ j' → j' < net.length → rd net (i : Int) / 2 ^ j' % 2 = rd net (j' : Int) / 2 ^ i % 2 ∧ (j' = i → rd net (i : Int) / 2 ^ i % 2 = 0)) ∧ c = true) := by
  intro d
  induction d with
  | zero =>
    intro j hd
    refine ⟨c, ?_, ?_⟩
    · refine Ev.step (fun k => spec_NetOk.l2.eq_2 ..) ?_
      refine Ev.neg (by omega) ?_
      rw [w64i i (by omega)]; exact hc
    · constructor
      · intro h; exact ⟨fun j' h1 h2 => by omega, h⟩
      · exact fun h => h.2
  | succ d ih =>
    intro j hd
    obtain ⟨b, hb, hb2⟩ := ih (j + 1) (by omega)
    have hstep : Ev (fun k => spec_NetOk.l2 k net (i : Int) ((j + 1 : Nat) : Int)) b := hb
    by_cases e : rd net (i : Int) / 2 ^ j % 2 = rd net (j : Int) / 2 ^ i % 2
    · by_cases e2 : j = i ∧ rd net (i : Int) / 2 ^ j % 2 = 1
      · refine ⟨false, ?_, ⟨(fun h => Bool.noConfusion h), fun h => ?_⟩⟩
        · refine Ev.step (fun k => spec_NetOk.l2.eq_2 ..) ?_
          rw [stest _ j (by omega) (hin i hi).1, stest _ i (by omega) (hin j (by omega)).1]
          exact Ev.pos (by omega) (Ev.pos (by omega) (Ev.pos (by omega) (Ev.pos (by omega) (Ev.pos e (Ev.pos (by omega) (Ev.pos e2.2 (Ev.one rfl)))))))
        · have := (h.1 j (by omega) (by omega)).2 e2.1
          have q := e2.2
          rw [e2.1] at q
          omega
      · refine ⟨b, ?_, hb2.trans ⟨fun h => ⟨fun j' h1 h2 => ?_, h.2⟩, fun h => ⟨fun j' h1 h2 => h.1 j' (by omega) h2, h.2⟩⟩⟩
        · refine Ev.step (fun k => spec_NetOk.l2.eq_2 ..) ?_
          rw [stest _ j (by omega) (hin i hi).1, stest _ i (by omega) (hin j (by omega)).1]
          refine Ev.pos (by omega) (Ev.pos (by omega) (Ev.pos (by omega) (Ev.pos (by omega) (Ev.pos e ?_))))
          rw [w64i j (by omega)]
          by_cases q : j = i
          · exact Ev.pos (by omega) (Ev.neg (fun z => e2 ⟨q, z⟩) hstep)
          · exact Ev.neg (by omega) hstep
        · by_cases q : j' = j
          · subst q
            refine ⟨e, fun z => ?_⟩
            have : ¬ rd net (i : Int) / 2 ^ j' % 2 = 1 := fun w => e2 ⟨z, w⟩
            rw [← z]; rw [← z] at this; omega
          · exact h.1 j' (by omega) h2
    · refine ⟨false, ?_, ⟨(fun h => Bool.noConfusion h), fun h => absurd (h.1 j (by omega) (by omega)).1 e⟩⟩
      refine Ev.step (fun k => spec_NetOk.l2.eq_2 ..) ?_
      rw [stest _ j (by omega) (hin i hi).1, stest _ i (by omega) (hin j (by omega)).1]
      exact Ev.pos (by omega) (Ev.pos (by omega) (Ev.pos (by omega) (Ev.pos (by omega) (Ev.neg e (Ev.one rfl)))))
theorem sNetOk_l1 (net : List Int) (hn : net.length ≤ 6) (hin : ∀ i : Nat, i < net.length → InS net.length (rd net (i : Int))) : ∀ d i : Nat, i + d = net.length → ∃ b, Ev (fun k => spec_NetOk.l1 k net (i : Int)) b ∧ (b = true ↔ ∀ i' : Nat, i ≤ i' → i' < net.length → RowP net i') := by
  intro d
  induction d with
  | zero =>
    intro i hd
    refine ⟨true, ?_, ⟨fun _ i' h1 h2 => by omega, fun _ => rfl⟩⟩
    refine Ev.step (fun k => spec_NetOk.l1.eq_2 ..) ?_
    exact Ev.neg (by omega) (Ev.one rfl)
  | succ d ih =>
    intro i hd
    obtain ⟨c, hc, hc2⟩ := ih (i + 1) (by omega)
    obtain ⟨b, hb, hb2⟩ := sNetOk_l2 net hn hin i (by omega) c hc net.length 0 (by omega)
    refine ⟨b, ?_, ?_⟩
    · refine Ev.step (fun k => spec_NetOk.l1.eq_2 ..) ?_
      exact Ev.pos (by omega) hb
    · rw [hb2, hc2]
      constructor
      · rintro ⟨g1, g2⟩ i' q1 q2
        by_cases q : i' = i
        · subst q
          exact ⟨hin _ q2, (g1 i' (by omega) q2).2 rfl, fun j hj => (g1 j (by omega) hj).1⟩
        · exact g2 i' (by omega) q2
      · intro g
        exact ⟨fun j' _ q2 => ⟨(g i (by omega) (by omega)).2.2 j' q2, fun _ => (g i (by omega) (by omega)).2.1⟩, fun i' q1 q2 => g i' (by omega) q2⟩
theorem sNetOk_l0 (net : List Int) (hn : net.length ≤ 6) : ∀ d i : Nat, i + d = net.length → (∀ i' : Nat, i' < i → InS net.length (rd net (i' : Int))) → ∃ b, Ev (fun k => spec_NetOk.l0 k net (i : Int)) b ∧ (b = true ↔ ∀ i' : Nat, i' < net.length → RowP net i') := by
  intro d
  induction d with
  | zero =>
    intro i hd hin
    obtain ⟨b, hb, hb2⟩ := sNetOk_l1 net hn (fun i' hi' => hin i' (by omega)) net.length 0 (by omega)
    refine ⟨b, ?_, hb2.trans ⟨fun h i' hi' => h i' (by omega) hi', fun h i' _ hi' => h i' hi'⟩⟩
    refine Ev.step (fun k => spec_NetOk.l0.eq_2 ..) ?_
    exact Ev.neg (by omega) hb
  | succ d ih =>
    intro i hd hin
    have hpow : wrap64 (shl .i64 1 (net.length : Int) - 1) = ((2 ^ net.length : Nat) : Int) - 1 := by
      have : (2 : Nat) ^ net.length ≤ 2 ^ 6 := Nat.pow_le_pow_right (by omega) hn
      have : (0 : Nat) < 2 ^ net.length := Nat.two_pow_pos _
      rw [shl_one _ (by omega), w64 (by omega) (by omega)]
    by_cases q : 0 ≤ rd net (i : Int) ∧ rd net (i : Int) ≤ ((2 ^ net.length : Nat) : Int) - 1
    · have hin' : ∀ i' : Nat, i' < i + 1 → InS net.length (rd net (i' : Int)) := by
        intro i' hi'
        by_cases e : i' = i
        · rw [e]; exact ⟨q.1, by have := q.2; push_cast at this; omega⟩
        · exact hin i' (by omega)
      obtain ⟨b, hb, hb2⟩ := ih (i + 1) (by omega) hin'
      refine ⟨b, ?_, hb2⟩
      refine Ev.step (fun k => spec_NetOk.l0.eq_2 ..) ?_
      rw [hpow]
      refine Ev.pos (by omega) (Ev.pos (by omega) (Ev.bind (l1In_ev _ _ _) (Ev.pos (decide_eq_true q) ?_)))
      rw [w64i i (by omega)]; exact hb
    · refine ⟨false, ?_, ⟨(fun h => Bool.noConfusion h), fun h => ?_⟩⟩
      · refine Ev.step (fun k => spec_NetOk.l0.eq_2 ..) ?_
        rw [hpow]
        exact Ev.pos (by omega) (Ev.pos (by omega) (Ev.bind (l1In_ev _ _ _) (Ev.neg (by rw [decide_eq_false q]; decide) (Ev.one rfl))))
      · have := (h i (by omega)).1
        exact absurd ⟨this.1, by have := this.2; push_cast; omega⟩ q
theorem sNetOk_any (net : List Int) : ∃ b, Ev (fun k => spec_NetOk.f k net) b ∧ (b = true ↔ NetP net) := by
  by_cases h : (1 : Int) ≤ (net.length : Int) ∧ (net.length : Int) ≤ 6
  · obtain ⟨b, hb, hb2⟩ := sNetOk_l0 net (by omega) net.length 0 (by omega) (fun i' hi' => by omega)
    refine ⟨b, ?_, hb2.trans ⟨fun g => ⟨by omega, by omega, g⟩, fun g => g.2.2⟩⟩
    unfold spec_NetOk.f
    exact Ev.bind (l1In_ev _ _ _) (Ev.pos (decide_eq_true h) hb)
  · refine ⟨false, ?_, ⟨(fun h => Bool.noConfusion h), fun g => absurd ⟨by have := g.1; omega, by have := g.2.1; omega⟩ h⟩⟩
    unfold spec_NetOk.f
    exact Ev.bind (l1In_ev _ _ _) (Ev.neg (by rw [decide_eq_false h]; decide) (Ev.one rfl))
theorem sNetOk_yes {net : List Int} (h : NetP net) : Ev (fun k => spec_NetOk.f k net) true := by
  obtain ⟨b, hb, hb2⟩ := sNetOk_any net
  exact Ev.cast hb (hb2.2 h)
theorem sNetOk_no {net : List Int} (h : ¬ NetP net) : Ev (fun k => spec_NetOk.f k net) false := by
  obtain ⟨b, hb, hb2⟩ := sNetOk_any net
  exact Ev.cast hb (by cases b with | false => rfl | true => exact absurd (hb2.1 rfl) h)
theorem setOk_yes {net : List Int} {set : Int} (h : NetP net) (hs : InS net.length set) : Ev (fun k => impl_setOk.f k net set) true := by
  have h6 := h.2.1
  unfold impl_setOk.f
  rw [shl_one _ (by omega)]
  refine Ev.bind (iNetOk_yes h) (Ev.pos rfl (Ev.pos hs.1 (Ev.one (congrArg some (decide_eq_true ?_)))))
  have := hs.2
  push_cast; exact this
theorem setOk_no {net : List Int} {set : Int} (h : ¬ (NetP net ∧ InS net.length set)) : Ev (fun k => impl_setOk.f k net set) false := by
  by_cases hn : NetP net
  · have h6 := hn.2.1
    unfold impl_setOk.f
    rw [shl_one _ (by omega)]
    refine Ev.bind (iNetOk_yes hn) (Ev.pos rfl ?_)
    by_cases h0 : set ≥ 0
    · refine Ev.pos h0 (Ev.one (congrArg some (decide_eq_false fun q => h ⟨hn, h0, ?_⟩)))
      push_cast at q; exact q
    · exact Ev.neg h0 (Ev.one rfl)
  · unfold impl_setOk.f
    exact Ev.bind (iNetOk_no hn) (Ev.neg (by decide) (Ev.one rfl))
theorem pow_less {n : Nat} (h6 : n ≤ 6) : wrap64 (shl .i64 1 (n : Int) - 1) = ((2 ^ n : Nat) : Int) - 1 := by
  have : (2 : Nat) ^ n ≤ 2 ^ 6 := Nat.pow_le_pow_right (by omega) h6
  have : (0 : Nat) < 2 ^ n := Nat.two_pow_pos _
  rw [shl_one _ (by omega), w64 (by omega) (by omega)]
theorem inSet_yes {n : Nat} (h6 : n ≤ 6) {set : Int} (hs : InS n set) : Ev (fun _ => spec_l1In.f set 0 (wrap64 (shl .i64 1 (n : Int) - 1))) true := by
  rw [pow_less h6]
  exact Ev.cast (l1In_ev _ _ _) (decide_eq_true ⟨hs.1, by have := hs.2; push_cast; omega⟩)
theorem inSet_no {n : Nat} (h6 : n ≤ 6) {set : Int} (hs : ¬ InS n set) : Ev (fun _ => spec_l1In.f set 0 (wrap64 (shl .i64 1 (n : Int) - 1))) false := by
  rw [pow_less h6]
  exact Ev.cast (l1In_ev _ _ _) (decide_eq_false fun q => hs ⟨q.1, by have := q.2; push_cast at this; omega⟩)
theorem markIntS_l (n : Nat) (hn : n ≤ 35184372088832) (m : Int) (h0 : 0 ≤ m) (h1 : m ≤ 1000000000000000) : ∀ (d i : Nat) (x : List Int), i + d = n → x.length = n → (∀ j : Nat, j < i → rd x (j : Int) = m + (j : Int)) → Ev (fun k => laws_markIntS.l0 k x (m + (i : Int)) (i : Int)) (m + (n : Int), mkL (fun j => m + (j : Int)) n) := by
  intro d
  induction d with
  | zero =>
    intro i x hd hl h
    refine Ev.step (fun k => laws_markIntS.l0.eq_2 ..) ?_
    refine Ev.neg (by omega) (Ev.one (congrArg some ?_))
    rw [mkL_ext hl (fun j hj => h j (by omega)), show i = n by omega]
  | succ d ih =>
    intro i x hd hl h
    refine Ev.step (fun k => laws_markIntS.l0.eq_2 ..) ?_
    refine Ev.pos (by omega) (Ev.pos (by omega) ?_)
    rw [w64i i (by omega), Int.toNat_natCast, w64 (x := m + (i : Int) + 1) (by omega) (by omega), show m + (i : Int) + 1 = m + ((i + 1 : Nat) : Int) by omega]
    refine ih (i + 1) _ (by omega) (by simpa using hl) (fun j hj => ?_)
    rw [rd_set _ _ _ _ (by omega)]
    by_cases e : i = j
    · rw [if_pos e, e]
    · rw [if_neg e]; exact h j (by omega)
theorem markIntS_ev (x : List Int) (hx : x.length ≤ 35184372088832) (m : Int) (h0 : 0 ≤ m) (h1 : m ≤ 1000000000000000) : Ev (fun k => laws_markIntS.f k x m) (m + (x.length : Int), mkL (fun j => m + (j : Int)) x.length) := by
  unfold laws_markIntS.f
  have := markIntS_l x.length hx m h0 h1 x.length 0 x (by omega) rfl (fun j hj => by omega)
  simpa using this
theorem heldIntS_l (n : Nat) (hn : n ≤ 35184372088832) (m : Int) (h0 : 0 ≤ m) (h1 : m ≤ 1000000000000000) : ∀ (d i : Nat), i + d = n → Ev (fun k => laws_heldIntS.l0 k (mkL (fun j => m + (j : Int)) n) (m + (i : Int)) (i : Int)) (m + (n : Int)) := by
  intro d
  induction d with
  | zero =>
    intro i hd
    refine Ev.step (fun k => laws_heldIntS.l0.eq_2 ..) ?_
    refine Ev.neg (by rw [mkL_len]; omega) (Ev.one (congrArg some ?_))
    rw [show i = n by omega]
  | succ d ih =>
    intro i hd
    refine Ev.step (fun k => laws_heldIntS.l0.eq_2 ..) ?_
    rw [rd_mkL _ _ _ (by omega), w64i i (by omega), w64 (x := m + (i : Int) + 1) (by omega) (by omega), show m + (i : Int) + 1 = m + ((i + 1 : Nat) : Int) by omega]
    exact Ev.pos (by rw [mkL_len]; omega) (Ev.pos (by omega) (Ev.pos rfl (ih (i + 1) (by omega))))
theorem heldIntS_ev (n : Nat) (hn : n ≤ 35184372088832) (m : Int) (h0 : 0 ≤ m) (h1 : m ≤ 1000000000000000) : Ev (fun k => laws_heldIntS.f k (mkL (fun j => m + (j : Int)) n) m) (m + (n : Int)) := by
  unfold laws_heldIntS.f
  have := heldIntS_l n hn m h0 h1 n 0 (by omega)
  simpa using this
theorem iLit_l (set : Int) (n : Nat) (h6 : n ≤ 6) : ∀ (d i : Nat) (x : List Int), i + d = n → x.length = n → (∀ j : Nat, j < i → rd x (j : Int) = set / 2 ^ j % 2) → Ev (fun k => impl_LitState.l0 k set x (n : Int) (i : Int)) (litL n set) := by
  intro d
  induction d with
  | zero =>
    intro i x hd hl h
    refine Ev.step (fun k => impl_LitState.l0.eq_2 ..) ?_
    exact Ev.neg (by omega) (Ev.one (congrArg some (mkL_ext hl (fun j hj => h j (by omega)))))
  | succ d ih =>
    intro i x hd hl h
    refine Ev.step (fun k => impl_LitState.l0.eq_2 ..) ?_
    refine Ev.pos (by omega) (Ev.pos (by omega) (Ev.pos (by omega) ?_))
    rw [w64i i (by omega), Int.toNat_natCast, itest _ i (by omega)]
    refine ih (i + 1) _ (by omega) (by simpa using hl) (fun j hj => ?_)
    rw [rd_set _ _ _ _ (by omega)]
    by_cases e : i = j
    · rw [if_pos e, e]
    · rw [if_neg e]; exact h j (by omega)
theorem iLit_yes {n : Nat} (h1 : 1 ≤ n) (h6 : n ≤ 6) {set : Int} (hs : InS n set) : Ev (fun k => impl_LitState.f k (n : Int) set) (litL n set) := by
  unfold impl_LitState.f
  have := hs.2
  rw [shl_one _ (by omega)]
  refine Ev.neg (by omega) (Ev.neg (by omega) (Ev.neg (by have := hs.1; omega) (Ev.pos (by omega) ?_)))
  refine Ev.step (fun k => impl_LitState.j0.eq_2 ..) ?_
  refine Ev.neg (by simp; omega) (Ev.pos (by omega) (Ev.pos (by omega) (Ev.bind (Ev.now _) ?_)))
  rw [Int.toNat_natCast, List.length_replicate]
  exact iLit_l set n h6 n 0 _ (by omega) (by simp) (fun j hj => by omega)
theorem iLit_no {a s : Int} (h : ¬ ∃ n : Nat, a = n ∧ 1 ≤ n ∧ n ≤ 6 ∧ InS n s) : Ev (fun k => impl_LitState.f k a s) [] := by
  have hj : ∀ p : Bool, p = true → Ev (fun k => impl_LitState.j0 k a s p) [] := by
    intro p hp
    refine Ev.step (fun k => impl_LitState.j0.eq_2 ..) ?_
    exact Ev.pos hp (Ev.one rfl)
  unfold impl_LitState.f
  by_cases c1 : a < 1
  · exact Ev.pos c1 (hj _ rfl)
  by_cases c2 : a > 6
  · exact Ev.neg c1 (Ev.pos c2 (hj _ rfl))
  by_cases c3 : s < 0
  · exact Ev.neg c1 (Ev.neg c2 (Ev.pos c3 (hj _ rfl)))
  obtain ⟨n, rfl⟩ := Int.eq_ofNat_of_zero_le (show 0 ≤ a by omega)
  refine Ev.neg c1 (Ev.neg c2 (Ev.neg c3 (Ev.pos (by omega) (hj _ ?_))))
  rw [shl_one _ (by omega)]
  refine decide_eq_true (Classical.byContradiction fun q => h ⟨n, rfl, by omega, by omega, by omega, ?_⟩)
  push_cast at q; omega
theorem sLit_l (set : Int) (n : Nat) (h1 : 1 ≤ n) (h6 : n ≤ 6) (hs : InS n set) : ∀ (d i : Nat), i + d = n → Ev (fun k => spec_LitState.l0 k (n : Int) set (mkL (fun i => set / 2 ^ i % 2) i) (i : Int)) (litL n set) := by
  intro d
  induction d with
  | zero =>
    intro i hd
    refine Ev.step (fun k => spec_LitState.l0.eq_2 ..) ?_
    refine Ev.neg (by omega) (Ev.one ?_)
    rw [litL, show i = n by omega]
  | succ d ih =>
    intro i hd
    refine Ev.step (fun k => spec_LitState.l0.eq_2 ..) ?_
    rw [w64i i (by omega), stest _ i (by omega) hs.1, mkL_snoc]
    refine Ev.pos (by omega) (Ev.bind (l1In_ev _ _ _) (Ev.pos (decide_eq_true ⟨by omega, by omega⟩) (Ev.pos (by omega) (Ev.bind (inSet_yes h6 hs) (Ev.pos rfl (Ev.pos (by omega) (Ev.pos (by rw [mkL_len]; omega) ?_)))))))
    exact ih (i + 1) (by omega)
theorem sLit_yes {n : Nat} (h1 : 1 ≤ n) (h6 : n ≤ 6) {set : Int} (hs : InS n set) : Ev (fun k => spec_LitState.f k (n : Int) set) (litL n set) := by
  unfold spec_LitState.f
  exact sLit_l set n h1 h6 hs n 0 (by omega)
theorem sLit_no {a s : Int} (h : ¬ ∃ n : Nat, a = n ∧ 1 ≤ n ∧ n ≤ 6 ∧ InS n s) : Ev (fun k => spec_LitState.f k a s) [] := by
  unfold spec_LitState.f
  refine Ev.step (fun k => spec_LitState.l0.eq_2 ..) ?_
  by_cases c0 : 0 < a
  · refine Ev.pos c0 ?_
    by_cases c1 : 1 ≤ a ∧ a ≤ 6
    · obtain ⟨n, rfl⟩ := Int.eq_ofNat_of_zero_le (show 0 ≤ a by omega)
      have hs : ¬ InS n s := fun q => h ⟨n, rfl, by omega, by omega, q⟩
      exact Ev.bind (l1In_ev _ _ _) (Ev.pos (decide_eq_true c1) (Ev.pos (by omega) (Ev.bind (inSet_no (by omega) hs) (Ev.neg (by decide) (Ev.one rfl)))))
    · exact Ev.bind (l1In_ev _ _ _) (Ev.neg (by rw [decide_eq_false c1]; decide) (Ev.one rfl))
  · exact Ev.neg c0 (Ev.one rfl)
theorem iNeed_l1 {net : List Int} {kinds : Int} {st : List Int} (h : AskP net kinds st) {i : Nat} (hi : i < st.length) {out : List Int} (ho : out.length = st.length) {r : List Int}
    (c1 : Fires net st i → Ev (fun k => impl_needStep.l0 k net kinds st (out.set i 1) st (st.length : Int) ((i + 1 : Nat) : Int)) r) (c2 : ¬ Fires net st i → Ev (fun k => impl_needStep.l0 k net kinds st out st (st.length : Int) ((i + 1 : Nat) : Int)) r) :
    ∀ (d j n : Nat), j + d = st.length → n ≤ j → (1 ≤ n ↔ ∃ j' : Nat, j' < j ∧ tb (rd net (i : Int)) j' = true ∧ rd st (j' : Int) = 1) →
      Ev (fun k => impl_needStep.l1 k net kinds st out (i : Int) (n : Int) 1 st (st.length : Int) (i : Int) st (st.length : Int) (j : Int)) r := by
  have h6 := h.2.1.2.2.2.1
  have hl := h.2.2
  intro d
  induction d with
  | zero =>
    intro j n hd hn hf
    refine Ev.step (fun k => impl_needStep.l1.eq_2 ..) ?_
    refine Ev.neg (by omega) ?_
    by_cases c : 1 ≤ n
    · obtain ⟨j', a, b⟩ := hf.1 c
      refine Ev.pos (by omega) (Ev.pos (by omega) (Ev.pos (by omega) ?_))
      rw [Int.toNat_natCast, w64i i (by omega)]
      exact c1 ⟨j', by omega, b⟩
    · refine Ev.neg (by omega) ?_
      rw [w64i i (by omega)]
      exact c2 (fun ⟨j', a, b⟩ => c (hf.2 ⟨j', by omega, b⟩))
  | succ d ih =>
    intro j n hd hn hf
    refine Ev.step (fun k => impl_needStep.l1.eq_2 ..) ?_
    rw [itest _ j (by omega), w64i j (by omega), w64i n (by omega)]
    refine Ev.pos (by omega) (Ev.pos (by omega) (Ev.pos (by omega) (Ev.pos (by omega) (Ev.pos (by omega) ?_))))
    cases q : tb (rd net (i : Int)) j with
    | true =>
      refine Ev.pos ((tb_iff _ _).1 q) ?_
      by_cases e : rd st (j : Int) = 1
      · exact Ev.pos e (ih (j + 1) (n + 1) (by omega) (by omega) ⟨fun _ => ⟨j, by omega, q, e⟩, fun _ => by omega⟩)
      · refine Ev.neg e (ih (j + 1) n (by omega) (by omega) (hf.trans ⟨fun ⟨j', a, b⟩ => ⟨j', by omega, b⟩, fun ⟨j', a, b⟩ => ⟨j', ?_, b⟩⟩))
        by_cases z : j' = j
        · rw [z] at b; exact absurd b.2 e
        · omega
    | false =>
      refine Ev.neg (by rw [(tb_not _ _).1 q]; decide) (ih (j + 1) n (by omega) (by omega) (hf.trans ⟨fun ⟨j', a, b⟩ => ⟨j', by omega, b⟩, fun ⟨j', a, b⟩ => ⟨j', ?_, b⟩⟩))
      by_cases z : j' = j
      · rw [z, q] at b; exact absurd b.1 (by decide)
      · omega
theorem iNeed_l0 {net : List Int} {kinds : Int} {st : List Int} (h : AskP net kinds st) : ∀ (d i : Nat) (out : List Int), i + d = st.length → out.length = st.length → (∀ j : Nat, j < i → rd out (j : Int) = stepAt net kinds st j) → (∀ j : Nat, i ≤ j → j < st.length → rd out (j : Int) = 0) →
    Ev (fun k => impl_needStep.l0 k net kinds st out st (st.length : Int) (i : Int)) (stepL net kinds st) := by
  have h3 := h.2.1.1
  have h5 := h.2.1.2.1
  have h6 := h.2.1.2.2.2.1
  have hl := h.2.2
  intro d
  induction d with
  | zero =>
    intro i out hd ho h1 h2
    refine Ev.step (fun k => impl_needStep.l0.eq_2 ..) ?_
    exact Ev.neg (by omega) (Ev.one (congrArg some (mkL_ext ho (fun j hj => h1 j (by omega)))))
  | succ d ih =>
    intro i out hd ho h1 h2
    have hi : i < st.length := by omega
    have hr := h.2.1.2.2.2.2 i hi
    have hset : ∀ v : Int, v = stepAt net kinds st i → Ev (fun k => impl_needStep.l0 k net kinds st (out.set i v) st (st.length : Int) ((i + 1 : Nat) : Int)) (stepL net kinds st) := by
      intro v hv
      refine ih (i + 1) _ (by omega) (by simpa using ho) (fun j hj => ?_) (fun j hj hj2 => ?_)
      · rw [rd_set _ _ _ _ (by omega)]
        by_cases e : i = j
        · rw [if_pos e, ← e, hv]
        · rw [if_neg e]; exact h1 j (by omega)
      · rw [rd_set _ _ _ _ (by omega), if_neg (by omega)]; exact h2 j (by omega) hj2
    refine Ev.step (fun k => impl_needStep.l0.eq_2 ..) ?_
    refine Ev.pos (by omega) (Ev.pos (by omega) (Ev.pos (by omega) ?_))
    by_cases c : rd st (i : Int) > 0
    · refine Ev.pos c (Ev.neg (by omega) (Ev.pos (by omega) ?_))
      rw [w64i i (by omega), Int.toNat_natCast, w64 (x := rd st (i : Int) + 1) (by omega) (by omega), Int.tmod_eq_emod_of_nonneg (by omega)]
      exact hset _ (stepAt_up c).symm
    · refine Ev.neg c ?_
      refine iNeed_l1 h hi ho (fun hf => hset 1 (stepAt_fire c hf).symm) (fun hf => ?_) st.length 0 0 (by omega) (by omega) ⟨fun q => by omega, fun ⟨j', a, _⟩ => by omega⟩
      refine ih (i + 1) out (by omega) ho (fun j hj => ?_) (fun j hj hj2 => h2 j (by omega) hj2)
      by_cases e : j = i
      · rw [e, h2 i (Nat.le_refl _) hi, stepAt_rest c hf]
      · exact h1 j (by omega)
theorem iNeed_ev {net : List Int} {kinds : Int} {st : List Int} (h : AskP net kinds st) : Ev (fun k => impl_needStep.f k net kinds [] st) (stepL net kinds st) := by
  have h6 := h.2.1.2.2.2.1
  unfold impl_needStep.f
  refine Ev.pos (by omega) (Ev.pos (by omega) ?_)
  rw [Int.toNat_natCast]
  exact iNeed_l0 h st.length 0 _ (by omega) (by simp) (fun j hj => by omega) (fun j _ hj => rd_rep _ _ _ hj)
theorem sStep_l1 {net : List Int} {kinds : Int} {st : List Int} (h : AskP net kinds st) {fires : Int} (hf0 : InS st.length fires) (hf : ∀ j : Nat, tb fires j = true ↔ j < st.length ∧ rd st (j : Int) = 1) : ∀ (d i : Nat), i + d = st.length →
    Ev (fun k => spec_l3Step.l1 k net kinds st fires (mkL (stepAt net kinds st) i) (i : Int)) (stepL net kinds st) := by
  have h3 := h.2.1.1
  have h5 := h.2.1.2.1
  have h6 := h.2.1.2.2.2.1
  have hl := h.2.2
  intro d
  induction d with
  | zero =>
    intro i hd
    refine Ev.step (fun k => spec_l3Step.l1.eq_2 ..) ?_
    exact Ev.neg (by omega) (Ev.one (by rw [stepL, show i = st.length by omega]))
  | succ d ih =>
    intro i hd
    have hi : i < st.length := by omega
    have hr := h.2.1.2.2.2.2 i hi
    have hnext := ih (i + 1) (by omega)
    rw [← mkL_snoc] at hnext
    refine Ev.step (fun k => spec_l3Step.l1.eq_2 ..) ?_
    refine Ev.pos (by omega) (Ev.pos (by omega) ?_)
    by_cases c : rd st (i : Int) > 0
    · refine Ev.pos c (Ev.neg (by omega) (Ev.pos (by rw [mkL_len]; omega) ?_))
      rw [w64i i (by omega), w64 (x := rd st (i : Int) + 1) (by omega) (by omega), Int.tmod_eq_emod_of_nonneg (by omega), ← stepAt_up (net := net) (kinds := kinds) c]
      exact hnext
    · have hin := h.1.ins (i := i) (by omega)
      rw [hl] at hin
      have o := InS.and (by omega) hin hf0
      have key : Go.bits .and .i64 (rd net (i : Int)) fires = 0 ↔ ¬ Fires net st i := by
        constructor
        · rintro z ⟨j, hj, a, b⟩
          have := o.2 j
          rw [z, tb_zero, a, (hf j).2 ⟨hj, b⟩] at this
          cases this
        · intro z
          refine set_zero o.1 (fun j hj => ?_)
          cases q : tb (Go.bits .and .i64 (rd net (i : Int)) fires) j with
          | false => rfl
          | true =>
            rw [o.2, Bool.and_eq_true] at q
            exact absurd ⟨j, hj, q.1, ((hf j).1 q.2).2⟩ z
      refine Ev.neg c (Ev.pos (by omega) ?_)
      by_cases e : Fires net st i
      · refine Ev.neg (fun z => key.1 z e) (Ev.pos (by rw [mkL_len]; omega) ?_)
        rw [w64i i (by omega)]
        rw [stepAt_fire c e] at hnext; exact hnext
      · refine Ev.pos (key.2 e) (Ev.pos (by rw [mkL_len]; omega) ?_)
        rw [w64i i (by omega), show rd st (i : Int) = 0 by omega]
        rw [stepAt_rest c e] at hnext; exact hnext
theorem sStep_l0 {net : List Int} {kinds : Int} {st : List Int} (h : AskP net kinds st) : ∀ (d i : Nat) (fires : Int), i + d = st.length → InS st.length fires → (∀ j : Nat, tb fires j = true ↔ j < i ∧ rd st (j : Int) = 1) →
    Ev (fun k => spec_l3Step.l0 k net kinds st fires (i : Int)) (stepL net kinds st) := by
  have h6 := h.2.1.2.2.2.1
  intro d
  induction d with
  | zero =>
    intro i fires hd hf0 hf
    refine Ev.step (fun k => spec_l3Step.l0.eq_2 ..) ?_
    refine Ev.neg (by omega) ?_
    exact sStep_l1 h hf0 (fun j => by rw [hf, show i = st.length by omega]) st.length 0 (by omega)
  | succ d ih =>
    intro i fires hd hf0 hf
    have q1 := InS.one (n := st.length) (i := i) (by omega) (by omega)
    have o := InS.or (by omega) hf0 q1.1
    refine Ev.step (fun k => spec_l3Step.l0.eq_2 ..) ?_
    rw [w64i i (by omega)]
    refine Ev.pos (by omega) (Ev.pos (by omega) ?_)
    by_cases e : rd st (i : Int) = 1
    · refine Ev.pos e (ih (i + 1) _ (by omega) o.1 (fun j => ?_))
      rw [o.2, Bool.or_eq_true, hf, q1.2, decide_eq_true_iff]
      constructor
      · rintro (⟨a, b⟩ | rfl)
        · exact ⟨by omega, b⟩
        · exact ⟨by omega, e⟩
      · rintro ⟨a, b⟩
        by_cases z : i = j
        · exact .inr z
        · exact .inl ⟨by omega, b⟩
    · refine Ev.neg e (ih (i + 1) _ (by omega) hf0 (fun j => (hf j).trans ⟨fun ⟨a, b⟩ => ⟨by omega, b⟩, fun ⟨a, b⟩ => ⟨?_, b⟩⟩))
      by_cases z : j = i
      · rw [z] at b; exact absurd b e
      · omega
theorem sStep_ev {net : List Int} {kinds : Int} {st : List Int} (h : AskP net kinds st) : Ev (fun k => spec_l3Step.f k net kinds st) (stepL net kinds st) := by
  unfold spec_l3Step.f
  exact sStep_l0 h st.length 0 0 (by omega) (InS.zero _) (fun j => by rw [tb_zero]; exact ⟨(fun q => Bool.noConfusion q), fun ⟨a, _⟩ => by omega⟩)
/-- Node i fires for the first time at time t. -/
def Arr (net : List Int) (kinds : Int) (st : List Int) (t i : Nat) : Prop := rd (runL net kinds st t) (i : Int) = 1 ∧ ∀ s, s < t → rd (runL net kinds st s) (i : Int) ≠ 1
/-- What is known of node i once the times below T have been looked at. -/
def ASt (net : List Int) (kinds : Int) (st : List Int) (T i : Nat) (v : Int) : Prop := (v = -1 ∧ ∀ s, s < T → rd (runL net kinds st s) (i : Int) ≠ 1) ∨ ∃ s : Nat, s < T ∧ v = s ∧ Arr net kinds st s i
theorem Arr.lt {net : List Int} {kinds : Int} {st : List Int} {t i : Nat} (h : Arr net kinds st t i) : i < st.length := by
  refine Classical.byContradiction fun q => ?_
  have := h.1
  rw [rd_far _ _ (by rw [runL_len]; omega)] at this
  omega
theorem Arr.zero {net : List Int} {kinds : Int} {st : List Int} (hlow : ∀ i : Nat, i < st.length → rd st (i : Int) = 0 ∨ rd st (i : Int) = 1) {t i : Nat} (ha : Arr net kinds st (t + 1) i) : ∀ s, s ≤ t → rd (runL net kinds st s) (i : Int) = 0 := by
  have hi := ha.lt
  obtain ⟨h1, h2⟩ := ha
  intro s
  induction s with
  | zero =>
    intro _
    rcases hlow i hi with e | e
    · exact e
    · exact absurd e (h2 0 (by omega))
  | succ s ih =>
    intro hs
    have h0 := ih (by omega)
    have hn := h2 (s + 1) (by omega)
    have e : rd (runL net kinds st (s + 1)) (i : Int) = stepAt net kinds (runL net kinds st s) i := stepL_at (by rw [runL_len]; exact hi)
    rw [e] at hn ⊢
    by_cases f : Fires net (runL net kinds st s) i
    · exact absurd (stepAt_fire (by omega) f) hn
    · exact stepAt_rest (by omega) f
theorem Arr.before {net : List Int} {kinds : Int} {st : List Int} (hlow : ∀ i : Nat, i < st.length → rd st (i : Int) = 0 ∨ rd st (i : Int) = 1) {t i : Nat} (ha : Arr net kinds st (t + 1) i) : ∃ j, Arr net kinds st t j := by
  have hz := ha.zero hlow
  have hi := ha.lt
  obtain ⟨h1, h2⟩ := ha
  have e : ∀ s, rd (runL net kinds st (s + 1)) (i : Int) = stepAt net kinds (runL net kinds st s) i := fun s => stepL_at (by rw [runL_len]; exact hi)
  have hz0 := hz t (Nat.le_refl _)
  by_cases f : Fires net (runL net kinds st t) i
  · obtain ⟨j, hj, hb, h1j⟩ := f
    refine ⟨j, h1j, fun s hs q => ?_⟩
    have hf : Fires net (runL net kinds st s) i := ⟨j, by rw [runL_len] at hj ⊢; exact hj, hb, q⟩
    have h0 := hz s (by omega)
    exact h2 (s + 1) (by omega) (by rw [e]; exact stepAt_fire (by omega) hf)
  · rw [e, stepAt_rest (by omega) f] at h1; omega
theorem Arr.det {net : List Int} {kinds : Int} {st : List Int} {s t i : Nat} (h : Arr net kinds st s i) (h' : Arr net kinds st t i) : s = t := by
  by_cases c : s < t
  · exact absurd h.1 (h'.2 s c)
  · by_cases c2 : t < s
    · exact absurd h'.1 (h.2 t c2)
    · omega
theorem Arr.chain {net : List Int} {kinds : Int} {st : List Int} (hlow : ∀ i : Nat, i < st.length → rd st (i : Int) = 0 ∨ rd st (i : Int) = 1) {t i : Nat} (h : Arr net kinds st t i) : ∀ s, s ≤ t → ∃ j, Arr net kinds st s j := by
  intro s hs
  induction t generalizing i with
  | zero => exact ⟨i, by rw [show s = 0 by omega]; exact h⟩
  | succ t ih =>
    by_cases c : s = t + 1
    · exact ⟨i, by rw [c]; exact h⟩
    · obtain ⟨j, hj⟩ := h.before hlow
      exact ih hj (by omega)
theorem Arr.small {net : List Int} {kinds : Int} {st : List Int} (hlow : ∀ i : Nat, i < st.length → rd st (i : Int) = 0 ∨ rd st (i : Int) = 1) {t i : Nat} (h : Arr net kinds st t i) : t < st.length := by
  refine Classical.byContradiction fun hn => ?_
  have hc : ∀ s, ∃ j, s ≤ t → Arr net kinds st s j := fun s => by
    by_cases hs : s ≤ t
    · obtain ⟨j, hj⟩ := h.chain hlow s hs
      exact ⟨j, fun _ => hj⟩
    · exact ⟨0, fun q => absurd q hs⟩
  obtain ⟨a, b, hab, hb, e⟩ := pigeon st.length (fun s => Classical.choose (hc s)) (fun s hs => (Classical.choose_spec (hc s) (by omega)).lt)
  have h1 := Classical.choose_spec (hc a) (by omega)
  have h2 := Classical.choose_spec (hc b) (by omega)
  have e' : Classical.choose (hc a) = Classical.choose (hc b) := e
  rw [e'] at h1
  have := h1.det h2
  omega
theorem ASt.keep {net : List Int} {kinds : Int} {st : List Int} {T i : Nat} {v : Int} (h : ASt net kinds st T i v) (h1 : rd (runL net kinds st T) (i : Int) ≠ 1) : ASt net kinds st (T + 1) i v := by
  rcases h with ⟨e, h⟩ | ⟨s, hs, e, h⟩
  · refine .inl ⟨e, fun s hs => ?_⟩
    by_cases c : s = T
    · rw [c]; exact h1
    · exact h s (by omega)
  · exact .inr ⟨s, by omega, e, h⟩
theorem ASt.old {net : List Int} {kinds : Int} {st : List Int} {T i : Nat} {v : Int} (h : ASt net kinds st T i v) (hv : ¬ v < 0) : ASt net kinds st (T + 1) i v := by
  rcases h with ⟨e, h⟩ | ⟨s, hs, e, h⟩
  · omega
  · exact .inr ⟨s, by omega, e, h⟩
theorem ASt.new {net : List Int} {kinds : Int} {st : List Int} {T i : Nat} {v : Int} (h : ASt net kinds st T i v) (hv : v < 0) (h1 : rd (runL net kinds st T) (i : Int) = 1) : ASt net kinds st (T + 1) i (T : Int) := by
  rcases h with ⟨e, h⟩ | ⟨s, hs, e, h⟩
  · exact .inr ⟨T, by omega, rfl, h1, h⟩
  · omega
theorem ASt.ex (net : List Int) (kinds : Int) (st : List Int) (i : Nat) : ∀ T, ∃ v, ASt net kinds st T i v := by
  intro T
  induction T with
  | zero => exact ⟨-1, .inl ⟨rfl, fun s hs => by omega⟩⟩
  | succ T ih =>
    obtain ⟨v, h⟩ := ih
    by_cases c : rd (runL net kinds st T) (i : Int) = 1
    · by_cases d : v < 0
      · exact ⟨_, h.new d c⟩
      · exact ⟨_, h.old d⟩
    · exact ⟨_, h.keep c⟩
noncomputable def arrRow (net : List Int) (kinds : Int) (st : List Int) : List Int := mkL (fun i => Classical.choose (ASt.ex net kinds st i st.length)) st.length
theorem arr_is {net : List Int} {kinds : Int} {st : List Int} (hlow : ∀ i : Nat, i < st.length → rd st (i : Int) = 0 ∨ rd st (i : Int) = 1) {T : Nat} (hT : st.length ≤ T) {out : List Int} (hl : out.length = st.length) (h : ∀ i : Nat, i < st.length → ASt net kinds st T i (rd out (i : Int))) : out = arrRow net kinds st := by
  refine mkL_ext hl (fun i hi => ?_)
  have h2 := Classical.choose_spec (ASt.ex net kinds st i st.length)
  rcases h i hi with ⟨e, a⟩ | ⟨s, hs, e, a⟩ <;> rcases h2 with ⟨e', a'⟩ | ⟨s', hs', e', a'⟩
  · rw [e, e']
  · exact absurd a'.1 (a s' (by omega))
  · exact absurd a.1 (a' s (a.small hlow))
  · rw [e, e', a.det a']
theorem arr_len {net : List Int} {kinds : Int} {st : List Int} : (arrRow net kinds st).length = st.length := mkL_len _ _
theorem lit_low {n : Nat} {set : Int} : ∀ i : Nat, i < (litL n set).length → rd (litL n set) (i : Int) = 0 ∨ rd (litL n set) (i : Int) = 1 := by
  intro i hi
  rw [litL, mkL_len] at hi
  rw [litL, rd_mkL _ _ _ hi]
  have h1 := Int.emod_nonneg (set / 2 ^ i) (show (2 : Int) ≠ 0 by decide)
  have h2 := Int.emod_lt_of_pos (set / 2 ^ i) (show (0 : Int) < 2 by decide)
  omega
theorem lit_len {n : Nat} {set : Int} : (litL n set).length = n := mkL_len _ _
theorem lit_ask {net : List Int} {kinds set : Int} (hn : NetP net) (h3 : 3 ≤ kinds) (h5 : kinds ≤ 5) : AskP net kinds (litL net.length set) :=
  ⟨hn, ⟨h3, h5, by rw [lit_len]; exact hn.1, by rw [lit_len]; exact hn.2.1, fun i hi => by rcases lit_low i hi with e | e <;> omega⟩, lit_len.symm⟩
theorem iArr_l2 {net : List Int} {kinds : Int} {st : List Int} (h : AskP net kinds st) {t : Nat} (ht : t ≤ 100) {r : List Int}
    (cont : ∀ out : List Int, out.length = st.length → (∀ i : Nat, i < st.length → ASt net kinds st (t + 1) i (rd out (i : Int))) → Ev (fun k => impl_ArrivalRow.l1 k net kinds (runL net kinds st (t + 1)) out ((t + 1 : Nat) : Int)) r) :
    ∀ (d i : Nat) (out : List Int), i + d = st.length → out.length = st.length → (∀ j : Nat, j < i → ASt net kinds st (t + 1) j (rd out (j : Int))) → (∀ j : Nat, i ≤ j → j < st.length → ASt net kinds st t j (rd out (j : Int))) →
      Ev (fun k => impl_ArrivalRow.l2 k net kinds (runL net kinds st t) out (t : Int) (t : Int) (runL net kinds st t) (st.length : Int) (i : Int)) r := by
  have h6 := h.2.1.2.2.2.1
  have hlen := runL_len (net := net) (kinds := kinds) (st := st) t
  intro d
  induction d with
  | zero =>
    intro i out hd hl h1 h2
    refine Ev.step (fun k => impl_ArrivalRow.l2.eq_2 ..) ?_
    refine Ev.neg (by omega) (Ev.bind (iNeed_ev (h.run t)) ?_)
    rw [w64i t (by omega)]
    exact cont out hl (fun j hj => h1 j (by omega))
  | succ d ih =>
    intro i out hd hl h1 h2
    have hi : i < st.length := by omega
    have hs := h2 i (Nat.le_refl _) hi
    have go : ASt net kinds st (t + 1) i (rd out (i : Int)) → Ev (fun k => impl_ArrivalRow.l2 k net kinds (runL net kinds st t) out (t : Int) (t : Int) (runL net kinds st t) (st.length : Int) ((i + 1 : Nat) : Int)) r := by
      intro q
      refine ih (i + 1) out (by omega) hl (fun j hj => ?_) (fun j hj hj2 => h2 j (by omega) hj2)
      by_cases e : j = i
      · rw [e]; exact q
      · exact h1 j (by omega)
    refine Ev.step (fun k => impl_ArrivalRow.l2.eq_2 ..) ?_
    rw [w64i i (by omega), Int.toNat_natCast]
    refine Ev.pos (by omega) (Ev.pos (by omega) (Ev.pos (by omega) ?_))
    by_cases c : rd (runL net kinds st t) (i : Int) = 1
    · refine Ev.pos c (Ev.pos (by omega) ?_)
      by_cases e : rd out (i : Int) < 0
      · refine Ev.pos e (ih (i + 1) _ (by omega) (by simpa using hl) (fun j hj => ?_) (fun j hj hj2 => ?_))
        · rw [rd_set _ _ _ _ (by omega)]
          by_cases z : i = j
          · rw [if_pos z, ← z]; exact hs.new e c
          · rw [if_neg z]; exact h1 j (by omega)
        · rw [rd_set _ _ _ _ (by omega), if_neg (by omega)]; exact h2 j (by omega) hj2
      · exact Ev.neg e (go (hs.old e))
    · exact Ev.neg c (go (hs.keep c))
theorem iArr_l1 {net : List Int} {kinds : Int} {st : List Int} (h : AskP net kinds st) (hlow : ∀ i : Nat, i < st.length → rd st (i : Int) = 0 ∨ rd st (i : Int) = 1) : ∀ (e t : Nat) (out : List Int), t + e = 12 → out.length = st.length → (∀ i : Nat, i < st.length → ASt net kinds st t i (rd out (i : Int))) →
    Ev (fun k => impl_ArrivalRow.l1 k net kinds (runL net kinds st t) out (t : Int)) (arrRow net kinds st) := by
  have h6 := h.2.1.2.2.2.1
  intro e
  induction e with
  | zero =>
    intro t out he hl h1
    refine Ev.step (fun k => impl_ArrivalRow.l1.eq_2 ..) ?_
    exact Ev.neg (by omega) (Ev.one (congrArg some (arr_is hlow (T := t) (by omega) hl h1)))
  | succ e ih =>
    intro t out he hl h1
    refine Ev.step (fun k => impl_ArrivalRow.l1.eq_2 ..) ?_
    rw [runL_len]
    exact Ev.pos (by omega) (iArr_l2 h (by omega) (fun out' hl' h1' => ih (t + 1) out' (by omega) hl' h1') st.length 0 out (by omega) hl (fun j hj => by omega) (fun j _ hj => h1 j hj))
theorem iArr_l0 {net : List Int} {kinds : Int} {st : List Int} (h : AskP net kinds st) (hlow : ∀ i : Nat, i < st.length → rd st (i : Int) = 0 ∨ rd st (i : Int) = 1) : ∀ (d i : Nat) (x : List Int), i + d = st.length → x.length = st.length → (∀ j : Nat, j < i → rd x (j : Int) = -1) → Ev (fun k => impl_ArrivalRow.l0 k net kinds st x (st.length : Int) (i : Int)) (arrRow net kinds st) := by
  have h6 := h.2.1.2.2.2.1
  intro d
  induction d with
  | zero =>
    intro i x hd hl h1
    refine Ev.step (fun k => impl_ArrivalRow.l0.eq_2 ..) ?_
    refine Ev.neg (by omega) (iArr_l1 h hlow 12 0 x (by omega) hl (fun j hj => ?_))
    rw [h1 j (by omega)]
    exact .inl ⟨rfl, fun s hs => by omega⟩
  | succ d ih =>
    intro i x hd hl h1
    refine Ev.step (fun k => impl_ArrivalRow.l0.eq_2 ..) ?_
    refine Ev.pos (by omega) (Ev.pos (by omega) (Ev.pos (by omega) ?_))
    rw [w64i i (by omega), Int.toNat_natCast]
    refine ih (i + 1) _ (by omega) (by simpa using hl) (fun j hj => ?_)
    rw [rd_set _ _ _ _ (by omega)]
    by_cases e : i = j
    · rw [if_pos e]
    · rw [if_neg e]; exact h1 j (by omega)
theorem iArr_yes {net : List Int} {kinds set : Int} (hn : NetP net) (h3 : 3 ≤ kinds) (h5 : kinds ≤ 5) (hs : InS net.length set) : Ev (fun k => impl_ArrivalRow.f k net kinds set) (arrRow net kinds (litL net.length set)) := by
  have h6 := hn.2.1
  have hask := lit_ask (set := set) hn h3 h5
  have hl := lit_len (n := net.length) (set := set)
  unfold impl_ArrivalRow.f
  refine Ev.bind (setOk_yes hn hs) (Ev.pos rfl (Ev.neg (by omega) ?_))
  refine Ev.step (fun k => impl_ArrivalRow.j0.eq_2 ..) ?_
  refine Ev.neg (by simp; omega) (Ev.bind (iLit_yes hn.1 h6 hs) (Ev.pos (by omega) (Ev.pos (by omega) (Ev.bind (Ev.now _) ?_))))
  rw [List.length_replicate, Int.toNat_natCast]
  have := iArr_l0 hask lit_low net.length 0 (List.replicate net.length 0) (by omega) (by simp [hl]) (fun j hj => by omega)
  rw [hl] at this
  exact this
theorem iArr_no {net : List Int} {kinds set : Int} (h : ¬ (NetP net ∧ 3 ≤ kinds ∧ kinds ≤ 5 ∧ InS net.length set)) : Ev (fun k => impl_ArrivalRow.f k net kinds set) [] := by
  have hj : ∀ p : Bool, p = true → Ev (fun k => impl_ArrivalRow.j0 k net kinds set p) [] := by
    intro p hp
    refine Ev.step (fun k => impl_ArrivalRow.j0.eq_2 ..) ?_
    exact Ev.pos hp (Ev.one rfl)
  unfold impl_ArrivalRow.f
  by_cases ha : NetP net ∧ InS net.length set
  · refine Ev.bind (setOk_yes ha.1 ha.2) (Ev.pos rfl ?_)
    by_cases c : kinds < 3
    · exact Ev.pos c (hj _ rfl)
    · exact Ev.neg c (hj _ (decide_eq_true (Classical.byContradiction fun q => h ⟨ha.1, by omega, by omega, ha.2⟩)))
  · exact Ev.bind (setOk_no ha) (Ev.neg (by decide) (hj _ rfl))
theorem sArr_l2 {net : List Int} {kinds : Int} {st : List Int} (h : AskP net kinds st) {t : Nat} (ht : t ≤ 100) {r : List Int}
    (cont : ∀ out : List Int, out.length = st.length → (∀ i : Nat, i < st.length → ASt net kinds st (t + 1) i (rd out (i : Int))) → Ev (fun k => spec_ArrivalRow.l1 k net kinds out (runL net kinds st t) ((t + 1 : Nat) : Int)) r) :
    ∀ (d i : Nat) (out : List Int), i + d = st.length → out.length = st.length → (∀ j : Nat, j < i → ASt net kinds st (t + 1) j (rd out (j : Int))) → (∀ j : Nat, i ≤ j → j < st.length → ASt net kinds st t j (rd out (j : Int))) →
      Ev (fun k => spec_ArrivalRow.l2 k net kinds out (runL net kinds st t) (t : Int) (i : Int)) r := by
  have h6 := h.2.1.2.2.2.1
  have hl0 := h.2.2
  have hlen := runL_len (net := net) (kinds := kinds) (st := st) t
  intro d
  induction d with
  | zero =>
    intro i out hd hl h1 h2
    refine Ev.step (fun k => spec_ArrivalRow.l2.eq_2 ..) ?_
    refine Ev.neg (by omega) ?_
    rw [w64i t (by omega)]
    exact cont out hl (fun j hj => h1 j (by omega))
  | succ d ih =>
    intro i out hd hl h1 h2
    have hi : i < st.length := by omega
    have hs := h2 i (Nat.le_refl _) hi
    have go : ASt net kinds st (t + 1) i (rd out (i : Int)) → Ev (fun k => spec_ArrivalRow.l2 k net kinds out (runL net kinds st t) (t : Int) ((i + 1 : Nat) : Int)) r := by
      intro q
      refine ih (i + 1) out (by omega) hl (fun j hj => ?_) (fun j hj hj2 => h2 j (by omega) hj2)
      by_cases e : j = i
      · rw [e]; exact q
      · exact h1 j (by omega)
    refine Ev.step (fun k => spec_ArrivalRow.l2.eq_2 ..) ?_
    rw [w64i i (by omega), Int.toNat_natCast]
    refine Ev.pos (by omega) (Ev.pos (by omega) (Ev.pos (by omega) ?_))
    by_cases c : rd (runL net kinds st t) (i : Int) = 1
    · refine Ev.pos c (Ev.pos (by omega) ?_)
      by_cases e : rd out (i : Int) < 0
      · refine Ev.pos e (ih (i + 1) _ (by omega) (by simpa using hl) (fun j hj => ?_) (fun j hj hj2 => ?_))
        · rw [rd_set _ _ _ _ (by omega)]
          by_cases z : i = j
          · rw [if_pos z, ← z]; exact hs.new e c
          · rw [if_neg z]; exact h1 j (by omega)
        · rw [rd_set _ _ _ _ (by omega), if_neg (by omega)]; exact h2 j (by omega) hj2
      · exact Ev.neg e (go (hs.old e))
    · exact Ev.neg c (go (hs.keep c))
theorem sArr_l1 {net : List Int} {kinds : Int} {st : List Int} (h : AskP net kinds st) (hlow : ∀ i : Nat, i < st.length → rd st (i : Int) = 0 ∨ rd st (i : Int) = 1) : ∀ (e t : Nat) (out : List Int), t + e = st.length → out.length = st.length → (∀ i : Nat, i < st.length → ASt net kinds st (t + 1) i (rd out (i : Int))) →
    Ev (fun k => spec_ArrivalRow.l1 k net kinds out (runL net kinds st t) ((t + 1 : Nat) : Int)) (arrRow net kinds st) := by
  have h6 := h.2.1.2.2.2.1
  have hl0 := h.2.2
  intro e
  induction e with
  | zero =>
    intro t out he hl h1
    refine Ev.step (fun k => spec_ArrivalRow.l1.eq_2 ..) ?_
    exact Ev.neg (by omega) (Ev.one (congrArg some (arr_is hlow (T := t + 1) (by omega) hl h1)))
  | succ e ih =>
    intro t out he hl h1
    refine Ev.step (fun k => spec_ArrivalRow.l1.eq_2 ..) ?_
    exact Ev.pos (by omega) (Ev.bind (sStep_ev (h.run t)) (sArr_l2 h (t := t + 1) (by omega) (fun out' hl' h1' => ih (t + 1) out' (by omega) hl' h1') st.length 0 out (by omega) hl (fun j hj => by omega) (fun j _ hj => h1 j hj)))
theorem sArr_l0 {net : List Int} {kinds : Int} {st : List Int} (h : AskP net kinds st) (hlow : ∀ i : Nat, i < st.length → rd st (i : Int) = 0 ∨ rd st (i : Int) = 1) : ∀ (d i : Nat), i + d = st.length → Ev (fun k => spec_ArrivalRow.l0 k net kinds (mkL (fun i => rd st (i : Int) - 1) i) st (i : Int)) (arrRow net kinds st) := by
  have h6 := h.2.1.2.2.2.1
  have hl0 := h.2.2
  intro d
  induction d with
  | zero =>
    intro i hd
    refine Ev.step (fun k => spec_ArrivalRow.l0.eq_2 ..) ?_
    refine Ev.neg (by omega) (sArr_l1 h hlow st.length 0 _ (by omega) (by rw [mkL_len]; omega) (fun j hj => ?_))
    rw [rd_mkL _ _ _ (by omega)]
    rcases hlow j hj with e | e
    · refine .inl ⟨by omega, fun s hs => ?_⟩
      rw [show s = 0 by omega]
      show rd st (j : Int) ≠ 1
      omega
    · exact .inr ⟨0, by omega, by omega, e, fun s hs => by omega⟩
  | succ d ih =>
    intro i hd
    have hlo := hlow i (by omega)
    refine Ev.step (fun k => spec_ArrivalRow.l0.eq_2 ..) ?_
    rw [w64i i (by omega), w64 (x := rd st (i : Int) - 1) (by omega) (by omega), mkL_len]
    refine Ev.pos (by omega) (Ev.pos (by omega) (Ev.pos (by omega) (Ev.pos (by omega) ?_)))
    rw [mkL_snoc (fun i => rd st (i : Int) - 1)]
    exact ih (i + 1) (by omega)
theorem sArr_yes {net : List Int} {kinds set : Int} (hn : NetP net) (h3 : 3 ≤ kinds) (h5 : kinds ≤ 5) (hs : InS net.length set) : Ev (fun k => spec_ArrivalRow.f k net kinds set) (arrRow net kinds (litL net.length set)) := by
  have h6 := hn.2.1
  unfold spec_ArrivalRow.f
  refine Ev.bind (Ev.now _) (Ev.bind (sNetOk_yes hn) (Ev.pos rfl (Ev.bind (l1In_ev _ _ _) (Ev.pos (decide_eq_true ⟨h3, h5⟩) (Ev.bind (inSet_yes h6 hs) ?_)))))
  refine Ev.step (fun k => spec_ArrivalRow.j0.eq_2 ..) ?_
  exact Ev.neg (by decide) (Ev.bind (sLit_yes hn.1 h6 hs) (sArr_l0 (lit_ask hn h3 h5) lit_low net.length 0 (by rw [lit_len]; omega)))
theorem sArr_no {net : List Int} {kinds set : Int} (h : ¬ (NetP net ∧ 3 ≤ kinds ∧ kinds ≤ 5 ∧ InS net.length set)) : Ev (fun k => spec_ArrivalRow.f k net kinds set) [] := by
  have hj : ∀ p : Bool, p = true → Ev (fun k => spec_ArrivalRow.j0 k net kinds set [] p) [] := by
    intro p hp
    refine Ev.step (fun k => spec_ArrivalRow.j0.eq_2 ..) ?_
    exact Ev.pos hp (Ev.one rfl)
  unfold spec_ArrivalRow.f
  refine Ev.bind (Ev.now _) ?_
  by_cases hn : NetP net
  · refine Ev.bind (sNetOk_yes hn) (Ev.pos rfl (Ev.bind (l1In_ev _ _ _) ?_))
    by_cases c : 3 ≤ kinds ∧ kinds ≤ 5
    · exact Ev.pos (decide_eq_true c) (Ev.bind (inSet_no hn.2.1 (fun q => h ⟨hn, c.1, c.2, q⟩)) (hj _ rfl))
    · exact Ev.neg (by rw [decide_eq_false c]; decide) (hj _ rfl)
  · exact Ev.bind (sNetOk_no hn) (Ev.neg (by decide) (hj _ rfl))
end Go.Proofs.Ytjofekchopgfbac.CFnExactArrivalRow
