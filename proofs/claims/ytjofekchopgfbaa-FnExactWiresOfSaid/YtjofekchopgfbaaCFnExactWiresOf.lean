/- What each function that the law FnExactWiresOf calls comes to. -/
import Derived.Test.YtjofekchopgfbaaPFnExactWiresOfx3
import Derived.Test.YtjofekchopgfbaaMath
namespace Go.Proofs.Ytjofekchopgfbaa.CFnExactWiresOf
open Go Go.RowKit Go.Proofs.Ytjofekchopgfbaa.PFnExactWiresOf Go.Proofs.YtjofekchopgfbaaW.PrintWords Go.Proofs.YtjofekchopgfbaaW.PrintLast Go.Proofs.Ytjofekchopgfbaa.Pl

theorem toIntS_l (x0 : List Int) (hx : x0.length ≤ 35184372088832) : ∀ (d i : Nat) (x3 : List Int), i + d = x0.length → x3.length = x0.length → (∀ j : Nat, j < i → rd x3 (j : Int) = rd x0 (j : Int)) → Ev (fun k => laws_toIntS.l0 k x0 x3 (i : Int)) x0 := by
  intro d
  induction d with
  | zero =>
    intro i x3 hd hl h
    refine Ev.step (fun k => laws_toIntS.l0.eq_2 ..) ?_
    exact Ev.neg (by omega) (Ev.one (congrArg some (rd_ext hl fun j hj => h j (by omega))))
  | succ d ih =>
    intro i x3 hd hl h
    refine Ev.step (fun k => laws_toIntS.l0.eq_2 ..) ?_
    refine Ev.pos (by omega) (Ev.pos (by omega) (Ev.pos (by omega) ?_))
    rw [w64i i (by omega), Int.toNat_natCast]
    refine ih (i + 1) _ (by omega) (by simpa using hl) (fun j hj => ?_)
    rw [rd_set _ _ _ _ (by omega)]
    by_cases e : i = j
    · rw [if_pos e, e]
    · rw [if_neg e]; exact h j (by omega)
theorem toIntS_ev (x0 : List Int) (hx : x0.length ≤ 35184372088832) : Ev (fun k => laws_toIntS.f k x0) x0 := by
  unfold laws_toIntS.f
  refine Ev.pos (by omega) (Ev.pos (by omega) ?_)
  exact toIntS_l x0 hx x0.length 0 _ (by omega) (by simp) (fun j hj => by omega)
theorem eqIntS_l (x y : List Int) (hl : x.length = y.length) (hx : x.length ≤ 35184372088832) : ∀ (d i : Nat), i + d = x.length → (∀ j : Nat, j < i → rd x (j : Int) = rd y (j : Int)) → Ev (fun k => laws_eqIntS.l0 k x y (i : Int)) (decide (x = y)) := by
  intro d
  induction d with
  | zero =>
    intro i hd h
    refine Ev.step (fun k => laws_eqIntS.l0.eq_2 ..) ?_
    exact Ev.neg (by omega) (Ev.one (congrArg some (decide_eq_true (rd_ext hl fun j hj => h j (by omega))).symm))
  | succ d ih =>
    intro i hd h
    refine Ev.step (fun k => laws_eqIntS.l0.eq_2 ..) ?_
    refine Ev.pos (by omega) (Ev.pos (by omega) (Ev.pos (by omega) ?_))
    by_cases e : rd x (i : Int) = rd y (i : Int)
    · refine Ev.pos e ?_
      rw [w64i i (by omega)]
      refine ih (i + 1) (by omega) (fun j hj => ?_)
      by_cases e2 : j = i
      · rw [e2]; exact e
      · exact h j (by omega)
    · exact Ev.neg e (Ev.one (congrArg some (decide_eq_false (fun q => e (by rw [q]))).symm))
theorem eqIntS_ev (x y : List Int) (hx : x.length ≤ 35184372088832) : Ev (fun k => laws_eqIntS.f k x y) (decide (x = y)) := by
  unfold laws_eqIntS.f
  by_cases hl : x.length = y.length
  · refine Ev.pos (by omega) ?_
    exact eqIntS_l x y hl hx x.length 0 (by omega) (fun j hj => by omega)
  · exact Ev.neg (by omega) (Ev.one (congrArg some (decide_eq_false (fun q => hl (by rw [q]))).symm))
theorem l1In_ev (a b c : Int) : Ev (fun _ => spec_l1In.f a b c) (decide (b ≤ a ∧ a ≤ c)) := by
  refine Ev.one ?_
  unfold spec_l1In.f
  by_cases h : a ≥ b
  · rw [if_pos h]; simp [show b ≤ a from h]
  · rw [if_neg h]; simp [show ¬ b ≤ a from h]
theorem iNetOk_l1 (net : List Int) (hn : net.length ≤ 6) (i : Nat) (hi : i < net.length) (c : Bool) (hc : Ev (fun k => impl_NetOk.l0 k net net (net.length : Int) ((i + 1 : Nat) : Int)) c) :
    ∀ d j : Nat, j + d = net.length → ∃ b, Ev (fun k => impl_NetOk.l1 k net (i : Int) (rd net (i : Int)) net (net.length : Int) (i : Int) (net.length : Int) (j : Int)) b ∧
      (b = true ↔ (∀ j' : Nat, j ≤ j' → j' < net.length → rd net (i : Int) / 2 ^ j' % 2 = rd net (j' : Int) / 2 ^ i % 2) ∧ c = true) := by
  intro d
  induction d with
  | zero =>
    intro j hd
    refine ⟨c, ?_, ?_⟩
    · refine Ev.step (fun k => impl_NetOk.l1.eq_2 ..) ?_
      refine Ev.neg (by omega) ?_
      rw [w64i i (by omega)]; exact hc
    · constructor
      · intro h; exact ⟨fun j' h1 h2 => by omega, h⟩
      · exact fun h => h.2
  | succ d ih =>
    intro j hd
    obtain ⟨b, hb, hb2⟩ := ih (j + 1) (by omega)
    by_cases e : rd net (i : Int) / 2 ^ j % 2 = rd net (j : Int) / 2 ^ i % 2
    · refine ⟨b, ?_, hb2.trans ⟨fun h => ⟨fun j' h1 h2 => ?_, h.2⟩, fun h => ⟨fun j' h1 h2 => h.1 j' (by omega) h2, h.2⟩⟩⟩
      · refine Ev.step (fun k => impl_NetOk.l1.eq_2 ..) ?_
        rw [itest _ j (by omega), itest _ i (by omega)]
        refine Ev.pos (by omega) (Ev.pos (by omega) (Ev.pos (by omega) (Ev.pos (by omega) (Ev.pos e ?_))))
        rw [w64i j (by omega)]; exact hb
      · by_cases q : j' = j
        · rw [q]; exact e
        · exact h.1 j' (by omega) h2
    · refine ⟨false, ?_, ⟨(fun h => Bool.noConfusion h), fun h => absurd (h.1 j (by omega) (by omega)) e⟩⟩
      refine Ev.step (fun k => impl_NetOk.l1.eq_2 ..) ?_
      rw [itest _ j (by omega), itest _ i (by omega)]
      exact Ev.pos (by omega) (Ev.pos (by omega) (Ev.pos (by omega) (Ev.pos (by omega) (Ev.neg e (Ev.one rfl)))))
theorem iNetOk_l0 (net : List Int) (hn : net.length ≤ 6) : ∀ d i : Nat, i + d = net.length → ∃ b, Ev (fun k => impl_NetOk.l0 k net net (net.length : Int) (i : Int)) b ∧ (b = true ↔ ∀ i' : Nat, i ≤ i' → i' < net.length → RowP net i') := by
  intro d
  induction d with
  | zero =>
    intro i hd
    refine ⟨true, ?_, ⟨fun _ i' h1 h2 => by omega, fun _ => rfl⟩⟩
    refine Ev.step (fun k => impl_NetOk.l0.eq_2 ..) ?_
    exact Ev.neg (by omega) (Ev.one rfl)
  | succ d ih =>
    intro i hd
    obtain ⟨c, hc, hc2⟩ := ih (i + 1) (by omega)
    obtain ⟨b, hb, hb2⟩ := iNetOk_l1 net hn i (by omega) c hc net.length 0 (by omega)
    have hbad : ∀ p : Bool, p = true → Ev (fun k => impl_NetOk.j2 k net (i : Int) (rd net (i : Int)) net (net.length : Int) (i : Int) p) false := by
      intro p hp
      refine Ev.step (fun k => impl_NetOk.j2.eq_2 ..) ?_
      exact Ev.pos hp (Ev.one rfl)
    have hgood : ∀ p : Bool, p = false → Ev (fun k => impl_NetOk.j2 k net (i : Int) (rd net (i : Int)) net (net.length : Int) (i : Int) p) b := by
      intro p hp
      refine Ev.step (fun k => impl_NetOk.j2.eq_2 ..) ?_
      exact Ev.neg (by simp [hp]) hb
    have hpow : shl .i64 1 (net.length : Int) = ((2 ^ net.length : Nat) : Int) := shl_one _ (by omega)
    by_cases h0 : rd net (i : Int) < 0
    · refine ⟨false, ?_, ⟨(fun h => Bool.noConfusion h), fun h => absurd (h i (by omega) (by omega)).1.1 (by omega)⟩⟩
      refine Ev.step (fun k => impl_NetOk.l0.eq_2 ..) ?_
      exact Ev.pos (by omega) (Ev.pos (by omega) (Ev.pos (by omega) (Ev.pos h0 (hbad true rfl))))
    · by_cases h1 : rd net (i : Int) ≥ ((2 ^ net.length : Nat) : Int)
      · refine ⟨false, ?_, ⟨(fun h => Bool.noConfusion h), fun h => absurd (h i (by omega) (by omega)).1.2 (by push_cast at h1; omega)⟩⟩
        refine Ev.step (fun k => impl_NetOk.l0.eq_2 ..) ?_
        rw [hpow]
        exact Ev.pos (by omega) (Ev.pos (by omega) (Ev.pos (by omega) (Ev.neg h0 (Ev.pos h1 (hbad true rfl)))))
      · by_cases h2 : rd net (i : Int) / 2 ^ i % 2 = 1
        · refine ⟨false, ?_, ⟨(fun h => Bool.noConfusion h), fun h => absurd (h i (by omega) (by omega)).2.1 (by omega)⟩⟩
          refine Ev.step (fun k => impl_NetOk.l0.eq_2 ..) ?_
          rw [hpow, itest _ i (by omega)]
          exact Ev.pos (by omega) (Ev.pos (by omega) (Ev.pos (by omega) (Ev.neg h0 (Ev.neg h1 (hbad _ (by rw [h2]; rfl))))))
        · refine ⟨b, ?_, ?_⟩
          · refine Ev.step (fun k => impl_NetOk.l0.eq_2 ..) ?_
            rw [hpow, itest _ i (by omega)]
            exact Ev.pos (by omega) (Ev.pos (by omega) (Ev.pos (by omega) (Ev.neg h0 (Ev.neg h1 (hgood _ (by simpa using h2))))))
          · rw [hb2, hc2]
            constructor
            · rintro ⟨g1, g2⟩ i' q1 q2
              by_cases q : i' = i
              · subst q
                exact ⟨⟨by omega, by push_cast at h1; omega⟩, by omega, fun j hj => g1 j (by omega) hj⟩
              · exact g2 i' (by omega) q2
            · intro g
              exact ⟨fun j' _ q2 => (g i (by omega) (by omega)).2.2 j' q2, fun i' q1 q2 => g i' (by omega) q2⟩
theorem iNetOk_any (net : List Int) : ∃ b, Ev (fun k => impl_NetOk.f k net) b ∧ (b = true ↔ NetP net) := by
  have hj : ∀ p : Bool, p = true → Ev (fun k => impl_NetOk.j0 k net p) false := by
    intro p hp
    refine Ev.step (fun k => impl_NetOk.j0.eq_2 ..) ?_
    exact Ev.pos hp (Ev.one rfl)
  by_cases h1 : net.length < 1
  · refine ⟨false, ?_, ⟨(fun h => Bool.noConfusion h), fun h => absurd h.1 (by omega)⟩⟩
    unfold impl_NetOk.f
    exact Ev.pos (by omega) (hj true rfl)
  · by_cases h2 : net.length > 6
    · refine ⟨false, ?_, ⟨(fun h => Bool.noConfusion h), fun h => absurd h.2.1 (by omega)⟩⟩
      unfold impl_NetOk.f
      exact Ev.neg (by omega) (hj _ (by simp; omega))
    · obtain ⟨b, hb, hb2⟩ := iNetOk_l0 net (by omega) net.length 0 (by omega)
      refine ⟨b, ?_, hb2.trans ⟨fun h => ⟨by omega, by omega, fun i hi => h i (by omega) hi⟩, fun h i _ hi => h.2.2 i hi⟩⟩
      unfold impl_NetOk.f
      refine Ev.neg (by omega) ?_
      refine Ev.step (fun k => impl_NetOk.j0.eq_2 ..) ?_
      exact Ev.neg (by simp; omega) hb
theorem iNetOk_yes {net : List Int} (h : NetP net) : Ev (fun k => impl_NetOk.f k net) true := by
  obtain ⟨b, hb, hb2⟩ := iNetOk_any net
  exact Ev.cast hb (hb2.2 h)
theorem iNetOk_no {net : List Int} (h : ¬ NetP net) : Ev (fun k => impl_NetOk.f k net) false := by
  obtain ⟨b, hb, hb2⟩ := iNetOk_any net
  exact Ev.cast hb (by cases b with | false => rfl | true => exact absurd (hb2.1 rfl) h)
theorem sNetOk_l2 (net : List Int) (hn : net.length ≤ 6) (hin : ∀ i : Nat, i < net.length → InS net.length (rd net (i : Int))) (i : Nat) (hi : i < net.length) (c : Bool) (hc : Ev (fun k => spec_NetOk.l1 k net ((i + 1 : Nat) : Int)) c) :
    ∀ d j : Nat, j + d = net.length → ∃ b, Ev (fun k => spec_NetOk.l2 k net (i : Int) (j : Int)) b ∧
      (b = true ↔ (∀ j' : Nat, j ≤ j' → j' < net.length → rd net (i : Int) / 2 ^ j' % 2 = rd net (j' : Int) / 2 ^ i % 2 ∧ (j' = i → rd net (i : Int) / 2 ^ i % 2 = 0)) ∧ c = true) := by
  intro d
  induction d with
  | zero =>
    intro j hd
    refine ⟨c, ?_, ?_⟩
    · refine Ev.step (fun k => spec_NetOk.l2.eq_2 ..) ?_
      refine Ev.neg (by omega) ?_
      rw [w64i i (by omega)]; exact hc
    · constructor
      · intro h; exact ⟨fun j' h1 h2 => by omega, h⟩
      · exact fun h => h.2
  | succ d ih =>
    intro j hd
    obtain ⟨b, hb, hb2⟩ := ih (j + 1) (by omega)
    have hstep : Ev (fun k => spec_NetOk.l2 k net (i : Int) ((j + 1 : Nat) : Int)) b := hb
    by_cases e : rd net (i : Int) / 2 ^ j % 2 = rd net (j : Int) / 2 ^ i % 2
    · by_cases e2 : j = i ∧ rd net (i : Int) / 2 ^ j % 2 = 1
      · refine ⟨false, ?_, ⟨(fun h => Bool.noConfusion h), fun h => ?_⟩⟩
        · refine Ev.step (fun k => spec_NetOk.l2.eq_2 ..) ?_
          rw [stest _ j (by omega) (hin i hi).1, stest _ i (by omega) (hin j (by omega)).1]
          exact Ev.pos (by omega) (Ev.pos (by omega) (Ev.pos (by omega) (Ev.pos (by omega) (Ev.pos e (Ev.pos (by omega) (Ev.pos e2.2 (Ev.one rfl)))))))
        · have := (h.1 j (by omega) (by omega)).2 e2.1
          have q := e2.2
          rw [e2.1] at q
          omega
      · refine ⟨b, ?_, hb2.trans ⟨fun h => ⟨fun j' h1 h2 => ?_, h.2⟩, fun h => ⟨fun j' h1 h2 => h.1 j' (by omega) h2, h.2⟩⟩⟩
        · refine Ev.step (fun k => spec_NetOk.l2.eq_2 ..) ?_
          rw [stest _ j (by omega) (hin i hi).1, stest _ i (by omega) (hin j (by omega)).1]
          refine Ev.pos (by omega) (Ev.pos (by omega) (Ev.pos (by omega) (Ev.pos (by omega) (Ev.pos e ?_))))
          rw [w64i j (by omega)]
          by_cases q : j = i
          · exact Ev.pos (by omega) (Ev.neg (fun z => e2 ⟨q, z⟩) hstep)
          · exact Ev.neg (by omega) hstep
        · by_cases q : j' = j
          · subst q
            refine ⟨e, fun z => ?_⟩
            have : ¬ rd net (i : Int) / 2 ^ j' % 2 = 1 := fun w => e2 ⟨z, w⟩
            rw [← z]; rw [← z] at this; omega
          · exact h.1 j' (by omega) h2
    · refine ⟨false, ?_, ⟨(fun h => Bool.noConfusion h), fun h => absurd (h.1 j (by omega) (by omega)).1 e⟩⟩
      refine Ev.step (fun k => spec_NetOk.l2.eq_2 ..) ?_
      rw [stest _ j (by omega) (hin i hi).1, stest _ i (by omega) (hin j (by omega)).1]
      exact Ev.pos (by omega) (Ev.pos (by omega) (Ev.pos (by omega) (Ev.pos (by omega) (Ev.neg e (Ev.one rfl)))))
theorem sNetOk_l1 (net : List Int) (hn : net.length ≤ 6) (hin : ∀ i : Nat, i < net.length → InS net.length (rd net (i : Int))) : ∀ d i : Nat, i + d = net.length → ∃ b, Ev (fun k => spec_NetOk.l1 k net (i : Int)) b ∧ (b = true ↔ ∀ i' : Nat, i ≤ i' → i' < net.length → RowP net i') := by
  intro d
  induction d with
  | zero =>
    intro i hd
    refine ⟨true, ?_, ⟨fun _ i' h1 h2 => by omega, fun _ => rfl⟩⟩
    refine Ev.step (fun k => spec_NetOk.l1.eq_2 ..) ?_
    exact Ev.neg (by omega) (Ev.one rfl)
  | succ d ih =>
    intro i hd
    obtain ⟨c, hc, hc2⟩ := ih (i + 1) (by omega)
    obtain ⟨b, hb, hb2⟩ := sNetOk_l2 net hn hin i (by omega) c hc net.length 0 (by omega)
    refine ⟨b, ?_, ?_⟩
    · refine Ev.step (fun k => spec_NetOk.l1.eq_2 ..) ?_
      exact Ev.pos (by omega) hb
    · rw [hb2, hc2]
      constructor
      · rintro ⟨g1, g2⟩ i' q1 q2
        by_cases q : i' = i
        · subst q
          exact ⟨hin _ q2, (g1 i' (by omega) q2).2 rfl, fun j hj => (g1 j (by omega) hj).1⟩
        · exact g2 i' (by omega) q2
      · intro g
        exact ⟨fun j' _ q2 => ⟨(g i (by omega) (by omega)).2.2 j' q2, fun _ => (g i (by omega) (by omega)).2.1⟩, fun i' q1 q2 => g i' (by omega) q2⟩
theorem sNetOk_l0 (net : List Int) (hn : net.length ≤ 6) : ∀ d i : Nat, i + d = net.length → (∀ i' : Nat, i' < i → InS net.length (rd net (i' : Int))) → ∃ b, Ev (fun k => spec_NetOk.l0 k net (i : Int)) b ∧ (b = true ↔ ∀ i' : Nat, i' < net.length → RowP net i') := by
  intro d
  induction d with
  | zero =>
    intro i hd hin
    obtain ⟨b, hb, hb2⟩ := sNetOk_l1 net hn (fun i' hi' => hin i' (by omega)) net.length 0 (by omega)
    refine ⟨b, ?_, hb2.trans ⟨fun h i' hi' => h i' (by omega) hi', fun h i' _ hi' => h i' hi'⟩⟩
    refine Ev.step (fun k => spec_NetOk.l0.eq_2 ..) ?_
    exact Ev.neg (by omega) hb
  | succ d ih =>
    intro i hd hin
    have hpow : wrap64 (shl .i64 1 (net.length : Int) - 1) = ((2 ^ net.length : Nat) : Int) - 1 := by
      have : (2 : Nat) ^ net.length ≤ 2 ^ 6 := Nat.pow_le_pow_right (by omega) hn
      have : (0 : Nat) < 2 ^ net.length := Nat.two_pow_pos _
      rw [shl_one _ (by omega), w64 (by omega) (by omega)]
    by_cases q : 0 ≤ rd net (i : Int) ∧ rd net (i : Int) ≤ ((2 ^ net.length : Nat) : Int) - 1
    · have hin' : ∀ i' : Nat, i' < i + 1 → InS net.length (rd net (i' : Int)) := by
        intro i' hi'
        by_cases e : i' = i
        · rw [e]; exact ⟨q.1, by have := q.2; push_cast at this; omega⟩
        · exact hin i' (by omega)
      obtain ⟨b, hb, hb2⟩ := ih (i + 1) (by omega) hin'
      refine ⟨b, ?_, hb2⟩
      refine Ev.step (fun k => spec_NetOk.l0.eq_2 ..) ?_
      rw [hpow]
      refine Ev.pos (by omega) (Ev.pos (by omega) (Ev.bind (l1In_ev _ _ _) (Ev.pos (decide_eq_true q) ?_)))
      rw [w64i i (by omega)]; exact hb
    · refine ⟨false, ?_, ⟨(fun h => Bool.noConfusion h), fun h => ?_⟩⟩
      · refine Ev.step (fun k => spec_NetOk.l0.eq_2 ..) ?_
        rw [hpow]
        exact Ev.pos (by omega) (Ev.pos (by omega) (Ev.bind (l1In_ev _ _ _) (Ev.neg (by rw [decide_eq_false q]; decide) (Ev.one rfl))))
      · have := (h i (by omega)).1
        exact absurd ⟨this.1, by have := this.2; push_cast; omega⟩ q
theorem sNetOk_any (net : List Int) : ∃ b, Ev (fun k => spec_NetOk.f k net) b ∧ (b = true ↔ NetP net) := by
  by_cases h : (1 : Int) ≤ (net.length : Int) ∧ (net.length : Int) ≤ 6
  · obtain ⟨b, hb, hb2⟩ := sNetOk_l0 net (by omega) net.length 0 (by omega) (fun i' hi' => by omega)
    refine ⟨b, ?_, hb2.trans ⟨fun g => ⟨by omega, by omega, g⟩, fun g => g.2.2⟩⟩
    unfold spec_NetOk.f
    exact Ev.bind (l1In_ev _ _ _) (Ev.pos (decide_eq_true h) hb)
  · refine ⟨false, ?_, ⟨(fun h => Bool.noConfusion h), fun g => absurd ⟨by have := g.1; omega, by have := g.2.1; omega⟩ h⟩⟩
    unfold spec_NetOk.f
    exact Ev.bind (l1In_ev _ _ _) (Ev.neg (by rw [decide_eq_false h]; decide) (Ev.one rfl))
theorem sNetOk_yes {net : List Int} (h : NetP net) : Ev (fun k => spec_NetOk.f k net) true := by
  obtain ⟨b, hb, hb2⟩ := sNetOk_any net
  exact Ev.cast hb (hb2.2 h)
theorem sNetOk_no {net : List Int} (h : ¬ NetP net) : Ev (fun k => spec_NetOk.f k net) false := by
  obtain ⟨b, hb, hb2⟩ := sNetOk_any net
  exact Ev.cast hb (by cases b with | false => rfl | true => exact absurd (hb2.1 rfl) h)
theorem pow_less {n : Nat} (h6 : n ≤ 6) : wrap64 (shl .i64 1 (n : Int) - 1) = ((2 ^ n : Nat) : Int) - 1 := by
  have : (2 : Nat) ^ n ≤ 2 ^ 6 := Nat.pow_le_pow_right (by omega) h6
  have : (0 : Nat) < 2 ^ n := Nat.two_pow_pos _
  rw [shl_one _ (by omega), w64 (by omega) (by omega)]
theorem inSet_yes {n : Nat} (h6 : n ≤ 6) {set : Int} (hs : InS n set) : Ev (fun _ => spec_l1In.f set 0 (wrap64 (shl .i64 1 (n : Int) - 1))) true := by
  rw [pow_less h6]
  exact Ev.cast (l1In_ev _ _ _) (decide_eq_true ⟨hs.1, by have := hs.2; push_cast; omega⟩)
theorem inSet_no {n : Nat} (h6 : n ≤ 6) {set : Int} (hs : ¬ InS n set) : Ev (fun _ => spec_l1In.f set 0 (wrap64 (shl .i64 1 (n : Int) - 1))) false := by
  rw [pow_less h6]
  exact Ev.cast (l1In_ev _ _ _) (decide_eq_false fun q => hs ⟨q.1, by have := q.2; push_cast at this; omega⟩)
theorem ones_all : ∀ x : Fin 64, bits_OnesCount.f ((x.val : Nat) : Int) = some (popc ((x.val : Nat) : Int)) := by decide +kernel
theorem ones_ev {x : Int} (h0 : 0 ≤ x) (h1 : x < 64) : Ev (fun _ => bits_OnesCount.f (IntKind.u64.wrap x)) (popc x) := by
  obtain ⟨a, rfl⟩ := Int.eq_ofNat_of_zero_le h0
  have e : IntKind.u64.wrap (a : Int) = (a : Int) := by simp [IntKind.wrap, IntKind.bits, IntKind.signed]; omega
  rw [e]
  exact Ev.one (ones_all ⟨a, by omega⟩)
theorem iWires_l {net : List Int} (hn : NetP net) : ∀ (d i : Nat), i + d = net.length → Ev (fun k => impl_WiresOf.l0 k (sumN (fun i => popc (rd net (i : Int))) i) net (net.length : Int) (i : Int)) (sumN (fun i => popc (rd net (i : Int))) net.length / 2) := by
  have h6 := hn.2.1
  intro d
  induction d with
  | zero =>
    intro i hd
    have hb := sumN_range (fun i => popc (rd net (i : Int))) 6 (fun i => popc_range _) i
    refine Ev.step (fun k => impl_WiresOf.l0.eq_2 ..) ?_
    refine Ev.neg (by omega) (Ev.one ?_)
    rw [Int.tdiv_eq_ediv_of_nonneg hb.1, w64 (by omega) (by omega), show i = net.length by omega]
  | succ d ih =>
    intro i hd
    have hin := hn.ins (i := i) (by omega)
    have h64 : rd net (i : Int) < 64 := by
      have := (hin.mono h6).2
      simpa using this
    have hb := sumN_range (fun i => popc (rd net (i : Int))) 6 (fun i => popc_range _) i
    have hp := popc_range (rd net (i : Int))
    refine Ev.step (fun k => impl_WiresOf.l0.eq_2 ..) ?_
    refine Ev.pos (by omega) (Ev.pos (by omega) (Ev.pos (by omega) (Ev.bind (ones_ev hin.1 h64) ?_)))
    rw [w64 (x := sumN (fun i => popc (rd net (i : Int))) i + popc (rd net (i : Int))) (by omega) (by omega), w64i i (by omega)]
    exact ih (i + 1) (by omega)
theorem iWires_yes {net : List Int} (hn : NetP net) : Ev (fun k => impl_WiresOf.f k net) (wires net) := by
  unfold impl_WiresOf.f
  refine Ev.bind (iNetOk_yes hn) (Ev.pos rfl (Ev.cast (iWires_l hn net.length 0 (by omega)) ?_))
  exact pop_wires hn
theorem iWires_no {net : List Int} (hn : ¬ NetP net) : Ev (fun k => impl_WiresOf.f k net) (-1) := by
  unfold impl_WiresOf.f
  exact Ev.bind (iNetOk_no hn) (Ev.neg (by decide) (Ev.one rfl))
theorem sWires_l1 {net : List Int} (hn : NetP net) {i : Nat} (hi : i < net.length) {acc : Int} (ha : 0 ≤ acc ∧ acc ≤ 1000) {r : Int} (cont : Ev (fun k => spec_WiresOf.l0 k net (acc + sumN (fun j => rd net (i : Int) / 2 ^ j % 2) i) ((i + 1 : Nat) : Int)) r) :
    ∀ (d j : Nat), j + d = i → Ev (fun k => spec_WiresOf.l1 k net (acc + sumN (fun j => rd net (i : Int) / 2 ^ j % 2) j) (i : Int) (j : Int)) r := by
  have h6 := hn.2.1
  intro d
  induction d with
  | zero =>
    intro j hd
    refine Ev.step (fun k => spec_WiresOf.l1.eq_2 ..) ?_
    refine Ev.neg (by omega) ?_
    rw [w64i i (by omega), show j = i by omega]; exact cont
  | succ d ih =>
    intro j hd
    have hb := sumN_range (fun j => rd net (i : Int) / 2 ^ j % 2) 1 (fun j => by show 0 ≤ rd net (i : Int) / 2 ^ j % 2 ∧ rd net (i : Int) / 2 ^ j % 2 ≤ 1; omega) j
    refine Ev.step (fun k => spec_WiresOf.l1.eq_2 ..) ?_
    rw [stest _ j (by omega) (hn.ins hi).1, w64 (x := acc + sumN (fun j => rd net (i : Int) / 2 ^ j % 2) j + rd net (i : Int) / 2 ^ j % 2) (by omega) (by omega), w64i j (by omega), Int.add_assoc]
    exact Ev.pos (by omega) (Ev.pos (by omega) (Ev.pos (by omega) (Ev.pos (by omega) (ih (j + 1) (by omega)))))
theorem sWires_l0 {net : List Int} (hn : NetP net) : ∀ (d i : Nat), i + d = net.length → Ev (fun k => spec_WiresOf.l0 k net (sumN (fun i => sumN (fun j => rd net (i : Int) / 2 ^ j % 2) i) i) (i : Int)) (wires net) := by
  have h6 := hn.2.1
  intro d
  induction d with
  | zero =>
    intro i hd
    refine Ev.step (fun k => spec_WiresOf.l0.eq_2 ..) ?_
    exact Ev.neg (by omega) (Ev.one (by rw [wires, show i = net.length by omega]))
  | succ d ih =>
    intro i hd
    have hb := tri_range net i (by omega)
    refine Ev.step (fun k => spec_WiresOf.l0.eq_2 ..) ?_
    refine Ev.pos (by omega) ?_
    have := sWires_l1 hn (i := i) (by omega) (acc := sumN (fun i => sumN (fun j => rd net (i : Int) / 2 ^ j % 2) i) i) hb (r := wires net) (ih (i + 1) (by omega)) i 0 (by omega)
    simpa [sumN] using this
theorem sWires_yes {net : List Int} (hn : NetP net) : Ev (fun k => spec_WiresOf.f k net) (wires net) := by
  unfold spec_WiresOf.f
  exact Ev.bind (sNetOk_yes hn) (Ev.pos rfl (sWires_l0 hn net.length 0 (by omega)))
theorem sWires_no {net : List Int} (hn : ¬ NetP net) : Ev (fun k => spec_WiresOf.f k net) (-1) := by
  unfold spec_WiresOf.f
  exact Ev.bind (sNetOk_no hn) (Ev.neg (by decide) (Ev.one rfl))
end Go.Proofs.Ytjofekchopgfbaa.CFnExactWiresOf
