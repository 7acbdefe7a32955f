/- What each function that the law FnExactLoopOf calls comes to. -/
import Derived.Test.YtjofekchopgfbacPFnExactLoopOfx6
import Derived.Test.YtjofekchopgfbacMath
namespace Go.Proofs.Ytjofekchopgfbac.CFnExactLoopOf
open Go Go.RowKit Go.Proofs.Ytjofekchopgfbac.PFnExactLoopOf Go.Proofs.YtjofekchopgfbacW.PrintWords Go.Proofs.YtjofekchopgfbacW.PrintLast Go.Proofs.Ytjofekchopgfbac.Pl

theorem toIntS_l (x0 : List Int) (hx : x0.length ≤ 35184372088832) : ∀ (d i : Nat) (x3 : List Int), i + d = x0.length → x3.length = x0.length → (∀ j : Nat, j < i → rd x3 (j : Int) = rd x0 (j : Int)) → Ev (fun k => laws_toIntS.l0 k x0 x3 (i : Int)) x0 := by
  intro d
  induction d with
  | zero =>
    intro i x3 hd hl h
    refine Ev.step (fun k => laws_toIntS.l0.eq_2 ..) ?_
    exact Ev.neg (by omega) (Ev.one (congrArg some (rd_ext hl fun j hj => h j (by omega))))
  | succ d ih =>
    intro i x3 hd hl h
    refine Ev.step (fun k => laws_toIntS.l0.eq_2 ..) ?_
    refine Ev.pos (by omega) (Ev.pos (by omega) (Ev.pos (by omega) ?_))
    rw [w64i i (by omega), Int.toNat_natCast]
    refine ih (i + 1) _ (by omega) (by simpa using hl) (fun j hj => ?_)
    rw [rd_set _ _ _ _ (by omega)]
    by_cases e : i = j
    · rw [if_pos e, e]
    · rw [if_neg e]; exact h j (by omega)
theorem toIntS_ev (x0 : List Int) (hx : x0.length ≤ 35184372088832) : Ev (fun k => laws_toIntS.f k x0) x0 := by
  unfold laws_toIntS.f
  refine Ev.pos (by omega) (Ev.pos (by omega) ?_)
  exact toIntS_l x0 hx x0.length 0 _ (by omega) (by simp) (fun j hj => by omega)
theorem eqIntS_l (x y : List Int) (hl : x.length = y.length) (hx : x.length ≤ 35184372088832) : ∀ (d i : Nat), i + d = x.length → (∀ j : Nat, j < i → rd x (j : Int) = rd y (j : Int)) → Ev (fun k => laws_eqIntS.l0 k x y (i : Int)) (decide (x = y)) := by
  intro d
  induction d with
  | zero =>
    intro i hd h
    refine Ev.step (fun k => laws_eqIntS.l0.eq_2 ..) ?_
    exact Ev.neg (by omega) (Ev.one (congrArg some (decide_eq_true (rd_ext hl fun j hj => h j (by omega))).symm))
  | succ d ih =>
    intro i hd h
    refine Ev.step (fun k => laws_eqIntS.l0.eq_2 ..) ?_
    refine Ev.pos (by omega) (Ev.pos (by omega) (Ev.pos (by omega) ?_))
    by_cases e : rd x (i : Int) = rd y (i : Int)
    · refine Ev.pos e ?_
      rw [w64i i (by omega)]
      refine ih (i + 1) (by omega) (fun j hj => ?_)
      by_cases e2 : j = i
      · rw [e2]; exact e
      · exact h j (by omega)
    · exact Ev.neg e (Ev.one (congrArg some (decide_eq_false (fun q => e (by rw [q]))).symm))
theorem eqIntS_ev (x y : List Int) (hx : x.length ≤ 35184372088832) : Ev (fun k => laws_eqIntS.f k x y) (decide (x = y)) := by
  unfold laws_eqIntS.f
  by_cases hl : x.length = y.length
  · refine Ev.pos (by omega) ?_
    exact eqIntS_l x y hl hx x.length 0 (by omega) (fun j hj => by omega)
  · exact Ev.neg (by omega) (Ev.one (congrArg some (decide_eq_false (fun q => hl (by rw [q]))).symm))
theorem l1In_ev (a b c : Int) : Ev (fun _ => spec_l1In.f a b c) (decide (b ≤ a ∧ a ≤ c)) := by
  refine Ev.one ?_
  unfold spec_l1In.f
  by_cases h : a ≥ b
  · rw [if_pos h]; simp [show b ≤ a from h]
  · rw [if_neg h]; simp [show ¬ b ≤ a from h]
theorem iNetOk_l1 (net : List Int) (hn : net.length ≤ 6) (i : Nat) (hi : i < net.length) (c : Bool) (hc : Ev (fun k => impl_NetOk.l0 k net net (net.length : Int) ((i + 1 : Nat) : Int)) c) :
    ∀ d j : Nat, j + d = net.length → ∃ b, Ev (fun k => impl_NetOk.l1 k net (i : Int) (rd net (i : Int)) net (net.length : Int) (i : Int) (net.length : Int) (j : Int)) b ∧
      (b = true ↔ (∀ j' : Nat, j ≤ j' → j' < net.length → rd net (i : Int) / 2 ^ j' % 2 = rd net (j' : Int) / 2 ^ i % 2) ∧ c = true) := by
  intro d
  induction d with
  | zero =>
    intro j hd
    refine ⟨c, ?_, ?_⟩
    · refine Ev.step (fun k => impl_NetOk.l1.eq_2 ..) ?_
      refine Ev.neg (by omega) ?_
      rw [w64i i (by omega)]; exact hc
    · constructor
      · intro h; exact ⟨fun j' h1 h2 => by omega, h⟩
      · exact fun h => h.2
  | succ d ih =>
    intro j hd
    obtain ⟨b, hb, hb2⟩ := ih (j + 1) (by omega)
    by_cases e : rd net (i : Int) / 2 ^ j % 2 = rd net (j : Int) / 2 ^ i % 2
    · refine ⟨b, ?_, hb2.trans ⟨fun h => ⟨fun j' h1 h2 => ?_, h.2⟩, fun h => ⟨fun j' h1 h2 => h.1 j' (by omega) h2, h.2⟩⟩⟩
      · refine Ev.step (fun k => impl_NetOk.l1.eq_2 ..) ?_
        rw [itest _ j (by omega), itest _ i (by omega)]
        refine Ev.pos (by omega) (Ev.pos (by omega) (Ev.pos (by omega) (Ev.pos (by omega) (Ev.pos e ?_))))
        rw [w64i j (by omega)]; exact hb
      · by_cases q : j' = j
        · rw [q]; exact e
        · exact h.1 j' (by omega) h2
    · refine ⟨false, ?_, ⟨(fun h => Bool.noConfusion h), fun h => absurd (h.1 j (by omega) (by omega)) e⟩⟩
      refine Ev.step (fun k => impl_NetOk.l1.eq_2 ..) ?_
      rw [itest _ j (by omega), itest _ i (by omega)]
      exact Ev.pos (by omega) (Ev.pos (by omega) (Ev.pos (by omega) (Ev.pos (by omega) (Ev.neg e (Ev.one rfl)))))
theorem iNetOk_l0 (net : List Int) (hn : net.length ≤ 6) : ∀ d i : Nat, i + d = net.length → ∃ b, Ev (fun k => impl_NetOk.l0 k net net (net.length : Int) (i : Int)) b ∧ (b = true ↔ ∀ i' : Nat, i ≤ i' → i' < net.length → RowP net i') := by
  intro d
  induction d with
  | zero =>
    intro i hd
    refine ⟨true, ?_, ⟨fun _ i' h1 h2 => by omega, fun _ => rfl⟩⟩
    refine Ev.step (fun k => impl_NetOk.l0.eq_2 ..) ?_
    exact Ev.neg (by omega) (Ev.one rfl)
  | succ d ih =>
    intro i hd
    obtain ⟨c, hc, hc2⟩ := ih (i + 1) (by omega)
    obtain ⟨b, hb, hb2⟩ := iNetOk_l1 net hn i (by omega) c hc net.length 0 (by omega)
    have hbad : ∀ p : Bool, p = true → Ev (fun k => impl_NetOk.j2 k net (i : Int) (rd net (i : Int)) net (net.length : Int) (i : Int) p) false := by
      intro p hp
      refine Ev.step (fun k => impl_NetOk.j2.eq_2 ..) ?_
      exact Ev.pos hp (Ev.one rfl)
    have hgood : ∀ p : Bool, p = false → Ev (fun k => impl_NetOk.j2 k net (i : Int) (rd net (i : Int)) net (net.length : Int) (i : Int) p) b := by
      intro p hp
      refine Ev.step (fun k => impl_NetOk.j2.eq_2 ..) ?_
      exact Ev.neg (by simp [hp]) hb
    have hpow : shl .i64 1 (net.length : Int) = ((2 ^ net.length : Nat) : Int) := shl_one _ (by omega)
    by_cases h0 : rd net (i : Int) < 0
    · refine ⟨false, ?_, ⟨(fun h => Bool.noConfusion h), fun h => absurd (h i (by omega) (by omega)).1.1 (by omega)⟩⟩
      refine Ev.step (fun k => impl_NetOk.l0.eq_2 ..) ?_
      exact Ev.pos (by omega) (Ev.pos (by omega) (Ev.pos (by omega) (Ev.pos h0 (hbad true rfl))))
    · by_cases h1 : rd net (i : Int) ≥ ((2 ^ net.length : Nat) : Int)
      · refine ⟨false, ?_, ⟨(fun h => Bool.noConfusion h), fun h => absurd (h i (by omega) (by omega)).1.2 (by push_cast at h1; omega)⟩⟩
        refine Ev.step (fun k => impl_NetOk.l0.eq_2 ..) ?_
        rw [hpow]
        exact Ev.pos (by omega) (Ev.pos (by omega) (Ev.pos (by omega) (Ev.neg h0 (Ev.pos h1 (hbad true rfl)))))
      · by_cases h2 : rd net (i : Int) / 2 ^ i % 2 = 1
        · refine ⟨false, ?_, ⟨(fun h => Bool.noConfusion h), fun h => absurd (h i (by omega) (by omega)).2.1 (by omega)⟩⟩
          refine Ev.step (fun k => impl_NetOk.l0.eq_2 ..) ?_
          rw [hpow, itest _ i (by omega)]
          exact Ev.pos (by omega) (Ev.pos (by omega) (Ev.pos (by omega) (Ev.neg h0 (Ev.neg h1 (hbad _ (by rw [h2]; rfl))))))
        · refine ⟨b, ?_, ?_⟩
          · refine Ev.step (fun k => impl_NetOk.l0.eq_2 ..) ?_
            rw [hpow, itest _ i (by omega)]
            exact Ev.pos (by omega) (Ev.pos (by omega) (Ev.pos (by omega) (Ev.neg h0 (Ev.neg h1 (hgood _ (by simpa using h2))))))
          · rw [hb2, hc2]
            constructor
            · rintro ⟨g1, g2⟩ i' q1 q2
              by_cases q : i' = i
              · subst q
                exact ⟨⟨by omega, by push_cast at h1; omega⟩, by omega, fun j hj => g1 j (by omega) hj⟩
              · exact g2 i' (by omega) q2
            · intro g
              exact ⟨fun j' _ q2 => (g i (by omega) (by omega)).2.2 j' q2, fun i' q1 q2 => g i' (by omega) q2⟩
theorem iNetOk_any (net : List Int) : ∃ b, Ev (fun k => impl_NetOk.f k net) b ∧ (b = true ↔ NetP net) := by
  have hj : ∀ p : Bool, p = true → Ev (fun k => impl_NetOk.j0 k net p) false := by
    intro p hp
    refine Ev.step (fun k => impl_NetOk.j0.eq_2 ..) ?_
    exact Ev.pos hp (Ev.one rfl)
  by_cases h1 : net.length < 1
  · refine ⟨false, ?_, ⟨(fun h => Bool.noConfusion h), fun h => absurd h.1 (by omega)⟩⟩
    unfold impl_NetOk.f
    exact Ev.pos (by omega) (hj true rfl)
  · by_cases h2 : net.length > 6
    · refine ⟨false, ?_, ⟨(fun h => Bool.noConfusion h), fun h => absurd h.2.1 (by omega)⟩⟩
      unfold impl_NetOk.f
      exact Ev.neg (by omega) (hj _ (by simp; omega))
    · obtain ⟨b, hb, hb2⟩ := iNetOk_l0 net (by omega) net.length 0 (by omega)
      refine ⟨b, ?_, hb2.trans ⟨fun h => ⟨by omega, by omega, fun i hi => h i (by omega) hi⟩, fun h i _ hi => h.2.2 i hi⟩⟩
      unfold impl_NetOk.f
      refine Ev.neg (by omega) ?_
      refine Ev.step (fun k => impl_NetOk.j0.eq_2 ..) ?_
      exact Ev.neg (by simp; omega) hb
theorem iNetOk_yes {net : List Int} (h : NetP net) : Ev (fun k => impl_NetOk.f k net) true := by
  obtain ⟨b, hb, hb2⟩ := iNetOk_any net
  exact Ev.cast hb (hb2.2 h)
theorem iNetOk_no {net : List Int} (h : ¬ NetP net) : Ev (fun k => impl_NetOk.f k net) false := by
  obtain ⟨b, hb, hb2⟩ := iNetOk_any net
  exact Ev.cast hb (by cases b with | false => rfl | true => exact absurd (hb2.1 rfl) h)
theorem sNetOk_l2 (net : List Int) (hn : net.length ≤ 6) (hin : ∀ i : Nat, i < net.length → InS net.length (rd net (i : Int))) (i : Nat) (hi : i < net.length) (c : Bool) (hc : Ev (fun k => spec_NetOk.l1 k net ((i + 1 : Nat) : Int)) c) :
    ∀ d j : Nat, j + d = net.length → ∃ b, Ev (fun k => spec_NetOk.l2 k net (i : Int) (j : Int)) b ∧
      (b = true ↔ (∀ j' : Nat, j ≤ j' → j' < net.length → rd net (i : Int) / 2 ^ j' % 2 = rd net (j' : Int) / 2 ^ i % 2 ∧ (j' = i → rd net (i : Int) / 2 ^ i % 2 = 0)) ∧ c = true) := by
  intro d
  induction d with
  | zero =>
    intro j hd
    refine ⟨c, ?_, ?_⟩
    · refine Ev.step (fun k => spec_NetOk.l2.eq_2 ..) ?_
      refine Ev.neg (by omega) ?_
      rw [w64i i (by omega)]; exact hc
    · constructor
      · intro h; exact ⟨fun j' h1 h2 => by omega, h⟩
      · exact fun h => h.2
  | succ d ih =>
    intro j hd
    obtain ⟨b, hb, hb2⟩ := ih (j + 1) (by omega)
    have hstep : Ev (fun k => spec_NetOk.l2 k net (i : Int) ((j + 1 : Nat) : Int)) b := hb
    by_cases e : rd net (i : Int) / 2 ^ j % 2 = rd net (j : Int) / 2 ^ i % 2
    · by_cases e2 : j = i ∧ rd net (i : Int) / 2 ^ j % 2 = 1
      · refine ⟨false, ?_, ⟨(fun h => Bool.noConfusion h), fun h => ?_⟩⟩
        · refine Ev.step (fun k => spec_NetOk.l2.eq_2 ..) ?_
          rw [stest _ j (by omega) (hin i hi).1, stest _ i (by omega) (hin j (by omega)).1]
          exact Ev.pos (by omega) (Ev.pos (by omega) (Ev.pos (by omega) (Ev.pos (by omega) (Ev.pos e (Ev.pos (by omega) (Ev.pos e2.2 (Ev.one rfl)))))))
        · have := (h.1 j (by omega) (by omega)).2 e2.1
          have q := e2.2
          rw [e2.1] at q
          omega
      · refine ⟨b, ?_, hb2.trans ⟨fun h => ⟨fun j' h1 h2 => ?_, h.2⟩, fun h => ⟨fun j' h1 h2 => h.1 j' (by omega) h2, h.2⟩⟩⟩
        · refine Ev.step (fun k => spec_NetOk.l2.eq_2 ..) ?_
          rw [stest _ j (by omega) (hin i hi).1, stest _ i (by omega) (hin j (by omega)).1]
          refine Ev.pos (by omega) (Ev.pos (by omega) (Ev.pos (by omega) (Ev.pos (by omega) (Ev.pos e ?_))))
          rw [w64i j (by omega)]
          by_cases q : j = i
          · exact Ev.pos (by omega) (Ev.neg (fun z => e2 ⟨q, z⟩) hstep)
          · exact Ev.neg (by omega) hstep
        · by_cases q : j' = j
          · subst q
            refine ⟨e, fun z => ?_⟩
            have : ¬ rd net (i : Int) / 2 ^ j' % 2 = 1 := fun w => e2 ⟨z, w⟩
            rw [← z]; rw [← z] at this; omega
          · exact h.1 j' (by omega) h2
    · refine ⟨false, ?_, ⟨(fun h => Bool.noConfusion h), fun h => absurd (h.1 j (by omega) (by omega)).1 e⟩⟩
      refine Ev.step (fun k => spec_NetOk.l2.eq_2 ..) ?_
      rw [stest _ j (by omega) (hin i hi).1, stest _ i (by omega) (hin j (by omega)).1]
      exact Ev.pos (by omega) (Ev.pos (by omega) (Ev.pos (by omega) (Ev.pos (by omega) (Ev.neg e (Ev.one rfl)))))
theorem sNetOk_l1 (net : List Int) (hn : net.length ≤ 6) (hin : ∀ i : Nat, i < net.length → InS net.length (rd net (i : Int))) : ∀ d i : Nat, i + d = net.length → ∃ b, Ev (fun k => spec_NetOk.l1 k net (i : Int)) b ∧ (b = true ↔ ∀ i' : Nat, i ≤ i' → i' < net.length → RowP net i') := by
  intro d
  induction d with
  | zero =>
    intro i hd
    refine ⟨true, ?_, ⟨fun _ i' h1 h2 => by omega, fun _ => rfl⟩⟩
    refine Ev.step (fun k => spec_NetOk.l1.eq_2 ..) ?_
    exact Ev.neg (by omega) (Ev.one rfl)
  | succ d ih =>
    intro i hd
    obtain ⟨c, hc, hc2⟩ := ih (i + 1) (by omega)
    obtain ⟨b, hb, hb2⟩ := sNetOk_l2 net hn hin i (by omega) c hc net.length 0 (by omega)
    refine ⟨b, ?_, ?_⟩
    · refine Ev.step (fun k => spec_NetOk.l1.eq_2 ..) ?_
      exact Ev.pos (by omega) hb
    · rw [hb2, hc2]
      constructor
      · rintro ⟨g1, g2⟩ i' q1 q2
        by_cases q : i' = i
        · subst q
          exact ⟨hin _ q2, (g1 i' (by omega) q2).2 rfl, fun j hj => (g1 j (by omega) hj).1⟩
        · exact g2 i' (by omega) q2
      · intro g
        exact ⟨fun j' _ q2 => ⟨(g i (by omega) (by omega)).2.2 j' q2, fun _ => (g i (by omega) (by omega)).2.1⟩, fun i' q1 q2 => g i' (by omega) q2⟩
theorem sNetOk_l0 (net : List Int) (hn : net.length ≤ 6) : ∀ d i : Nat, i + d = net.length → (∀ i' : Nat, i' < i → InS net.length (rd net (i' : Int))) → ∃ b, Ev (fun k => spec_NetOk.l0 k net (i : Int)) b ∧ (b = true ↔ ∀ i' : Nat, i' < net.length → RowP net i') := by
  intro d
  induction d with
  | zero =>
    intro i hd hin
    obtain ⟨b, hb, hb2⟩ := sNetOk_l1 net hn (fun i' hi' => hin i' (by omega)) net.length 0 (by omega)
    refine ⟨b, ?_, hb2.trans ⟨fun h i' hi' => h i' (by omega) hi', fun h i' _ hi' => h i' hi'⟩⟩
    refine Ev.step (fun k => spec_NetOk.l0.eq_2 ..) ?_
    exact Ev.neg (by omega) hb
  | succ d ih =>
    intro i hd hin
    have hpow : wrap64 (shl .i64 1 (net.length : Int) - 1) = ((2 ^ net.length : Nat) : Int) - 1 := by
      have : (2 : Nat) ^ net.length ≤ 2 ^ 6 := Nat.pow_le_pow_right (by omega) hn
      have : (0 : Nat) < 2 ^ net.length := Nat.two_pow_pos _
      rw [shl_one _ (by omega), w64 (by omega) (by omega)]
    by_cases q : 0 ≤ rd net (i : Int) ∧ rd net (i : Int) ≤ ((2 ^ net.length : Nat) : Int) - 1
    · have hin' : ∀ i' : Nat, i' < i + 1 → InS net.length (rd net (i' : Int)) := by
        intro i' hi'
        by_cases e : i' = i
        · rw [e]; exact ⟨q.1, by have := q.2; push_cast at this; omega⟩
        · exact hin i' (by omega)
      obtain ⟨b, hb, hb2⟩ := ih (i + 1) (by omega) hin'
      refine ⟨b, ?_, hb2⟩
      refine Ev.step (fun k => spec_NetOk.l0.eq_2 ..) ?_
      rw [hpow]
      refine Ev.pos (by omega) (Ev.pos (by omega) (Ev.bind (l1In_ev _ _ _) (Ev.pos (decide_eq_true q) ?_)))
      rw [w64i i (by omega)]; exact hb
    · refine ⟨false, ?_, ⟨(fun h => Bool.noConfusion h), fun h => ?_⟩⟩
      · refine Ev.step (fun k => spec_NetOk.l0.eq_2 ..) ?_
        rw [hpow]
        exact Ev.pos (by omega) (Ev.pos (by omega) (Ev.bind (l1In_ev _ _ _) (Ev.neg (by rw [decide_eq_false q]; decide) (Ev.one rfl))))
      · have := (h i (by omega)).1
        exact absurd ⟨this.1, by have := this.2; push_cast; omega⟩ q
theorem sNetOk_any (net : List Int) : ∃ b, Ev (fun k => spec_NetOk.f k net) b ∧ (b = true ↔ NetP net) := by
  by_cases h : (1 : Int) ≤ (net.length : Int) ∧ (net.length : Int) ≤ 6
  · obtain ⟨b, hb, hb2⟩ := sNetOk_l0 net (by omega) net.length 0 (by omega) (fun i' hi' => by omega)
    refine ⟨b, ?_, hb2.trans ⟨fun g => ⟨by omega, by omega, g⟩, fun g => g.2.2⟩⟩
    unfold spec_NetOk.f
    exact Ev.bind (l1In_ev _ _ _) (Ev.pos (decide_eq_true h) hb)
  · refine ⟨false, ?_, ⟨(fun h => Bool.noConfusion h), fun g => absurd ⟨by have := g.1; omega, by have := g.2.1; omega⟩ h⟩⟩
    unfold spec_NetOk.f
    exact Ev.bind (l1In_ev _ _ _) (Ev.neg (by rw [decide_eq_false h]; decide) (Ev.one rfl))
theorem sNetOk_yes {net : List Int} (h : NetP net) : Ev (fun k => spec_NetOk.f k net) true := by
  obtain ⟨b, hb, hb2⟩ := sNetOk_any net
  exact Ev.cast hb (hb2.2 h)
theorem sNetOk_no {net : List Int} (h : ¬ NetP net) : Ev (fun k => spec_NetOk.f k net) false := by
  obtain ⟨b, hb, hb2⟩ := sNetOk_any net
  exact Ev.cast hb (by cases b with | false => rfl | true => exact absurd (hb2.1 rfl) h)
theorem pow_less {n : Nat} (h6 : n ≤ 6) : wrap64 (shl .i64 1 (n : Int) - 1) = ((2 ^ n : Nat) : Int) - 1 := by
  have : (2 : Nat) ^ n ≤ 2 ^ 6 := Nat.pow_le_pow_right (by omega) h6
  have : (0 : Nat) < 2 ^ n := Nat.two_pow_pos _
  rw [shl_one _ (by omega), w64 (by omega) (by omega)]
theorem inSet_yes {n : Nat} (h6 : n ≤ 6) {set : Int} (hs : InS n set) : Ev (fun _ => spec_l1In.f set 0 (wrap64 (shl .i64 1 (n : Int) - 1))) true := by
  rw [pow_less h6]
  exact Ev.cast (l1In_ev _ _ _) (decide_eq_true ⟨hs.1, by have := hs.2; push_cast; omega⟩)
theorem inSet_no {n : Nat} (h6 : n ≤ 6) {set : Int} (hs : ¬ InS n set) : Ev (fun _ => spec_l1In.f set 0 (wrap64 (shl .i64 1 (n : Int) - 1))) false := by
  rw [pow_less h6]
  exact Ev.cast (l1In_ev _ _ _) (decide_eq_false fun q => hs ⟨q.1, by have := q.2; push_cast at this; omega⟩)
theorem iStOk_l (kinds : Int) (st : List Int) (hl : st.length ≤ 35184372088832) : ∀ d i : Nat, i + d = st.length → (∀ i' : Nat, i' < i → 0 ≤ rd st (i' : Int) ∧ rd st (i' : Int) < kinds) → ∃ b, Ev (fun k => impl_StateOk.l0 k kinds st st (st.length : Int) (i : Int)) b ∧ (b = true ↔ StP kinds st) := by
  intro d
  induction d with
  | zero =>
    intro i hd h
    have hall : ∀ i' : Nat, i' < st.length → 0 ≤ rd st (i' : Int) ∧ rd st (i' : Int) < kinds := fun i' hi' => h i' (by omega)
    by_cases c1 : kinds ≥ 3
    · by_cases c2 : kinds ≤ 5
      · by_cases c3 : (st.length : Int) ≥ 1
        · refine ⟨decide ((st.length : Int) ≤ 6), ?_, ?_⟩
          · refine Ev.step (fun k => impl_StateOk.l0.eq_2 ..) ?_
            exact Ev.neg (by omega) (Ev.pos c1 (Ev.pos c2 (Ev.pos c3 (Ev.one rfl))))
          · rw [decide_eq_true_iff]
            exact ⟨fun q => ⟨c1, c2, by omega, by omega, hall⟩, fun q => by have := q.2.2.2.1; omega⟩
        · refine ⟨false, ?_, ⟨(fun q => Bool.noConfusion q), fun q => by have := q.2.2.1; omega⟩⟩
          refine Ev.step (fun k => impl_StateOk.l0.eq_2 ..) ?_
          exact Ev.neg (by omega) (Ev.pos c1 (Ev.pos c2 (Ev.neg c3 (Ev.one rfl))))
      · refine ⟨false, ?_, ⟨(fun q => Bool.noConfusion q), fun q => by have := q.2.1; omega⟩⟩
        refine Ev.step (fun k => impl_StateOk.l0.eq_2 ..) ?_
        exact Ev.neg (by omega) (Ev.pos c1 (Ev.neg c2 (Ev.one rfl)))
    · refine ⟨false, ?_, ⟨(fun q => Bool.noConfusion q), fun q => by have := q.1; omega⟩⟩
      refine Ev.step (fun k => impl_StateOk.l0.eq_2 ..) ?_
      exact Ev.neg (by omega) (Ev.neg c1 (Ev.one rfl))
  | succ d ih =>
    intro i hd h
    by_cases c1 : rd st (i : Int) < 0
    · refine ⟨false, ?_, ⟨(fun q => Bool.noConfusion q), fun q => by have := (q.2.2.2.2 i (by omega)).1; omega⟩⟩
      refine Ev.step (fun k => impl_StateOk.l0.eq_2 ..) ?_
      exact Ev.pos (by omega) (Ev.pos (by omega) (Ev.pos (by omega) (Ev.pos c1 (Ev.one rfl))))
    · by_cases c2 : rd st (i : Int) ≥ kinds
      · refine ⟨false, ?_, ⟨(fun q => Bool.noConfusion q), fun q => by have := (q.2.2.2.2 i (by omega)).2; omega⟩⟩
        refine Ev.step (fun k => impl_StateOk.l0.eq_2 ..) ?_
        exact Ev.pos (by omega) (Ev.pos (by omega) (Ev.pos (by omega) (Ev.neg c1 (Ev.pos c2 (Ev.one rfl)))))
      · obtain ⟨b, hb, hb2⟩ := ih (i + 1) (by omega) (fun i' hi' => by
          by_cases e : i' = i
          · rw [e]; omega
          · exact h i' (by omega))
        refine ⟨b, ?_, hb2⟩
        refine Ev.step (fun k => impl_StateOk.l0.eq_2 ..) ?_
        rw [w64i i (by omega)]
        exact Ev.pos (by omega) (Ev.pos (by omega) (Ev.pos (by omega) (Ev.neg c1 (Ev.neg c2 hb))))
theorem iStOk_any (kinds : Int) (st : List Int) (hl : st.length ≤ 35184372088832) : ∃ b, Ev (fun k => impl_StateOk.f k kinds st) b ∧ (b = true ↔ StP kinds st) := by
  unfold impl_StateOk.f
  exact iStOk_l kinds st hl st.length 0 (by omega) (fun i' hi' => by omega)
theorem iStOk_yes {kinds : Int} {st : List Int} (h : StP kinds st) : Ev (fun k => impl_StateOk.f k kinds st) true := by
  obtain ⟨b, hb, hb2⟩ := iStOk_any kinds st (by have := h.2.2.2.1; omega)
  exact Ev.cast hb (hb2.2 h)
theorem iStOk_no {kinds : Int} {st : List Int} (hl : st.length ≤ 35184372088832) (h : ¬ StP kinds st) : Ev (fun k => impl_StateOk.f k kinds st) false := by
  obtain ⟨b, hb, hb2⟩ := iStOk_any kinds st hl
  exact Ev.cast hb (by cases b with | false => rfl | true => exact absurd (hb2.1 rfl) h)
theorem sStOk_l (kinds : Int) (st : List Int) (hl : st.length ≤ 35184372088832) : ∀ d i : Nat, i + d = st.length → (∀ i' : Nat, i' < i → 0 ≤ rd st (i' : Int) ∧ rd st (i' : Int) < kinds) → ∃ b, Ev (fun k => spec_StateOk.l0 k kinds st (i : Int)) b ∧ (b = true ↔ StP kinds st) := by
  intro d
  induction d with
  | zero =>
    intro i hd h
    have hall : ∀ i' : Nat, i' < st.length → 0 ≤ rd st (i' : Int) ∧ rd st (i' : Int) < kinds := fun i' hi' => h i' (by omega)
    by_cases c1 : 3 ≤ kinds ∧ kinds ≤ 5
    · refine ⟨decide ((1 : Int) ≤ (st.length : Int) ∧ (st.length : Int) ≤ 6), ?_, ?_⟩
      · refine Ev.step (fun k => spec_StateOk.l0.eq_2 ..) ?_
        exact Ev.neg (by omega) (Ev.bind (l1In_ev _ _ _) (Ev.pos (decide_eq_true c1) (Ev.bind (l1In_ev _ _ _) (Ev.now _))))
      · rw [decide_eq_true_iff]
        exact ⟨fun q => ⟨c1.1, c1.2, by omega, by omega, hall⟩, fun q => ⟨by have := q.2.2.1; omega, by have := q.2.2.2.1; omega⟩⟩
    · refine ⟨false, ?_, ⟨(fun q => Bool.noConfusion q), fun q => absurd ⟨q.1, q.2.1⟩ c1⟩⟩
      refine Ev.step (fun k => spec_StateOk.l0.eq_2 ..) ?_
      exact Ev.neg (by omega) (Ev.bind (l1In_ev _ _ _) (Ev.neg (by rw [decide_eq_false c1]; decide) (Ev.one rfl)))
  | succ d ih =>
    intro i hd h
    by_cases c1 : rd st (i : Int) < 0
    · refine ⟨false, ?_, ⟨(fun q => Bool.noConfusion q), fun q => by have := (q.2.2.2.2 i (by omega)).1; omega⟩⟩
      refine Ev.step (fun k => spec_StateOk.l0.eq_2 ..) ?_
      exact Ev.pos (by omega) (Ev.pos (by omega) (Ev.pos c1 (Ev.one rfl)))
    · by_cases c2 : rd st (i : Int) ≥ kinds
      · refine ⟨false, ?_, ⟨(fun q => Bool.noConfusion q), fun q => by have := (q.2.2.2.2 i (by omega)).2; omega⟩⟩
        refine Ev.step (fun k => spec_StateOk.l0.eq_2 ..) ?_
        exact Ev.pos (by omega) (Ev.pos (by omega) (Ev.neg c1 (Ev.pos c2 (Ev.one rfl))))
      · obtain ⟨b, hb, hb2⟩ := ih (i + 1) (by omega) (fun i' hi' => by
          by_cases e : i' = i
          · rw [e]; omega
          · exact h i' (by omega))
        refine ⟨b, ?_, hb2⟩
        refine Ev.step (fun k => spec_StateOk.l0.eq_2 ..) ?_
        rw [w64i i (by omega)]
        exact Ev.pos (by omega) (Ev.pos (by omega) (Ev.neg c1 (Ev.neg c2 hb)))
theorem sStOk_any (kinds : Int) (st : List Int) (hl : st.length ≤ 35184372088832) : ∃ b, Ev (fun k => spec_StateOk.f k kinds st) b ∧ (b = true ↔ StP kinds st) := by
  unfold spec_StateOk.f
  exact sStOk_l kinds st hl st.length 0 (by omega) (fun i' hi' => by omega)
theorem sStOk_yes {kinds : Int} {st : List Int} (h : StP kinds st) : Ev (fun k => spec_StateOk.f k kinds st) true := by
  obtain ⟨b, hb, hb2⟩ := sStOk_any kinds st (by have := h.2.2.2.1; omega)
  exact Ev.cast hb (hb2.2 h)
theorem sStOk_no {kinds : Int} {st : List Int} (hl : st.length ≤ 35184372088832) (h : ¬ StP kinds st) : Ev (fun k => spec_StateOk.f k kinds st) false := by
  obtain ⟨b, hb, hb2⟩ := sStOk_any kinds st hl
  exact Ev.cast hb (by cases b with | false => rfl | true => exact absurd (hb2.1 rfl) h)
theorem iNum_l {kinds : Int} {st : List Int} (h : StP kinds st) : ∀ i : Nat, i ≤ st.length → Ev (fun k => impl_NumberOf.l0 k kinds st (numL kinds (st.drop i)) ((i : Int) - 1)) (numL kinds st) := by
  intro i
  induction i with
  | zero =>
    intro _
    refine Ev.step (fun k => impl_NumberOf.l0.eq_2 ..) ?_
    exact Ev.neg (by omega) (Ev.one rfl)
  | succ i ih =>
    intro hi
    have hb := numL_drop h i hi
    refine Ev.step (fun k => impl_NumberOf.l0.eq_2 ..) ?_
    rw [show ((i + 1 : Nat) : Int) - 1 = (i : Int) by omega, hb.2.2.1, hb.2.2.2, w64 (x := (i : Int) - 1) (by have := h.2.2.2.1; omega) (by have := h.2.2.2.1; omega)]
    exact Ev.pos (by omega) (Ev.pos (by omega) (Ev.pos (by omega) (ih (by omega))))
theorem iNum_yes {kinds : Int} {st : List Int} (h : StP kinds st) : Ev (fun k => impl_NumberOf.f k kinds st) (numL kinds st) := by
  have h6 := h.2.2.2.1
  unfold impl_NumberOf.f
  refine Ev.bind (iStOk_yes h) (Ev.pos rfl ?_)
  rw [w64 (x := (st.length : Int) - 1) (by omega) (by omega)]
  have := iNum_l h st.length (Nat.le_refl _)
  rw [List.drop_length] at this
  exact this
theorem iNum_no {kinds : Int} {st : List Int} (hl : st.length ≤ 35184372088832) (h : ¬ StP kinds st) : Ev (fun k => impl_NumberOf.f k kinds st) (-1) := by
  unfold impl_NumberOf.f
  exact Ev.bind (iStOk_no hl h) (Ev.neg (by decide) (Ev.one rfl))
theorem iAsk_yes {net : List Int} {kinds : Int} {st : List Int} (h : AskP net kinds st) : Ev (fun k => impl_asked.f k net kinds st) true := by
  unfold impl_asked.f
  exact Ev.bind (iNetOk_yes h.1) (Ev.pos rfl (Ev.bind (iStOk_yes h.2.1) (Ev.pos rfl (Ev.one (by rw [h.2.2]; simp)))))
theorem iAsk_no {net : List Int} {kinds : Int} {st : List Int} (hl : st.length ≤ 35184372088832) (h : ¬ AskP net kinds st) : Ev (fun k => impl_asked.f k net kinds st) false := by
  unfold impl_asked.f
  by_cases h1 : NetP net
  · by_cases h2 : StP kinds st
    · refine Ev.bind (iNetOk_yes h1) (Ev.pos rfl (Ev.bind (iStOk_yes h2) (Ev.pos rfl (Ev.one (congrArg some ?_)))))
      exact beq_eq_false_iff_ne.2 (fun q => h ⟨h1, h2, by omega⟩)
    · exact Ev.bind (iNetOk_yes h1) (Ev.pos rfl (Ev.bind (iStOk_no hl h2) (Ev.neg (by decide) (Ev.one rfl))))
  · exact Ev.bind (iNetOk_no h1) (Ev.neg (by decide) (Ev.one rfl))
theorem sAsk_yes {net : List Int} {kinds : Int} {st : List Int} (h : AskP net kinds st) : Ev (fun k => spec_l3Ok.f k net kinds st) true := by
  unfold spec_l3Ok.f
  exact Ev.bind (sNetOk_yes h.1) (Ev.pos rfl (Ev.bind (sStOk_yes h.2.1) (Ev.pos rfl (Ev.one (by rw [h.2.2]; simp)))))
theorem sAsk_no {net : List Int} {kinds : Int} {st : List Int} (hl : st.length ≤ 35184372088832) (h : ¬ AskP net kinds st) : Ev (fun k => spec_l3Ok.f k net kinds st) false := by
  unfold spec_l3Ok.f
  by_cases h1 : NetP net
  · by_cases h2 : StP kinds st
    · refine Ev.bind (sNetOk_yes h1) (Ev.pos rfl (Ev.bind (sStOk_yes h2) (Ev.pos rfl (Ev.one (congrArg some ?_)))))
      exact beq_eq_false_iff_ne.2 (fun q => h ⟨h1, h2, by omega⟩)
    · exact Ev.bind (sNetOk_yes h1) (Ev.pos rfl (Ev.bind (sStOk_no hl h2) (Ev.neg (by decide) (Ev.one rfl))))
  · exact Ev.bind (sNetOk_no h1) (Ev.neg (by decide) (Ev.one rfl))
theorem iNeed_l1 {net : List Int} {kinds : Int} {st : List Int} (h : AskP net kinds st) {i : Nat} (hi : i < st.length) {out : List Int} (ho : out.length = st.length) {r : List Int}
    (c1 : Fires net st i → Ev (fun k => impl_needStep.l0 k net kinds st (out.set i 1) st (st.length : Int) ((i + 1 : Nat) : Int)) r) (c2 : ¬ Fires net st i → Ev (fun k => impl_needStep.l0 k net kinds st out st (st.length : Int) ((i + 1 : Nat) : Int)) r) :
    ∀ (d j n : Nat), j + d = st.length → n ≤ j → (1 ≤ n ↔ ∃ j' : Nat, j' < j ∧ tb (rd net (i : Int)) j' = true ∧ rd st (j' : Int) = 1) →
      Ev (fun k => impl_needStep.l1 k net kinds st out (i : Int) (n : Int) 1 st (st.length : Int) (i : Int) st (st.length : Int) (j : Int)) r := by
  have h6 := h.2.1.2.2.2.1
  have hl := h.2.2
  intro d
  induction d with
  | zero =>
    intro j n hd hn hf
    refine Ev.step (fun k => impl_needStep.l1.eq_2 ..) ?_
    refine Ev.neg (by omega) ?_
    by_cases c : 1 ≤ n
    · obtain ⟨j', a, b⟩ := hf.1 c
      refine Ev.pos (by omega) (Ev.pos (by omega) (Ev.pos (by omega) ?_))
      rw [Int.toNat_natCast, w64i i (by omega)]
      exact c1 ⟨j', by omega, b⟩
    · refine Ev.neg (by omega) ?_
      rw [w64i i (by omega)]
      exact c2 (fun ⟨j', a, b⟩ => c (hf.2 ⟨j', by omega, b⟩))
  | succ d ih =>
    intro j n hd hn hf
    refine Ev.step (fun k => impl_needStep.l1.eq_2 ..) ?_
    rw [itest _ j (by omega), w64i j (by omega), w64i n (by omega)]
    refine Ev.pos (by omega) (Ev.pos (by omega) (Ev.pos (by omega) (Ev.pos (by omega) (Ev.pos (by omega) ?_))))
    cases q : tb (rd net (i : Int)) j with
    | true =>
      refine Ev.pos ((tb_iff _ _).1 q) ?_
      by_cases e : rd st (j : Int) = 1
      · exact Ev.pos e (ih (j + 1) (n + 1) (by omega) (by omega) ⟨fun _ => ⟨j, by omega, q, e⟩, fun _ => by omega⟩)
      · refine Ev.neg e (ih (j + 1) n (by omega) (by omega) (hf.trans ⟨fun ⟨j', a, b⟩ => ⟨j', by omega, b⟩, fun ⟨j', a, b⟩ => ⟨j', ?_, b⟩⟩))
        by_cases z : j' = j
        · rw [z] at b; exact absurd b.2 e
        · omega
    | false =>
      refine Ev.neg (by rw [(tb_not _ _).1 q]; decide) (ih (j + 1) n (by omega) (by omega) (hf.trans ⟨fun ⟨j', a, b⟩ => ⟨j', by omega, b⟩, fun ⟨j', a, b⟩ => ⟨j', ?_, b⟩⟩))
      by_cases z : j' = j
      · rw [z, q] at b; exact absurd b.1 (by decide)
      · omega
theorem iNeed_l0 {net : List Int} {kinds : Int} {st : List Int} (h : AskP net kinds st) : ∀ (d i : Nat) (out : List Int), i + d = st.length → out.length = st.length → (∀ j : Nat, j < i → rd out (j : Int) = stepAt net kinds st j) → (∀ j : Nat, i ≤ j → j < st.length → rd out (j : Int) = 0) →
    Ev (fun k => impl_needStep.l0 k net kinds st out st (st.length : Int) (i : Int)) (stepL net kinds st) := by
  have h3 := h.2.1.1
  have h5 := h.2.1.2.1
  have h6 := h.2.1.2.2.2.1
  have hl := h.2.2
  intro d
  induction d with
  | zero =>
    intro i out hd ho h1 h2
    refine Ev.step (fun k => impl_needStep.l0.eq_2 ..) ?_
    exact Ev.neg (by omega) (Ev.one (congrArg some (mkL_ext ho (fun j hj => h1 j (by omega)))))
  | succ d ih =>
    intro i out hd ho h1 h2
    have hi : i < st.length := by omega
    have hr := h.2.1.2.2.2.2 i hi
    have hset : ∀ v : Int, v = stepAt net kinds st i → Ev (fun k => impl_needStep.l0 k net kinds st (out.set i v) st (st.length : Int) ((i + 1 : Nat) : Int)) (stepL net kinds st) := by
      intro v hv
      refine ih (i + 1) _ (by omega) (by simpa using ho) (fun j hj => ?_) (fun j hj hj2 => ?_)
      · rw [rd_set _ _ _ _ (by omega)]
        by_cases e : i = j
        · rw [if_pos e, ← e, hv]
        · rw [if_neg e]; exact h1 j (by omega)
      · rw [rd_set _ _ _ _ (by omega), if_neg (by omega)]; exact h2 j (by omega) hj2
    refine Ev.step (fun k => impl_needStep.l0.eq_2 ..) ?_
    refine Ev.pos (by omega) (Ev.pos (by omega) (Ev.pos (by omega) ?_))
    by_cases c : rd st (i : Int) > 0
    · refine Ev.pos c (Ev.neg (by omega) (Ev.pos (by omega) ?_))
      rw [w64i i (by omega), Int.toNat_natCast, w64 (x := rd st (i : Int) + 1) (by omega) (by omega), Int.tmod_eq_emod_of_nonneg (by omega)]
      exact hset _ (stepAt_up c).symm
    · refine Ev.neg c ?_
      refine iNeed_l1 h hi ho (fun hf => hset 1 (stepAt_fire c hf).symm) (fun hf => ?_) st.length 0 0 (by omega) (by omega) ⟨fun q => by omega, fun ⟨j', a, _⟩ => by omega⟩
      refine ih (i + 1) out (by omega) ho (fun j hj => ?_) (fun j hj hj2 => h2 j (by omega) hj2)
      by_cases e : j = i
      · rw [e, h2 i (Nat.le_refl _) hi, stepAt_rest c hf]
      · exact h1 j (by omega)
theorem iNeed_ev {net : List Int} {kinds : Int} {st : List Int} (h : AskP net kinds st) : Ev (fun k => impl_needStep.f k net kinds [] st) (stepL net kinds st) := by
  have h6 := h.2.1.2.2.2.1
  unfold impl_needStep.f
  refine Ev.pos (by omega) (Ev.pos (by omega) ?_)
  rw [Int.toNat_natCast]
  exact iNeed_l0 h st.length 0 _ (by omega) (by simp) (fun j hj => by omega) (fun j _ hj => rd_rep _ _ _ hj)
theorem sStep_l1 {net : List Int} {kinds : Int} {st : List Int} (h : AskP net kinds st) {fires : Int} (hf0 : InS st.length fires) (hf : ∀ j : Nat, tb fires j = true ↔ j < st.length ∧ rd st (j : Int) = 1) : ∀ (d i : Nat), i + d = st.length →
    Ev (fun k => spec_l3Step.l1 k net kinds st fires (mkL (stepAt net kinds st) i) (i : Int)) (stepL net kinds st) := by
  have h3 := h.2.1.1
  have h5 := h.2.1.2.1
  have h6 := h.2.1.2.2.2.1
  have hl := h.2.2
  intro d
  induction d with
  | zero =>
    intro i hd
    refine Ev.step (fun k => spec_l3Step.l1.eq_2 ..) ?_
    exact Ev.neg (by omega) (Ev.one (by rw [stepL, show i = st.length by omega]))
  | succ d ih =>
    intro i hd
    have hi : i < st.length := by omega
    have hr := h.2.1.2.2.2.2 i hi
    have hnext := ih (i + 1) (by omega)
    rw [← mkL_snoc] at hnext
    refine Ev.step (fun k => spec_l3Step.l1.eq_2 ..) ?_
    refine Ev.pos (by omega) (Ev.pos (by omega) ?_)
    by_cases c : rd st (i : Int) > 0
    · refine Ev.pos c (Ev.neg (by omega) (Ev.pos (by rw [mkL_len]; omega) ?_))
      rw [w64i i (by omega), w64 (x := rd st (i : Int) + 1) (by omega) (by omega), Int.tmod_eq_emod_of_nonneg (by omega), ← stepAt_up (net := net) (kinds := kinds) c]
      exact hnext
    · have hin := h.1.ins (i := i) (by omega)
      rw [hl] at hin
      have o := InS.and (by omega) hin hf0
      have key : Go.bits .and .i64 (rd net (i : Int)) fires = 0 ↔ ¬ Fires net st i := by
        constructor
        · rintro z ⟨j, hj, a, b⟩
          have := o.2 j
          rw [z, tb_zero, a, (hf j).2 ⟨hj, b⟩] at this
          cases this
        · intro z
          refine set_zero o.1 (fun j hj => ?_)
          cases q : tb (Go.bits .and .i64 (rd net (i : Int)) fires) j with
          | false => rfl
          | true =>
            rw [o.2, Bool.and_eq_true] at q
            exact absurd ⟨j, hj, q.1, ((hf j).1 q.2).2⟩ z
      refine Ev.neg c (Ev.pos (by omega) ?_)
      by_cases e : Fires net st i
      · refine Ev.neg (fun z => key.1 z e) (Ev.pos (by rw [mkL_len]; omega) ?_)
        rw [w64i i (by omega)]
        rw [stepAt_fire c e] at hnext; exact hnext
      · refine Ev.pos (key.2 e) (Ev.pos (by rw [mkL_len]; omega) ?_)
        rw [w64i i (by omega), show rd st (i : Int) = 0 by omega]
        rw [stepAt_rest c e] at hnext; exact hnext
theorem sStep_l0 {net : List Int} {kinds : Int} {st : List Int} (h : AskP net kinds st) : ∀ (d i : Nat) (fires : Int), i + d = st.length → InS st.length fires → (∀ j : Nat, tb fires j = true ↔ j < i ∧ rd st (j : Int) = 1) →
    Ev (fun k => spec_l3Step.l0 k net kinds st fires (i : Int)) (stepL net kinds st) := by
  have h6 := h.2.1.2.2.2.1
  intro d
  induction d with
  | zero =>
    intro i fires hd hf0 hf
    refine Ev.step (fun k => spec_l3Step.l0.eq_2 ..) ?_
    refine Ev.neg (by omega) ?_
    exact sStep_l1 h hf0 (fun j => by rw [hf, show i = st.length by omega]) st.length 0 (by omega)
  | succ d ih =>
    intro i fires hd hf0 hf
    have q1 := InS.one (n := st.length) (i := i) (by omega) (by omega)
    have o := InS.or (by omega) hf0 q1.1
    refine Ev.step (fun k => spec_l3Step.l0.eq_2 ..) ?_
    rw [w64i i (by omega)]
    refine Ev.pos (by omega) (Ev.pos (by omega) ?_)
    by_cases e : rd st (i : Int) = 1
    · refine Ev.pos e (ih (i + 1) _ (by omega) o.1 (fun j => ?_))
      rw [o.2, Bool.or_eq_true, hf, q1.2, decide_eq_true_iff]
      constructor
      · rintro (⟨a, b⟩ | rfl)
        · exact ⟨by omega, b⟩
        · exact ⟨by omega, e⟩
      · rintro ⟨a, b⟩
        by_cases z : i = j
        · exact .inr z
        · exact .inl ⟨by omega, b⟩
    · refine Ev.neg e (ih (i + 1) _ (by omega) hf0 (fun j => (hf j).trans ⟨fun ⟨a, b⟩ => ⟨by omega, b⟩, fun ⟨a, b⟩ => ⟨?_, b⟩⟩))
      by_cases z : j = i
      · rw [z] at b; exact absurd b e
      · omega
theorem sStep_ev {net : List Int} {kinds : Int} {st : List Int} (h : AskP net kinds st) : Ev (fun k => spec_l3Step.f k net kinds st) (stepL net kinds st) := by
  unfold spec_l3Step.f
  exact sStep_l0 h st.length 0 0 (by omega) (InS.zero _) (fun j => by rw [tb_zero]; exact ⟨(fun q => Bool.noConfusion q), fun ⟨a, _⟩ => by omega⟩)
theorem num_range {kinds : Int} {st : List Int} (h : StP kinds st) : 0 ≤ numL kinds st ∧ numL kinds st < kinds ^ st.length := by
  have hk := h.1
  refine numL_bound (by omega) st (fun x hx => ?_)
  obtain ⟨i, hi, e⟩ := List.getElem_of_mem hx
  have := h.2.2.2.2 i hi
  rw [rd_at _ _ hi, e] at this
  exact this
theorem num_inj {kinds : Int} {x y : List Int} (hx : StP kinds x) (hy : StP kinds y) (hl : x.length = y.length) (h : numL kinds x = numL kinds y) : x = y := by
  have hk := hx.1
  have mem : ∀ {z : List Int}, StP kinds z → ∀ v ∈ z, 0 ≤ v ∧ v < kinds := by
    intro z hz v hv
    obtain ⟨i, hi, e⟩ := List.getElem_of_mem hv
    have := hz.2.2.2.2 i hi
    rw [rd_at _ _ hi, e] at this
    exact this
  rw [← digN_numL (by omega) x (mem hx), ← digN_numL (by omega) y (mem hy), hl, h]
theorem mod_add_lt {a b n : Nat} (ha : a < n) (hb : b < n) : (a + b) % n = if a + b < n then a + b else a + b - n := by
  by_cases c : a + b < n
  · rw [if_pos c, Nat.mod_eq_of_lt c]
  · rw [if_neg c, Nat.mod_eq_sub_mod (show n ≤ a + b by omega), Nat.mod_eq_of_lt (show a + b - n < n by omega)]
/-- The state comes, after mu steps, to one that it comes to again after la more; before that, no two are alike. -/
def LoopP (net : List Int) (kinds : Int) (st : List Int) (mu la : Nat) : Prop :=
  1 ≤ la ∧ runL net kinds st mu = runL net kinds st (mu + la) ∧ ∀ i j : Nat, i < j → j < mu + la → runL net kinds st i ≠ runL net kinds st j
theorem least_of {P : Nat → Prop} : ∀ n, P n → ∃ m, m ≤ n ∧ P m ∧ ∀ s, s < m → ¬ P s := by
  intro n
  induction n using Nat.strongRecOn with
  | _ n ih =>
    intro h
    by_cases c : ∃ s, s < n ∧ P s
    · obtain ⟨s, hs, hp⟩ := c
      obtain ⟨m, hm, r⟩ := ih s hs hp
      exact ⟨m, by omega, r⟩
    · exact ⟨n, Nat.le_refl _, h, fun s hs hp => c ⟨s, hs, hp⟩⟩
theorem LoopP.ex {net : List Int} {kinds : Int} {st : List Int} (h : AskP net kinds st) : ∃ mu la, LoopP net kinds st mu la ∧ ((mu + la : Nat) : Int) ≤ kinds ^ st.length := by
  have hp := pow_kinds h.2.1.1 h.2.1.2.1 (i := st.length) h.2.1.2.2.2.1
  have hnum : ∀ i, 0 ≤ numL kinds (runL net kinds st i) ∧ numL kinds (runL net kinds st i) < kinds ^ st.length := by
    intro i
    have := num_range (h.run i).2.1
    rw [runL_len] at this
    exact this
  obtain ⟨i, j, hij, hj, e⟩ := pigeon (kinds ^ st.length).toNat (fun i => (numL kinds (runL net kinds st i)).toNat) (fun i _ => by have := hnum i; show (numL kinds (runL net kinds st i)).toNat < _; omega)
  have e' : (numL kinds (runL net kinds st i)).toNat = (numL kinds (runL net kinds st j)).toNat := e
  have heq : runL net kinds st i = runL net kinds st j := num_inj (h.run i).2.1 (h.run j).2.1 (by rw [runL_len, runL_len]) (by have := hnum i; have := hnum j; omega)
  obtain ⟨T, hT, ⟨m, hm, hmT⟩, hmin⟩ := least_of (P := fun T => ∃ m, m < T ∧ runL net kinds st m = runL net kinds st T) j ⟨i, hij, heq⟩
  refine ⟨m, T - m, ⟨by omega, by rw [show m + (T - m) = T by omega]; exact hmT, fun a b hab hb q => hmin b (by omega) ⟨a, hab, q⟩⟩, by omega⟩
theorem LoopP.per {net : List Int} {kinds : Int} {st : List Int} {mu la : Nat} (h : LoopP net kinds st mu la) : ∀ k i : Nat, mu ≤ i → runL net kinds st (i + k * la) = runL net kinds st i := by
  have one : ∀ i, mu ≤ i → runL net kinds st (i + la) = runL net kinds st i := by
    intro i hi
    have a := runL_add (net := net) (kinds := kinds) (st := st) mu (i - mu)
    have b := runL_add (net := net) (kinds := kinds) (st := st) (mu + la) (i - mu)
    rw [← h.2.1, a, show mu + la + (i - mu) = i + la by omega, show mu + (i - mu) = i by omega] at b
    exact b.symm
  intro k
  induction k with
  | zero => intro i _; rw [Nat.zero_mul, Nat.add_zero]
  | succ k ih =>
    intro i hi
    rw [Nat.succ_mul, ← Nat.add_assoc, one _ (by omega), ih i hi]
theorem LoopP.red {net : List Int} {kinds : Int} {st : List Int} {mu la : Nat} (h : LoopP net kinds st mu la) {i : Nat} (hi : mu ≤ i) : runL net kinds st i = runL net kinds st (mu + (i - mu) % la) := by
  have e := h.per ((i - mu) / la) (mu + (i - mu) % la) (by omega)
  rw [← e]
  have := Nat.mod_add_div (i - mu) la
  rw [Nat.mul_comm] at this
  rw [show mu + (i - mu) % la + (i - mu) / la * la = i by omega]
theorem LoopP.same {net : List Int} {kinds : Int} {st : List Int} {mu la : Nat} (h : LoopP net kinds st mu la) {i j : Nat} (hij : i < j) (e : runL net kinds st i = runL net kinds st j) : mu ≤ i ∧ (i - mu) % la = (j - mu) % la := by
  have hla := h.1
  have hm : ∀ x, x % la < la := fun x => Nat.mod_lt _ (by omega)
  by_cases c : mu ≤ i
  · refine ⟨c, ?_⟩
    have a := h.red c
    have b := h.red (i := j) (by omega)
    rw [a, b] at e
    have h1 := hm (i - mu)
    have h2 := hm (j - mu)
    by_cases q : (i - mu) % la < (j - mu) % la
    · exact absurd e (h.2.2 _ _ (by omega) (by omega))
    · by_cases q2 : (j - mu) % la < (i - mu) % la
      · exact absurd e.symm (h.2.2 _ _ (by omega) (by omega))
      · omega
  · exfalso
    by_cases d : j < mu + la
    · exact h.2.2 i j hij d e
    · have b := h.red (i := j) (by omega)
      have h2 := hm (j - mu)
      rw [b] at e
      exact h.2.2 i _ (by omega) (by omega) e
theorem LoopP.det {net : List Int} {kinds : Int} {st : List Int} {mu la mu' la' : Nat} (h : LoopP net kinds st mu la) (h' : LoopP net kinds st mu' la') : mu = mu' ∧ la = la' := by
  have key : ∀ {a b c d : Nat}, LoopP net kinds st a b → LoopP net kinds st c d → c ≤ a := by
    intro a b c d h1 h2
    have := h2.same (i := a) (j := a + b) (by have := h1.1; omega) h1.2.1
    exact this.1
  have e1 : mu = mu' := Nat.le_antisymm (key h' h) (key h h')
  subst e1
  refine ⟨rfl, ?_⟩
  have h1 := h.1
  have h2 := h'.1
  by_cases c : la < la'
  · exact absurd h.2.1 (h'.2.2 _ _ (by omega) (by omega))
  · by_cases d : la' < la
    · exact absurd h'.2.1 (h.2.2 _ _ (by omega) (by omega))
    · omega
theorem LoopP.step {net : List Int} {kinds : Int} {st : List Int} {mu la : Nat} (h : LoopP net kinds st mu la) : LoopP net kinds (stepL net kinds st) (mu - 1) la := by
  have hla := h.1
  refine ⟨hla, ?_, fun i j hij hj e => ?_⟩
  · rw [runL_step, runL_step]
    by_cases c : mu = 0
    · rw [c]
      have := h.per 1 1 (by omega)
      rw [show 0 - 1 + 1 = 1 by omega, show 0 - 1 + la + 1 = 1 + 1 * la by omega]
      exact this.symm
    · rw [show mu - 1 + 1 = mu by omega, show mu - 1 + la + 1 = mu + la by omega]
      exact h.2.1
  · rw [runL_step, runL_step] at e
    obtain ⟨h1, h2⟩ := h.same (i := i + 1) (j := j + 1) (by omega) e
    have e1 : j + 1 - mu = (i + 1 - mu) + (j - i) := by omega
    rw [e1, Nat.add_mod] at h2
    have hlt : (j - i) < la := by omega
    rw [Nat.mod_eq_of_lt hlt] at h2
    have hm := Nat.mod_lt (i + 1 - mu) (show 0 < la by omega)
    rw [mod_add_lt hm hlt] at h2
    split at h2 <;> omega
/-- All at rest. -/
def zeroL (n : Nat) : List Int := List.replicate n 0
theorem num_zero {kinds : Int} {st : List Int} (h : StP kinds st) : numL kinds st = 0 ↔ st = zeroL st.length := by
  have hk := h.1
  constructor
  · intro e
    have hz : StP kinds (zeroL st.length) := ⟨h.1, h.2.1, by simp [zeroL]; exact h.2.2.1, by simp [zeroL]; exact h.2.2.2.1, fun i hi => by simp only [zeroL, List.length_replicate] at hi; rw [zeroL, rd_rep _ _ _ hi]; omega⟩
    exact num_inj h hz (by simp [zeroL]) (by rw [e]; exact (numL_zero _ _).symm)
  · intro e; rw [e]; exact numL_zero _ _
theorem zero_step (net : List Int) (kinds : Int) (n : Nat) : stepL net kinds (zeroL n) = zeroL n := by
  refine rd_ext (by rw [stepL_len]) (fun i hi => ?_)
  rw [stepL_len] at hi
  have hi2 : i < n := by simpa [zeroL] using hi
  rw [stepL_at hi]
  have e : ∀ j : Nat, rd (zeroL n) (j : Int) = 0 := by
    intro j
    by_cases c : j < n
    · rw [zeroL, rd_rep _ _ _ c]
    · rw [rd_far _ _ (by simp [zeroL]; omega)]
  rw [stepAt_rest (by rw [e]; omega) (fun ⟨j, _, _, q⟩ => by rw [e] at q; omega), e]
/-- It comes to rest. -/
def RestP (net : List Int) (kinds : Int) (st : List Int) (mu la : Nat) : Prop := la = 1 ∧ runL net kinds st mu = zeroL st.length
theorem LoopP.rest {net : List Int} {kinds : Int} {st : List Int} {mu la : Nat} (h : LoopP net kinds st mu la) {m : Nat} (e : runL net kinds st m = zeroL st.length) : RestP net kinds st mu la ∧ mu ≤ m := by
  have h1 : runL net kinds st (m + 1) = runL net kinds st m := by
    show stepL net kinds (runL net kinds st m) = runL net kinds st m
    rw [e, zero_step]
  obtain ⟨hm, hd⟩ := h.same (i := m) (j := m + 1) (by omega) h1.symm
  have hla := h.1
  have la1 : la = 1 := by
    rw [show m + 1 - mu = (m - mu) + 1 by omega] at hd
    by_cases c : la = 1
    · exact c
    · exfalso
      rw [Nat.add_mod, Nat.mod_eq_of_lt (show 1 < la by omega)] at hd
      have hml := Nat.mod_lt (m - mu) (show 0 < la by omega)
      rw [mod_add_lt hml (show 1 < la by omega)] at hd
      split at hd <;> omega
  refine ⟨⟨la1, ?_⟩, hm⟩
  have := h.red hm
  rw [la1, Nat.mod_one, Nat.add_zero, e] at this
  exact this.symm
theorem LoopP.still {net : List Int} {kinds : Int} {st : List Int} {mu la : Nat} (h : LoopP net kinds st mu la) (ha : AskP net kinds st) (hl : la = 1) : RestP net kinds st mu la := by
  refine ⟨hl, rd_ext (by rw [runL_len]; simp [zeroL]) (fun i hi => ?_)⟩
  have hr := (ha.run mu).2.1
  have hv := hr.2.2.2.2 i hi
  rw [runL_len] at hi
  rw [zeroL, rd_rep _ _ _ hi]
  have e := h.2.1
  rw [hl] at e
  have e2 : rd (runL net kinds st mu) (i : Int) = stepAt net kinds (runL net kinds st mu) i := by
    conv => lhs; rw [e]
    exact stepL_at (by rw [runL_len]; exact hi)
  by_cases c : 0 < rd (runL net kinds st mu) (i : Int)
  · rw [stepAt_up c] at e2
    by_cases q : rd (runL net kinds st mu) (i : Int) + 1 < kinds
    · rw [Int.emod_eq_of_lt (by omega) q] at e2; omega
    · rw [show rd (runL net kinds st mu) (i : Int) + 1 = kinds by omega, Int.emod_self] at e2; omega
  · omega
theorem LoopP.first {net : List Int} {kinds : Int} {st : List Int} {mu la m : Nat} (h : LoopP net kinds st mu la) (hr : RestP net kinds st mu la) (hm : m < mu) : runL net kinds st m ≠ zeroL st.length :=
  fun e => h.2.2 m mu hm (by have := h.1; omega) (by rw [e, hr.2])
theorem same_l (x y : List Int) (hl : x.length = y.length) (hx : x.length ≤ 35184372088832) : ∀ (d i : Nat), i + d = x.length → (∀ j : Nat, j < i → rd x (j : Int) = rd y (j : Int)) → Ev (fun k => spec_l3Same.l0 k x y (i : Int)) (decide (x = y)) := by
  intro d
  induction d with
  | zero =>
    intro i hd h
    refine Ev.step (fun k => spec_l3Same.l0.eq_2 ..) ?_
    refine Ev.neg (by omega) (Ev.one (congrArg some ?_))
    exact (decide_eq_true (rd_ext hl (fun j hj => h j (by omega)))).symm
  | succ d ih =>
    intro i hd h
    refine Ev.step (fun k => spec_l3Same.l0.eq_2 ..) ?_
    rw [w64i i (by omega)]
    refine Ev.pos (by omega) (Ev.pos (by omega) (Ev.pos (by omega) ?_))
    by_cases e : rd x (i : Int) = rd y (i : Int)
    · refine Ev.pos e (ih (i + 1) (by omega) (fun j hj => ?_))
      by_cases c : j = i
      · rw [c]; exact e
      · exact h j (by omega)
    · exact Ev.neg e (Ev.one (congrArg some (decide_eq_false (fun q => e (by rw [q]))).symm))
theorem same_ev {x y : List Int} (hl : x.length = y.length) (hx : x.length ≤ 35184372088832) : Ev (fun k => spec_l3Same.f k x y) (decide (x = y)) := by
  unfold spec_l3Same.f
  exact same_l x y hl hx x.length 0 (by omega) (fun j hj => by omega)
theorem sLoop_l2 {net : List Int} {kinds : Int} {st : List Int} (h : AskP net kinds st) {mu la : Nat} (hP : LoopP net kinds st mu la) (hla : la ≤ 100000) : ∀ (d i : Nat), i + d = la → 1 ≤ i → Ev (fun k => spec_LoopOf.l2 k net kinds (runL net kinds st mu) (runL net kinds st (mu + i)) (mu : Int) (i : Int)) ((mu : Int), (la : Int)) := by
  have h6 := h.2.1.2.2.2.1
  have hs : ∀ i, Ev (fun k => spec_l3Same.f k (runL net kinds st mu) (runL net kinds st (mu + i))) (decide (runL net kinds st mu = runL net kinds st (mu + i))) := fun i => same_ev (by rw [runL_len, runL_len]) (by rw [runL_len]; omega)
  intro d
  induction d with
  | zero =>
    intro i hd hi
    refine Ev.step (fun k => spec_LoopOf.l2.eq_2 ..) ?_
    exact Ev.bind (hs i) (Ev.pos (decide_eq_true (by rw [show i = la by omega]; exact hP.2.1)) (Ev.one (by rw [show i = la by omega])))
  | succ d ih =>
    intro i hd hi
    refine Ev.step (fun k => spec_LoopOf.l2.eq_2 ..) ?_
    refine Ev.bind (hs i) (Ev.neg (by rw [decide_eq_false (hP.2.2 mu (mu + i) (by omega) (by omega))]; decide) (Ev.bind (sStep_ev (h.run (mu + i))) ?_))
    rw [w64i i (by omega)]
    exact ih (i + 1) (by omega) (by omega)
theorem sLoop_l1 {net : List Int} {kinds : Int} {st : List Int} (h : AskP net kinds st) {mu la : Nat} (hP : LoopP net kinds st mu la) (hla : mu + la ≤ 100000) {nu : Nat} (hnu : 1 ≤ nu) (hper : runL net kinds st mu = runL net kinds st (nu + mu)) : ∀ (d i : Nat), i + d = mu →
    Ev (fun k => spec_LoopOf.l1 k net kinds (runL net kinds st i) (runL net kinds st (nu + i)) (i : Int)) ((mu : Int), (la : Int)) := by
  have h6 := h.2.1.2.2.2.1
  have hs : ∀ i, Ev (fun k => spec_l3Same.f k (runL net kinds st i) (runL net kinds st (nu + i))) (decide (runL net kinds st i = runL net kinds st (nu + i))) := fun i => same_ev (by rw [runL_len, runL_len]) (by rw [runL_len]; omega)
  intro d
  induction d with
  | zero =>
    intro i hd
    obtain rfl : i = mu := by omega
    refine Ev.step (fun k => spec_LoopOf.l1.eq_2 ..) ?_
    exact Ev.bind (hs i) (Ev.pos (decide_eq_true hper) (Ev.bind (sStep_ev (h.run i)) (sLoop_l2 h hP (by omega) (la - 1) 1 (by have := hP.1; omega) (by omega))))
  | succ d ih =>
    intro i hd
    refine Ev.step (fun k => spec_LoopOf.l1.eq_2 ..) ?_
    refine Ev.bind (hs i) (Ev.neg (fun q => ?_) (Ev.bind (sStep_ev (h.run i)) (Ev.bind (sStep_ev (h.run (nu + i))) ?_)))
    · have := (hP.same (i := i) (j := nu + i) (by omega) (of_decide_eq_true q)).1
      omega
    · rw [w64i i (by omega)]
      exact ih (i + 1) (by omega)
theorem sLoop_l0 {net : List Int} {kinds : Int} {st : List Int} (h : AskP net kinds st) {mu la : Nat} (hP : LoopP net kinds st mu la) (hla : mu + la ≤ 100000) : ∀ (d m : Nat), m + d = la * (mu / la + 1) → 1 ≤ m →
    Ev (fun k => spec_LoopOf.l0 k net kinds st (runL net kinds st m) (runL net kinds st (m + m))) ((mu : Int), (la : Int)) := by
  have h6 := h.2.1.2.2.2.1
  have hla1 := hP.1
  have hs : ∀ i, Ev (fun k => spec_l3Same.f k (runL net kinds st i) (runL net kinds st (i + i))) (decide (runL net kinds st i = runL net kinds st (i + i))) := fun i => same_ev (by rw [runL_len, runL_len]) (by rw [runL_len]; omega)
  have meet : ∀ m : Nat, 1 ≤ m → runL net kinds st m = runL net kinds st (m + m) → Ev (fun k => spec_LoopOf.l0 k net kinds st (runL net kinds st m) (runL net kinds st (m + m))) ((mu : Int), (la : Int)) := by
    intro m hm e
    obtain ⟨h1, h2⟩ := hP.same (i := m) (j := m + m) (by omega) e
    have hdvd : (m + m - mu) = (m - mu) + m := by omega
    have hm0 : m % la = 0 := by
      rw [hdvd, Nat.add_mod] at h2
      have a := Nat.mod_lt (m - mu) (show 0 < la by omega)
      have b := Nat.mod_lt m (show 0 < la by omega)
      rw [mod_add_lt a b] at h2
      split at h2 <;> omega
    have hq := Nat.mod_add_div m la
    rw [hm0, Nat.zero_add, Nat.mul_comm] at hq
    have hper : runL net kinds st mu = runL net kinds st ((m + m) + mu) := by
      have := hP.per (m / la + m / la) mu (Nat.le_refl _)
      rw [Nat.add_mul, hq, Nat.add_comm] at this
      exact this.symm
    refine Ev.step (fun k => spec_LoopOf.l0.eq_2 ..) ?_
    refine Ev.bind (hs m) (Ev.pos (decide_eq_true e) (Ev.bind (Ev.now _) (Ev.pos (by simp; omega) ?_)))
    exact sLoop_l1 h hP hla (nu := m + m) (by omega) hper mu 0 (by omega)
  intro d
  induction d with
  | zero =>
    intro m hd hm
    refine meet m hm ?_
    have hd1 := Nat.div_add_mod mu la
    have hmod := Nat.mod_lt mu (show 0 < la by omega)
    have hge : mu ≤ m := by rw [show m = la * (mu / la + 1) by omega, Nat.mul_succ]; omega
    have := hP.per (mu / la + 1) m hge
    rw [Nat.mul_comm, show la * (mu / la + 1) = m by omega] at this
    exact this.symm
  | succ d ih =>
    intro m hd hm
    by_cases e : runL net kinds st m = runL net kinds st (m + m)
    · exact meet m hm e
    · refine Ev.step (fun k => spec_LoopOf.l0.eq_2 ..) ?_
      refine Ev.bind (hs m) (Ev.neg (by rw [decide_eq_false e]; decide) (Ev.bind (sStep_ev (h.run m)) (Ev.bind (sStep_ev (h.run (m + m))) (Ev.bind (sStep_ev (h.run (m + m + 1))) ?_))))
      have := ih (m + 1) (by omega) (by omega)
      rw [show m + 1 + (m + 1) = m + m + 1 + 1 by omega] at this
      exact this
theorem sLoop_yes {net : List Int} {kinds : Int} {st : List Int} (h : AskP net kinds st) {mu la : Nat} (hP : LoopP net kinds st mu la) (hla : mu + la ≤ 100000) : Ev (fun k => spec_LoopOf.f k net kinds st) ((mu : Int), (la : Int)) := by
  have hla1 := hP.1
  have hge : 1 ≤ la * (mu / la + 1) := by rw [Nat.mul_succ]; omega
  unfold spec_LoopOf.f
  exact Ev.bind (sAsk_yes h) (Ev.pos rfl (Ev.bind (sStep_ev h) (Ev.bind (sStep_ev h.step) (sLoop_l0 h hP hla (la * (mu / la + 1) - 1) 1 (by omega) (by omega)))))
theorem sLoop_no {net : List Int} {kinds : Int} {st : List Int} (hl : st.length ≤ 35184372088832) (h : ¬ AskP net kinds st) : Ev (fun k => spec_LoopOf.f k net kinds st) ((-1 : Int), (-1 : Int)) := by
  unfold spec_LoopOf.f
  exact Ev.bind (sAsk_no hl h) (Ev.neg (by decide) (Ev.one rfl))
/-- What the map holds after so many rounds. -/
noncomputable def seenP (net : List Int) (kinds : Int) (st : List Int) : Nat → List (Int × Int)
  | 0 => []
  | m + 1 => (numL kinds (runL net kinds st m), (m : Int)) :: seenP net kinds st m
theorem seenP_len (net : List Int) (kinds : Int) (st : List Int) : ∀ m, (seenP net kinds st m).length = m := by
  intro m
  induction m with
  | zero => rfl
  | succ m ih => simp [seenP, ih]
theorem seenP_none {net : List Int} {kinds : Int} {st : List Int} {t : Int} : ∀ m, (∀ i, i < m → numL kinds (runL net kinds st i) ≠ t) → (seenP net kinds st m).lookup t = none := by
  intro m
  induction m with
  | zero => intro _; rfl
  | succ m ih =>
    intro h
    have e : (t == numL kinds (runL net kinds st m)) = false := beq_eq_false_iff_ne.2 (fun q => h m (by omega) q.symm)
    simp only [seenP, List.lookup, e]
    exact ih (fun i hi => h i (by omega))
theorem seenP_some {net : List Int} {kinds : Int} {st : List Int} {t : Int} {i : Nat} : ∀ m, i < m → numL kinds (runL net kinds st i) = t → (∀ j, j < m → numL kinds (runL net kinds st j) = t → j = i) → (seenP net kinds st m).lookup t = some (i : Int) := by
  intro m
  induction m with
  | zero => intro hi; omega
  | succ m ih =>
    intro hi e hu
    by_cases c : numL kinds (runL net kinds st m) = t
    · have := hu m (by omega) c
      have e2 : (t == numL kinds (runL net kinds st m)) = true := beq_iff_eq.2 c.symm
      subst this
      simp only [seenP, List.lookup, e2]
    · have e2 : (t == numL kinds (runL net kinds st m)) = false := beq_eq_false_iff_ne.2 (fun q => c q.symm)
      simp only [seenP, List.lookup, e2]
      refine ih ?_ e (fun j hj q => hu j (by omega) q)
      by_cases z : i = m
      · rw [z] at e; exact absurd e c
      · omega
theorem iLoop_l {net : List Int} {kinds : Int} {st : List Int} (h : AskP net kinds st) {mu la : Nat} (hP : LoopP net kinds st mu la) (hT : mu + la ≤ 100000) : ∀ (d m : Nat), m + d = mu + la → Ev (fun k => impl_LoopOf.l0 k net kinds (runL net kinds st m) (seenP net kinds st m) (m : Int)) ((mu : Int), (la : Int)) := by
  have h6 := h.2.1.2.2.2.1
  have hp := pow_kinds h.2.1.1 h.2.1.2.1 (i := st.length) h6
  have hla := hP.1
  have hnum : ∀ i, 0 ≤ numL kinds (runL net kinds st i) ∧ numL kinds (runL net kinds st i) < kinds ^ st.length := by
    intro i
    have := num_range (h.run i).2.1
    rw [runL_len] at this
    exact this
  have inj : ∀ {i j : Nat}, numL kinds (runL net kinds st i) = numL kinds (runL net kinds st j) → runL net kinds st i = runL net kinds st j := fun {i j} e => num_inj (h.run i).2.1 (h.run j).2.1 (by rw [runL_len, runL_len]) e
  intro d
  induction d with
  | zero =>
    intro m hd
    have hn := hnum m
    have e : (seenP net kinds st m).lookup (numL kinds (runL net kinds st m)) = some (mu : Int) := by
      refine seenP_some m (by omega) (by rw [show m = mu + la by omega, ← hP.2.1]) (fun j hj q => ?_)
      have q2 := inj q
      by_cases c : j = mu
      · exact c
      · exfalso
        rw [show m = mu + la by omega, ← hP.2.1] at q2
        by_cases z : j < mu
        · exact hP.2.2 j mu z (by omega) q2
        · exact hP.2.2 mu j (by omega) (by omega) q2.symm
    refine Ev.step (fun k => impl_LoopOf.l0.eq_2 ..) ?_
    refine Ev.bind (iNum_yes (h.run m).2.1) (Ev.pos ⟨hn.1, by omega, by rw [seenP_len]; omega, by omega, by omega⟩ ?_)
    rw [e]
    refine Ev.pos rfl (Ev.one (congrArg some ?_))
    show ((mu : Int), wrap64 ((m : Int) - (mu : Int))) = _
    rw [w64 (by omega) (by omega)]
    congr 1
    omega
  | succ d ih =>
    intro m hd
    have hn := hnum m
    have e : (seenP net kinds st m).lookup (numL kinds (runL net kinds st m)) = none := seenP_none m (fun i hi q => hP.2.2 i m hi (by omega) (inj q))
    refine Ev.step (fun k => impl_LoopOf.l0.eq_2 ..) ?_
    refine Ev.bind (iNum_yes (h.run m).2.1) (Ev.pos ⟨hn.1, by omega, by rw [seenP_len]; omega, by omega, by omega⟩ ?_)
    rw [e, w64i m (by omega)]
    exact Ev.neg (by decide) (Ev.bind (iNeed_ev (h.run m)) (ih (m + 1) (by omega)))
theorem iLoop_yes {net : List Int} {kinds : Int} {st : List Int} (h : AskP net kinds st) {mu la : Nat} (hP : LoopP net kinds st mu la) (hT : mu + la ≤ 100000) : Ev (fun k => impl_LoopOf.f k net kinds st) ((mu : Int), (la : Int)) := by
  unfold impl_LoopOf.f
  exact Ev.bind (iAsk_yes h) (Ev.pos rfl (iLoop_l h hP hT (mu + la) 0 (by omega)))
theorem iLoop_no {net : List Int} {kinds : Int} {st : List Int} (hl : st.length ≤ 35184372088832) (h : ¬ AskP net kinds st) : Ev (fun k => impl_LoopOf.f k net kinds st) ((-1 : Int), (-1 : Int)) := by
  unfold impl_LoopOf.f
  exact Ev.bind (iAsk_no hl h) (Ev.neg (by decide) (Ev.one rfl))
theorem loop_all {net : List Int} {kinds : Int} {st : List Int} (hl : st.length ≤ 35184372088832) : ∃ a b : Int, Ev (fun k => spec_LoopOf.f k net kinds st) (a, b) ∧ Ev (fun k => impl_LoopOf.f k net kinds st) (a, b) := by
  by_cases h : AskP net kinds st
  · obtain ⟨mu, la, hP, hle⟩ := LoopP.ex h
    have hp := pow_kinds h.2.1.1 h.2.1.2.1 (i := st.length) h.2.1.2.2.2.1
    exact ⟨_, _, sLoop_yes h hP (by omega), iLoop_yes h hP (by omega)⟩
  · exact ⟨-1, -1, sLoop_no hl h, iLoop_no hl h⟩
end Go.Proofs.Ytjofekchopgfbac.CFnExactLoopOf
