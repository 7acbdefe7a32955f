/- What each function that the law FnTiredRests calls comes to. -/
import Derived.Test.YtjofekchopgfbadPFnTiredRestsx7
import Derived.Test.YtjofekchopgfbadMath
namespace Go.Proofs.Ytjofekchopgfbad.CFnTiredRests
open Go Go.RowKit Go.Proofs.Ytjofekchopgfbad.PFnTiredRests Go.Proofs.YtjofekchopgfbadW.PrintWords Go.Proofs.YtjofekchopgfbadW.PrintLast Go.Proofs.Ytjofekchopgfbad.Pl

theorem l1In_ev (a b c : Int) : Ev (fun _ => spec_l1In.f a b c) (decide (b ≤ a ∧ a ≤ c)) := by
  refine Ev.one ?_
  unfold spec_l1In.f
  by_cases h : a ≥ b
  · rw [if_pos h]; simp [show b ≤ a from h]
  · rw [if_neg h]; simp [show ¬ b ≤ a from h]
theorem iNetOk_l1 (net : List Int) (hn : net.length ≤ 6) (i : Nat) (hi : i < net.length) (c : Bool) (hc : Ev (fun k => impl_NetOk.l0 k net net (net.length : Int) ((i + 1 : Nat) : Int)) c) :
    ∀ d j : Nat, j + d = net.length → ∃ b, Ev (fun k => impl_NetOk.l1 k net (i : Int) (rd net (i : Int)) net (net.length : Int) (i : Int) (net.length : Int) (j : Int)) b ∧
      (b = true ↔ (∀ j' : Nat, j ≤ j' → j' < net.length → rd net (i : Int) / 2 ^ j' % 2 = rd net (j' : Int) / 2 ^ i % 2) ∧ c = true) := by
  intro d
  induction d with
  | zero =>
    intro j hd
    refine ⟨c, ?_, ?_⟩
    · refine Ev.step (fun k => impl_NetOk.l1.eq_2 ..) ?_
      refine Ev.neg (by omega) ?_
      rw [w64i i (by omega)]; exact hc
    · constructor
      · intro h; exact ⟨fun j' h1 h2 => by omega, h⟩
      · exact fun h => h.2
  | succ d ih =>
    intro j hd
    obtain ⟨b, hb, hb2⟩ := ih (j + 1) (by omega)
    by_cases e : rd net (i : Int) / 2 ^ j % 2 = rd net (j : Int) / 2 ^ i % 2
    · refine ⟨b, ?_, hb2.trans ⟨fun h => ⟨fun j' h1 h2 => ?_, h.2⟩, fun h => ⟨fun j' h1 h2 => h.1 j' (by omega) h2, h.2⟩⟩⟩
      · refine Ev.step (fun k => impl_NetOk.l1.eq_2 ..) ?_
        rw [itest _ j (by omega), itest _ i (by omega)]
        refine Ev.pos (by omega) (Ev.pos (by omega) (Ev.pos (by omega) (Ev.pos (by omega) (Ev.pos e ?_))))
        rw [w64i j (by omega)]; exact hb
      · by_cases q : j' = j
        · rw [q]; exact e
        · exact h.1 j' (by omega) h2
    · refine ⟨false, ?_, ⟨(fun h => Bool.noConfusion h), fun h => absurd (h.1 j (by omega) (by omega)) e⟩⟩
      refine Ev.step (fun k => impl_NetOk.l1.eq_2 ..) ?_
      rw [itest _ j (by omega), itest _ i (by omega)]
      exact Ev.pos (by omega) (Ev.pos (by omega) (Ev.pos (by omega) (Ev.pos (by omega) (Ev.neg e (Ev.one rfl)))))
theorem iNetOk_l0 (net : List Int) (hn : net.length ≤ 6) : ∀ d i : Nat, i + d = net.length → ∃ b, Ev (fun k => impl_NetOk.l0 k net net (net.length : Int) (i : Int)) b ∧ (b = true ↔ ∀ i' : Nat, i ≤ i' → i' < net.length → RowP net i') := by
  intro d
  induction d with
  | zero =>
    intro i hd
    refine ⟨true, ?_, ⟨fun _ i' h1 h2 => by omega, fun _ => rfl⟩⟩
    refine Ev.step (fun k => impl_NetOk.l0.eq_2 ..) ?_
    exact Ev.neg (by omega) (Ev.one rfl)
  | succ d ih =>
    intro i hd
    obtain ⟨c, hc, hc2⟩ := ih (i + 1) (by omega)
    obtain ⟨b, hb, hb2⟩ := iNetOk_l1 net hn i (by omega) c hc net.length 0 (by omega)
    have hbad : ∀ p : Bool, p = true → Ev (fun k => impl_NetOk.j2 k net (i : Int) (rd net (i : Int)) net (net.length : Int) (i : Int) p) false := by
      intro p hp
      refine Ev.step (fun k => impl_NetOk.j2.eq_2 ..) ?_
      exact Ev.pos hp (Ev.one rfl)
    have hgood : ∀ p : Bool, p = false → Ev (fun k => impl_NetOk.j2 k net (i : Int) (rd net (i : Int)) net (net.length : Int) (i : Int) p) b := by
      intro p hp
      refine Ev.step (fun k => impl_NetOk.j2.eq_2 ..) ?_
      exact Ev.neg (by simp [hp]) hb
    have hpow : shl .i64 1 (net.length : Int) = ((2 ^ net.length : Nat) : Int) := shl_one _ (by omega)
    by_cases h0 : rd net (i : Int) < 0
    · refine ⟨false, ?_, ⟨(fun h => Bool.noConfusion h), fun h => absurd (h i (by omega) (by omega)).1.1 (by omega)⟩⟩
      refine Ev.step (fun k => impl_NetOk.l0.eq_2 ..) ?_
      exact Ev.pos (by omega) (Ev.pos (by omega) (Ev.pos (by omega) (Ev.pos h0 (hbad true rfl))))
    · by_cases h1 : rd net (i : Int) ≥ ((2 ^ net.length : Nat) : Int)
      · refine ⟨false, ?_, ⟨(fun h => Bool.noConfusion h), fun h => absurd (h i (by omega) (by omega)).1.2 (by push_cast at h1; omega)⟩⟩
        refine Ev.step (fun k => impl_NetOk.l0.eq_2 ..) ?_
        rw [hpow]
        exact Ev.pos (by omega) (Ev.pos (by omega) (Ev.pos (by omega) (Ev.neg h0 (Ev.pos h1 (hbad true rfl)))))
      · by_cases h2 : rd net (i : Int) / 2 ^ i % 2 = 1
        · refine ⟨false, ?_, ⟨(fun h => Bool.noConfusion h), fun h => absurd (h i (by omega) (by omega)).2.1 (by omega)⟩⟩
          refine Ev.step (fun k => impl_NetOk.l0.eq_2 ..) ?_
          rw [hpow, itest _ i (by omega)]
          exact Ev.pos (by omega) (Ev.pos (by omega) (Ev.pos (by omega) (Ev.neg h0 (Ev.neg h1 (hbad _ (by rw [h2]; rfl))))))
        · refine ⟨b, ?_, ?_⟩
          · refine Ev.step (fun k => impl_NetOk.l0.eq_2 ..) ?_
            rw [hpow, itest _ i (by omega)]
            exact Ev.pos (by omega) (Ev.pos (by omega) (Ev.pos (by omega) (Ev.neg h0 (Ev.neg h1 (hgood _ (by simpa using h2))))))
          · rw [hb2, hc2]
            constructor
            · rintro ⟨g1, g2⟩ i' q1 q2
              by_cases q : i' = i
              · subst q
                exact ⟨⟨by omega, by push_cast at h1; omega⟩, by omega, fun j hj => g1 j (by omega) hj⟩
              · exact g2 i' (by omega) q2
            · intro g
              exact ⟨fun j' _ q2 => (g i (by omega) (by omega)).2.2 j' q2, fun i' q1 q2 => g i' (by omega) q2⟩
theorem iNetOk_any (net : List Int) : ∃ b, Ev (fun k => impl_NetOk.f k net) b ∧ (b = true ↔ NetP net) := by
  have hj : ∀ p : Bool, p = true → Ev (fun k => impl_NetOk.j0 k net p) false := by
    intro p hp
    refine Ev.step (fun k => impl_NetOk.j0.eq_2 ..) ?_
    exact Ev.pos hp (Ev.one rfl)
  by_cases h1 : net.length < 1
  · refine ⟨false, ?_, ⟨(fun h => Bool.noConfusion h), fun h => absurd h.1 (by omega)⟩⟩
    unfold impl_NetOk.f
    exact Ev.pos (by omega) (hj true rfl)
  · by_cases h2 : net.length > 6
    · refine ⟨false, ?_, ⟨(fun h => Bool.noConfusion h), fun h => absurd h.2.1 (by omega)⟩⟩
      unfold impl_NetOk.f
      exact Ev.neg (by omega) (hj _ (by simp; omega))
    · obtain ⟨b, hb, hb2⟩ := iNetOk_l0 net (by omega) net.length 0 (by omega)
      refine ⟨b, ?_, hb2.trans ⟨fun h => ⟨by omega, by omega, fun i hi => h i (by omega) hi⟩, fun h i _ hi => h.2.2 i hi⟩⟩
      unfold impl_NetOk.f
      refine Ev.neg (by omega) ?_
      refine Ev.step (fun k => impl_NetOk.j0.eq_2 ..) ?_
      exact Ev.neg (by simp; omega) hb
theorem iNetOk_yes {net : List Int} (h : NetP net) : Ev (fun k => impl_NetOk.f k net) true := by
  obtain ⟨b, hb, hb2⟩ := iNetOk_any net
  exact Ev.cast hb (hb2.2 h)
theorem iNetOk_no {net : List Int} (h : ¬ NetP net) : Ev (fun k => impl_NetOk.f k net) false := by
  obtain ⟨b, hb, hb2⟩ := iNetOk_any net
  exact Ev.cast hb (by cases b with | false => rfl | true => exact absurd (hb2.1 rfl) h)
theorem pow_less {n : Nat} (h6 : n ≤ 6) : wrap64 (shl .i64 1 (n : Int) - 1) = ((2 ^ n : Nat) : Int) - 1 := by
  have : (2 : Nat) ^ n ≤ 2 ^ 6 := Nat.pow_le_pow_right (by omega) h6
  have : (0 : Nat) < 2 ^ n := Nat.two_pow_pos _
  rw [shl_one _ (by omega), w64 (by omega) (by omega)]
theorem inSet_yes {n : Nat} (h6 : n ≤ 6) {set : Int} (hs : InS n set) : Ev (fun _ => spec_l1In.f set 0 (wrap64 (shl .i64 1 (n : Int) - 1))) true := by
  rw [pow_less h6]
  exact Ev.cast (l1In_ev _ _ _) (decide_eq_true ⟨hs.1, by have := hs.2; push_cast; omega⟩)
theorem inSet_no {n : Nat} (h6 : n ≤ 6) {set : Int} (hs : ¬ InS n set) : Ev (fun _ => spec_l1In.f set 0 (wrap64 (shl .i64 1 (n : Int) - 1))) false := by
  rw [pow_less h6]
  exact Ev.cast (l1In_ev _ _ _) (decide_eq_false fun q => hs ⟨q.1, by have := q.2; push_cast at this; omega⟩)
theorem iStOk_l (kinds : Int) (st : List Int) (hl : st.length ≤ 35184372088832) : ∀ d i : Nat, i + d = st.length → (∀ i' : Nat, i' < i → 0 ≤ rd st (i' : Int) ∧ rd st (i' : Int) < kinds) → ∃ b, Ev (fun k => impl_StateOk.l0 k kinds st st (st.length : Int) (i : Int)) b ∧ (b = true ↔ StP kinds st) := by
  intro d
  induction d with
  | zero =>
    intro i hd h
    have hall : ∀ i' : Nat, i' < st.length → 0 ≤ rd st (i' : Int) ∧ rd st (i' : Int) < kinds := fun i' hi' => h i' (by omega)
    by_cases c1 : kinds ≥ 3
    · by_cases c2 : kinds ≤ 5
      · by_cases c3 : (st.length : Int) ≥ 1
        · refine ⟨decide ((st.length : Int) ≤ 6), ?_, ?_⟩
          · refine Ev.step (fun k => impl_StateOk.l0.eq_2 ..) ?_
            exact Ev.neg (by omega) (Ev.pos c1 (Ev.pos c2 (Ev.pos c3 (Ev.one rfl))))
          · rw [decide_eq_true_iff]
            exact ⟨fun q => ⟨c1, c2, by omega, by omega, hall⟩, fun q => by have := q.2.2.2.1; omega⟩
        · refine ⟨false, ?_, ⟨(fun q => Bool.noConfusion q), fun q => by have := q.2.2.1; omega⟩⟩
          refine Ev.step (fun k => impl_StateOk.l0.eq_2 ..) ?_
          exact Ev.neg (by omega) (Ev.pos c1 (Ev.pos c2 (Ev.neg c3 (Ev.one rfl))))
      · refine ⟨false, ?_, ⟨(fun q => Bool.noConfusion q), fun q => by have := q.2.1; omega⟩⟩
        refine Ev.step (fun k => impl_StateOk.l0.eq_2 ..) ?_
        exact Ev.neg (by omega) (Ev.pos c1 (Ev.neg c2 (Ev.one rfl)))
    · refine ⟨false, ?_, ⟨(fun q => Bool.noConfusion q), fun q => by have := q.1; omega⟩⟩
      refine Ev.step (fun k => impl_StateOk.l0.eq_2 ..) ?_
      exact Ev.neg (by omega) (Ev.neg c1 (Ev.one rfl))
  | succ d ih =>
    intro i hd h
    by_cases c1 : rd st (i : Int) < 0
    · refine ⟨false, ?_, ⟨(fun q => Bool.noConfusion q), fun q => by have := (q.2.2.2.2 i (by omega)).1; omega⟩⟩
      refine Ev.step (fun k => impl_StateOk.l0.eq_2 ..) ?_
      exact Ev.pos (by omega) (Ev.pos (by omega) (Ev.pos (by omega) (Ev.pos c1 (Ev.one rfl))))
    · by_cases c2 : rd st (i : Int) ≥ kinds
      · refine ⟨false, ?_, ⟨(fun q => Bool.noConfusion q), fun q => by have := (q.2.2.2.2 i (by omega)).2; omega⟩⟩
        refine Ev.step (fun k => impl_StateOk.l0.eq_2 ..) ?_
        exact Ev.pos (by omega) (Ev.pos (by omega) (Ev.pos (by omega) (Ev.neg c1 (Ev.pos c2 (Ev.one rfl)))))
      · obtain ⟨b, hb, hb2⟩ := ih (i + 1) (by omega) (fun i' hi' => by
          by_cases e : i' = i
          · rw [e]; omega
          · exact h i' (by omega))
        refine ⟨b, ?_, hb2⟩
        refine Ev.step (fun k => impl_StateOk.l0.eq_2 ..) ?_
        rw [w64i i (by omega)]
        exact Ev.pos (by omega) (Ev.pos (by omega) (Ev.pos (by omega) (Ev.neg c1 (Ev.neg c2 hb))))
theorem iStOk_any (kinds : Int) (st : List Int) (hl : st.length ≤ 35184372088832) : ∃ b, Ev (fun k => impl_StateOk.f k kinds st) b ∧ (b = true ↔ StP kinds st) := by
  unfold impl_StateOk.f
  exact iStOk_l kinds st hl st.length 0 (by omega) (fun i' hi' => by omega)
theorem iStOk_yes {kinds : Int} {st : List Int} (h : StP kinds st) : Ev (fun k => impl_StateOk.f k kinds st) true := by
  obtain ⟨b, hb, hb2⟩ := iStOk_any kinds st (by have := h.2.2.2.1; omega)
  exact Ev.cast hb (hb2.2 h)
theorem iStOk_no {kinds : Int} {st : List Int} (hl : st.length ≤ 35184372088832) (h : ¬ StP kinds st) : Ev (fun k => impl_StateOk.f k kinds st) false := by
  obtain ⟨b, hb, hb2⟩ := iStOk_any kinds st hl
  exact Ev.cast hb (by cases b with | false => rfl | true => exact absurd (hb2.1 rfl) h)
theorem pick_ev {b : List Int} (hb : Byt b) {p : Nat} (hp : p ≤ 100000) (n : Int) : ∃ v, Ev (fun k => spec_l20Rd_pick.f k b (p : Int) n) (v, ((p + 1 : Nat) : Int)) ∧ 0 ≤ v ∧ (1 ≤ n → v < n) := by
  have hw1 : wrap64 (((p + 1 : Nat) : Int) - 1) = (p : Int) := by rw [w64 (by omega) (by omega)]; omega
  have hl := hb.1
  by_cases h1 : n < 1
  · refine ⟨0, ?_, by omega, fun _ => by omega⟩
    unfold spec_l20Rd_pick.f
    rw [w64i p (by omega)]
    refine Ev.pos h1 ?_
    refine Ev.step (fun k => spec_l20Rd_pick.j0.eq_2 ..) ?_
    exact Ev.pos rfl (Ev.one rfl)
  · by_cases h0 : b.length = 0
    · refine ⟨0, ?_, by omega, fun _ => by omega⟩
      unfold spec_l20Rd_pick.f
      rw [w64i p (by omega)]
      refine Ev.neg h1 ?_
      refine Ev.step (fun k => spec_l20Rd_pick.j0.eq_2 ..) ?_
      exact Ev.pos (by simp [h0]) (Ev.one rfl)
    · have hz : ¬ (((b.length : Int) == 0) = true) := by rw [beq_iff_eq]; omega
      by_cases hlt : (p : Int) < (b.length : Int)
      · have hr := byt_rd hb (p : Int)
        refine ⟨Int.tmod (rd b (p : Int)) n, ?_, Int.tmod_nonneg _ hr.1, fun h => Int.tmod_lt_of_pos _ (by omega)⟩
        unfold spec_l20Rd_pick.f
        rw [w64i p (by omega)]
        refine Ev.neg h1 ?_
        refine Ev.step (fun k => spec_l20Rd_pick.j0.eq_2 ..) ?_
        rw [hw1]
        refine Ev.neg hz (Ev.pos hlt (Ev.pos (by omega) (Ev.neg (by omega) (Ev.one ?_))))
        rw [w64 (x := rd b (p : Int)) (by omega) (by omega)]
      · have hw2 : wrap64 (wrap64 ((p : Int) * 7) + 3) = (p : Int) * 7 + 3 := by simp (disch := omega) only [w64]
        have t1 : 0 ≤ Int.tmod (p : Int) (b.length : Int) := Int.tmod_nonneg _ (by omega)
        have t2 : Int.tmod (p : Int) (b.length : Int) < (b.length : Int) := Int.tmod_lt_of_pos _ (by omega)
        have t3 : 0 ≤ Int.tmod ((p : Int) * 7 + 3) (b.length : Int) := Int.tmod_nonneg _ (by omega)
        have t4 : Int.tmod ((p : Int) * 7 + 3) (b.length : Int) < (b.length : Int) := Int.tmod_lt_of_pos _ (by omega)
        have d1 : 0 ≤ Int.tdiv (p : Int) (b.length : Int) := Int.tdiv_nonneg (by omega) (by omega)
        have d2 : Int.tdiv (p : Int) (b.length : Int) ≤ (p : Int) := by
          rw [Int.tdiv_eq_ediv_of_nonneg (by omega)]; exact Int.ediv_le_self _ (by omega)
        refine ⟨_, ?_, mix_mod n (byt_rd hb (Int.tmod (p : Int) (b.length : Int))) (byt_rd hb (Int.tmod ((p : Int) * 7 + 3) (b.length : Int))) (p := (p : Int)) ⟨by omega, by omega⟩ (t := Int.tdiv (p : Int) (b.length : Int)) ⟨d1, by omega⟩, fun h => Int.tmod_lt_of_pos _ (by omega)⟩
        unfold spec_l20Rd_pick.f
        rw [w64i p (by omega)]
        refine Ev.neg h1 ?_
        refine Ev.step (fun k => spec_l20Rd_pick.j0.eq_2 ..) ?_
        rw [hw1, hw2]
        exact Ev.neg hz (Ev.neg hlt (Ev.neg (by omega) (Ev.pos t1 (Ev.pos t2 (Ev.pos t3 (Ev.pos t4 (Ev.neg (by omega) (Ev.one rfl))))))))
theorem odd_ev {b : List Int} (hb : Byt b) {p : Nat} (hp : p ≤ 100000) (n : Int) : ∃ (v : Bool) (p' : Nat), Ev (fun k => spec_l20Rd_odd.f k b (p : Int) n) (v, (p' : Int)) ∧ p' ≤ p + 1 := by
  unfold spec_l20Rd_odd.f
  by_cases h : n > 0
  · obtain ⟨v, hv, _⟩ := pick_ev hb hp n
    exact ⟨_, p + 1, Ev.pos h (Ev.bind hv (Ev.now _)), Nat.le_refl _⟩
  · exact ⟨false, p, Ev.neg h (Ev.one rfl), by omega⟩
theorem sPath_some (m : Nat) (h1 : 1 ≤ m) (h6 : m ≤ 6) : ∃ l, Ev (fun k => spec_PathNet.f k (m : Int)) l ∧ l.length = m := by
  have : m = 1 ∨ m = 2 ∨ m = 3 ∨ m = 4 ∨ m = 5 ∨ m = 6 := by omega
  rcases this with rfl | rfl | rfl | rfl | rfl | rfl
  · exact ⟨[0], Ev.of (fun k => spec_PathNet.mono _ k) (k := 40) (by decide +kernel), rfl⟩
  · exact ⟨[2, 1], Ev.of (fun k => spec_PathNet.mono _ k) (k := 40) (by decide +kernel), rfl⟩
  · exact ⟨[2, 5, 2], Ev.of (fun k => spec_PathNet.mono _ k) (k := 40) (by decide +kernel), rfl⟩
  · exact ⟨[2, 5, 10, 4], Ev.of (fun k => spec_PathNet.mono _ k) (k := 40) (by decide +kernel), rfl⟩
  · exact ⟨[2, 5, 10, 20, 8], Ev.of (fun k => spec_PathNet.mono _ k) (k := 40) (by decide +kernel), rfl⟩
  · exact ⟨[2, 5, 10, 20, 40, 16], Ev.of (fun k => spec_PathNet.mono _ k) (k := 40) (by decide +kernel), rfl⟩
theorem sRing_some (m : Nat) (h1 : 3 ≤ m) (h6 : m ≤ 6) : ∃ l, Ev (fun k => spec_RingNet.f k (m : Int)) l ∧ l.length = m := by
  have : m = 3 ∨ m = 4 ∨ m = 5 ∨ m = 6 := by omega
  rcases this with rfl | rfl | rfl | rfl
  · exact ⟨[6, 5, 3], Ev.of (fun k => spec_RingNet.mono _ k) (k := 40) (by decide +kernel), rfl⟩
  · exact ⟨[10, 5, 10, 5], Ev.of (fun k => spec_RingNet.mono _ k) (k := 40) (by decide +kernel), rfl⟩
  · exact ⟨[18, 5, 10, 20, 9], Ev.of (fun k => spec_RingNet.mono _ k) (k := 40) (by decide +kernel), rfl⟩
  · exact ⟨[34, 5, 10, 20, 40, 17], Ev.of (fun k => spec_RingNet.mono _ k) (k := 40) (by decide +kernel), rfl⟩
theorem l20Net_l {b : List Int} (hb : Byt b) (a : Int) (m : Nat) (h1 : 1 ≤ m) (h6 : m ≤ 6) : ∀ (d : Nat) (net : List Int) (p : Nat), net.length = m → p + 2 * d ≤ 99990 →
    ∃ (net' : List Int) (p' : Nat), Ev (fun k => spec_l20Net.l0 k a (m : Int) net (d : Int) b (p : Int)) (net', (p' : Int)) ∧ net'.length ≤ 6 ∧ p' ≤ p + 2 * d + 2 := by
  intro d
  induction d with
  | zero =>
    intro net p hl hp
    obtain ⟨v, q, hv, hq⟩ := odd_ev hb (p := p) (by omega) a
    have hz : ¬ ((0 : Nat) : Int) > 0 := by omega
    cases v with
    | false =>
      refine ⟨net, q, ?_, by omega, by omega⟩
      refine Ev.step (fun k => spec_l20Net.l0.eq_2 ..) ?_
      exact Ev.neg hz (Ev.bind hv (Ev.neg (by simp) (Ev.now _)))
    | true =>
      obtain ⟨u, hu, u0, u3⟩ := pick_ev hb (p := q) (by omega) 3
      by_cases c0 : u = 0
      · refine ⟨[], q + 1, ?_, by simp, by omega⟩
        refine Ev.step (fun k => spec_l20Net.l0.eq_2 ..) ?_
        exact Ev.neg hz (Ev.bind hv (Ev.pos rfl (Ev.bind hu (Ev.pos c0 (Ev.now _)))))
      · by_cases c1 : u = 1
        · refine ⟨net.set (0 : Int).toNat (Go.bits .or .i64 (rd net 0) 1), q + 1, ?_, ?_, by omega⟩
          · refine Ev.step (fun k => spec_l20Net.l0.eq_2 ..) ?_
            exact Ev.neg hz (Ev.bind hv (Ev.pos rfl (Ev.bind hu (Ev.neg c0 (Ev.pos c1 (Ev.pos (by omega) (Ev.now _)))))))
          · simp [hl]; omega
        · by_cases cm : (m : Int) = 1
          · refine ⟨(net.set (0 : Int).toNat (Go.bits .xor .i64 (rd net 0) (shl .i64 1 ((m : Int) - 1)))).set (0 : Int).toNat (-1), q + 1, ?_, ?_, by omega⟩
            · refine Ev.step (fun k => spec_l20Net.l0.eq_2 ..) ?_
              rw [w64 (x := (m : Int) - 1) (by omega) (by omega)]
              exact Ev.neg hz (Ev.bind hv (Ev.pos rfl (Ev.bind hu (Ev.neg c0 (Ev.neg c1 (Ev.pos (by omega) (Ev.pos (by omega) (Ev.bind (Ev.now _) (Ev.pos cm (Ev.now _))))))))))
            · simp [hl]; omega
          · refine ⟨net.set (0 : Int).toNat (Go.bits .xor .i64 (rd net 0) (shl .i64 1 ((m : Int) - 1))), q + 1, ?_, ?_, by omega⟩
            · refine Ev.step (fun k => spec_l20Net.l0.eq_2 ..) ?_
              rw [w64 (x := (m : Int) - 1) (by omega) (by omega)]
              exact Ev.neg hz (Ev.bind hv (Ev.pos rfl (Ev.bind hu (Ev.neg c0 (Ev.neg c1 (Ev.pos (by omega) (Ev.pos (by omega) (Ev.bind (Ev.now _) (Ev.neg cm (Ev.now _))))))))))
            · simp [hl]; omega
  | succ d ih =>
    intro net p hl hp
    obtain ⟨u, hu, u0, u1⟩ := pick_ev hb (p := p) (by omega) (m : Int)
    obtain ⟨v, hv, v0, v1⟩ := pick_ev hb (p := p + 1) (by omega) (m : Int)
    have u1 := u1 (by omega)
    have v1 := v1 (by omega)
    have hpos : ((d + 1 : Nat) : Int) > 0 := by omega
    have hsub : wrap64 (((d + 1 : Nat) : Int) - 1) = (d : Int) := by rw [w64 (by omega) (by omega)]; omega
    by_cases e : u = v
    · obtain ⟨net', p', h', hn, hp'⟩ := ih net (p + 1 + 1) hl (by omega)
      refine ⟨net', p', ?_, hn, by omega⟩
      refine Ev.step (fun k => spec_l20Net.l0.eq_2 ..) ?_
      rw [hsub]
      exact Ev.pos hpos (Ev.bind hu (Ev.bind hv (Ev.pos e h')))
    · obtain ⟨net', p', h', hn, hp'⟩ := ih ((net.set u.toNat (Go.bits .or .i64 (rd net u) (shl .i64 1 v))).set v.toNat (Go.bits .or .i64 (rd (net.set u.toNat (Go.bits .or .i64 (rd net u) (shl .i64 1 v))) v) (shl .i64 1 u))) (p + 1 + 1) (by simpa using hl) (by omega)
      refine ⟨net', p', ?_, hn, by omega⟩
      refine Ev.step (fun k => spec_l20Net.l0.eq_2 ..) ?_
      rw [hsub]
      exact Ev.pos hpos (Ev.bind hu (Ev.bind hv (Ev.neg e (Ev.pos u0 (Ev.pos (by omega) (Ev.pos v0 (Ev.bind (Ev.now _) (Ev.pos (by omega) h'))))))))
theorem l20Net_ev {b : List Int} (hb : Byt b) {p : Nat} (hp : p ≤ 90000) (a : Int) : ∃ (net : List Int) (p' : Nat), Ev (fun k => spec_l20Net.f k b (p : Int) a) (net, (p' : Int)) ∧ net.length ≤ 6 ∧ p' ≤ p + 20 := by
  obtain ⟨u, hu, u0, u6⟩ := pick_ev hb (p := p) (by omega) 6
  have u6 := u6 (by omega)
  obtain ⟨m, hm⟩ : ∃ m : Nat, wrap64 (1 + u) = (m : Int) := ⟨(1 + u).toNat, by rw [w64 (by omega) (by omega)]; omega⟩
  have hm1 : (m : Int) = 1 + u := by rw [← hm, w64 (by omega) (by omega)]
  obtain ⟨pl, hpl, hpl2⟩ := sPath_some m (by omega) (by omega)
  obtain ⟨v, hv, v0, v4⟩ := pick_ev hb (p := p + 1) (by omega) 4
  have key : ∀ net : List Int, net.length = m → ∃ (net' : List Int) (p' : Nat), Ev (fun k => spec_l20Net.j0 k a (m : Int) net b ((p + 1 + 1 : Nat) : Int)) (net', (p' : Int)) ∧ net'.length ≤ 6 ∧ p' ≤ p + 20 := by
    intro net hl
    obtain ⟨w, hw, w0, w6⟩ := pick_ev hb (p := p + 1 + 1) (by omega) 6
    have w6 := w6 (by omega)
    obtain ⟨d, rfl⟩ := Int.eq_ofNat_of_zero_le w0
    obtain ⟨net', p', h', hn, hp'⟩ := l20Net_l hb a m (by omega) (by omega) d net (p + 1 + 1 + 1) hl (by omega)
    refine ⟨net', p', ?_, hn, by omega⟩
    refine Ev.step (fun k => spec_l20Net.j0.eq_2 ..) ?_
    exact Ev.bind hw h'
  unfold spec_l20Net.f
  by_cases c0 : v = 0
  · by_cases c3 : (m : Int) ≥ 3
    · obtain ⟨rl, hrl, hrl2⟩ := sRing_some m (by omega) (by omega)
      obtain ⟨net', p', h', hn, hp'⟩ := key rl hrl2
      exact ⟨net', p', Ev.bind hu (by simp only [hm]; exact Ev.bind hpl (Ev.bind hv (Ev.pos c0 (Ev.pos c3 (Ev.bind hrl h'))))), hn, hp'⟩
    · obtain ⟨net', p', h', hn, hp'⟩ := key pl hpl2
      exact ⟨net', p', Ev.bind hu (by simp only [hm]; exact Ev.bind hpl (Ev.bind hv (Ev.pos c0 (Ev.neg c3 h')))), hn, hp'⟩
  · by_cases c1 : v = 1
    · obtain ⟨net', p', h', hn, hp'⟩ := key (List.replicate m 0) (by simp)
      exact ⟨net', p', Ev.bind hu (by simp only [hm]; exact Ev.bind hpl (Ev.bind hv (Ev.neg c0 (Ev.pos c1 (Ev.pos (by omega) (Ev.pos (by omega) h')))))), hn, hp'⟩
    · obtain ⟨net', p', h', hn, hp'⟩ := key pl hpl2
      exact ⟨net', p', Ev.bind hu (by simp only [hm]; exact Ev.bind hpl (Ev.bind hv (Ev.neg c0 (Ev.neg c1 h')))), hn, hp'⟩
theorem sRing_yes {m : Nat} (h1 : 3 ≤ m) (h6 : m ≤ 6) : Ev (fun k => spec_RingNet.f k (m : Int)) (ringL m) := by
  have : m = 3 ∨ m = 4 ∨ m = 5 ∨ m = 6 := by omega
  rcases this with rfl | rfl | rfl | rfl
  · exact Ev.of (fun k => spec_RingNet.mono _ k) (k := 40) (by decide +kernel)
  · exact Ev.of (fun k => spec_RingNet.mono _ k) (k := 40) (by decide +kernel)
  · exact Ev.of (fun k => spec_RingNet.mono _ k) (k := 40) (by decide +kernel)
  · exact Ev.of (fun k => spec_RingNet.mono _ k) (k := 40) (by decide +kernel)
theorem sRing_no {a : Int} (h : ¬ (3 ≤ a ∧ a ≤ 6)) : Ev (fun k => spec_RingNet.f k a) [] := by
  unfold spec_RingNet.f
  refine Ev.step (fun k => spec_RingNet.l0.eq_2 ..) ?_
  by_cases c0 : 0 < a
  · exact Ev.pos c0 (Ev.bind (l1In_ev _ _ _) (Ev.neg (by rw [decide_eq_false h]; decide) (Ev.one rfl)))
  · exact Ev.neg c0 (Ev.one rfl)
theorem sPath_yes {m : Nat} (h1 : 1 ≤ m) (h6 : m ≤ 6) : Ev (fun k => spec_PathNet.f k (m : Int)) (pathL m) := by
  have : m = 1 ∨ m = 2 ∨ m = 3 ∨ m = 4 ∨ m = 5 ∨ m = 6 := by omega
  rcases this with rfl | rfl | rfl | rfl | rfl | rfl
  · exact Ev.of (fun k => spec_PathNet.mono _ k) (k := 40) (by decide +kernel)
  · exact Ev.of (fun k => spec_PathNet.mono _ k) (k := 40) (by decide +kernel)
  · exact Ev.of (fun k => spec_PathNet.mono _ k) (k := 40) (by decide +kernel)
  · exact Ev.of (fun k => spec_PathNet.mono _ k) (k := 40) (by decide +kernel)
  · exact Ev.of (fun k => spec_PathNet.mono _ k) (k := 40) (by decide +kernel)
  · exact Ev.of (fun k => spec_PathNet.mono _ k) (k := 40) (by decide +kernel)
theorem sPath_no {a : Int} (h : ¬ (1 ≤ a ∧ a ≤ 6)) : Ev (fun k => spec_PathNet.f k a) [] := by
  have hj : ∀ p : Bool, p = false → Ev (fun k => spec_PathNet.j1 k a [] 0 p) [] := by
    intro p hp
    refine Ev.step (fun k => spec_PathNet.j1.eq_2 ..) ?_
    exact Ev.neg (by rw [hp]; decide) (Ev.one rfl)
  unfold spec_PathNet.f
  refine Ev.step (fun k => spec_PathNet.l0.eq_2 ..) ?_
  by_cases c0 : 0 < a
  · exact Ev.pos c0 (Ev.bind (l1In_ev _ _ _) (hj _ (decide_eq_false h)))
  · exact Ev.neg c0 (hj _ rfl)
theorem iNum_l {kinds : Int} {st : List Int} (h : StP kinds st) : ∀ i : Nat, i ≤ st.length → Ev (fun k => impl_NumberOf.l0 k kinds st (numL kinds (st.drop i)) ((i : Int) - 1)) (numL kinds st) := by
  intro i
  induction i with
  | zero =>
    intro _
    refine Ev.step (fun k => impl_NumberOf.l0.eq_2 ..) ?_
    exact Ev.neg (by omega) (Ev.one rfl)
  | succ i ih =>
    intro hi
    have hb := numL_drop h i hi
    refine Ev.step (fun k => impl_NumberOf.l0.eq_2 ..) ?_
    rw [show ((i + 1 : Nat) : Int) - 1 = (i : Int) by omega, hb.2.2.1, hb.2.2.2, w64 (x := (i : Int) - 1) (by have := h.2.2.2.1; omega) (by have := h.2.2.2.1; omega)]
    exact Ev.pos (by omega) (Ev.pos (by omega) (Ev.pos (by omega) (ih (by omega))))
theorem iNum_yes {kinds : Int} {st : List Int} (h : StP kinds st) : Ev (fun k => impl_NumberOf.f k kinds st) (numL kinds st) := by
  have h6 := h.2.2.2.1
  unfold impl_NumberOf.f
  refine Ev.bind (iStOk_yes h) (Ev.pos rfl ?_)
  rw [w64 (x := (st.length : Int) - 1) (by omega) (by omega)]
  have := iNum_l h st.length (Nat.le_refl _)
  rw [List.drop_length] at this
  exact this
theorem iNum_no {kinds : Int} {st : List Int} (hl : st.length ≤ 35184372088832) (h : ¬ StP kinds st) : Ev (fun k => impl_NumberOf.f k kinds st) (-1) := by
  unfold impl_NumberOf.f
  exact Ev.bind (iStOk_no hl h) (Ev.neg (by decide) (Ev.one rfl))
theorem iCount_l {kinds : Int} {st : List Int} (h : StP kinds st) : ∀ (d i : Nat), i + d = st.length → Ev (fun k => impl_CountsOf.l0 k (mkL (fun c => countI st (c : Int) i) kinds.toNat) st (st.length : Int) (i : Int)) (countL kinds st) := by
  have hk := h.1
  have hk5 := h.2.1
  have h6 := h.2.2.2.1
  intro d
  induction d with
  | zero =>
    intro i hd
    refine Ev.step (fun k => impl_CountsOf.l0.eq_2 ..) ?_
    exact Ev.neg (by omega) (Ev.one (by rw [countL, show i = st.length by omega]))
  | succ d ih =>
    intro i hd
    have hi := h.2.2.2.2 i (by omega)
    obtain ⟨c, hc⟩ := Int.eq_ofNat_of_zero_le hi.1
    have hcb := countI_range st (c : Int) i
    refine Ev.step (fun k => impl_CountsOf.l0.eq_2 ..) ?_
    rw [w64i i (by omega), hc, rd_mkL _ _ _ (by omega), w64 (x := countI st (c : Int) i + 1) (by omega) (by omega), Int.toNat_natCast, count_set st kinds.toNat i c hc]
    exact Ev.pos (by omega) (Ev.pos (by omega) (Ev.pos (by omega) (Ev.pos (by omega) (Ev.pos (by rw [mkL_len]; omega) (ih (i + 1) (by omega))))))
theorem iCount_yes {kinds : Int} {st : List Int} (h : StP kinds st) : Ev (fun k => impl_CountsOf.f k kinds st) (countL kinds st) := by
  have hk := h.1
  have hk5 := h.2.1
  unfold impl_CountsOf.f
  refine Ev.bind (iStOk_yes h) (Ev.pos rfl (Ev.pos (by omega) (Ev.pos (by omega) ?_)))
  rw [count_zero st]
  exact iCount_l h st.length 0 (by omega)
theorem iCount_no {kinds : Int} {st : List Int} (hl : st.length ≤ 35184372088832) (h : ¬ StP kinds st) : Ev (fun k => impl_CountsOf.f k kinds st) [] := by
  unfold impl_CountsOf.f
  exact Ev.bind (iStOk_no hl h) (Ev.neg (by decide) (Ev.one rfl))
theorem alive_ev : Ev (fun k => laws_alive.f k) true := Ev.of (fun k => laws_alive.mono k) (k := 40) (by decide +kernel)
theorem l20Open_ev {l : List Int} (h : ∀ x ∈ l, (Lit.int .u8 x).wf = true) : ∃ b, Ev (fun _ => spec_l20Open.f l) (b, ((0 : Nat) : Int)) ∧ Byt b := by
  have hx : ∀ x ∈ l, 0 ≤ x ∧ x ≤ 255 := by
    intro x hx
    have := h x hx
    simp only [Lit.wf, IntKind.min, IntKind.max, IntKind.signed, IntKind.bits, Bool.and_eq_true, decide_eq_true_eq, Bool.false_eq_true, if_false] at this
    omega
  unfold spec_l20Open.f
  by_cases c : (l.length : Int) > 2000
  · exact ⟨l.take 2000, Ev.pos c (Ev.pos (by omega) (Ev.now _)), by simp; omega, fun x hx' => hx x (List.mem_of_mem_take hx')⟩
  · exact ⟨l, Ev.neg c (Ev.now _), by omega, hx⟩
theorem l20State_l {b : List Int} (hb : Byt b) (kinds n thin : Int) (m : Nat) (h1 : 1 ≤ m) (h6 : m ≤ 6) : ∀ (d i : Nat) (st : List Int) (p : Nat), i + d = m → st.length = i → p + 2 * d ≤ 99990 →
    ∃ (st' : List Int) (p' : Nat), Ev (fun k => spec_l20State.l0 k (m : Int) kinds n st thin (i : Int) b (p : Int)) (st', (p' : Int)) ∧ st'.length ≤ 6 ∧ p' ≤ p + 2 * d + 2 := by
  intro d
  induction d with
  | zero =>
    intro i st p hd hl hp
    obtain ⟨v, q, hv, hq⟩ := odd_ev hb (p := p) (by omega) n
    cases v with
    | false =>
      refine ⟨st, q, ?_, by omega, by omega⟩
      refine Ev.step (fun k => spec_l20State.l0.eq_2 ..) ?_
      exact Ev.neg (by omega) (Ev.bind hv (Ev.neg (by simp) (Ev.now _)))
    | true =>
      obtain ⟨u, hu, u0, u3⟩ := pick_ev hb (p := q) (by omega) 2
      by_cases c0 : u = 0
      · refine ⟨[], q + 1, ?_, by simp, by omega⟩
        refine Ev.step (fun k => spec_l20State.l0.eq_2 ..) ?_
        exact Ev.neg (by omega) (Ev.bind hv (Ev.pos rfl (Ev.bind hu (Ev.pos c0 (Ev.now _)))))
      · refine ⟨st.set ((st.length : Int) - 1).toNat kinds, q + 1, ?_, ?_, by omega⟩
        · refine Ev.step (fun k => spec_l20State.l0.eq_2 ..) ?_
          rw [w64 (x := (st.length : Int) - 1) (by omega) (by omega)]
          exact Ev.neg (by omega) (Ev.bind hv (Ev.pos rfl (Ev.bind hu (Ev.neg c0 (Ev.pos (by omega) (Ev.pos (by omega) (Ev.now _)))))))
        · simp [hl]; omega
  | succ d ih =>
    intro i st p hd hl hp
    have go : ∀ (v : Int) (q : Nat), q ≤ p + 2 → ∃ (st' : List Int) (p' : Nat), Ev (fun k => spec_l20State.l0 k (m : Int) kinds n (st ++ [v]) thin (wrap64 ((i : Int) + 1)) b (q : Int)) (st', (p' : Int)) ∧ st'.length ≤ 6 ∧ p' ≤ p + 2 * (d + 1) + 2 := by
      intro v q hq
      obtain ⟨st', p', h', hs, hp'⟩ := ih (i + 1) (st ++ [v]) q (by omega) (by simp [hl]) (by omega)
      refine ⟨st', p', ?_, hs, by omega⟩
      rw [w64i i (by omega)]; exact h'
    by_cases ct : thin > 0
    · obtain ⟨u, hu, _, _⟩ := pick_ev hb (p := p) (by omega) 3
      by_cases cu : u < thin
      · obtain ⟨st', p', h', hs, hp'⟩ := go 0 (p + 1) (by omega)
        refine ⟨st', p', ?_, hs, hp'⟩
        refine Ev.step (fun k => spec_l20State.l0.eq_2 ..) ?_
        exact Ev.pos (by omega) (Ev.pos ct (Ev.bind hu (Ev.pos cu (Ev.pos (by omega) h'))))
      · obtain ⟨v, hv, _, _⟩ := pick_ev hb (p := p + 1) (by omega) kinds
        obtain ⟨st', p', h', hs, hp'⟩ := go v (p + 1 + 1) (by omega)
        refine ⟨st', p', ?_, hs, hp'⟩
        refine Ev.step (fun k => spec_l20State.l0.eq_2 ..) ?_
        exact Ev.pos (by omega) (Ev.pos ct (Ev.bind hu (Ev.neg cu (Ev.bind hv (Ev.pos (by omega) h')))))
    · obtain ⟨v, hv, _, _⟩ := pick_ev hb (p := p) (by omega) kinds
      obtain ⟨st', p', h', hs, hp'⟩ := go v (p + 1) (by omega)
      refine ⟨st', p', ?_, hs, hp'⟩
      refine Ev.step (fun k => spec_l20State.l0.eq_2 ..) ?_
      exact Ev.pos (by omega) (Ev.neg ct (Ev.bind hv (Ev.pos (by omega) h')))
theorem l20State_ev {b : List Int} (hb : Byt b) {p : Nat} (hp : p ≤ 90000) (m : Nat) (h1 : 1 ≤ m) (h6 : m ≤ 6) (kinds n : Int) : ∃ (st : List Int) (p' : Nat), Ev (fun k => spec_l20State.f k b (p : Int) (m : Int) kinds n) (st, (p' : Int)) ∧ st.length ≤ 6 ∧ p' ≤ p + 20 := by
  obtain ⟨u, hu, _, _⟩ := pick_ev hb (p := p) (by omega) 3
  obtain ⟨st, p', h', hs, hp'⟩ := l20State_l hb kinds n u m h1 h6 m 0 [] (p + 1) (by omega) rfl (by omega)
  refine ⟨st, p', ?_, hs, by omega⟩
  unfold spec_l20State.f
  exact Ev.bind hu h'
theorem l20Fire_ev3 {b : List Int} (hb : Byt b) {p : Nat} (hp : p ≤ 80000) (n : Int) : ∃ (net : List Int) (kinds : Int) (st : List Int) (p' : Nat), Ev (fun k => spec_l20Fire.f k b (p : Int) n) (net, kinds, st, (p' : Int)) ∧ net.length ≤ 6 ∧ st.length ≤ 7 ∧ p' ≤ p + 60 ∧ 3 ≤ kinds := by
  obtain ⟨net, q, hn, hl, hq⟩ := l20Net_ev hb (p := p) (by omega) (wrap64 (n * 2))
  obtain ⟨u, hu, u0, u1⟩ := pick_ev hb (p := q) (by omega) 3
  obtain ⟨m, hm, hm1, hm6⟩ : ∃ m : Nat, mx (net.length : Int) 1 = (m : Int) ∧ 1 ≤ m ∧ m ≤ 6 := by
    unfold mx
    by_cases c : (net.length : Int) < 1
    · exact ⟨1, by rw [if_pos c]; rfl, by omega, by omega⟩
    · exact ⟨net.length, by rw [if_neg c], by omega, by omega⟩
  obtain ⟨st, r, hs, hsl, hr⟩ := l20State_ev hb (p := q + 1) (by omega) m hm1 hm6 (wrap64 (3 + u)) (wrap64 (n * 2))
  obtain ⟨v, s, hv, hs'⟩ := odd_ev hb (p := r) (by omega) (wrap64 (n * 2))
  have hk : 3 ≤ wrap64 (3 + u) := by have := u1 (by omega); rw [w64 (by omega) (by omega)]; omega
  rw [← hm] at hs
  unfold spec_l20Fire.f
  cases v with
  | false =>
    exact ⟨net, _, st, s, Ev.bind hn (Ev.bind hu (Ev.bind hs (Ev.bind hv (Ev.neg (by simp) (Ev.now _))))), hl, by omega, by omega, hk⟩
  | true =>
    exact ⟨net, _, st ++ [0], s, Ev.bind hn (Ev.bind hu (Ev.bind hs (Ev.bind hv (Ev.pos rfl (Ev.pos (show st.length < 17592186044416 by omega) (Ev.now _)))))), hl, by simp; omega, by omega, hk⟩
theorem l20Fire_ev {b : List Int} (hb : Byt b) {p : Nat} (hp : p ≤ 80000) (n : Int) : ∃ (net : List Int) (kinds : Int) (st : List Int) (p' : Nat), Ev (fun k => spec_l20Fire.f k b (p : Int) n) (net, kinds, st, (p' : Int)) ∧ net.length ≤ 6 ∧ st.length ≤ 7 ∧ p' ≤ p + 60 := by
  obtain ⟨net, kinds, st, p', h, h1, h2, h3, _⟩ := l20Fire_ev3 hb hp n
  exact ⟨net, kinds, st, p', h, h1, h2, h3⟩
theorem drawEndsAt_ev {l : List Int} (h : ∀ x ∈ l, (Lit.int .u8 x).wf = true) : ∃ (net : List Int) (kinds : Int) (st : List Int), Ev (fun k => spec_DrawEndsAt.f k l) (net, kinds, st) ∧ net.length ≤ 6 ∧ st.length ≤ 7 := by
  obtain ⟨b, ho, hb⟩ := l20Open_ev h
  obtain ⟨net, kinds, st, q, hn, hl, hs, hq⟩ := l20Fire_ev hb (p := 0) (by omega) 12
  unfold spec_DrawEndsAt.f
  exact ⟨net, kinds, st, Ev.bind ho (Ev.bind hn (Ev.now _)), hl, hs⟩
theorem drawEndsAt_ev3 {l : List Int} (h : ∀ x ∈ l, (Lit.int .u8 x).wf = true) : ∃ (net : List Int) (kinds : Int) (st : List Int), Ev (fun k => spec_DrawEndsAt.f k l) (net, kinds, st) ∧ net.length ≤ 6 ∧ st.length ≤ 7 ∧ 3 ≤ kinds := by
  obtain ⟨b, ho, hb⟩ := l20Open_ev h
  obtain ⟨net, kinds, st, q, hn, hl, hs, hq, hk⟩ := l20Fire_ev3 hb (p := 0) (by omega) 12
  unfold spec_DrawEndsAt.f
  exact ⟨net, kinds, st, Ev.bind ho (Ev.bind hn (Ev.now _)), hl, hs, hk⟩
theorem iAsk_yes {net : List Int} {kinds : Int} {st : List Int} (h : AskP net kinds st) : Ev (fun k => impl_asked.f k net kinds st) true := by
  unfold impl_asked.f
  exact Ev.bind (iNetOk_yes h.1) (Ev.pos rfl (Ev.bind (iStOk_yes h.2.1) (Ev.pos rfl (Ev.one (by rw [h.2.2]; simp)))))
theorem iAsk_no {net : List Int} {kinds : Int} {st : List Int} (hl : st.length ≤ 35184372088832) (h : ¬ AskP net kinds st) : Ev (fun k => impl_asked.f k net kinds st) false := by
  unfold impl_asked.f
  by_cases h1 : NetP net
  · by_cases h2 : StP kinds st
    · refine Ev.bind (iNetOk_yes h1) (Ev.pos rfl (Ev.bind (iStOk_yes h2) (Ev.pos rfl (Ev.one (congrArg some ?_)))))
      exact beq_eq_false_iff_ne.2 (fun q => h ⟨h1, h2, by omega⟩)
    · exact Ev.bind (iNetOk_yes h1) (Ev.pos rfl (Ev.bind (iStOk_no hl h2) (Ev.neg (by decide) (Ev.one rfl))))
  · exact Ev.bind (iNetOk_no h1) (Ev.neg (by decide) (Ev.one rfl))
theorem iNeed_l1 {net : List Int} {kinds : Int} {st : List Int} (h : AskP net kinds st) {i : Nat} (hi : i < st.length) {out : List Int} (ho : out.length = st.length) {r : List Int}
    (c1 : Fires net st i → Ev (fun k => impl_needStep.l0 k net kinds st (out.set i 1) st (st.length : Int) ((i + 1 : Nat) : Int)) r) (c2 : ¬ Fires net st i → Ev (fun k => impl_needStep.l0 k net kinds st out st (st.length : Int) ((i + 1 : Nat) : Int)) r) :
    ∀ (d j n : Nat), j + d = st.length → n ≤ j → (1 ≤ n ↔ ∃ j' : Nat, j' < j ∧ tb (rd net (i : Int)) j' = true ∧ rd st (j' : Int) = 1) →
      Ev (fun k => impl_needStep.l1 k net kinds st out (i : Int) (n : Int) 1 st (st.length : Int) (i : Int) st (st.length : Int) (j : Int)) r := by
  have h6 := h.2.1.2.2.2.1
  have hl := h.2.2
  intro d
  induction d with
  | zero =>
    intro j n hd hn hf
    refine Ev.step (fun k => impl_needStep.l1.eq_2 ..) ?_
    refine Ev.neg (by omega) ?_
    by_cases c : 1 ≤ n
    · obtain ⟨j', a, b⟩ := hf.1 c
      refine Ev.pos (by omega) (Ev.pos (by omega) (Ev.pos (by omega) ?_))
      rw [Int.toNat_natCast, w64i i (by omega)]
      exact c1 ⟨j', by omega, b⟩
    · refine Ev.neg (by omega) ?_
      rw [w64i i (by omega)]
      exact c2 (fun ⟨j', a, b⟩ => c (hf.2 ⟨j', by omega, b⟩))
  | succ d ih =>
    intro j n hd hn hf
    refine Ev.step (fun k => impl_needStep.l1.eq_2 ..) ?_
    rw [itest _ j (by omega), w64i j (by omega), w64i n (by omega)]
    refine Ev.pos (by omega) (Ev.pos (by omega) (Ev.pos (by omega) (Ev.pos (by omega) (Ev.pos (by omega) ?_))))
    cases q : tb (rd net (i : Int)) j with
    | true =>
      refine Ev.pos ((tb_iff _ _).1 q) ?_
      by_cases e : rd st (j : Int) = 1
      · exact Ev.pos e (ih (j + 1) (n + 1) (by omega) (by omega) ⟨fun _ => ⟨j, by omega, q, e⟩, fun _ => by omega⟩)
      · refine Ev.neg e (ih (j + 1) n (by omega) (by omega) (hf.trans ⟨fun ⟨j', a, b⟩ => ⟨j', by omega, b⟩, fun ⟨j', a, b⟩ => ⟨j', ?_, b⟩⟩))
        by_cases z : j' = j
        · rw [z] at b; exact absurd b.2 e
        · omega
    | false =>
      refine Ev.neg (by rw [(tb_not _ _).1 q]; decide) (ih (j + 1) n (by omega) (by omega) (hf.trans ⟨fun ⟨j', a, b⟩ => ⟨j', by omega, b⟩, fun ⟨j', a, b⟩ => ⟨j', ?_, b⟩⟩))
      by_cases z : j' = j
      · rw [z, q] at b; exact absurd b.1 (by decide)
      · omega
theorem iNeed_l0 {net : List Int} {kinds : Int} {st : List Int} (h : AskP net kinds st) : ∀ (d i : Nat) (out : List Int), i + d = st.length → out.length = st.length → (∀ j : Nat, j < i → rd out (j : Int) = stepAt net kinds st j) → (∀ j : Nat, i ≤ j → j < st.length → rd out (j : Int) = 0) →
    Ev (fun k => impl_needStep.l0 k net kinds st out st (st.length : Int) (i : Int)) (stepL net kinds st) := by
  have h3 := h.2.1.1
  have h5 := h.2.1.2.1
  have h6 := h.2.1.2.2.2.1
  have hl := h.2.2
  intro d
  induction d with
  | zero =>
    intro i out hd ho h1 h2
    refine Ev.step (fun k => impl_needStep.l0.eq_2 ..) ?_
    exact Ev.neg (by omega) (Ev.one (congrArg some (mkL_ext ho (fun j hj => h1 j (by omega)))))
  | succ d ih =>
    intro i out hd ho h1 h2
    have hi : i < st.length := by omega
    have hr := h.2.1.2.2.2.2 i hi
    have hset : ∀ v : Int, v = stepAt net kinds st i → Ev (fun k => impl_needStep.l0 k net kinds st (out.set i v) st (st.length : Int) ((i + 1 : Nat) : Int)) (stepL net kinds st) := by
      intro v hv
      refine ih (i + 1) _ (by omega) (by simpa using ho) (fun j hj => ?_) (fun j hj hj2 => ?_)
      · rw [rd_set _ _ _ _ (by omega)]
        by_cases e : i = j
        · rw [if_pos e, ← e, hv]
        · rw [if_neg e]; exact h1 j (by omega)
      · rw [rd_set _ _ _ _ (by omega), if_neg (by omega)]; exact h2 j (by omega) hj2
    refine Ev.step (fun k => impl_needStep.l0.eq_2 ..) ?_
    refine Ev.pos (by omega) (Ev.pos (by omega) (Ev.pos (by omega) ?_))
    by_cases c : rd st (i : Int) > 0
    · refine Ev.pos c (Ev.neg (by omega) (Ev.pos (by omega) ?_))
      rw [w64i i (by omega), Int.toNat_natCast, w64 (x := rd st (i : Int) + 1) (by omega) (by omega), Int.tmod_eq_emod_of_nonneg (by omega)]
      exact hset _ (stepAt_up c).symm
    · refine Ev.neg c ?_
      refine iNeed_l1 h hi ho (fun hf => hset 1 (stepAt_fire c hf).symm) (fun hf => ?_) st.length 0 0 (by omega) (by omega) ⟨fun q => by omega, fun ⟨j', a, _⟩ => by omega⟩
      refine ih (i + 1) out (by omega) ho (fun j hj => ?_) (fun j hj hj2 => h2 j (by omega) hj2)
      by_cases e : j = i
      · rw [e, h2 i (Nat.le_refl _) hi, stepAt_rest c hf]
      · exact h1 j (by omega)
theorem iNeed_ev {net : List Int} {kinds : Int} {st : List Int} (h : AskP net kinds st) : Ev (fun k => impl_needStep.f k net kinds [] st) (stepL net kinds st) := by
  have h6 := h.2.1.2.2.2.1
  unfold impl_needStep.f
  refine Ev.pos (by omega) (Ev.pos (by omega) ?_)
  rw [Int.toNat_natCast]
  exact iNeed_l0 h st.length 0 _ (by omega) (by simp) (fun j hj => by omega) (fun j _ hj => rd_rep _ _ _ hj)
theorem iFire_yes {net : List Int} {kinds : Int} {st : List Int} (h : AskP net kinds st) : Ev (fun k => impl_FireStep.f k net kinds st) (stepL net kinds st) := by
  unfold impl_FireStep.f
  exact Ev.bind (iAsk_yes h) (Ev.pos rfl (Ev.bind (iNeed_ev h) (Ev.now _)))
theorem iFire_no {net : List Int} {kinds : Int} {st : List Int} (hl : st.length ≤ 35184372088832) (h : ¬ AskP net kinds st) : Ev (fun k => impl_FireStep.f k net kinds st) [] := by
  unfold impl_FireStep.f
  exact Ev.bind (iAsk_no hl h) (Ev.neg (by decide) (Ev.one rfl))
theorem num_range {kinds : Int} {st : List Int} (h : StP kinds st) : 0 ≤ numL kinds st ∧ numL kinds st < kinds ^ st.length := by
  have hk := h.1
  refine numL_bound (by omega) st (fun x hx => ?_)
  obtain ⟨i, hi, e⟩ := List.getElem_of_mem hx
  have := h.2.2.2.2 i hi
  rw [rd_at _ _ hi, e] at this
  exact this
theorem num_inj {kinds : Int} {x y : List Int} (hx : StP kinds x) (hy : StP kinds y) (hl : x.length = y.length) (h : numL kinds x = numL kinds y) : x = y := by
  have hk := hx.1
  have mem : ∀ {z : List Int}, StP kinds z → ∀ v ∈ z, 0 ≤ v ∧ v < kinds := by
    intro z hz v hv
    obtain ⟨i, hi, e⟩ := List.getElem_of_mem hv
    have := hz.2.2.2.2 i hi
    rw [rd_at _ _ hi, e] at this
    exact this
  rw [← digN_numL (by omega) x (mem hx), ← digN_numL (by omega) y (mem hy), hl, h]
theorem mod_add_lt {a b n : Nat} (ha : a < n) (hb : b < n) : (a + b) % n = if a + b < n then a + b else a + b - n := by
  by_cases c : a + b < n
  · rw [if_pos c, Nat.mod_eq_of_lt c]
  · rw [if_neg c, Nat.mod_eq_sub_mod (show n ≤ a + b by omega), Nat.mod_eq_of_lt (show a + b - n < n by omega)]
/-- The state comes, after mu steps, to one that it comes to again after la more; before that, no two are alike. -/
def LoopP (net : List Int) (kinds : Int) (st : List Int) (mu la : Nat) : Prop :=
  1 ≤ la ∧ runL net kinds st mu = runL net kinds st (mu + la) ∧ ∀ i j : Nat, i < j → j < mu + la → runL net kinds st i ≠ runL net kinds st j
theorem least_of {P : Nat → Prop} : ∀ n, P n → ∃ m, m ≤ n ∧ P m ∧ ∀ s, s < m → ¬ P s := by
  intro n
  induction n using Nat.strongRecOn with
  | _ n ih =>
    intro h
    by_cases c : ∃ s, s < n ∧ P s
    · obtain ⟨s, hs, hp⟩ := c
      obtain ⟨m, hm, r⟩ := ih s hs hp
      exact ⟨m, by omega, r⟩
    · exact ⟨n, Nat.le_refl _, h, fun s hs hp => c ⟨s, hs, hp⟩⟩
theorem LoopP.ex {net : List Int} {kinds : Int} {st : List Int} (h : AskP net kinds st) : ∃ mu la, LoopP net kinds st mu la ∧ ((mu + la : Nat) : Int) ≤ kinds ^ st.length := by
  have hp := pow_kinds h.2.1.1 h.2.1.2.1 (i := st.length) h.2.1.2.2.2.1
  have hnum : ∀ i, 0 ≤ numL kinds (runL net kinds st i) ∧ numL kinds (runL net kinds st i) < kinds ^ st.length := by
    intro i
    have := num_range (h.run i).2.1
    rw [runL_len] at this
    exact this
  obtain ⟨i, j, hij, hj, e⟩ := pigeon (kinds ^ st.length).toNat (fun i => (numL kinds (runL net kinds st i)).toNat) (fun i _ => by have := hnum i; show (numL kinds (runL net kinds st i)).toNat < _; omega)
  have e' : (numL kinds (runL net kinds st i)).toNat = (numL kinds (runL net kinds st j)).toNat := e
  have heq : runL net kinds st i = runL net kinds st j := num_inj (h.run i).2.1 (h.run j).2.1 (by rw [runL_len, runL_len]) (by have := hnum i; have := hnum j; omega)
  obtain ⟨T, hT, ⟨m, hm, hmT⟩, hmin⟩ := least_of (P := fun T => ∃ m, m < T ∧ runL net kinds st m = runL net kinds st T) j ⟨i, hij, heq⟩
  refine ⟨m, T - m, ⟨by omega, by rw [show m + (T - m) = T by omega]; exact hmT, fun a b hab hb q => hmin b (by omega) ⟨a, hab, q⟩⟩, by omega⟩
theorem LoopP.per {net : List Int} {kinds : Int} {st : List Int} {mu la : Nat} (h : LoopP net kinds st mu la) : ∀ k i : Nat, mu ≤ i → runL net kinds st (i + k * la) = runL net kinds st i := by
  have one : ∀ i, mu ≤ i → runL net kinds st (i + la) = runL net kinds st i := by
    intro i hi
    have a := runL_add (net := net) (kinds := kinds) (st := st) mu (i - mu)
    have b := runL_add (net := net) (kinds := kinds) (st := st) (mu + la) (i - mu)
    rw [← h.2.1, a, show mu + la + (i - mu) = i + la by omega, show mu + (i - mu) = i by omega] at b
    exact b.symm
  intro k
  induction k with
  | zero => intro i _; rw [Nat.zero_mul, Nat.add_zero]
  | succ k ih =>
    intro i hi
    rw [Nat.succ_mul, ← Nat.add_assoc, one _ (by omega), ih i hi]
theorem LoopP.red {net : List Int} {kinds : Int} {st : List Int} {mu la : Nat} (h : LoopP net kinds st mu la) {i : Nat} (hi : mu ≤ i) : runL net kinds st i = runL net kinds st (mu + (i - mu) % la) := by
  have e := h.per ((i - mu) / la) (mu + (i - mu) % la) (by omega)
  rw [← e]
  have := Nat.mod_add_div (i - mu) la
  rw [Nat.mul_comm] at this
  rw [show mu + (i - mu) % la + (i - mu) / la * la = i by omega]
theorem LoopP.same {net : List Int} {kinds : Int} {st : List Int} {mu la : Nat} (h : LoopP net kinds st mu la) {i j : Nat} (hij : i < j) (e : runL net kinds st i = runL net kinds st j) : mu ≤ i ∧ (i - mu) % la = (j - mu) % la := by
  have hla := h.1
  have hm : ∀ x, x % la < la := fun x => Nat.mod_lt _ (by omega)
  by_cases c : mu ≤ i
  · refine ⟨c, ?_⟩
    have a := h.red c
    have b := h.red (i := j) (by omega)
    rw [a, b] at e
    have h1 := hm (i - mu)
    have h2 := hm (j - mu)
    by_cases q : (i - mu) % la < (j - mu) % la
    · exact absurd e (h.2.2 _ _ (by omega) (by omega))
    · by_cases q2 : (j - mu) % la < (i - mu) % la
      · exact absurd e.symm (h.2.2 _ _ (by omega) (by omega))
      · omega
  · exfalso
    by_cases d : j < mu + la
    · exact h.2.2 i j hij d e
    · have b := h.red (i := j) (by omega)
      have h2 := hm (j - mu)
      rw [b] at e
      exact h.2.2 i _ (by omega) (by omega) e
theorem LoopP.det {net : List Int} {kinds : Int} {st : List Int} {mu la mu' la' : Nat} (h : LoopP net kinds st mu la) (h' : LoopP net kinds st mu' la') : mu = mu' ∧ la = la' := by
  have key : ∀ {a b c d : Nat}, LoopP net kinds st a b → LoopP net kinds st c d → c ≤ a := by
    intro a b c d h1 h2
    have := h2.same (i := a) (j := a + b) (by have := h1.1; omega) h1.2.1
    exact this.1
  have e1 : mu = mu' := Nat.le_antisymm (key h' h) (key h h')
  subst e1
  refine ⟨rfl, ?_⟩
  have h1 := h.1
  have h2 := h'.1
  by_cases c : la < la'
  · exact absurd h.2.1 (h'.2.2 _ _ (by omega) (by omega))
  · by_cases d : la' < la
    · exact absurd h'.2.1 (h.2.2 _ _ (by omega) (by omega))
    · omega
theorem LoopP.step {net : List Int} {kinds : Int} {st : List Int} {mu la : Nat} (h : LoopP net kinds st mu la) : LoopP net kinds (stepL net kinds st) (mu - 1) la := by
  have hla := h.1
  refine ⟨hla, ?_, fun i j hij hj e => ?_⟩
  · rw [runL_step, runL_step]
    by_cases c : mu = 0
    · rw [c]
      have := h.per 1 1 (by omega)
      rw [show 0 - 1 + 1 = 1 by omega, show 0 - 1 + la + 1 = 1 + 1 * la by omega]
      exact this.symm
    · rw [show mu - 1 + 1 = mu by omega, show mu - 1 + la + 1 = mu + la by omega]
      exact h.2.1
  · rw [runL_step, runL_step] at e
    obtain ⟨h1, h2⟩ := h.same (i := i + 1) (j := j + 1) (by omega) e
    have e1 : j + 1 - mu = (i + 1 - mu) + (j - i) := by omega
    rw [e1, Nat.add_mod] at h2
    have hlt : (j - i) < la := by omega
    rw [Nat.mod_eq_of_lt hlt] at h2
    have hm := Nat.mod_lt (i + 1 - mu) (show 0 < la by omega)
    rw [mod_add_lt hm hlt] at h2
    split at h2 <;> omega
/-- All at rest. -/
def zeroL (n : Nat) : List Int := List.replicate n 0
theorem num_zero {kinds : Int} {st : List Int} (h : StP kinds st) : numL kinds st = 0 ↔ st = zeroL st.length := by
  have hk := h.1
  constructor
  · intro e
    have hz : StP kinds (zeroL st.length) := ⟨h.1, h.2.1, by simp [zeroL]; exact h.2.2.1, by simp [zeroL]; exact h.2.2.2.1, fun i hi => by simp only [zeroL, List.length_replicate] at hi; rw [zeroL, rd_rep _ _ _ hi]; omega⟩
    exact num_inj h hz (by simp [zeroL]) (by rw [e]; exact (numL_zero _ _).symm)
  · intro e; rw [e]; exact numL_zero _ _
theorem zero_step (net : List Int) (kinds : Int) (n : Nat) : stepL net kinds (zeroL n) = zeroL n := by
  refine rd_ext (by rw [stepL_len]) (fun i hi => ?_)
  rw [stepL_len] at hi
  have hi2 : i < n := by simpa [zeroL] using hi
  rw [stepL_at hi]
  have e : ∀ j : Nat, rd (zeroL n) (j : Int) = 0 := by
    intro j
    by_cases c : j < n
    · rw [zeroL, rd_rep _ _ _ c]
    · rw [rd_far _ _ (by simp [zeroL]; omega)]
  rw [stepAt_rest (by rw [e]; omega) (fun ⟨j, _, _, q⟩ => by rw [e] at q; omega), e]
/-- It comes to rest. -/
def RestP (net : List Int) (kinds : Int) (st : List Int) (mu la : Nat) : Prop := la = 1 ∧ runL net kinds st mu = zeroL st.length
theorem LoopP.rest {net : List Int} {kinds : Int} {st : List Int} {mu la : Nat} (h : LoopP net kinds st mu la) {m : Nat} (e : runL net kinds st m = zeroL st.length) : RestP net kinds st mu la ∧ mu ≤ m := by
  have h1 : runL net kinds st (m + 1) = runL net kinds st m := by
    show stepL net kinds (runL net kinds st m) = runL net kinds st m
    rw [e, zero_step]
  obtain ⟨hm, hd⟩ := h.same (i := m) (j := m + 1) (by omega) h1.symm
  have hla := h.1
  have la1 : la = 1 := by
    rw [show m + 1 - mu = (m - mu) + 1 by omega] at hd
    by_cases c : la = 1
    · exact c
    · exfalso
      rw [Nat.add_mod, Nat.mod_eq_of_lt (show 1 < la by omega)] at hd
      have hml := Nat.mod_lt (m - mu) (show 0 < la by omega)
      rw [mod_add_lt hml (show 1 < la by omega)] at hd
      split at hd <;> omega
  refine ⟨⟨la1, ?_⟩, hm⟩
  have := h.red hm
  rw [la1, Nat.mod_one, Nat.add_zero, e] at this
  exact this.symm
theorem LoopP.still {net : List Int} {kinds : Int} {st : List Int} {mu la : Nat} (h : LoopP net kinds st mu la) (ha : AskP net kinds st) (hl : la = 1) : RestP net kinds st mu la := by
  refine ⟨hl, rd_ext (by rw [runL_len]; simp [zeroL]) (fun i hi => ?_)⟩
  have hr := (ha.run mu).2.1
  have hv := hr.2.2.2.2 i hi
  rw [runL_len] at hi
  rw [zeroL, rd_rep _ _ _ hi]
  have e := h.2.1
  rw [hl] at e
  have e2 : rd (runL net kinds st mu) (i : Int) = stepAt net kinds (runL net kinds st mu) i := by
    conv => lhs; rw [e]
    exact stepL_at (by rw [runL_len]; exact hi)
  by_cases c : 0 < rd (runL net kinds st mu) (i : Int)
  · rw [stepAt_up c] at e2
    by_cases q : rd (runL net kinds st mu) (i : Int) + 1 < kinds
    · rw [Int.emod_eq_of_lt (by omega) q] at e2; omega
    · rw [show rd (runL net kinds st mu) (i : Int) + 1 = kinds by omega, Int.emod_self] at e2; omega
  · omega
theorem LoopP.first {net : List Int} {kinds : Int} {st : List Int} {mu la m : Nat} (h : LoopP net kinds st mu la) (hr : RestP net kinds st mu la) (hm : m < mu) : runL net kinds st m ≠ zeroL st.length :=
  fun e => h.2.2 m mu hm (by have := h.1; omega) (by rw [e, hr.2])
/-- The numbers that the map holds after so many rounds. -/
noncomputable def seenS (net : List Int) (kinds : Int) (st : List Int) : Nat → List Int
  | 0 => []
  | m + 1 => numL kinds (runL net kinds st m) :: seenS net kinds st m
theorem seenS_len (net : List Int) (kinds : Int) (st : List Int) : ∀ m, (seenS net kinds st m).length = m := by
  intro m
  induction m with
  | zero => rfl
  | succ m ih => simp [seenS, ih]
theorem seenS_mem {net : List Int} {kinds : Int} {st : List Int} {t : Int} : ∀ m, t ∈ seenS net kinds st m ↔ ∃ i, i < m ∧ numL kinds (runL net kinds st i) = t := by
  intro m
  induction m with
  | zero => simp [seenS]
  | succ m ih =>
    simp only [seenS, List.mem_cons, ih]
    constructor
    · rintro (e | ⟨i, hi, e⟩)
      · exact ⟨m, by omega, e.symm⟩
      · exact ⟨i, by omega, e⟩
    · rintro ⟨i, hi, e⟩
      by_cases c : i = m
      · rw [c] at e; exact .inl e.symm
      · exact .inr ⟨i, by omega, e⟩
theorem iEnds_num {net : List Int} {kinds : Int} {st : List Int} (h : AskP net kinds st) (i : Nat) : (0 ≤ numL kinds (runL net kinds st i) ∧ numL kinds (runL net kinds st i) < kinds ^ st.length) ∧ (numL kinds (runL net kinds st i) = 0 ↔ runL net kinds st i = zeroL st.length) := by
  have a := num_range (h.run i).2.1
  have b := num_zero (h.run i).2.1
  rw [runL_len] at a b
  exact ⟨a, b⟩
theorem iEnds_l {net : List Int} {kinds : Int} {st : List Int} (h : AskP net kinds st) {mu la : Nat} (hP : LoopP net kinds st mu la) (hT : mu + la ≤ 100000) {r : Int} {M : Nat} (hM : M ≤ mu + la) (hno : ∀ m, m < M → runL net kinds st m ≠ zeroL st.length)
    (fin : (r = (M : Int) ∧ runL net kinds st M = zeroL st.length) ∨ (r = -1 ∧ M = mu + la ∧ runL net kinds st M ≠ zeroL st.length)) : ∀ (d m : Nat), m + d = M → Ev (fun k => impl_EndsAt.l0 k net kinds (runL net kinds st m) (seenS net kinds st m) (m : Int)) r := by
  have h6 := h.2.1.2.2.2.1
  have hp := pow_kinds h.2.1.1 h.2.1.2.1 (i := st.length) h6
  have hla := hP.1
  have inj : ∀ {i j : Nat}, numL kinds (runL net kinds st i) = numL kinds (runL net kinds st j) → runL net kinds st i = runL net kinds st j := fun {i j} e => num_inj (h.run i).2.1 (h.run j).2.1 (by rw [runL_len, runL_len]) e
  intro d
  induction d with
  | zero =>
    intro m hd
    obtain rfl : m = M := by omega
    obtain ⟨hn, hz⟩ := iEnds_num h m
    refine Ev.step (fun k => impl_EndsAt.l0.eq_2 ..) ?_
    refine Ev.bind (iNum_yes (h.run m).2.1) ?_
    rcases fin with ⟨e, q⟩ | ⟨e, q, q2⟩
    · exact Ev.pos (hz.2 q) (Ev.one (by rw [e]))
    · refine Ev.neg (fun z => q2 (hz.1 z)) (Ev.pos ⟨hn.1, by omega, by rw [seenS_len]; omega⟩ (Ev.pos ?_ (Ev.one (by rw [e]))))
      exact (seenS_mem m).2 ⟨mu, by omega, by rw [q, ← hP.2.1]⟩
  | succ d ih =>
    intro m hd
    obtain ⟨hn, hz⟩ := iEnds_num h m
    refine Ev.step (fun k => impl_EndsAt.l0.eq_2 ..) ?_
    refine Ev.bind (iNum_yes (h.run m).2.1) (Ev.neg (fun z => hno m (by omega) (hz.1 z)) (Ev.pos ⟨hn.1, by omega, by rw [seenS_len]; omega⟩ (Ev.neg (fun q => ?_) ?_)))
    · obtain ⟨i, hi, e⟩ := (seenS_mem m).1 q
      exact hP.2.2 i m hi (by omega) (inj e)
    · rw [w64i m (by omega)]
      exact Ev.bind (iNeed_ev (h.run m)) (ih (m + 1) (by omega))
theorem iEnds_yes {net : List Int} {kinds : Int} {st : List Int} (h : AskP net kinds st) {mu la : Nat} (hP : LoopP net kinds st mu la) (hT : mu + la ≤ 100000) (hr : RestP net kinds st mu la) : Ev (fun k => impl_EndsAt.f k net kinds st) (mu : Int) := by
  unfold impl_EndsAt.f
  exact Ev.bind (iAsk_yes h) (Ev.pos rfl (iEnds_l h hP hT (M := mu) (by omega) (fun m hm => hP.first hr hm) (.inl ⟨rfl, hr.2⟩) mu 0 (by omega)))
theorem iEnds_not {net : List Int} {kinds : Int} {st : List Int} (h : AskP net kinds st) {mu la : Nat} (hP : LoopP net kinds st mu la) (hT : mu + la ≤ 100000) (hr : ¬ RestP net kinds st mu la) : Ev (fun k => impl_EndsAt.f k net kinds st) (-1) := by
  unfold impl_EndsAt.f
  exact Ev.bind (iAsk_yes h) (Ev.pos rfl (iEnds_l h hP hT (M := mu + la) (by omega) (fun m _ e => hr (hP.rest e).1) (.inr ⟨rfl, rfl, fun e => hr (hP.rest e).1⟩) (mu + la) 0 (by omega)))
theorem iEnds_no {net : List Int} {kinds : Int} {st : List Int} (hl : st.length ≤ 35184372088832) (h : ¬ AskP net kinds st) : Ev (fun k => impl_EndsAt.f k net kinds st) (-1) := by
  unfold impl_EndsAt.f
  exact Ev.bind (iAsk_no hl h) (Ev.neg (by decide) (Ev.one rfl))
end Go.Proofs.Ytjofekchopgfbad.CFnTiredRests
