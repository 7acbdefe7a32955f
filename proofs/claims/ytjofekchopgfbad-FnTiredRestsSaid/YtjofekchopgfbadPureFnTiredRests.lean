/- Without fire all comes to rest, at every drawn input. Conditions: none beyond those of the statement. -/
import Derived.Test.YtjofekchopgfbadCFnTiredRests
namespace Go.Proofs.Ytjofekchopgfbad.Pure
open Go Go.RowKit Go.Proofs.Ytjofekchopgfbad.PFnTiredRests Go.Proofs.YtjofekchopgfbadW.PrintWords Go.Proofs.YtjofekchopgfbadW.PrintLast Go.Proofs.Ytjofekchopgfbad.Pl Go.Proofs.Ytjofekchopgfbad.CFnTiredRests

theorem tired_run {net : List Int} {kinds : Int} {st : List Int} (h : AskP net kinds st) (hno : ∀ i : Nat, i < st.length → rd st (i : Int) ≠ 1) : ∀ s : Nat, ∀ i : Nat, i < st.length →
    rd (runL net kinds st s) (i : Int) = if rd st (i : Int) = 0 ∨ kinds ≤ rd st (i : Int) + s then 0 else rd st (i : Int) + s := by
  have hk := h.2.1.1
  intro s
  induction s with
  | zero =>
    intro i hi
    have := h.2.1.2.2.2.2 i hi
    show rd st (i : Int) = _
    split <;> omega
  | succ s ih =>
    intro i hi
    have hv := h.2.1.2.2.2.2 i hi
    have hn1 := hno i hi
    have e : rd (runL net kinds st (s + 1)) (i : Int) = stepAt net kinds (runL net kinds st s) i := stepL_at (by rw [runL_len]; exact hi)
    have nf : ¬ Fires net (runL net kinds st s) i := by
      rintro ⟨j, hj, _, q⟩
      rw [runL_len] at hj
      have hj1 := hno j hj
      have hjv := h.2.1.2.2.2.2 j hj
      rw [ih j hj] at q
      split at q <;> omega
    have hi' := ih i hi
    by_cases c : rd st (i : Int) = 0 ∨ kinds ≤ rd st (i : Int) + s
    · rw [if_pos c] at hi'
      rw [e, stepAt_rest (by omega) nf, if_pos (by omega)]
    · rw [if_neg c] at hi'
      rw [e, stepAt_up (by omega), hi']
      by_cases q : rd st (i : Int) + s + 1 < kinds
      · rw [Int.emod_eq_of_lt (by omega) q, if_neg (by omega)]; omega
      · rw [show rd st (i : Int) + s + 1 = kinds by omega, Int.emod_self, if_pos (by omega)]
theorem FnTiredRests : laws_FnTiredRests.Pure := by
  intro l _ hl hb
  refine Ev.rounds (?_ : Ev (fun k => laws_FnTiredRests.f k l) true)
  unfold laws_FnTiredRests.f
  by_cases hbig : (l.length : Int) > 1048576
  · exact Ev.pos hbig (Ev.one rfl)
  refine Ev.neg hbig ?_
  obtain ⟨net, kinds, st, hd, hnet, hst, hk3⟩ := drawEndsAt_ev3 hb
  refine Ev.bind hd ?_
  dsimp only
  have hj : Ev (fun k => laws_FnTiredRests.j0 k net kinds st true) true := by
    refine Ev.step (fun k => laws_FnTiredRests.j0.eq_2 ..) ?_
    exact Ev.pos rfl (Ev.bind alive_ev (Ev.now _))
  by_cases hs : StP kinds st
  · have hk := hs.1
    have hk5 := hs.2.1
    have hlen : ((countL kinds st).length : Int) = kinds := by rw [countL, mkL_len]; omega
    refine Ev.bind (iCount_yes hs) (Ev.pos hlen (Ev.pos (by omega) ?_))
    by_cases c : rd (countL kinds st) 1 > 0
    · exact Ev.pos c hj
    · refine Ev.neg c ?_
      by_cases h : AskP net kinds st
      · have h6 := hs.2.2.2.1
        have h1 := hs.2.2.1
        have hsl := stepL_len net kinds st
        refine Ev.bind (iFire_yes h) ?_
        refine Ev.step (fun k => laws_FnTiredRests.j0.eq_2 ..) ?_
        refine Ev.neg ?_ ?_
        · rw [hsl, beq_eq_false_iff_ne.2 (by omega)]; decide
        have hno : ∀ i : Nat, i < st.length → rd st (i : Int) ≠ 1 := by
          intro i hi e
          have e1 : rd (countL kinds st) 1 = countI st 1 st.length := rd_mkL (fun c => countI st (c : Int) st.length) kinds.toNat 1 (by omega)
          rw [e1] at c
          have pos : ∀ m : Nat, i < m → 0 < countI st 1 m := by
            intro m
            induction m with
            | zero => intro q; omega
            | succ m ih =>
              intro q
              have := (countI_range st 1 m).1
              simp only [countI]
              by_cases z : i = m
              · rw [← z, if_pos e]; rw [← z] at this; omega
              · have := ih (by omega); split <;> omega
          exact c (pos st.length hi)
        obtain ⟨mu, la, hP, hle⟩ := LoopP.ex h
        have hp := pow_kinds hk hk5 (i := st.length) h6
        have hz : runL net kinds st (kinds - 2).toNat = zeroL st.length := by
          refine rd_ext (by rw [runL_len]; simp [zeroL]) (fun i hi => ?_)
          rw [runL_len] at hi
          have hv := hs.2.2.2.2 i hi
          have hn1 := hno i hi
          rw [tired_run h hno _ i hi, zeroL, rd_rep _ _ _ hi, if_pos (by omega)]
        obtain ⟨hr, hmu⟩ := hP.rest hz
        refine Ev.bind (iEnds_yes h hP (by omega) hr) (Ev.bind alive_ev (Ev.pos rfl (Ev.pos (by omega) (Ev.one (congrArg some ?_)))))
        rw [w64 (by omega) (by omega)]
        exact decide_eq_true (by omega)
      · exact Ev.bind (iFire_no (by omega) h) hj
  · refine Ev.bind (iCount_no (by omega) hs) ?_
    exact Ev.neg (by simp; omega) hj
end Go.Proofs.Ytjofekchopgfbad.Pure
