/- What comes to rest stays so, at every drawn input. Conditions: none beyond those of the statement. -/
import Derived.Test.YtjofekchopgfbaaCFnEndsAt
namespace Go.Proofs.Ytjofekchopgfbaa.Pure
open Go Go.RowKit Go.Proofs.Ytjofekchopgfbaa.PFnEndsAt Go.Proofs.YtjofekchopgfbaaW.PrintWords Go.Proofs.YtjofekchopgfbaaW.PrintLast Go.Proofs.Ytjofekchopgfbaa.Pl Go.Proofs.Ytjofekchopgfbaa.CFnEndsAt

theorem FnEndsAt : laws_FnEndsAt.Pure := by
  intro l _ hl hb
  refine Ev.rounds (?_ : Ev (fun k => laws_FnEndsAt.f k l) true)
  unfold laws_FnEndsAt.f
  by_cases hbig : (l.length : Int) > 1048576
  · exact Ev.pos hbig (Ev.one rfl)
  refine Ev.neg hbig ?_
  obtain ⟨net, kinds, st, hd, hnet, hst⟩ := drawEndsAt_ev hb
  refine Ev.bind hd ?_
  dsimp only
  by_cases h : AskP net kinds st
  · obtain ⟨mu, la, hP, hle⟩ := LoopP.ex h
    have h6 := h.2.1.2.2.2.1
    have h1 := h.2.1.2.2.1
    have hlen := h.2.2
    have hp := pow_kinds h.2.1.1 h.2.1.2.1 (i := st.length) h6
    have hla := hP.1
    have hs := sEnds_yes h hP (by omega)
    by_cases c : RestP net kinds st mu la
    · rw [if_pos c] at hs
      refine Ev.bind (iEnds_yes h hP (by omega) c) (Ev.bind hs (Ev.pos rfl (Ev.bind (iLoop_yes h hP (by omega)) (Ev.neg (by omega) (Ev.pos (by omega) (Ev.pos (by omega) (Ev.bind (Ev.now _) ?_)))))))
      rw [Int.toNat_natCast, show List.replicate net.length (0 : Int) = zeroL st.length by rw [hlen]; rfl]
      have hz : (zeroL st.length).length = st.length := by simp [zeroL]
      have ha : ∃ x : List Int, Ev (fun k => impl_FireRun.f k net kinds st (mu : Int)) x ∧ ((x = [] ∧ ¬ mu ≤ 60) ∨ x = zeroL st.length) := by
        by_cases q : mu ≤ 60
        · exact ⟨_, iRun_yes h q, .inr c.2⟩
        · exact ⟨_, iRun_no (by omega) (fun z => by omega), .inl ⟨rfl, q⟩⟩
      have hb' : ∃ y : List Int, Ev (fun k => impl_FireRun.f k net kinds st (wrap64 ((mu : Int) - 1))) y ∧ y.length ≤ 6 ∧ y ≠ zeroL st.length := by
        rw [w64 (by omega) (by omega)]
        have nil_ne : ([] : List Int) ≠ zeroL st.length := fun z => by have := congrArg List.length z; rw [hz] at this; simp at this; omega
        by_cases q : 1 ≤ mu ∧ mu ≤ 61
        · refine ⟨_, by rw [show (mu : Int) - 1 = ((mu - 1 : Nat) : Int) by omega]; exact iRun_yes h (by omega), by rw [runL_len]; omega, hP.first c (by omega)⟩
        · exact ⟨_, iRun_no (by omega) (fun z => by omega), by simp, nil_ne⟩
      obtain ⟨x, hx, hx2⟩ := ha
      obtain ⟨y, hy, hy6, hy2⟩ := hb'
      have hsame : Ev (fun k => laws_sameInts.f k y (zeroL st.length)) (decide (y = zeroL st.length)) := sameInts_ev _ _ (by omega)
      have fin : Ev (fun k => (laws_sameInts.f k y (zeroL st.length)).bind fun t => (some (!t) : Option Bool)) true := Ev.bind hsame (Ev.one (by rw [decide_eq_false hy2]; rfl))
      refine Ev.bind hx (Ev.bind hy (Ev.pos rfl (Ev.pos (by show (la : Int) = 1; rw [c.1]; rfl) ?_)))
      rcases hx2 with ⟨e, _⟩ | e
      · exact Ev.pos (by rw [e]; rfl) fin
      · rw [e]
        exact Ev.neg (by omega) (Ev.bind (sameInts_ev _ _ (by omega)) (Ev.pos (by simp) fin))
    · rw [if_neg c] at hs
      refine Ev.bind (iEnds_not h hP (by omega) c) (Ev.bind hs (Ev.pos rfl (Ev.bind (iLoop_yes h hP (by omega)) (Ev.pos (by decide) (Ev.pos rfl (Ev.neg (by show ¬ (mu : Int) < 0; omega) (Ev.pos ?_ (Ev.bind alive_ev (Ev.now _)))))))))
      show (la : Int) > 1
      exact Classical.byContradiction fun q => c (hP.still h (by omega))
  · exact Ev.bind (iEnds_no (by omega) h) (Ev.bind (sEnds_no (by omega) h) (Ev.pos rfl (Ev.bind (iLoop_no (by omega) h) (Ev.pos (by decide) (Ev.pos rfl (Ev.pos (by decide) (Ev.bind alive_ev (Ev.now _))))))))
end Go.Proofs.Ytjofekchopgfbaa.Pure
