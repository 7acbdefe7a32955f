/- FireStep of the program returns what the reference's FireStep returns, for every net, number of kinds and state; it is new each time, shares nothing with what came in, and leaves that as it was. Conditions: none beyond those of the statement. -/
import Derived.Test.YtjofekchopgfbabCFnExactFireStep
namespace Go.Proofs.Ytjofekchopgfbab.Pure
open Go Go.RowKit Go.Proofs.Ytjofekchopgfbab.PFnExactFireStep Go.Proofs.YtjofekchopgfbabW.PrintWords Go.Proofs.YtjofekchopgfbabW.PrintLast Go.Proofs.Ytjofekchopgfbab.Pl Go.Proofs.Ytjofekchopgfbab.CFnExactFireStep

theorem FnExactFireStep : laws_FnExactFireStep.Pure := by
  intro net kinds st _ hl _ _ _ hl2 _
  refine Ev.rounds (?_ : Ev (fun k => laws_FnExactFireStep.f k net kinds st) true)
  unfold laws_FnExactFireStep.f
  by_cases hb : (net.length : Int) > 1048576
  · exact Ev.pos hb (Ev.one rfl)
  by_cases hb2 : (st.length : Int) > 1048576
  · exact Ev.neg hb (Ev.pos hb2 (Ev.one rfl))
  have ht := toIntS_ev net (by omega)
  have ht2 := toIntS_ev st (by omega)
  have key : ∃ r : List Int, r.length ≤ 6 ∧ Ev (fun k => spec_FireStep.f k net kinds st) r ∧ Ev (fun k => impl_FireStep.f k net kinds st) r := by
    by_cases h : AskP net kinds st
    · exact ⟨stepL net kinds st, by rw [stepL_len]; exact h.2.1.2.2.2.1, sFire_yes h, iFire_yes h⟩
    · exact ⟨[], by simp, sFire_no (by omega) h, iFire_no (by omega) h⟩
  obtain ⟨r, h6, hs, hi⟩ := key
  have hm := markIntS_ev r (by omega) 1 (by omega) (by omega)
  have hh := heldIntS_ev r.length (by omega) 1 (by omega) (by omega)
  have hm2 := markIntS_ev net (by omega) 1 (by omega) (by omega)
  have hm3 := markIntS_ev st (by omega) (1 + (net.length : Int)) (by omega) (by omega)
  have hj : ∀ p : Bool, p = false → Ev (fun k => laws_FnExactFireStep.j0 k net kinds st r r p) true := by
    intro p hp
    refine Ev.step (fun k => laws_FnExactFireStep.j0.eq_2 ..) ?_
    exact Ev.neg (by rw [hp]; decide) (Ev.bind hm (Ev.bind hh (Ev.neg (by omega) (Ev.pos rfl (Ev.bind ht (Ev.bind ht2 (Ev.bind hi (Ev.bind (eqIntS_ev r r (by omega)) (Ev.pos (by simp) (Ev.bind hh (Ev.neg (by omega) (Ev.pos rfl (Ev.one rfl)))))))))))))
  exact Ev.neg hb (Ev.neg hb2 (Ev.bind ht (Ev.bind ht2 (Ev.bind hs (Ev.bind ht (Ev.bind ht2 (Ev.bind hi (Ev.bind (eqIntS_ev r r (by omega)) (Ev.pos (by simp) (Ev.bind ht (Ev.bind (eqIntS_ev net net (by omega)) (Ev.pos (by simp) (Ev.bind ht2 (Ev.bind (eqIntS_ev st st (by omega)) (Ev.pos (by simp) (Ev.bind hm2 (Ev.bind hm3 (Ev.neg (by simp; omega) (Ev.bind (eqIntS_ev r r (by omega)) (hj _ (by simp)))))))))))))))))))))
end Go.Proofs.Ytjofekchopgfbab.Pure
