/- LightsFor of the program returns what the reference's LightsFor returns, for every net and number of steps, and leaves what came in as it was. Conditions: none beyond those of the statement. -/
import Derived.Test.YtjofekchopgfbacCFnExactLightsFor
namespace Go.Proofs.Ytjofekchopgfbac.Pure
open Go Go.RowKit Go.Proofs.Ytjofekchopgfbac.PFnExactLightsFor Go.Proofs.YtjofekchopgfbacW.PrintWords Go.Proofs.YtjofekchopgfbacW.PrintLast Go.Proofs.Ytjofekchopgfbac.Pl Go.Proofs.Ytjofekchopgfbac.CFnExactLightsFor

theorem FnExactLightsFor : laws_FnExactLightsFor.Pure := by
  intro net steps _ hl _ _
  refine Ev.rounds (?_ : Ev (fun k => laws_FnExactLightsFor.f k net steps) true)
  unfold laws_FnExactLightsFor.f
  by_cases hb : (net.length : Int) > 1048576
  · exact Ev.pos hb (Ev.one rfl)
  have ht := toIntS_ev net (by omega)
  have key : ∃ r : Int, Ev (fun k => spec_LightsFor.f k net steps) r ∧ Ev (fun k => impl_LightsFor.f k net steps) r := by
    by_cases h : NetP net ∧ 0 ≤ steps
    · obtain ⟨b, hi, hB⟩ := iLF_yes h.1 h.2
      exact ⟨b, sLF_yes h.1 h.2 hB, hi⟩
    · exact ⟨-1, sLF_no h, iLF_no h⟩
  obtain ⟨r, hs, hi⟩ := key
  exact Ev.neg hb (Ev.bind ht (Ev.bind hs (Ev.bind ht (Ev.bind hi (Ev.pos rfl (Ev.bind ht (Ev.bind (eqIntS_ev net net (by omega)) (Ev.pos (by simp) (Ev.one rfl)))))))))
end Go.Proofs.Ytjofekchopgfbac.Pure
