/- FewestLights of the program returns what the reference's FewestLights returns, for every net and number of steps, and leaves what came in as it was. Conditions: none beyond those of the statement. -/
import Derived.Test.YtjofekchopgfbacCFnExactFewestLights
namespace Go.Proofs.Ytjofekchopgfbac.Pure
open Go Go.RowKit Go.Proofs.Ytjofekchopgfbac.PFnExactFewestLights Go.Proofs.YtjofekchopgfbacW.PrintWords Go.Proofs.YtjofekchopgfbacW.PrintLast Go.Proofs.Ytjofekchopgfbac.Pl Go.Proofs.Ytjofekchopgfbac.CFnExactFewestLights

theorem FnExactFewestLights : laws_FnExactFewestLights.Pure := by
  intro net steps _ hl _ _
  refine Ev.rounds (?_ : Ev (fun k => laws_FnExactFewestLights.f k net steps) true)
  unfold laws_FnExactFewestLights.f
  by_cases hb : (net.length : Int) > 1048576
  · exact Ev.pos hb (Ev.one rfl)
  have ht := toIntS_ev net (by omega)
  have key : ∃ r : Int, Ev (fun k => spec_FewestLights.f k net steps) r ∧ Ev (fun k => impl_FewestLights.f k net steps) r := by
    by_cases h : NetP net ∧ 0 ≤ steps
    · obtain ⟨b, hi, hB⟩ := iFew_yes h.1 h.2
      exact ⟨_, sFew_yes h.1 h.2 hB, hi⟩
    · exact ⟨-1, sFew_no h, iFew_no h⟩
  obtain ⟨r, hs, hi⟩ := key
  exact Ev.neg hb (Ev.bind ht (Ev.bind hs (Ev.bind ht (Ev.bind hi (Ev.pos rfl (Ev.bind ht (Ev.bind (eqIntS_ev net net (by omega)) (Ev.pos (by simp) (Ev.one rfl)))))))))
end Go.Proofs.Ytjofekchopgfbac.Pure
