/- StateOk of the program returns what the reference's StateOk returns, for every number of kinds and every state; the state that came in is left as it was. Conditions: none beyond those of the statement. -/
import Derived.Test.YtjhlllfkagaafaaCFnExactStateOk
namespace Go.Proofs.Ytjhlllfkagaafaa.Pure
open Go Go.RowKit Go.Proofs.Ytjhlllfkagaafaa.PFnExactStateOk Go.Proofs.YtjhlllfkagaafaaW.PrintWords Go.Proofs.YtjhlllfkagaafaaW.PrintLast Go.Proofs.Ytjhlllfkagaafaa.Pl Go.Proofs.Ytjhlllfkagaafaa.CFnExactStateOk

theorem FnExactStateOk : laws_FnExactStateOk.Pure := by
  intro kinds st _ _ hl _
  refine Ev.rounds (?_ : Ev (fun k => laws_FnExactStateOk.f k kinds st) true)
  unfold laws_FnExactStateOk.f
  by_cases hb : (st.length : Int) > 1048576
  · exact Ev.pos hb (Ev.one rfl)
  · have ht := toIntS_ev st (by omega)
    obtain ⟨b, hi, hi2⟩ := iStOk_any kinds st (by omega)
    obtain ⟨c, hs, hs2⟩ := sStOk_any kinds st (by omega)
    have e : b = c := by
      cases b <;> cases c <;> first | rfl | (exfalso; simp_all)
    subst e
    exact Ev.neg hb (Ev.bind ht (Ev.bind hs (Ev.bind ht (Ev.bind hi (Ev.neg (by simp) (Ev.bind ht (Ev.bind (eqIntS_ev st st (by omega)) (Ev.pos (by simp) (Ev.one rfl)))))))))
end Go.Proofs.Ytjhlllfkagaafaa.Pure
