/- NetOk of the program returns what the reference's NetOk returns, for every net; the net that came in is left as it was. Conditions: none beyond those of the statement. -/
import Derived.Test.YtjhlllfkagaafaaCFnExactNetOk
namespace Go.Proofs.Ytjhlllfkagaafaa.Pure
open Go Go.RowKit Go.Proofs.Ytjhlllfkagaafaa.PFnExactNetOk Go.Proofs.YtjhlllfkagaafaaW.PrintWords Go.Proofs.YtjhlllfkagaafaaW.PrintLast Go.Proofs.Ytjhlllfkagaafaa.Pl Go.Proofs.Ytjhlllfkagaafaa.CFnExactNetOk

theorem FnExactNetOk : laws_FnExactNetOk.Pure := by
  intro net _ hl _
  refine Ev.rounds (?_ : Ev (fun k => laws_FnExactNetOk.f k net) true)
  unfold laws_FnExactNetOk.f
  by_cases hb : (net.length : Int) > 1048576
  · exact Ev.pos hb (Ev.one rfl)
  · have ht := toIntS_ev net (by omega)
    obtain ⟨b, hi, hi2⟩ := iNetOk_any net
    obtain ⟨c, hs, hs2⟩ := sNetOk_any net
    have e : b = c := by
      cases b <;> cases c <;> first | rfl | (exfalso; simp_all)
    subst e
    exact Ev.neg hb (Ev.bind ht (Ev.bind hs (Ev.bind ht (Ev.bind hi (Ev.neg (by simp) (Ev.bind ht (Ev.bind (eqIntS_ev net net (by omega)) (Ev.pos (by simp) (Ev.one rfl)))))))))
end Go.Proofs.Ytjhlllfkagaafaa.Pure
