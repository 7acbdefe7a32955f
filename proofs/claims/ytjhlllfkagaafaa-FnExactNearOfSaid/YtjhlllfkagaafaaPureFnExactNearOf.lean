/- NearOf of the program returns what the reference's NearOf returns, for every net and set; the net that came in is left as it was. Conditions: none beyond those of the statement. -/
import Derived.Test.YtjhlllfkagaafaaCFnExactNearOf
namespace Go.Proofs.Ytjhlllfkagaafaa.Pure
open Go Go.RowKit Go.Proofs.Ytjhlllfkagaafaa.PFnExactNearOf Go.Proofs.YtjhlllfkagaafaaW.PrintWords Go.Proofs.YtjhlllfkagaafaaW.PrintLast Go.Proofs.Ytjhlllfkagaafaa.Pl Go.Proofs.Ytjhlllfkagaafaa.CFnExactNearOf

theorem FnExactNearOf : laws_FnExactNearOf.Pure := by
  intro net set _ hl _ _
  refine Ev.rounds (?_ : Ev (fun k => laws_FnExactNearOf.f k net set) true)
  unfold laws_FnExactNearOf.f
  by_cases hb : (net.length : Int) > 1048576
  · exact Ev.pos hb (Ev.one rfl)
  · have ht := toIntS_ev net (by omega)
    have key : ∃ r, Ev (fun k => spec_NearOf.f k net set) r ∧ Ev (fun k => impl_NearOf.f k net set) r := by
      by_cases h : NetP net ∧ InS net.length set
      · exact ⟨_, sNearOf_yes h.1 h.2, iNearOf_yes h.1 h.2⟩
      · exact ⟨_, sNearOf_no h, iNearOf_no h⟩
    obtain ⟨r, hs, hi⟩ := key
    refine Ev.neg hb (Ev.bind ht (Ev.bind hs (Ev.bind ht (Ev.bind hi (Ev.pos rfl (Ev.bind ht (Ev.bind (eqIntS_ev net net (by omega)) (Ev.pos (by simp) (Ev.one rfl)))))))))
end Go.Proofs.Ytjhlllfkagaafaa.Pure
