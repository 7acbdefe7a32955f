/- NumberOf of the program returns what the reference's NumberOf returns, for every number of kinds and every state; the state that came in is left as it was. Conditions: none beyond those of the statement. -/
import Derived.Test.YtjhlllfkagaafaaCFnExactNumberOf
namespace Go.Proofs.Ytjhlllfkagaafaa.Pure
open Go Go.RowKit Go.Proofs.Ytjhlllfkagaafaa.PFnExactNumberOf Go.Proofs.YtjhlllfkagaafaaW.PrintWords Go.Proofs.YtjhlllfkagaafaaW.PrintLast Go.Proofs.Ytjhlllfkagaafaa.Pl Go.Proofs.Ytjhlllfkagaafaa.CFnExactNumberOf

theorem FnExactNumberOf : laws_FnExactNumberOf.Pure := by
  intro kinds st _ _ hl _
  refine Ev.rounds (?_ : Ev (fun k => laws_FnExactNumberOf.f k kinds st) true)
  unfold laws_FnExactNumberOf.f
  by_cases hb : (st.length : Int) > 1048576
  · exact Ev.pos hb (Ev.one rfl)
  · have ht := toIntS_ev st (by omega)
    have key : ∃ r, Ev (fun k => spec_NumberOf.f k kinds st) r ∧ Ev (fun k => impl_NumberOf.f k kinds st) r := by
      by_cases h : StP kinds st
      · exact ⟨_, sNum_yes h, iNum_yes h⟩
      · exact ⟨_, sNum_no (by omega) h, iNum_no (by omega) h⟩
    obtain ⟨r, hs, hi⟩ := key
    exact Ev.neg hb (Ev.bind ht (Ev.bind hs (Ev.bind ht (Ev.bind hi (Ev.pos rfl (Ev.bind ht (Ev.bind (eqIntS_ev st st (by omega)) (Ev.pos (by simp) (Ev.one rfl)))))))))
end Go.Proofs.Ytjhlllfkagaafaa.Pure
