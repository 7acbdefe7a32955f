/- LitState of the program returns what the reference's LitState returns, for all numbers; what it returns is new each time. Conditions: none beyond those of the statement. -/
import Derived.Test.YtjhlllfkagaafaaCFnExactLitState
namespace Go.Proofs.Ytjhlllfkagaafaa.Pure
open Go Go.RowKit Go.Proofs.Ytjhlllfkagaafaa.PFnExactLitState Go.Proofs.YtjhlllfkagaafaaW.PrintWords Go.Proofs.YtjhlllfkagaafaaW.PrintLast Go.Proofs.Ytjhlllfkagaafaa.Pl Go.Proofs.Ytjhlllfkagaafaa.CFnExactLitState

theorem FnExactLitState : laws_FnExactLitState.Pure := by
  intro a s _ _
  refine Ev.rounds (?_ : Ev (fun k => laws_FnExactLitState.f k a s) true)
  unfold laws_FnExactLitState.f
  have key : ∃ r : List Int, r.length ≤ 6 ∧ Ev (fun k => spec_LitState.f k a s) r ∧ Ev (fun k => impl_LitState.f k a s) r := by
    by_cases h : ∃ n : Nat, a = n ∧ 1 ≤ n ∧ n ≤ 6 ∧ InS n s
    · obtain ⟨n, rfl, h1, h6, hs⟩ := h
      exact ⟨litL n s, by rw [litL, mkL_len]; exact h6, sLit_yes h1 h6 hs, iLit_yes h1 h6 hs⟩
    · exact ⟨[], by simp, sLit_no h, iLit_no h⟩
  obtain ⟨r, h6, hs, hi⟩ := key
  have hm := markIntS_ev r (by omega) 1 (by omega) (by omega)
  have hh := heldIntS_ev r.length (by omega) 1 (by omega) (by omega)
  exact Ev.bind hs (Ev.bind hi (Ev.bind (eqIntS_ev r r (by omega)) (Ev.pos (by simp) (Ev.bind hm (Ev.bind hh (Ev.neg (by omega) (Ev.pos rfl (Ev.bind hi (Ev.bind (eqIntS_ev r r (by omega)) (Ev.pos (by simp) (Ev.bind hh (Ev.neg (by omega) (Ev.pos rfl (Ev.one rfl))))))))))))))
end Go.Proofs.Ytjhlllfkagaafaa.Pure
