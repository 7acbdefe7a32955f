/- StateOf of the program returns what the reference's StateOf returns, for all numbers; what it returns is new each time. Conditions: none beyond those of the statement. -/
import Derived.Test.YtjhlllfkagaafaaCFnExactStateOf
namespace Go.Proofs.Ytjhlllfkagaafaa.Pure
open Go Go.RowKit Go.Proofs.Ytjhlllfkagaafaa.PFnExactStateOf Go.Proofs.YtjhlllfkagaafaaW.PrintWords Go.Proofs.YtjhlllfkagaafaaW.PrintLast Go.Proofs.Ytjhlllfkagaafaa.Pl Go.Proofs.Ytjhlllfkagaafaa.CFnExactStateOf

theorem FnExactStateOf : laws_FnExactStateOf.Pure := by
  intro a kinds x _ _ hx
  have hx1 : x < 9223372036854775808 := by
    have := hx
    simp only [Lit.wf, IntKind.min, IntKind.max, IntKind.signed, IntKind.bits, Bool.and_eq_true, decide_eq_true_eq, if_true] at this
    omega
  refine Ev.rounds (?_ : Ev (fun k => laws_FnExactStateOf.f k a kinds x) true)
  unfold laws_FnExactStateOf.f
  have key : ∃ r : List Int, r.length ≤ 6 ∧ Ev (fun k => spec_StateOf.f k a kinds x) r ∧ Ev (fun k => impl_StateOf.f k a kinds x) r := by
    by_cases h : 1 ≤ a ∧ a ≤ 6 ∧ 3 ≤ kinds ∧ kinds ≤ 5 ∧ 0 ≤ x
    · obtain ⟨m, rfl⟩ := Int.eq_ofNat_of_zero_le (show 0 ≤ a by omega)
      exact ⟨stOf m kinds x, by have := stOf_len m kinds x; omega, sState_in (by omega) (by omega) (by omega) (by omega) (by omega) hx1, iState_in (by omega) (by omega) (by omega) (by omega) (by omega) hx1⟩
    · exact ⟨[], by simp, sState_no h, iState_no h⟩
  obtain ⟨r, h6, hs, hi⟩ := key
  have hm := markIntS_ev r (by omega) 1 (by omega) (by omega)
  have hh := heldIntS_ev r.length (by omega) 1 (by omega) (by omega)
  exact Ev.bind hs (Ev.bind hi (Ev.bind (eqIntS_ev r r (by omega)) (Ev.pos (by simp) (Ev.bind hm (Ev.bind hh (Ev.neg (by omega) (Ev.pos rfl (Ev.bind hi (Ev.bind (eqIntS_ev r r (by omega)) (Ev.pos (by simp) (Ev.bind hh (Ev.neg (by omega) (Ev.pos rfl (Ev.one rfl))))))))))))))
end Go.Proofs.Ytjhlllfkagaafaa.Pure
