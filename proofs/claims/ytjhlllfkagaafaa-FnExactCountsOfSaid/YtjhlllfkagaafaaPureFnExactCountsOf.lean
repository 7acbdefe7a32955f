/- CountsOf of the program returns what the reference's CountsOf returns, for every number of kinds and every state; it is new each time, shares nothing with the state that came in, and leaves that as it was. Conditions: none beyond those of the statement. -/
import Derived.Test.YtjhlllfkagaafaaCFnExactCountsOf
namespace Go.Proofs.Ytjhlllfkagaafaa.Pure
open Go Go.RowKit Go.Proofs.Ytjhlllfkagaafaa.PFnExactCountsOf Go.Proofs.YtjhlllfkagaafaaW.PrintWords Go.Proofs.YtjhlllfkagaafaaW.PrintLast Go.Proofs.Ytjhlllfkagaafaa.Pl Go.Proofs.Ytjhlllfkagaafaa.CFnExactCountsOf

theorem FnExactCountsOf : laws_FnExactCountsOf.Pure := by
  intro kinds st _ _ hl _
  refine Ev.rounds (?_ : Ev (fun k => laws_FnExactCountsOf.f k kinds st) true)
  unfold laws_FnExactCountsOf.f
  by_cases hb : (st.length : Int) > 1048576
  · exact Ev.pos hb (Ev.one rfl)
  · have ht := toIntS_ev st (by omega)
    have key : ∃ r : List Int, r.length ≤ 6 ∧ Ev (fun k => spec_CountsOf.f k kinds st) r ∧ Ev (fun k => impl_CountsOf.f k kinds st) r := by
      by_cases h : StP kinds st
      · exact ⟨countL kinds st, by rw [countL, mkL_len]; have := h.2.1; omega, sCount_yes h, iCount_yes h⟩
      · exact ⟨[], by simp, sCount_no (by omega) h, iCount_no (by omega) h⟩
    obtain ⟨r, h6, hs, hi⟩ := key
    have hm := markIntS_ev r (by omega) 1 (by omega) (by omega)
    have hh := heldIntS_ev r.length (by omega) 1 (by omega) (by omega)
    have hm2 := markIntS_ev st (by omega) 1 (by omega) (by omega)
    have hj : ∀ p : Bool, p = false → Ev (fun k => laws_FnExactCountsOf.j0 k kinds st r r p) true := by
      intro p hp
      refine Ev.step (fun k => laws_FnExactCountsOf.j0.eq_2 ..) ?_
      exact Ev.neg (by rw [hp]; decide) (Ev.bind hm (Ev.bind hh (Ev.neg (by omega) (Ev.pos rfl (Ev.bind ht (Ev.bind hi (Ev.bind (eqIntS_ev r r (by omega)) (Ev.pos (by simp) (Ev.bind hh (Ev.neg (by omega) (Ev.pos rfl (Ev.one rfl))))))))))))
    exact Ev.neg hb (Ev.bind ht (Ev.bind hs (Ev.bind ht (Ev.bind hi (Ev.bind (eqIntS_ev r r (by omega)) (Ev.pos (by simp) (Ev.bind ht (Ev.bind (eqIntS_ev st st (by omega)) (Ev.pos (by simp) (Ev.bind hm2 (Ev.neg (by simp; omega) (Ev.bind (eqIntS_ev r r (by omega)) (hj _ (by simp))))))))))))))
end Go.Proofs.Ytjhlllfkagaafaa.Pure
