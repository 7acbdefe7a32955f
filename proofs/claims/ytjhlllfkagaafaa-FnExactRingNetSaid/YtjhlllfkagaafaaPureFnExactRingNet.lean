/- RingNet of the program returns what the reference's RingNet returns, for all numbers; what it returns is new each time. Conditions: none beyond those of the statement. -/
import Derived.Test.YtjhlllfkagaafaaCFnExactRingNet
namespace Go.Proofs.Ytjhlllfkagaafaa.Pure
open Go Go.RowKit Go.Proofs.Ytjhlllfkagaafaa.PFnExactRingNet Go.Proofs.YtjhlllfkagaafaaW.PrintWords Go.Proofs.YtjhlllfkagaafaaW.PrintLast Go.Proofs.Ytjhlllfkagaafaa.Pl Go.Proofs.Ytjhlllfkagaafaa.CFnExactRingNet

theorem FnExactRingNet : laws_FnExactRingNet.Pure := by
  intro a _
  refine Ev.rounds (?_ : Ev (fun k => laws_FnExactRingNet.f k a) true)
  unfold laws_FnExactRingNet.f
  have key : ∃ r : List Int, r.length ≤ 6 ∧ Ev (fun k => spec_RingNet.f k a) r ∧ Ev (fun k => impl_RingNet.f k a) r := by
    by_cases h : 3 ≤ a ∧ a ≤ 6
    · obtain ⟨m, rfl⟩ := Int.eq_ofNat_of_zero_le (show 0 ≤ a by omega)
      refine ⟨ringL m, ?_, sRing_yes (by omega) (by omega), iRing_yes (by omega) (by omega)⟩
      have : m = 3 ∨ m = 4 ∨ m = 5 ∨ m = 6 := by omega
      rcases this with rfl | rfl | rfl | rfl <;> decide
    · exact ⟨[], by simp, sRing_no h, iRing_no h⟩
  obtain ⟨r, h6, hs, hi⟩ := key
  have hm := markIntS_ev r (by omega) 1 (by omega) (by omega)
  have hh := heldIntS_ev r.length (by omega) 1 (by omega) (by omega)
  exact Ev.bind hs (Ev.bind hi (Ev.bind (eqIntS_ev r r (by omega)) (Ev.pos (by simp) (Ev.bind hm (Ev.bind hh (Ev.neg (by omega) (Ev.pos rfl (Ev.bind hi (Ev.bind (eqIntS_ev r r (by omega)) (Ev.pos (by simp) (Ev.bind hh (Ev.neg (by omega) (Ev.pos rfl (Ev.one rfl))))))))))))))
end Go.Proofs.Ytjhlllfkagaafaa.Pure
