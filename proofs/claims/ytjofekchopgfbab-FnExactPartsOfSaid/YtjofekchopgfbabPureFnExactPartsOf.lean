/- PartsOf of the program returns what the reference's PartsOf returns, for every net; it is new each time, shares nothing with the net that came in, and leaves that as it was. Conditions: none beyond those of the statement. -/
import Derived.Test.YtjofekchopgfbabCFnExactPartsOf
namespace Go.Proofs.Ytjofekchopgfbab.Pure
open Go Go.RowKit Go.Proofs.Ytjofekchopgfbab.PFnExactPartsOf Go.Proofs.YtjofekchopgfbabW.PrintWords Go.Proofs.YtjofekchopgfbabW.PrintLast Go.Proofs.Ytjofekchopgfbab.Pl Go.Proofs.Ytjofekchopgfbab.CFnExactPartsOf

theorem FnExactPartsOf : laws_FnExactPartsOf.Pure := by
  intro net _ hl _
  refine Ev.rounds (?_ : Ev (fun k => laws_FnExactPartsOf.f k net) true)
  unfold laws_FnExactPartsOf.f
  by_cases hb : (net.length : Int) > 1048576
  · exact Ev.pos hb (Ev.one rfl)
  · have ht := toIntS_ev net (by omega)
    have key : ∃ r : List Int, r.length ≤ 6 ∧ Ev (fun k => spec_PartsOf.f k net) r ∧ Ev (fun k => impl_PartsOf.f k net) r := by
      by_cases h : NetP net
      · exact ⟨partRow net, by rw [partRow_len]; exact h.2.1, sParts_yes h, iParts_yes h⟩
      · exact ⟨[], by simp, sParts_no h, iParts_no h⟩
    obtain ⟨r, h6, hs, hi⟩ := key
    have hm := markIntS_ev r (by omega) 1 (by omega) (by omega)
    have hh := heldIntS_ev r.length (by omega) 1 (by omega) (by omega)
    have hm2 := markIntS_ev net (by omega) 1 (by omega) (by omega)
    have hj : ∀ p : Bool, p = false → Ev (fun k => laws_FnExactPartsOf.j0 k net r r p) true := by
      intro p hp
      refine Ev.step (fun k => laws_FnExactPartsOf.j0.eq_2 ..) ?_
      exact Ev.neg (by rw [hp]; decide) (Ev.bind hm (Ev.bind hh (Ev.neg (by omega) (Ev.pos rfl (Ev.bind ht (Ev.bind hi (Ev.bind (eqIntS_ev r r (by omega)) (Ev.pos (by simp) (Ev.bind hh (Ev.neg (by omega) (Ev.pos rfl (Ev.one rfl))))))))))))
    exact Ev.neg hb (Ev.bind ht (Ev.bind hs (Ev.bind ht (Ev.bind hi (Ev.bind (eqIntS_ev r r (by omega)) (Ev.pos (by simp) (Ev.bind ht (Ev.bind (eqIntS_ev net net (by omega)) (Ev.pos (by simp) (Ev.bind hm2 (Ev.neg (by simp; omega) (Ev.bind (eqIntS_ev r r (by omega)) (hj _ (by simp))))))))))))))
end Go.Proofs.Ytjofekchopgfbab.Pure
