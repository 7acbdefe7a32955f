/- DistancesFrom of the program returns what the reference's DistancesFrom returns, for every net and set; it is new each time, shares nothing with the net that came in, and leaves that as it was. Conditions: none beyond those of the statement. -/
import Derived.Test.YtjofekchopgfbabCFnExactDistancesFrom
namespace Go.Proofs.Ytjofekchopgfbab.Pure
open Go Go.RowKit Go.Proofs.Ytjofekchopgfbab.PFnExactDistancesFrom Go.Proofs.YtjofekchopgfbabW.PrintWords Go.Proofs.YtjofekchopgfbabW.PrintLast Go.Proofs.Ytjofekchopgfbab.Pl Go.Proofs.Ytjofekchopgfbab.CFnExactDistancesFrom

theorem FnExactDistancesFrom : laws_FnExactDistancesFrom.Pure := by
  intro net set _ hl _ _
  refine Ev.rounds (?_ : Ev (fun k => laws_FnExactDistancesFrom.f k net set) true)
  unfold laws_FnExactDistancesFrom.f
  by_cases hb : (net.length : Int) > 1048576
  · exact Ev.pos hb (Ev.one rfl)
  · have ht := toIntS_ev net (by omega)
    have key : ∃ r : List Int, r.length ≤ 6 ∧ Ev (fun k => spec_DistancesFrom.f k net set) r ∧ Ev (fun k => impl_DistancesFrom.f k net set) r := by
      by_cases h : NetP net ∧ InS net.length set
      · exact ⟨distRow net set, by rw [distRow_len]; exact h.1.2.1, sDist_yes h.1 h.2, iDist_yes h.1 h.2⟩
      · exact ⟨[], by simp, sDist_no h, iDist_no h⟩
    obtain ⟨r, h6, hs, hi⟩ := key
    have hm := markIntS_ev r (by omega) 1 (by omega) (by omega)
    have hh := heldIntS_ev r.length (by omega) 1 (by omega) (by omega)
    have hm2 := markIntS_ev net (by omega) 1 (by omega) (by omega)
    have hj : ∀ p : Bool, p = false → Ev (fun k => laws_FnExactDistancesFrom.j0 k net set r r p) true := by
      intro p hp
      refine Ev.step (fun k => laws_FnExactDistancesFrom.j0.eq_2 ..) ?_
      exact Ev.neg (by rw [hp]; decide) (Ev.bind hm (Ev.bind hh (Ev.neg (by omega) (Ev.pos rfl (Ev.bind ht (Ev.bind hi (Ev.bind (eqIntS_ev r r (by omega)) (Ev.pos (by simp) (Ev.bind hh (Ev.neg (by omega) (Ev.pos rfl (Ev.one rfl))))))))))))
    exact Ev.neg hb (Ev.bind ht (Ev.bind hs (Ev.bind ht (Ev.bind hi (Ev.bind (eqIntS_ev r r (by omega)) (Ev.pos (by simp) (Ev.bind ht (Ev.bind (eqIntS_ev net net (by omega)) (Ev.pos (by simp) (Ev.bind hm2 (Ev.neg (by simp; omega) (Ev.bind (eqIntS_ev r r (by omega)) (hj _ (by simp))))))))))))))
end Go.Proofs.Ytjofekchopgfbab.Pure
