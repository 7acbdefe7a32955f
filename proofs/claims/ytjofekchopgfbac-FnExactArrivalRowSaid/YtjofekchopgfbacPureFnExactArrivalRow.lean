/- ArrivalRow of the program returns what the reference's ArrivalRow returns, for every net, number of kinds and set; it is new each time, shares nothing with what came in, and leaves that as it was. Conditions: none beyond those of the statement. -/
import Derived.Test.YtjofekchopgfbacCFnExactArrivalRow
namespace Go.Proofs.Ytjofekchopgfbac.Pure
open Go Go.RowKit Go.Proofs.Ytjofekchopgfbac.PFnExactArrivalRow Go.Proofs.YtjofekchopgfbacW.PrintWords Go.Proofs.YtjofekchopgfbacW.PrintLast Go.Proofs.Ytjofekchopgfbac.Pl Go.Proofs.Ytjofekchopgfbac.CFnExactArrivalRow

theorem FnExactArrivalRow : laws_FnExactArrivalRow.Pure := by
  intro net kinds set _ hl _ _ _
  refine Ev.rounds (?_ : Ev (fun k => laws_FnExactArrivalRow.f k net kinds set) true)
  unfold laws_FnExactArrivalRow.f
  by_cases hb : (net.length : Int) > 1048576
  · exact Ev.pos hb (Ev.one rfl)
  have ht := toIntS_ev net (by omega)
  have key : ∃ r : List Int, r.length ≤ 6 ∧ Ev (fun k => spec_ArrivalRow.f k net kinds set) r ∧ Ev (fun k => impl_ArrivalRow.f k net kinds set) r := by
    by_cases h : NetP net ∧ 3 ≤ kinds ∧ kinds ≤ 5 ∧ InS net.length set
    · exact ⟨arrRow net kinds (litL net.length set), by rw [arr_len, lit_len]; exact h.1.2.1, sArr_yes h.1 h.2.1 h.2.2.1 h.2.2.2, iArr_yes h.1 h.2.1 h.2.2.1 h.2.2.2⟩
    · exact ⟨[], by simp, sArr_no h, iArr_no h⟩
  obtain ⟨r, h6, hs, hi⟩ := key
  have hm := markIntS_ev r (by omega) 1 (by omega) (by omega)
  have hh := heldIntS_ev r.length (by omega) 1 (by omega) (by omega)
  have hm2 := markIntS_ev net (by omega) 1 (by omega) (by omega)
  have hj : ∀ p : Bool, p = false → Ev (fun k => laws_FnExactArrivalRow.j0 k net kinds set r r p) true := by
    intro p hp
    refine Ev.step (fun k => laws_FnExactArrivalRow.j0.eq_2 ..) ?_
    exact Ev.neg (by rw [hp]; decide) (Ev.bind hm (Ev.bind hh (Ev.neg (by omega) (Ev.pos rfl (Ev.bind ht (Ev.bind hi (Ev.bind (eqIntS_ev r r (by omega)) (Ev.pos (by simp) (Ev.bind hh (Ev.neg (by omega) (Ev.pos rfl (Ev.one rfl))))))))))))
  exact Ev.neg hb (Ev.bind ht (Ev.bind hs (Ev.bind ht (Ev.bind hi (Ev.bind (eqIntS_ev r r (by omega)) (Ev.pos (by simp) (Ev.bind ht (Ev.bind (eqIntS_ev net net (by omega)) (Ev.pos (by simp) (Ev.bind hm2 (Ev.neg (by simp; omega) (Ev.bind (eqIntS_ev r r (by omega)) (hj _ (by simp))))))))))))))
end Go.Proofs.Ytjofekchopgfbac.Pure
