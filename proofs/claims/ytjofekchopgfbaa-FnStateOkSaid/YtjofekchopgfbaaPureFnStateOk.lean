/- All at rest is a state, for each number of nodes; a state of fewer kinds is one of more; at every drawn input. Conditions: none beyond those of the statement. -/
import Derived.Test.YtjofekchopgfbaaCFnStateOk
namespace Go.Proofs.Ytjofekchopgfbaa.Pure
open Go Go.RowKit Go.Proofs.Ytjofekchopgfbaa.PFnStateOk Go.Proofs.YtjofekchopgfbaaW.PrintWords Go.Proofs.YtjofekchopgfbaaW.PrintLast Go.Proofs.Ytjofekchopgfbaa.Pl Go.Proofs.Ytjofekchopgfbaa.CFnStateOk

theorem FnStateOk : laws_FnStateOk.Pure := by
  intro l _ hl hb
  refine Ev.rounds (?_ : Ev (fun k => laws_FnStateOk.f k l) true)
  unfold laws_FnStateOk.f
  by_cases hbig : (l.length : Int) > 1048576
  · exact Ev.pos hbig (Ev.one rfl)
  refine Ev.neg hbig ?_
  obtain ⟨kinds, st, hd, hst⟩ := drawStateOk_ev hb
  obtain ⟨b, hi, hi2⟩ := iStOk_any kinds st (by omega)
  obtain ⟨c, hs, hs2⟩ := sStOk_any kinds st (by omega)
  have e : b = c := by
    cases b <;> cases c <;> first | rfl | (exfalso; simp_all)
  subst e
  refine Ev.bind hd (Ev.bind hi (Ev.bind hs (Ev.neg (by simp) ?_)))
  by_cases hk : kinds < 3 ∨ 5 < kinds
  · have hbf : b = false := by
      cases b with
      | false => rfl
      | true => exfalso; have := hi2.1 rfl; have h1 := this.1; have h2 := this.2.1; omega
    subst hbf
    have hj : Ev (fun k => laws_FnStateOk.j0 k kinds st false true) true := by
      refine Ev.step (fun k => laws_FnStateOk.j0.eq_2 ..) ?_
      exact Ev.pos rfl (Ev.neg (by decide) (Ev.bind alive_ev (Ev.now _)))
    by_cases h3 : kinds < 3
    · exact Ev.pos h3 hj
    · refine Ev.neg h3 ?_
      rw [decide_eq_true (show kinds > 5 by omega)]
      exact hj
  · have h0 : StP kinds (List.replicate 6 0) := ⟨by omega, by omega, by simp, by simp, fun i hi => by rw [rd_rep _ _ _ (by simpa using hi)]; omega⟩
    have h1 : ¬ StP kinds [] := fun q => by have := q.2.2.1; simp at this
    refine Ev.neg (by omega) ?_
    rw [decide_eq_false (show ¬ kinds > 5 by omega)]
    refine Ev.step (fun k => laws_FnStateOk.j0.eq_2 ..) ?_
    refine Ev.neg (by decide) (Ev.pos (by omega) (Ev.bind (iStOk_yes h0) (Ev.pos rfl (Ev.bind (iStOk_no (by simp) h1) (Ev.neg (by decide) ?_)))))
    cases b with
    | false => exact Ev.neg (by decide) (Ev.bind alive_ev (Ev.now _))
    | true =>
      refine Ev.pos rfl ?_
      by_cases h5 : kinds = 5
      · exact Ev.pos h5 (Ev.bind alive_ev (Ev.now _))
      · have hS := hi2.1 rfl
        have h2 : StP (kinds + 1) st := ⟨by omega, by omega, hS.2.2.1, hS.2.2.2.1, fun i hi => by have := hS.2.2.2.2 i hi; omega⟩
        refine Ev.neg h5 ?_
        rw [w64 (x := kinds + 1) (by omega) (by omega)]
        exact Ev.bind (iStOk_yes h2) (Ev.pos rfl (Ev.bind alive_ev (Ev.now _)))
end Go.Proofs.Ytjofekchopgfbaa.Pure
