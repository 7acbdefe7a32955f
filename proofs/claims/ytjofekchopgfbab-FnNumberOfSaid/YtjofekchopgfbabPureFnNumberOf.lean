/- The state of a state's number is the state, and all at rest has the number 0, at every drawn input. Conditions: none beyond those of the statement. -/
import Derived.Test.YtjofekchopgfbabCFnNumberOf
namespace Go.Proofs.Ytjofekchopgfbab.Pure
open Go Go.RowKit Go.Proofs.Ytjofekchopgfbab.PFnNumberOf Go.Proofs.YtjofekchopgfbabW.PrintWords Go.Proofs.YtjofekchopgfbabW.PrintLast Go.Proofs.Ytjofekchopgfbab.Pl Go.Proofs.Ytjofekchopgfbab.CFnNumberOf

theorem FnNumberOf : laws_FnNumberOf.Pure := by
  intro l _ hl hb
  refine Ev.rounds (?_ : Ev (fun k => laws_FnNumberOf.f k l) true)
  unfold laws_FnNumberOf.f
  by_cases hbig : (l.length : Int) > 1048576
  · exact Ev.pos hbig (Ev.one rfl)
  refine Ev.neg hbig ?_
  obtain ⟨kinds, st, hd, hst⟩ := drawNumberOf_ev hb
  refine Ev.bind hd ?_
  dsimp only
  by_cases h : StP kinds st
  · have hk := h.1
    have hk5 := h.2.1
    have h1 := h.2.2.1
    have hbd := numL_bound (kinds := kinds) (by omega) st h.mem
    have hp := pow_kinds hk hk5 (i := st.length) hst
    have hof : stOf st.length kinds (numL kinds st) = st := by
      rw [stOf, if_neg (fun q => by have := (rest_pos (kinds := kinds) (by omega) st.length hbd.1).1 q; omega)]
      exact digN_numL (by omega) st h.mem
    have hS := iState_in hk hk5 (n := st.length) h1 hst (x := numL kinds st) hbd.1 (by omega)
    rw [hof] at hS
    have hz : StP kinds (List.replicate st.length 0) := ⟨hk, hk5, by simpa using h1, by simpa using hst, fun i hi => by rw [rd_rep _ _ _ (by simpa using hi)]; omega⟩
    refine Ev.bind (iNum_yes h) (Ev.bind (sNum_yes h) (Ev.pos rfl (Ev.neg (by omega) (Ev.bind hS (Ev.bind (sameInts_ev _ _ (by omega)) (Ev.pos (by simp) (Ev.pos (by omega) (Ev.pos (by omega) ?_))))))))
    rw [Int.toNat_natCast]
    exact Ev.bind (iNum_yes hz) (Ev.one (by rw [numL_zero]; rfl))
  · exact Ev.bind (iNum_no (by omega) h) (Ev.bind (sNum_no (by omega) h) (Ev.pos rfl (Ev.pos (by omega) (Ev.pos rfl (Ev.bind (iStOk_no (by omega) h) (Ev.neg (by decide) (Ev.bind alive_ev (Ev.now _))))))))
end Go.Proofs.Ytjofekchopgfbab.Pure
