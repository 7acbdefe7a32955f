/- Each number has a state, whose number it is, at every drawn input. Conditions: none beyond those of the statement. -/
import Derived.Test.YtjofekchopgfbaaCFnStateOf
namespace Go.Proofs.Ytjofekchopgfbaa.Pure
open Go Go.RowKit Go.Proofs.Ytjofekchopgfbaa.PFnStateOf Go.Proofs.YtjofekchopgfbaaW.PrintWords Go.Proofs.YtjofekchopgfbaaW.PrintLast Go.Proofs.Ytjofekchopgfbaa.Pl Go.Proofs.Ytjofekchopgfbaa.CFnStateOf

theorem FnStateOf : laws_FnStateOf.Pure := by
  intro l _ hl hb
  refine Ev.rounds (?_ : Ev (fun k => laws_FnStateOf.f k l) true)
  unfold laws_FnStateOf.f
  by_cases hbig : (l.length : Int) > 1048576
  · exact Ev.pos hbig (Ev.one rfl)
  refine Ev.neg hbig ?_
  obtain ⟨a, kinds, x, hd, hx1⟩ := drawStateOf_ev hb
  refine Ev.bind hd ?_
  by_cases h : 1 ≤ a ∧ a ≤ 6 ∧ 3 ≤ kinds ∧ kinds ≤ 5 ∧ 0 ≤ x
  · obtain ⟨m, rfl⟩ := Int.eq_ofNat_of_zero_le (show 0 ≤ a by omega)
    have hi := iState_in (kinds := kinds) (by omega) (by omega) (n := m) (by omega) (by omega) (x := x) (by omega) hx1
    have hs := sState_in (kinds := kinds) (by omega) (by omega) (n := m) (by omega) (by omega) (x := x) (by omega) hx1
    have hlen := stOf_len m kinds x
    refine Ev.bind hi (Ev.bind hs (Ev.bind (sameInts_ev _ _ (by omega)) (Ev.pos (by simp) ?_)))
    by_cases c : 0 < restN kinds m x
    · have e : stOf m kinds x = [] := by rw [stOf, if_pos c]
      exact Ev.pos (by rw [e]; rfl) (Ev.bind alive_ev (Ev.now _))
    · have e : stOf m kinds x = digN kinds m x := by rw [stOf, if_neg c]
      have hlt : x < kinds ^ m := by have := mt (rest_pos (kinds := kinds) (by omega) m (x := x) (by omega)).2 c; omega
      have hS := digN_state (kinds := kinds) (by omega) (by omega) (n := m) (by omega) (by omega) (x := x) (by omega)
      have hN := numL_digN (kinds := kinds) (by omega) m (x := x) (by omega) hlt
      have hl' := digN_len kinds m x
      rw [e]
      exact Ev.neg (by rw [hl']; omega) (Ev.bind (iStOk_yes hS) (Ev.pos rfl (Ev.pos (by rw [hl']) (Ev.bind (iNum_yes hS) (Ev.one (by rw [hN]; simp))))))
  · refine Ev.bind (iState_no h) (Ev.bind (sState_no h) (Ev.bind (sameInts_ev _ _ (by simp)) (Ev.pos (by simp) (Ev.pos rfl (Ev.bind alive_ev (Ev.now _))))))
end Go.Proofs.Ytjofekchopgfbaa.Pure
