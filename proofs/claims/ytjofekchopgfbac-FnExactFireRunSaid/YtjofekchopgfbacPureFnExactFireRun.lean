/- FireRun of the program returns what the reference's FireRun returns, for every net, number of kinds, state and number of steps; it is new each time, shares nothing with what came in, and leaves that as it was. Conditions: none beyond those of the statement. -/
import Derived.Test.YtjofekchopgfbacCFnExactFireRun
namespace Go.Proofs.Ytjofekchopgfbac.Pure
open Go Go.RowKit Go.Proofs.Ytjofekchopgfbac.PFnExactFireRun Go.Proofs.YtjofekchopgfbacW.PrintWords Go.Proofs.YtjofekchopgfbacW.PrintLast Go.Proofs.Ytjofekchopgfbac.Pl Go.Proofs.Ytjofekchopgfbac.CFnExactFireRun

theorem FnExactFireRun : laws_FnExactFireRun.Pure := by
  intro net kinds st s _ hl _ _ _ hl2 _ _
  refine Ev.rounds (?_ : Ev (fun k => laws_FnExactFireRun.f k net kinds st s) true)
  unfold laws_FnExactFireRun.f
  by_cases hb : (net.length : Int) > 1048576
  · exact Ev.pos hb (Ev.one rfl)
  by_cases hb2 : (st.length : Int) > 1048576
  · exact Ev.neg hb (Ev.pos hb2 (Ev.one rfl))
  have ht := toIntS_ev net (by omega)
  have ht2 := toIntS_ev st (by omega)
  have key : ∃ r : List Int, r.length ≤ 6 ∧ Ev (fun k => spec_FireRun.f k net kinds st s) r ∧ Ev (fun k => impl_FireRun.f k net kinds st s) r := by
    by_cases h : AskP net kinds st ∧ 0 ≤ s ∧ s ≤ 60
    · obtain ⟨n, rfl⟩ := Int.eq_ofNat_of_zero_le h.2.1
      exact ⟨runL net kinds st n, by rw [runL_len]; exact h.1.2.1.2.2.2.1, sRun_yes h.1 (by omega), iRun_yes h.1 (by omega)⟩
    · exact ⟨[], by simp, sRun_no (by omega) h, iRun_no (by omega) h⟩
  obtain ⟨r, h6, hs, hi⟩ := key
  have hm := markIntS_ev r (by omega) 1 (by omega) (by omega)
  have hh := heldIntS_ev r.length (by omega) 1 (by omega) (by omega)
  have hm2 := markIntS_ev net (by omega) 1 (by omega) (by omega)
  have hm3 := markIntS_ev st (by omega) (1 + (net.length : Int)) (by omega) (by omega)
  have hj : ∀ p : Bool, p = false → Ev (fun k => laws_FnExactFireRun.j0 k net kinds st s r r p) true := by
    intro p hp
    refine Ev.step (fun k => laws_FnExactFireRun.j0.eq_2 ..) ?_
    exact Ev.neg (by rw [hp]; decide) (Ev.bind hm (Ev.bind hh (Ev.neg (by omega) (Ev.pos rfl (Ev.bind ht (Ev.bind ht2 (Ev.bind hi (Ev.bind (eqIntS_ev r r (by omega)) (Ev.pos (by simp) (Ev.bind hh (Ev.neg (by omega) (Ev.pos rfl (Ev.one rfl)))))))))))))
  exact Ev.neg hb (Ev.neg hb2 (Ev.bind ht (Ev.bind ht2 (Ev.bind hs (Ev.bind ht (Ev.bind ht2 (Ev.bind hi (Ev.bind (eqIntS_ev r r (by omega)) (Ev.pos (by simp) (Ev.bind ht (Ev.bind (eqIntS_ev net net (by omega)) (Ev.pos (by simp) (Ev.bind ht2 (Ev.bind (eqIntS_ev st st (by omega)) (Ev.pos (by simp) (Ev.bind hm2 (Ev.bind hm3 (Ev.neg (by simp; omega) (Ev.bind (eqIntS_ev r r (by omega)) (hj _ (by simp)))))))))))))))))))))
end Go.Proofs.Ytjofekchopgfbac.Pure
