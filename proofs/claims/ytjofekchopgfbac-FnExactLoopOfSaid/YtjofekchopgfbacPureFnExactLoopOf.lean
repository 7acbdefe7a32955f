/- LoopOf of the program returns what the reference's LoopOf returns, for every net, number of kinds and state, and leaves what came in as it was. Conditions: none beyond those of the statement. -/
import Derived.Test.YtjofekchopgfbacCFnExactLoopOf
namespace Go.Proofs.Ytjofekchopgfbac.Pure
open Go Go.RowKit Go.Proofs.Ytjofekchopgfbac.PFnExactLoopOf Go.Proofs.YtjofekchopgfbacW.PrintWords Go.Proofs.YtjofekchopgfbacW.PrintLast Go.Proofs.Ytjofekchopgfbac.Pl Go.Proofs.Ytjofekchopgfbac.CFnExactLoopOf

theorem FnExactLoopOf : laws_FnExactLoopOf.Pure := by
  intro net kinds st _ hl _ _ _ hl2 _
  refine Ev.rounds (?_ : Ev (fun k => laws_FnExactLoopOf.f k net kinds st) true)
  unfold laws_FnExactLoopOf.f
  by_cases hb : (net.length : Int) > 1048576
  · exact Ev.pos hb (Ev.one rfl)
  by_cases hb2 : (st.length : Int) > 1048576
  · exact Ev.neg hb (Ev.pos hb2 (Ev.one rfl))
  have ht := toIntS_ev net (by omega)
  have ht2 := toIntS_ev st (by omega)
  obtain ⟨a, b, hs, hi⟩ := loop_all (net := net) (kinds := kinds) (st := st) (by omega)
  have hj : ∀ p : Bool, p = false → Ev (fun k => laws_FnExactLoopOf.j0 k net st net st p) true := by
    intro p hp
    refine Ev.step (fun k => laws_FnExactLoopOf.j0.eq_2 ..) ?_
    exact Ev.neg (by rw [hp]; decide) (Ev.bind ht (Ev.bind (eqIntS_ev net net (by omega)) (Ev.pos (by simp) (Ev.bind ht2 (Ev.bind (eqIntS_ev st st (by omega)) (Ev.pos (by simp) (Ev.one rfl)))))))
  exact Ev.neg hb (Ev.neg hb2 (Ev.bind ht (Ev.bind ht2 (Ev.bind hs (Ev.bind ht (Ev.bind ht2 (Ev.bind hi (Ev.pos rfl (hj _ (by simp))))))))))
end Go.Proofs.Ytjofekchopgfbac.Pure
