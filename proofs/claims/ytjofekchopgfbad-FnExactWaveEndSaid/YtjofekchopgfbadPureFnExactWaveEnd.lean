/- WaveEnd of the program returns what the reference's WaveEnd returns, for every net, number of kinds and set, and leaves what came in as it was. Conditions: none beyond those of the statement. -/
import Derived.Test.YtjofekchopgfbadCFnExactWaveEnd
namespace Go.Proofs.Ytjofekchopgfbad.Pure
open Go Go.RowKit Go.Proofs.Ytjofekchopgfbad.PFnExactWaveEnd Go.Proofs.YtjofekchopgfbadW.PrintWords Go.Proofs.YtjofekchopgfbadW.PrintLast Go.Proofs.Ytjofekchopgfbad.Pl Go.Proofs.Ytjofekchopgfbad.CFnExactWaveEnd

theorem FnExactWaveEnd : laws_FnExactWaveEnd.Pure := by
  intro net kinds set _ hl _ _ _
  refine Ev.rounds (?_ : Ev (fun k => laws_FnExactWaveEnd.f k net kinds set) true)
  unfold laws_FnExactWaveEnd.f
  by_cases hb : (net.length : Int) > 1048576
  · exact Ev.pos hb (Ev.one rfl)
  have ht := toIntS_ev net (by omega)
  obtain ⟨r, hs, hi⟩ := wave_all net kinds set
  exact Ev.neg hb (Ev.bind ht (Ev.bind hs (Ev.bind ht (Ev.bind hi (Ev.pos rfl (Ev.bind ht (Ev.bind (eqIntS_ev net net (by omega)) (Ev.pos (by simp) (Ev.one rfl)))))))))
end Go.Proofs.Ytjofekchopgfbad.Pure
