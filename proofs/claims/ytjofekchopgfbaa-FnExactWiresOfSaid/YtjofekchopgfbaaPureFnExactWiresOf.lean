/- WiresOf of the program returns what the reference's WiresOf returns, for every net; the net that came in is left as it was. Conditions: none beyond those of the statement. -/
import Derived.Test.YtjofekchopgfbaaCFnExactWiresOf
namespace Go.Proofs.Ytjofekchopgfbaa.Pure
open Go Go.RowKit Go.Proofs.Ytjofekchopgfbaa.PFnExactWiresOf Go.Proofs.YtjofekchopgfbaaW.PrintWords Go.Proofs.YtjofekchopgfbaaW.PrintLast Go.Proofs.Ytjofekchopgfbaa.Pl Go.Proofs.Ytjofekchopgfbaa.CFnExactWiresOf

theorem FnExactWiresOf : laws_FnExactWiresOf.Pure := by
  intro net _ hl _
  refine Ev.rounds (?_ : Ev (fun k => laws_FnExactWiresOf.f k net) true)
  unfold laws_FnExactWiresOf.f
  by_cases hb : (net.length : Int) > 1048576
  · exact Ev.pos hb (Ev.one rfl)
  · have ht := toIntS_ev net (by omega)
    have key : ∃ r, Ev (fun k => spec_WiresOf.f k net) r ∧ Ev (fun k => impl_WiresOf.f k net) r := by
      by_cases h : NetP net
      · exact ⟨_, sWires_yes h, iWires_yes h⟩
      · exact ⟨_, sWires_no h, iWires_no h⟩
    obtain ⟨r, hs, hi⟩ := key
    exact Ev.neg hb (Ev.bind ht (Ev.bind hs (Ev.bind ht (Ev.bind hi (Ev.pos rfl (Ev.bind ht (Ev.bind (eqIntS_ev net net (by omega)) (Ev.pos (by simp) (Ev.one rfl)))))))))
end Go.Proofs.Ytjofekchopgfbaa.Pure
