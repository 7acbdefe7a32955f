/- FarthestOf of the program returns what the reference's FarthestOf returns, for every net and node; the net that came in is left as it was. Conditions: none beyond those of the statement. -/
import Derived.Test.YtjofekchopgfbabCFnExactFarthestOf
namespace Go.Proofs.Ytjofekchopgfbab.Pure
open Go Go.RowKit Go.Proofs.Ytjofekchopgfbab.PFnExactFarthestOf Go.Proofs.YtjofekchopgfbabW.PrintWords Go.Proofs.YtjofekchopgfbabW.PrintLast Go.Proofs.Ytjofekchopgfbab.Pl Go.Proofs.Ytjofekchopgfbab.CFnExactFarthestOf

theorem FnExactFarthestOf : laws_FnExactFarthestOf.Pure := by
  intro net a _ hl _ ha
  refine Ev.rounds (?_ : Ev (fun k => laws_FnExactFarthestOf.f k net a) true)
  unfold laws_FnExactFarthestOf.f
  by_cases hb : (net.length : Int) > 1048576
  · exact Ev.pos hb (Ev.one rfl)
  · have ht := toIntS_ev net (by omega)
    have key : ∃ r, Ev (fun k => spec_FarthestOf.f k net a) r ∧ Ev (fun k => impl_FarthestOf.f k net a) r := by
      by_cases h : NetP net ∧ 0 ≤ a ∧ a < net.length
      · obtain ⟨n, rfl⟩ := Int.eq_ofNat_of_zero_le h.2.1
        exact ⟨_, sFar2_yes h.1 (by omega), iFar2_yes h.1 (by omega)⟩
      · exact ⟨_, sFar2_no h, iFar2_no h⟩
    obtain ⟨r, hs, hi⟩ := key
    exact Ev.neg hb (Ev.bind ht (Ev.bind hs (Ev.bind ht (Ev.bind hi (Ev.pos rfl (Ev.bind ht (Ev.bind (eqIntS_ev net net (by omega)) (Ev.pos (by simp) (Ev.one rfl)))))))))
end Go.Proofs.Ytjofekchopgfbab.Pure
