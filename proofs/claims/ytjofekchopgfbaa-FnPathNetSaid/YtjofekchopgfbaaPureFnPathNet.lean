/- A path is a net in which the distance from the first node is the place, at every drawn input. Conditions: none beyond those of the statement. -/
import Derived.Test.YtjofekchopgfbaaCFnPathNet
namespace Go.Proofs.Ytjofekchopgfbaa.Pure
open Go Go.RowKit Go.Proofs.Ytjofekchopgfbaa.PFnPathNet Go.Proofs.YtjofekchopgfbaaW.PrintWords Go.Proofs.YtjofekchopgfbaaW.PrintLast Go.Proofs.Ytjofekchopgfbaa.Pl Go.Proofs.Ytjofekchopgfbaa.CFnPathNet

theorem FnPathNet : laws_FnPathNet.Pure := by
  intro l _ hl hb
  refine Ev.rounds (?_ : Ev (fun k => laws_FnPathNet.f k l) true)
  unfold laws_FnPathNet.f
  by_cases hbig : (l.length : Int) > 1048576
  · exact Ev.pos hbig (Ev.one rfl)
  refine Ev.neg hbig ?_
  obtain ⟨a, hd, h0, h7⟩ := drawPath_ev hb
  refine Ev.bind hd ?_
  by_cases h : 1 ≤ a ∧ a ≤ 6
  · obtain ⟨m, rfl⟩ := Int.eq_ofNat_of_zero_le (show 0 ≤ a by omega)
    refine Ev.bind (iPath_yes (by omega) (by omega)) (Ev.bind (sPath_yes (by omega) (by omega)) ?_)
    have : m = 1 ∨ m = 2 ∨ m = 3 ∨ m = 4 ∨ m = 5 ∨ m = 6 := by omega
    rcases this with rfl | rfl | rfl | rfl | rfl | rfl
    · exact Ev.bind (sameInts_ev _ _ (by decide)) (Ev.pos (by simp) (Ev.neg (by decide) (Ev.bind (Ev.of (fun k => impl_DistancesFrom.mono _ _ k) (k := 120) (show impl_DistancesFrom.f 120 (pathL 1) 1 = some [0] by decide +kernel)) (Ev.of (fun k => laws_FnPathNet.mono_l k _ _ _ _) (k := 120) (by decide +kernel)))))
    · exact Ev.bind (sameInts_ev _ _ (by decide)) (Ev.pos (by simp) (Ev.neg (by decide) (Ev.bind (Ev.of (fun k => impl_DistancesFrom.mono _ _ k) (k := 120) (show impl_DistancesFrom.f 120 (pathL 2) 1 = some [0, 1] by decide +kernel)) (Ev.of (fun k => laws_FnPathNet.mono_l k _ _ _ _) (k := 120) (by decide +kernel)))))
    · exact Ev.bind (sameInts_ev _ _ (by decide)) (Ev.pos (by simp) (Ev.neg (by decide) (Ev.bind (Ev.of (fun k => impl_DistancesFrom.mono _ _ k) (k := 120) (show impl_DistancesFrom.f 120 (pathL 3) 1 = some [0, 1, 2] by decide +kernel)) (Ev.of (fun k => laws_FnPathNet.mono_l k _ _ _ _) (k := 120) (by decide +kernel)))))
    · exact Ev.bind (sameInts_ev _ _ (by decide)) (Ev.pos (by simp) (Ev.neg (by decide) (Ev.bind (Ev.of (fun k => impl_DistancesFrom.mono _ _ k) (k := 120) (show impl_DistancesFrom.f 120 (pathL 4) 1 = some [0, 1, 2, 3] by decide +kernel)) (Ev.of (fun k => laws_FnPathNet.mono_l k _ _ _ _) (k := 120) (by decide +kernel)))))
    · exact Ev.bind (sameInts_ev _ _ (by decide)) (Ev.pos (by simp) (Ev.neg (by decide) (Ev.bind (Ev.of (fun k => impl_DistancesFrom.mono _ _ k) (k := 120) (show impl_DistancesFrom.f 120 (pathL 5) 1 = some [0, 1, 2, 3, 4] by decide +kernel)) (Ev.of (fun k => laws_FnPathNet.mono_l k _ _ _ _) (k := 120) (by decide +kernel)))))
    · exact Ev.bind (sameInts_ev _ _ (by decide)) (Ev.pos (by simp) (Ev.neg (by decide) (Ev.bind (Ev.of (fun k => impl_DistancesFrom.mono _ _ k) (k := 120) (show impl_DistancesFrom.f 120 (pathL 6) 1 = some [0, 1, 2, 3, 4, 5] by decide +kernel)) (Ev.of (fun k => laws_FnPathNet.mono_l k _ _ _ _) (k := 120) (by decide +kernel)))))
  · refine Ev.bind (iPath_no h) (Ev.bind (sPath_no h) (Ev.bind (sameInts_ev _ _ (by simp)) (Ev.pos (by simp) (Ev.pos rfl ?_))))
    by_cases c : a < 1
    · exact Ev.pos c (Ev.bind alive_ev (Ev.now _))
    · exact Ev.neg c (Ev.pos (by omega) (Ev.bind alive_ev (Ev.now _)))
end Go.Proofs.Ytjofekchopgfbaa.Pure
