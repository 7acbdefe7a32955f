/- For each node that is come to, its farthest is at most that of the node and the distance to it together, at every drawn input. Conditions: none beyond those of the statement. -/
import Derived.Test.YtjofekchopgfbacCFnFarthestOf
namespace Go.Proofs.Ytjofekchopgfbac.Pure
open Go Go.RowKit Go.Proofs.Ytjofekchopgfbac.PFnFarthestOf Go.Proofs.YtjofekchopgfbacW.PrintWords Go.Proofs.YtjofekchopgfbacW.PrintLast Go.Proofs.Ytjofekchopgfbac.Pl Go.Proofs.Ytjofekchopgfbac.CFnFarthestOf

theorem fl_0 {net : List Int} (hn : NetP net) {a : Nat} (ha : a < net.length) : ∀ (d i : Nat), i + d = net.length → Ev (fun k => laws_FnFarthestOf.l0 k net (farthest net a) (distRow net (2 ^ a)) (i : Int)) true := by
  have h6 := hn.2.1
  have hl := distRow_len net (2 ^ a)
  have hf := far_small hn ha
  intro d
  induction d with
  | zero =>
    intro i hd
    refine Ev.step (fun k => laws_FnFarthestOf.l0.eq_2 ..) ?_
    exact Ev.neg (by omega) (Ev.one (congrArg some (decide_eq_true hf.2)))
  | succ d ih =>
    intro i hd
    have hi : i < net.length := by omega
    have hge := maxI_ge (distRow net (2 ^ a)) net.length (by omega) i hi
    have hsm := dist_small (set := 2 ^ a) hi
    refine Ev.step (fun k => laws_FnFarthestOf.l0.eq_2 ..) ?_
    rw [w64i i (by omega), w64 (x := farthest net a + rd (distRow net (2 ^ a)) (i : Int)) (by omega) (by omega)]
    refine Ev.pos (by omega) (Ev.pos (by omega) (Ev.neg (by unfold farthest; omega) ?_))
    by_cases c : rd (distRow net (2 ^ a)) (i : Int) ≥ 0
    · have := far_tri hn ha hi c
      exact Ev.pos c (Ev.bind (iFar2_yes hn hi) (Ev.neg (by omega) (ih (i + 1) (by omega))))
    · exact Ev.neg c (ih (i + 1) (by omega))
theorem FnFarthestOf : laws_FnFarthestOf.Pure := by
  intro l _ hl hb
  refine Ev.rounds (?_ : Ev (fun k => laws_FnFarthestOf.f k l) true)
  unfold laws_FnFarthestOf.f
  by_cases hbig : (l.length : Int) > 1048576
  · exact Ev.pos hbig (Ev.one rfl)
  refine Ev.neg hbig ?_
  obtain ⟨net, x, hd, hnl⟩ := drawFarthestOf_ev hb
  refine Ev.bind hd ?_
  dsimp only
  by_cases h : NetP net ∧ 0 ≤ x ∧ x < net.length
  · obtain ⟨hn, h0, h1⟩ := h
    obtain ⟨a, rfl⟩ := Int.eq_ofNat_of_zero_le h0
    have ha : a < net.length := by omega
    have h6 := hn.2.1
    have hf := far_small hn ha
    have e : shl .i64 1 (a : Int) = 2 ^ a := by rw [shl_one a (by omega)]; simp
    refine Ev.bind (iFar2_yes hn ha) (Ev.bind (sFar2_yes hn ha) (Ev.pos rfl (Ev.neg (by omega) (Ev.pos (by omega) (Ev.bind (iDist_yes hn (InS.one (by omega) ha).1) ?_)))))
    rw [e]
    exact fl_0 hn ha net.length 0 (by omega)
  · exact Ev.bind (iFar2_no h) (Ev.bind (sFar2_no h) (Ev.pos rfl (Ev.pos (by omega) (Ev.pos rfl (Ev.bind alive_ev (Ev.now _))))))
end Go.Proofs.Ytjofekchopgfbac.Pure
