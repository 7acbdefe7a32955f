/- Two nodes are of one part exactly if the one is come to from the other one, at every drawn input. Conditions: none beyond those of the statement. -/
import Derived.Test.YtjofekchopgfbadCFnPartsOf
namespace Go.Proofs.Ytjofekchopgfbad.Pure
open Go Go.RowKit Go.Proofs.Ytjofekchopgfbad.PFnPartsOf Go.Proofs.YtjofekchopgfbadW.PrintWords Go.Proofs.YtjofekchopgfbadW.PrintLast Go.Proofs.Ytjofekchopgfbad.Pl Go.Proofs.Ytjofekchopgfbad.CFnPartsOf

theorem pl_1 {net : List Int} (hn : NetP net) {i : Nat} (hi : i < net.length) (cont : Ev (fun k => laws_FnPartsOf.l0 k net (partRow net) ((i + 1 : Nat) : Int)) true) : ∀ (d j : Nat), j + d = net.length → Ev (fun k => laws_FnPartsOf.l1 k net (partRow net) (i : Int) (distRow net (2 ^ i)) (j : Int)) true := by
  have h6 := hn.2.1
  have hl := distRow_len net (2 ^ i)
  have hl2 := partRow_len net
  intro d
  induction d with
  | zero =>
    intro j hd
    refine Ev.step (fun k => laws_FnPartsOf.l1.eq_2 ..) ?_
    refine Ev.neg (by omega) ?_
    refine Ev.step (fun k => laws_FnPartsOf.j2.eq_2 ..) ?_
    rw [w64i i (by omega)]
    exact Ev.neg (by decide) cont
  | succ d ih =>
    intro j hd
    have hj : j < net.length := by omega
    have key : (rd (distRow net (2 ^ i)) (j : Int) ≥ 0) ↔ rd (partRow net) (j : Int) = rd (partRow net) (i : Int) := by
      rw [partRow_at hj, partRow_at hi, partOf_same hn hj hi]
      exact (rch_dist h6 hi hj).trans ⟨fun q => q.symm hn, fun q => q.symm hn⟩
    refine Ev.step (fun k => laws_FnPartsOf.l1.eq_2 ..) ?_
    refine Ev.pos (by omega) ?_
    refine Ev.step (fun k => laws_FnPartsOf.j2.eq_2 ..) ?_
    rw [w64i j (by omega)]
    refine Ev.pos (decide_eq_true (by omega)) (Ev.pos (by omega) (Ev.pos (by omega) (Ev.pos (by omega) (Ev.pos (by omega) (Ev.pos (by omega) (Ev.neg ?_ (ih (j + 1) (by omega))))))))
    by_cases c : rd (distRow net (2 ^ i)) (j : Int) ≥ 0
    · have := key.1 c; simp [c, this]
    · have c2 : ¬ rd (partRow net) (j : Int) = rd (partRow net) (i : Int) := fun q => c (key.2 q)
      simp only [c, decide_false, beq_eq_false_iff_ne.2 c2, bne_self_eq_false]; decide
theorem pl_0 {net : List Int} (hn : NetP net) : ∀ (d i : Nat), i + d = net.length → Ev (fun k => laws_FnPartsOf.l0 k net (partRow net) (i : Int)) true := by
  have h6 := hn.2.1
  intro d
  induction d with
  | zero =>
    intro i hd
    refine Ev.step (fun k => laws_FnPartsOf.l0.eq_2 ..) ?_
    exact Ev.neg (by omega) (Ev.one (by rw [partRow_len]; simp))
  | succ d ih =>
    intro i hd
    have e : shl .i64 1 (i : Int) = 2 ^ i := by rw [shl_one i (by omega)]; simp
    refine Ev.step (fun k => laws_FnPartsOf.l0.eq_2 ..) ?_
    refine Ev.pos (by omega) (Ev.pos (by omega) (Ev.bind (iDist_yes hn (InS.one (by omega) (show i < net.length by omega)).1) ?_))
    rw [e]
    exact pl_1 hn (by omega) (ih (i + 1) (by omega)) net.length 0 (by omega)
theorem FnPartsOf : laws_FnPartsOf.Pure := by
  intro l _ hl hb
  refine Ev.rounds (?_ : Ev (fun k => laws_FnPartsOf.f k l) true)
  unfold laws_FnPartsOf.f
  by_cases hbig : (l.length : Int) > 1048576
  · exact Ev.pos hbig (Ev.one rfl)
  refine Ev.neg hbig ?_
  obtain ⟨net, hd, hnl⟩ := drawPartsOf_ev hb
  refine Ev.bind hd ?_
  by_cases h : NetP net
  · have hlen := partRow_len net
    have := h.1
    exact Ev.bind (iParts_yes h) (Ev.bind (sParts_yes h) (Ev.bind (sameInts_ev (partRow net) (partRow net) (by omega)) (Ev.pos (by simp) (Ev.neg (by omega) (pl_0 h net.length 0 (by omega))))))
  · exact Ev.bind (iParts_no h) (Ev.bind (sParts_no h) (Ev.bind (sameInts_ev [] [] (by simp)) (Ev.pos (by simp) (Ev.pos rfl (Ev.bind (iNetOk_no h) (Ev.neg (by decide) (Ev.bind alive_ev (Ev.now _))))))))
end Go.Proofs.Ytjofekchopgfbad.Pure
