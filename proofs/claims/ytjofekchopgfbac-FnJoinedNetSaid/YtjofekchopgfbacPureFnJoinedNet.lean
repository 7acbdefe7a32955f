/- Side by side nets do not touch, and the nodes of the second one are as far from each other as before, at every drawn input. Conditions: none beyond those of the statement. -/
import Derived.Test.YtjofekchopgfbacCFnJoinedNet
namespace Go.Proofs.Ytjofekchopgfbac.Pure
open Go Go.RowKit Go.Proofs.Ytjofekchopgfbac.PFnJoinedNet Go.Proofs.YtjofekchopgfbacW.PrintWords Go.Proofs.YtjofekchopgfbacW.PrintLast Go.Proofs.Ytjofekchopgfbac.Pl Go.Proofs.Ytjofekchopgfbac.CFnJoinedNet

theorem jl_0 {a b : List Int} (ha : NetP a) (hb : NetP b) (h6 : a.length + b.length ≤ 6) : ∀ (d i : Nat), i + d = b.length → Ev (fun k => laws_FnJoinedNet.l0 k a b (jo a b) (distRow (jo a b) (2 ^ a.length - 1)) (distRow (jo a b) (2 ^ a.length)) (distRow b 1) (i : Int)) true := by
  have hl := distRow_len (jo a b) (2 ^ a.length - 1)
  have hl2 := distRow_len (jo a b) (2 ^ a.length)
  have hl3 := distRow_len b 1
  have hjl := jo_len a b
  intro d
  induction d with
  | zero =>
    intro i hd
    refine Ev.step (fun k => laws_FnJoinedNet.l0.eq_2 ..) ?_
    refine Ev.neg (by omega) ?_
    refine Ev.step (fun k => laws_FnJoinedNet.j2.eq_2 ..) ?_
    rw [w64 (x := (a.length : Int) + (b.length : Int)) (by omega) (by omega)]
    exact Ev.neg (by decide) (Ev.bind (iNetOk_yes (jo_net ha hb h6)) (Ev.pos rfl (Ev.pos (by omega) (Ev.one (by rw [hl]; simp)))))
  | succ d ih =>
    intro i hd
    have hi : i < b.length := by omega
    have e : wrap64 ((a.length : Int) + (i : Int)) = ((a.length + i : Nat) : Int) := by rw [w64 (by omega) (by omega)]; omega
    refine Ev.step (fun k => laws_FnJoinedNet.l0.eq_2 ..) ?_
    refine Ev.pos (by omega) (Ev.pos (by omega) (Ev.pos (by omega) ?_))
    refine Ev.step (fun k => laws_FnJoinedNet.j2.eq_2 ..) ?_
    rw [e, w64i i (by omega), jo_dist1 ha hi, jo_dist2 ha hb h6 hi]
    exact Ev.pos (by rw [hl3]; simp) (Ev.pos (by omega) (Ev.pos (by omega) (Ev.pos rfl (Ev.pos (by omega) (Ev.pos (by omega) (Ev.pos (by omega) (Ev.pos rfl (ih (i + 1) (by omega)))))))))
theorem FnJoinedNet : laws_FnJoinedNet.Pure := by
  intro l _ hl hb
  refine Ev.rounds (?_ : Ev (fun k => laws_FnJoinedNet.f k l) true)
  unfold laws_FnJoinedNet.f
  by_cases hbig : (l.length : Int) > 1048576
  · exact Ev.pos hbig (Ev.one rfl)
  refine Ev.neg hbig ?_
  obtain ⟨a, b, hd, hal, hbl⟩ := drawJoinedNet_ev hb
  refine Ev.bind hd ?_
  dsimp only
  by_cases h : NetP a ∧ NetP b ∧ a.length + b.length ≤ 6
  · obtain ⟨ha, hb2, h6⟩ := h
    have hjl := jo_len a b
    have h1 := ha.1
    have h2 := hb2.1
    have hN := jo_net ha hb2 h6
    have e : shl .i64 1 (a.length : Int) = 2 ^ a.length := by rw [shl_one _ (by omega)]; simp
    have e2 : wrap64 (2 ^ a.length - 1) = 2 ^ a.length - 1 := by
      have := pow_less (n := a.length) (by omega)
      rw [e] at this
      rw [this]; simp
    have i1 : InS (jo a b).length (2 ^ a.length - 1) := by
      have hin : InS a.length (2 ^ a.length - 1) := ⟨by have : (1 : Int) ≤ 2 ^ a.length := (by exact_mod_cast Nat.two_pow_pos a.length); omega, by omega⟩
      exact hin.mono (by omega)
    have i2 : InS (jo a b).length (2 ^ a.length) := (InS.one' (by omega) (by omega)).1
    have i3 : InS b.length 1 := by
      have := (InS.one' (n := b.length) (i := 0) (by omega) (by omega)).1
      simpa using this
    refine Ev.bind (iJoin_yes ha hb2 h6) (Ev.bind (sJoin_yes ha hb2 h6) (Ev.bind (sameInts_ev (jo a b) (jo a b) (by omega)) (Ev.pos (by simp) ?_)))
    refine Ev.step (fun k => laws_FnJoinedNet.j0.eq_2 ..) ?_
    rw [e, e2]
    exact Ev.neg (by simp) (Ev.pos rfl (Ev.bind (iDist_yes hN i1) (Ev.bind (iDist_yes hN i2) (Ev.bind (iDist_yes hb2 i3) (jl_0 ha hb2 h6 b.length 0 (by omega))))))
  · refine Ev.bind (iJoin_no h) (Ev.bind (sJoin_no h) (Ev.bind (sameInts_ev [] [] (by simp)) (Ev.pos (by simp) ?_)))
    refine Ev.step (fun k => laws_FnJoinedNet.j0.eq_2 ..) ?_
    exact Ev.neg (by simp) (Ev.neg (by simp) (Ev.pos rfl (Ev.bind alive_ev (Ev.now _))))
end Go.Proofs.Ytjofekchopgfbac.Pure
