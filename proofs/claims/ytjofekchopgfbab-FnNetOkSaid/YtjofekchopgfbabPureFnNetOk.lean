/- One node without neighbours is a net, none is none, and as many nodes as there are without neighbours are a net from 1 to MaxNodes, at every drawn input. Conditions: none beyond those of the statement. -/
import Derived.Test.YtjofekchopgfbabCFnNetOk
namespace Go.Proofs.Ytjofekchopgfbab.Pure
open Go Go.RowKit Go.Proofs.Ytjofekchopgfbab.PFnNetOk Go.Proofs.YtjofekchopgfbabW.PrintWords Go.Proofs.YtjofekchopgfbabW.PrintLast Go.Proofs.Ytjofekchopgfbab.Pl Go.Proofs.Ytjofekchopgfbab.CFnNetOk

theorem FnNetOk : laws_FnNetOk.Pure := by
  intro l _ hl hb
  refine Ev.rounds (?_ : Ev (fun k => laws_FnNetOk.f k l) true)
  unfold laws_FnNetOk.f
  by_cases hbig : (l.length : Int) > 1048576
  · exact Ev.pos hbig (Ev.one rfl)
  refine Ev.neg hbig ?_
  obtain ⟨net, hd, hn⟩ := drawNetOk_ev hb
  obtain ⟨b, hi, hi2⟩ := iNetOk_any net
  obtain ⟨c, hs, hs2⟩ := sNetOk_any net
  have e : b = c := by
    cases b <;> cases c <;> first | rfl | (exfalso; simp_all)
  subst e
  have h1 : Ev (fun k => impl_NetOk.f k [0]) true := Ev.of (fun k => impl_NetOk.mono _ k) (k := 40) (by decide +kernel)
  have h2 : Ev (fun k => impl_NetOk.f k []) false := Ev.of (fun k => impl_NetOk.mono _ k) (k := 40) (by decide +kernel)
  refine Ev.bind hd (Ev.bind hi (Ev.bind hs (Ev.neg (by simp) (Ev.bind h1 (Ev.pos rfl (Ev.bind h2 (Ev.neg (by decide) (Ev.pos (by omega) (Ev.pos (by omega) ?_)))))))))
  rw [Int.toNat_natCast]
  by_cases c1 : (net.length : Int) ≥ 1
  · have hz : NetP (List.replicate net.length 0) := by
      refine NetP.of (by simp; omega) (by simp; omega) (fun i hi => ?_)
      have hi' : i < net.length := by simpa using hi
      rw [rd_rep _ _ _ hi']
      exact ⟨InS.zero _, tb_zero _, fun j hj => by rw [rd_rep _ _ _ (by simpa using hj), tb_zero, tb_zero]⟩
    refine Ev.bind (iNetOk_yes hz) (Ev.pos c1 (Ev.one ?_))
    rw [decide_eq_true (show (net.length : Int) ≤ 6 by omega)]; rfl
  · refine Ev.bind (iNetOk_no (fun q => by have := q.1; simp at this; omega)) (Ev.neg c1 (Ev.one rfl))
end Go.Proofs.Ytjofekchopgfbab.Pure
