/- A named net is a net in which nodes are as far from each other as before, by their new names, at every drawn input. Conditions: none beyond those of the statement. -/
import Derived.Test.YtjofekchopgfbadCFnNamedNet
namespace Go.Proofs.Ytjofekchopgfbad.Pure
open Go Go.RowKit Go.Proofs.Ytjofekchopgfbad.PFnNamedNet Go.Proofs.YtjofekchopgfbadW.PrintWords Go.Proofs.YtjofekchopgfbadW.PrintLast Go.Proofs.Ytjofekchopgfbad.Pl Go.Proofs.Ytjofekchopgfbad.CFnNamedNet

theorem nl_0 {net ord : List Int} (hn : NetP net) (h : OrdP net.length ord) {c0 : Nat} (hc0 : rd ord ((0 : Nat) : Int) = (c0 : Int)) : ∀ (d i : Nat), i + d = net.length → Ev (fun k => laws_FnNamedNet.l0 k net ord (nmN net ord) (distRow net 1) (distRow (nmN net ord) (2 ^ c0)) (i : Int)) true := by
  have h6 := hn.2.1
  have hol := h.1
  have hl := distRow_len net 1
  have hl2 := distRow_len (nmN net ord) (2 ^ c0)
  rw [nmN_len] at hl2
  intro d
  induction d with
  | zero =>
    intro i hd
    refine Ev.step (fun k => laws_FnNamedNet.l0.eq_2 ..) ?_
    refine Ev.neg (by omega) ?_
    refine Ev.step (fun k => laws_FnNamedNet.j2.eq_2 ..) ?_
    exact Ev.neg (by decide) (Ev.bind (iNetOk_yes (nmN_net hn h)) (Ev.pos rfl (Ev.one (by rw [hl2]; simp))))
  | succ d ih =>
    intro i hd
    obtain ⟨c, hc, hc2⟩ := h.at (i := i) (by omega)
    have hdist := nm_dist hn h hc0 (i := i) (by omega)
    refine Ev.step (fun k => laws_FnNamedNet.l0.eq_2 ..) ?_
    refine Ev.pos (by omega) (Ev.pos (by omega) ?_)
    refine Ev.step (fun k => laws_FnNamedNet.j2.eq_2 ..) ?_
    rw [w64i i (by omega)]
    exact Ev.pos (by rw [hl2]; simp) (Ev.pos (by omega) (Ev.pos (by omega) (Ev.pos (by omega) (Ev.pos (by omega) (Ev.pos (by omega) (Ev.pos hdist (ih (i + 1) (by omega))))))))
theorem FnNamedNet : laws_FnNamedNet.Pure := by
  intro l _ hl hb
  refine Ev.rounds (?_ : Ev (fun k => laws_FnNamedNet.f k l) true)
  unfold laws_FnNamedNet.f
  by_cases hbig : (l.length : Int) > 1048576
  · exact Ev.pos hbig (Ev.one rfl)
  refine Ev.neg hbig ?_
  obtain ⟨net, ord, hd, hnl, hol⟩ := drawNamedNet_ev hb
  refine Ev.bind hd ?_
  dsimp only
  by_cases h : NetP net ∧ OrdP net.length ord
  · obtain ⟨hn, hO⟩ := h
    have h6 := hn.2.1
    have h1 := hn.1
    have hlen := nmN_len net ord
    obtain ⟨c0, hc0, hc2⟩ := hO.at (i := 0) (by omega)
    have ho := hO.1
    have hrd : rd ord 0 = (c0 : Int) := hc0
    have e : shl .i64 1 (c0 : Int) = 2 ^ c0 := by rw [shl_one c0 (by omega)]; simp
    have hone : InS net.length 1 := by
      have := (InS.one' (n := net.length) (i := 0) (by omega) (by omega)).1
      simpa using this
    have hcin : InS (nmN net ord).length (2 ^ c0) := by rw [hlen]; exact (InS.one' (by omega) hc2).1
    refine Ev.bind (iNamN_yes hn hO) (Ev.bind (sNamN_yes hn hO) (Ev.bind (sameInts_ev (nmN net ord) (nmN net ord) (by omega)) (Ev.pos (by simp) ?_)))
    refine Ev.step (fun k => laws_FnNamedNet.j0.eq_2 ..) ?_
    refine Ev.neg (by simp) (Ev.pos rfl (Ev.bind (iDist_yes hn hone) (Ev.pos (by omega) (Ev.pos (by omega) ?_))))
    rw [hrd, e]
    exact Ev.bind (iDist_yes (nmN_net hn hO) hcin) (nl_0 hn hO hc0 net.length 0 (by omega))
  · refine Ev.bind (iNamN_no (by omega) h) (Ev.bind (sNamN_no (by omega) h) (Ev.bind (sameInts_ev [] [] (by simp)) (Ev.pos (by simp) ?_)))
    refine Ev.step (fun k => laws_FnNamedNet.j0.eq_2 ..) ?_
    exact Ev.neg (by simp) (Ev.neg (by simp) (Ev.pos rfl (Ev.bind alive_ev (Ev.now _))))
end Go.Proofs.Ytjofekchopgfbad.Pure
