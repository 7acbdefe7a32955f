/- A run is the run of half of the steps, and then of the others, at every drawn input. Conditions: none beyond those of the statement. -/
import Derived.Test.YtjofekchopgfbadCFnFireRun
namespace Go.Proofs.Ytjofekchopgfbad.Pure
open Go Go.RowKit Go.Proofs.Ytjofekchopgfbad.PFnFireRun Go.Proofs.YtjofekchopgfbadW.PrintWords Go.Proofs.YtjofekchopgfbadW.PrintLast Go.Proofs.Ytjofekchopgfbad.Pl Go.Proofs.Ytjofekchopgfbad.CFnFireRun

theorem FnFireRun : laws_FnFireRun.Pure := by
  intro l _ hl hb
  refine Ev.rounds (?_ : Ev (fun k => laws_FnFireRun.f k l) true)
  unfold laws_FnFireRun.f
  by_cases hbig : (l.length : Int) > 1048576
  · exact Ev.pos hbig (Ev.one rfl)
  refine Ev.neg hbig ?_
  obtain ⟨net, kinds, st, s, hd, hnl, hsl⟩ := drawFireRun_ev hb
  refine Ev.bind hd ?_
  dsimp only
  by_cases h : AskP net kinds st ∧ 0 ≤ s ∧ s ≤ 60
  · obtain ⟨ha, h0, h60⟩ := h
    obtain ⟨n, rfl⟩ := Int.eq_ofNat_of_zero_le h0
    have h1 := ha.2.1.2.2.1
    have hlen : (runL net kinds st n).length = st.length := runL_len n
    have e1 : wrap64 (Int.tdiv (n : Int) 2) = ((n / 2 : Nat) : Int) := by rw [Int.tdiv_eq_ediv_of_nonneg (by omega), w64 (by omega) (by omega)]; omega
    have e2 : wrap64 ((n : Int) - ((n / 2 : Nat) : Int)) = ((n - n / 2 : Nat) : Int) := by rw [w64 (by omega) (by omega)]; omega
    have hsum : runL net kinds (runL net kinds st (n / 2)) (n - n / 2) = runL net kinds st n := by
      rw [runL_add, show n / 2 + (n - n / 2) = n by omega]
    have r1 := iRun_yes ha (n := n / 2) (by omega)
    have r2 := iRun_yes (ha.run (n / 2)) (n := n - n / 2) (by omega)
    rw [hsum] at r2
    have r3 := iRun_yes ha (n := 0) (by omega)
    rw [e1, e2]
    exact Ev.bind (iRun_yes ha (by omega)) (Ev.bind (sRun_yes ha (by omega)) (Ev.bind (sameInts_ev (runL net kinds st n) (runL net kinds st n) (by omega)) (Ev.pos (by simp) (Ev.neg (by omega) (Ev.bind r1 (Ev.bind r2 (Ev.bind (sameInts_ev (runL net kinds st n) (runL net kinds st n) (by omega)) (Ev.pos (by simp) (Ev.bind r3 (Ev.bind (sameInts_ev st st (by omega)) (Ev.one (by simp))))))))))))
  · exact Ev.bind (iRun_no (by omega) h) (Ev.bind (sRun_no (by omega) h) (Ev.bind (sameInts_ev [] [] (by simp)) (Ev.pos (by simp) (Ev.pos rfl (Ev.bind alive_ev (Ev.now _))))))
end Go.Proofs.Ytjofekchopgfbad.Pure
