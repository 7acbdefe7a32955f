/- A raised state is a state, and raised as often as there are kinds it is the state, at every drawn input. Conditions: none beyond those of the statement. -/
import Derived.Test.YtjofekchopgfbabCFnRaisedState
namespace Go.Proofs.Ytjofekchopgfbab.Pure
open Go Go.RowKit Go.Proofs.Ytjofekchopgfbab.PFnRaisedState Go.Proofs.YtjofekchopgfbabW.PrintWords Go.Proofs.YtjofekchopgfbabW.PrintLast Go.Proofs.Ytjofekchopgfbab.Pl Go.Proofs.Ytjofekchopgfbab.CFnRaisedState

theorem raise_l {K : Nat} {st : List Int} (h : StP (K : Int) st) (x : List Int) (r : Bool) (hr : Ev (fun k => laws_FnRaisedState.l0 k (K : Int) st x st (K : Int)) r) : ∀ (d j : Nat), j + d = K → Ev (fun k => laws_FnRaisedState.l0 k (K : Int) st x (mkL (fun i => (rd st (i : Int) + (j : Int)) % (K : Int)) st.length) (j : Int)) r := by
  have h3 := h.1
  have h5 := h.2.1
  have hK : K = 3 ∨ K = 4 ∨ K = 5 := by omega
  intro d
  induction d with
  | zero =>
    intro j hd
    have e : mkL (fun i => (rd st (i : Int) + (j : Int)) % (K : Int)) st.length = st := by
      refine (mkL_ext rfl (fun i hi => ?_)).symm
      have := h.2.2.2.2 i hi
      rcases hK with rfl | rfl | rfl <;> omega
    rw [e, show j = K by omega]; exact hr
  | succ d ih =>
    intro j hd
    have hS : StP (K : Int) (mkL (fun i => (rd st (i : Int) + (j : Int)) % (K : Int)) st.length) := by
      refine ⟨h.1, h.2.1, by rw [mkL_len]; exact h.2.2.1, by rw [mkL_len]; exact h.2.2.2.1, fun i hi => ?_⟩
      rw [mkL_len] at hi
      rw [rd_mkL _ _ _ hi]
      rcases hK with rfl | rfl | rfl <;> omega
    have e : raiseL (K : Int) (mkL (fun i => (rd st (i : Int) + (j : Int)) % (K : Int)) st.length) = mkL (fun i => (rd st (i : Int) + ((j + 1 : Nat) : Int)) % (K : Int)) st.length := by
      rw [raiseL, mkL_len]
      refine mkL_congr (fun i hi => ?_)
      rw [rd_mkL _ _ _ hi]
      rcases hK with rfl | rfl | rfl <;> omega
    refine Ev.step (fun k => laws_FnRaisedState.l0.eq_2 ..) ?_
    refine Ev.pos (by omega) (Ev.bind (iRaise_yes hS) ?_)
    rw [e, w64i j (by omega)]
    exact ih (j + 1) (by omega)
theorem FnRaisedState : laws_FnRaisedState.Pure := by
  intro l _ hl hb
  refine Ev.rounds (?_ : Ev (fun k => laws_FnRaisedState.f k l) true)
  unfold laws_FnRaisedState.f
  by_cases hbig : (l.length : Int) > 1048576
  · exact Ev.pos hbig (Ev.one rfl)
  refine Ev.neg hbig ?_
  obtain ⟨kinds, st, hd, hst⟩ := drawRaisedState_ev hb
  refine Ev.bind hd ?_
  dsimp only
  by_cases h : StP kinds st
  · obtain ⟨K, rfl⟩ := Int.eq_ofNat_of_zero_le (show 0 ≤ kinds by have := h.1; omega)
    have h3 := h.1
    have h5 := h.2.1
    have hK : K = 3 ∨ K = 4 ∨ K = 5 := by omega
    have h1 := h.2.2.1
    have hlen : (raiseL (K : Int) st).length = st.length := by rw [raiseL, mkL_len]
    have hS : StP (K : Int) (raiseL (K : Int) st) := by
      refine ⟨h.1, h.2.1, by omega, by omega, fun i hi => ?_⟩
      rw [hlen] at hi
      rw [raiseL, rd_mkL _ _ _ hi]
      have := h.2.2.2.2 i hi
      rcases hK with rfl | rfl | rfl <;> omega
    refine Ev.bind (iRaise_yes h) (Ev.bind (sRaise_yes h) (Ev.bind (sameInts_ev _ _ (by omega)) (Ev.pos (by simp) (Ev.neg (by omega) (Ev.bind (Ev.now _) (Ev.pos (by simp; omega) ?_))))))
    refine raise_l h (raiseL (K : Int) st) true ?_ (K - 1) 1 (by omega)
    refine Ev.step (fun k => laws_FnRaisedState.l0.eq_2 ..) ?_
    exact Ev.neg (by omega) (Ev.bind (iStOk_yes hS) (Ev.pos rfl (Ev.bind (sameInts_ev _ _ (by omega)) (Ev.one (by simp)))))
  · exact Ev.bind (iRaise_no (by omega) h) (Ev.bind (sRaise_no (by omega) h) (Ev.bind (sameInts_ev _ _ (by simp)) (Ev.pos (by simp) (Ev.pos rfl (Ev.bind (iStOk_no (by omega) h) (Ev.neg (by decide) (Ev.bind alive_ev (Ev.now _))))))))
end Go.Proofs.Ytjofekchopgfbab.Pure
