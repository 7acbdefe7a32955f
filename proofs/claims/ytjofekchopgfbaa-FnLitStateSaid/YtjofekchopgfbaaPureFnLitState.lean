/- A lit state is a state with as many nodes that fire as the set has, and none that are tired, at every drawn input. Conditions: none beyond those of the statement. -/
import Derived.Test.YtjofekchopgfbaaCFnLitState
namespace Go.Proofs.Ytjofekchopgfbaa.Pure
open Go Go.RowKit Go.Proofs.Ytjofekchopgfbaa.PFnLitState Go.Proofs.YtjofekchopgfbaaW.PrintWords Go.Proofs.YtjofekchopgfbaaW.PrintLast Go.Proofs.Ytjofekchopgfbaa.Pl Go.Proofs.Ytjofekchopgfbaa.CFnLitState

theorem lit_l (n : Nat) (h6 : n ≤ 6) (s : Int) (hs : 0 ≤ s) (st row : List Int) (r : Bool) (hr : Ev (fun k => laws_FnLitState.l0 k (n : Int) s st row (countI (litL n s) 1 n) (n : Int)) r) : ∀ (d i : Nat), i + d = n → Ev (fun k => laws_FnLitState.l0 k (n : Int) s st row (countI (litL n s) 1 i) (i : Int)) r := by
  intro d
  induction d with
  | zero => intro i hd; rw [show i = n by omega]; exact hr
  | succ d ih =>
    intro i hd
    have hc := countI_range (litL n s) 1 i
    have e : countI (litL n s) 1 (i + 1) = countI (litL n s) 1 i + s / 2 ^ i % 2 := by
      simp only [countI]
      rw [litL, rd_mkL _ _ _ (by omega)]
      split <;> omega
    refine Ev.step (fun k => laws_FnLitState.l0.eq_2 ..) ?_
    rw [stest _ i (by omega) hs, w64i i (by omega), w64 (x := countI (litL n s) 1 i + s / 2 ^ i % 2) (by omega) (by omega), ← e]
    exact Ev.pos (by omega) (Ev.pos (by omega) (ih (i + 1) (by omega)))
theorem FnLitState : laws_FnLitState.Pure := by
  intro l _ hl hb
  refine Ev.rounds (?_ : Ev (fun k => laws_FnLitState.f k l) true)
  unfold laws_FnLitState.f
  by_cases hbig : (l.length : Int) > 1048576
  · exact Ev.pos hbig (Ev.one rfl)
  refine Ev.neg hbig ?_
  obtain ⟨a, s, hd⟩ := drawLitState_ev hb
  refine Ev.bind hd ?_
  dsimp only
  by_cases h : ∃ n : Nat, a = n ∧ 1 ≤ n ∧ n ≤ 6 ∧ InS n s
  · obtain ⟨n, rfl, h1, h6, hs⟩ := h
    have hlen : (litL n s).length = n := by rw [litL, mkL_len]
    have hS : StP 3 (litL n s) := ⟨by omega, by omega, by omega, by omega, fun i hi => by rw [litL, rd_mkL _ _ _ (by omega)]; omega⟩
    have hcl : (countL 3 (litL n s)).length = 3 := by rw [countL, mkL_len]; rfl
    have hc1 : rd (countL 3 (litL n s)) 1 = countI (litL n s) 1 n := by
      rw [countL, show (1 : Int) = ((1 : Nat) : Int) from rfl, rd_mkL _ _ _ (by decide), hlen]
    have hc2 : rd (countL 3 (litL n s)) 2 = 0 := by
      rw [countL, show (2 : Int) = ((2 : Nat) : Int) from rfl, rd_mkL _ _ _ (by decide), hlen]
      have : ∀ i : Nat, i ≤ n → countI (litL n s) ((2 : Nat) : Int) i = 0 := by
        intro i
        induction i with
        | zero => intro _; rfl
        | succ i ih =>
          intro hi
          simp only [countI]
          rw [ih (by omega), litL, rd_mkL _ _ _ (by omega), if_neg (by omega)]; rfl
      exact this n (Nat.le_refl _)
    refine Ev.bind (iLit_yes h1 h6 hs) (Ev.bind (sLit_yes h1 h6 hs) (Ev.bind (sameInts_ev _ _ (by omega)) (Ev.pos (by simp) (Ev.neg (by omega) (Ev.bind (iCount_yes hS) ?_)))))
    refine lit_l n h6 s hs.1 _ _ true ?_ n 0 (by omega)
    refine Ev.step (fun k => laws_FnLitState.l0.eq_2 ..) ?_
    exact Ev.neg (by omega) (Ev.bind (iStOk_yes hS) (Ev.pos rfl (Ev.pos (by rw [hcl]; rfl) (Ev.pos (by rw [hcl]; decide) (Ev.pos hc1 (Ev.pos (by rw [hcl]; decide) (Ev.one (by rw [hc2]; rfl))))))))
  · exact Ev.bind (iLit_no h) (Ev.bind (sLit_no h) (Ev.bind (sameInts_ev _ _ (by simp)) (Ev.pos (by simp) (Ev.pos rfl (Ev.bind alive_ev (Ev.now _))))))
end Go.Proofs.Ytjofekchopgfbaa.Pure
