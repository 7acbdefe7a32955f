/- All nodes are counted, and the counts of the raised state are those of one kind less, at every drawn input. Conditions: none beyond those of the statement. -/
import Derived.Test.YtjofekchopgfbabCFnCountsOf
namespace Go.Proofs.Ytjofekchopgfbab.Pure
open Go Go.RowKit Go.Proofs.Ytjofekchopgfbab.PFnCountsOf Go.Proofs.YtjofekchopgfbabW.PrintWords Go.Proofs.YtjofekchopgfbabW.PrintLast Go.Proofs.Ytjofekchopgfbab.Pl Go.Proofs.Ytjofekchopgfbab.CFnCountsOf

theorem count_raise {K : Nat} {st : List Int} (h : StP (K : Int) st) (c : Nat) (hc : c < K) : ∀ m : Nat, m ≤ st.length → countI (raiseL (K : Int) st) (((c : Int) + 1) % (K : Int)) m = countI st (c : Int) m := by
  have h3 := h.1
  have h5 := h.2.1
  have hK : K = 3 ∨ K = 4 ∨ K = 5 := by omega
  intro m
  induction m with
  | zero => intro _; rfl
  | succ m ih =>
    intro hm
    have hr := h.2.2.2.2 m (by omega)
    simp only [countI]
    rw [ih (by omega), raiseL, rd_mkL _ _ _ (by omega)]
    by_cases e : rd st (m : Int) = (c : Int)
    · rw [if_pos (by rw [e]), if_pos e]
    · rw [if_neg ?_, if_neg e]
      rcases hK with rfl | rfl | rfl <;> omega
theorem count_sum {K : Nat} {st : List Int} (h : StP (K : Int) st) : ∀ m : Nat, m ≤ st.length → sumN (fun c => countI st (c : Int) m) K = m := by
  have h3 := h.1
  have h5 := h.2.1
  have hK : K = 3 ∨ K = 4 ∨ K = 5 := by omega
  intro m
  induction m with
  | zero => intro _; rcases hK with rfl | rfl | rfl <;> rfl
  | succ m ih =>
    intro hm
    have hr := h.2.2.2.2 m (by omega)
    have e : sumN (fun c => countI st (c : Int) (m + 1)) K = sumN (fun c => countI st (c : Int) m) K + sumN (fun c => if rd st (m : Int) = (c : Int) then 1 else 0) K := by
      rw [← sumN_add]; rfl
    rw [e, ih (by omega)]
    have one : sumN (fun c => if rd st (m : Int) = (c : Int) then 1 else 0) K = 1 := by
      generalize rd st (m : Int) = x at hr ⊢
      rcases hK with rfl | rfl | rfl
      · have : x = 0 ∨ x = 1 ∨ x = 2 := by omega
        rcases this with rfl | rfl | rfl <;> decide
      · have : x = 0 ∨ x = 1 ∨ x = 2 ∨ x = 3 := by omega
        rcases this with rfl | rfl | rfl | rfl <;> decide
      · have : x = 0 ∨ x = 1 ∨ x = 2 ∨ x = 3 ∨ x = 4 := by omega
        rcases this with rfl | rfl | rfl | rfl | rfl <;> decide
    rw [one]; omega
theorem count_l {K : Nat} {st : List Int} (h : StP (K : Int) st) : ∀ (d j : Nat), j + d = K → Ev (fun k => laws_FnCountsOf.l0 k (K : Int) st (countL (K : Int) st) (countL (K : Int) (raiseL (K : Int) st)) (sumN (fun c => countI st (c : Int) st.length) j) (j : Int)) true := by
  have h3 := h.1
  have h5 := h.2.1
  have h6 := h.2.2.2.1
  have hl1 : (countL (K : Int) st).length = K := by rw [countL, mkL_len]; omega
  have hl2 : (countL (K : Int) (raiseL (K : Int) st)).length = K := by rw [countL, mkL_len]; omega
  have hrl : (raiseL (K : Int) st).length = st.length := by rw [raiseL, mkL_len]
  intro d
  induction d with
  | zero =>
    intro j hd
    refine Ev.step (fun k => laws_FnCountsOf.l0.eq_2 ..) ?_
    refine Ev.neg (by omega) ?_
    refine Ev.step (fun k => laws_FnCountsOf.j1.eq_2 ..) ?_
    rw [show j = K by omega, count_sum h _ (Nat.le_refl _), hl1]
    exact Ev.neg (by decide) (Ev.pos rfl (Ev.one (by simp)))
  | succ d ih =>
    intro j hd
    have hc := countI_range st (j : Int) st.length
    have hs := sumN_range (fun c => countI st (c : Int) st.length) 6 (fun c => by have := countI_range st (c : Int) st.length; show 0 ≤ countI st (c : Int) st.length ∧ countI st (c : Int) st.length ≤ 6; omega) j
    have ej : Int.tmod (wrap64 ((j : Int) + 1)) (K : Int) = ((j : Int) + 1) % (K : Int) := by
      rw [w64 (by omega) (by omega), Int.tmod_eq_emod_of_nonneg (by omega)]
    have e0 : 0 ≤ ((j : Int) + 1) % (K : Int) := Int.emod_nonneg _ (by omega)
    have e1 : ((j : Int) + 1) % (K : Int) < (K : Int) := Int.emod_lt_of_pos _ (by omega)
    have er : rd (countL (K : Int) (raiseL (K : Int) st)) (((j : Int) + 1) % (K : Int)) = countI st (j : Int) st.length := by
      obtain ⟨m, hm⟩ := Int.eq_ofNat_of_zero_le e0
      rw [hm, countL, rd_mkL _ _ _ (by omega), ← hm, hrl]
      exact count_raise h j (by omega) _ (Nat.le_refl _)
    have er2 : rd (countL (K : Int) st) (j : Int) = countI st (j : Int) st.length := by
      rw [countL, rd_mkL _ _ _ (by omega)]
    refine Ev.step (fun k => laws_FnCountsOf.l0.eq_2 ..) ?_
    refine Ev.pos (by omega) ?_
    refine Ev.step (fun k => laws_FnCountsOf.j1.eq_2 ..) ?_
    rw [ej, er, er2, hl1, hl2, w64i j (by omega), w64 (x := sumN (fun c => countI st (c : Int) st.length) j + countI st (j : Int) st.length) (by omega) (by omega)]
    exact Ev.pos (by simp) (Ev.pos (by omega) (Ev.pos (by omega) (Ev.neg (by omega) (Ev.pos e0 (Ev.pos e1 (Ev.pos rfl (ih (j + 1) (by omega))))))))
theorem FnCountsOf : laws_FnCountsOf.Pure := by
  intro l _ hl hb
  refine Ev.rounds (?_ : Ev (fun k => laws_FnCountsOf.f k l) true)
  unfold laws_FnCountsOf.f
  by_cases hbig : (l.length : Int) > 1048576
  · exact Ev.pos hbig (Ev.one rfl)
  refine Ev.neg hbig ?_
  obtain ⟨kinds, st, hd, hst⟩ := drawCountsOf_ev hb
  refine Ev.bind hd ?_
  dsimp only
  by_cases h : StP kinds st
  · obtain ⟨K, rfl⟩ := Int.eq_ofNat_of_zero_le (show 0 ≤ kinds by have := h.1; omega)
    have h3 := h.1
    have h5 := h.2.1
    have hK : K = 3 ∨ K = 4 ∨ K = 5 := by omega
    have hl1 : (countL (K : Int) st).length = K := by rw [countL, mkL_len]; omega
    have hlen : (raiseL (K : Int) st).length = st.length := by rw [raiseL, mkL_len]
    have hS : StP (K : Int) (raiseL (K : Int) st) := by
      refine ⟨h.1, h.2.1, by have := h.2.2.1; omega, by omega, fun i hi => ?_⟩
      rw [hlen] at hi
      rw [raiseL, rd_mkL _ _ _ hi]
      have := h.2.2.2.2 i hi
      rcases hK with rfl | rfl | rfl <;> omega
    exact Ev.bind (iCount_yes h) (Ev.bind (sCount_yes h) (Ev.bind (sameInts_ev _ _ (by omega)) (Ev.pos (by simp) (Ev.neg (by omega) (Ev.bind (iRaise_yes h) (Ev.bind (iCount_yes hS) (count_l h K 0 (by omega))))))))
  · exact Ev.bind (iCount_no (by omega) h) (Ev.bind (sCount_no (by omega) h) (Ev.bind (sameInts_ev _ _ (by simp)) (Ev.pos (by simp) (Ev.pos rfl (Ev.bind (iStOk_no (by omega) h) (Ev.neg (by decide) (Ev.bind alive_ev (Ev.now _))))))))
end Go.Proofs.Ytjofekchopgfbab.Pure
