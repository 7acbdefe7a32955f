/- Names change no counts, and raised and named is named and raised, at every drawn input. Conditions: none beyond those of the statement. -/
import Derived.Test.YtjofekchopgfbacCFnNamedState
namespace Go.Proofs.Ytjofekchopgfbac.Pure
open Go Go.RowKit Go.Proofs.Ytjofekchopgfbac.PFnNamedState Go.Proofs.YtjofekchopgfbacW.PrintWords Go.Proofs.YtjofekchopgfbacW.PrintLast Go.Proofs.Ytjofekchopgfbac.Pl Go.Proofs.Ytjofekchopgfbac.CFnNamedState

theorem raise_state {kinds : Int} {st : List Int} (h : StP kinds st) : StP kinds (raiseL kinds st) := by
  have h3 := h.1
  have hlen : (raiseL kinds st).length = st.length := by rw [raiseL, mkL_len]
  refine ⟨h.1, h.2.1, by have := h.2.2.1; omega, by have := h.2.2.2.1; omega, fun i hi => ?_⟩
  rw [hlen] at hi
  rw [raiseL, rd_mkL _ _ _ hi]
  exact ⟨Int.emod_nonneg _ (by omega), Int.emod_lt_of_pos _ (by omega)⟩
theorem nm_raise {kinds : Int} {st ord : List Int} (h : OrdP st.length ord) : nmS (raiseL kinds st) ord = raiseL kinds (nmS st ord) := by
  have hlen : (raiseL kinds st).length = st.length := by rw [raiseL, mkL_len]
  have h' : OrdP (raiseL kinds st).length ord := by rw [hlen]; exact h
  rw [raiseL]
  refine mkL_ext (by rw [nmS_len, nmS_len, mkL_len]) (fun c hc => ?_)
  rw [nmS_len] at hc
  obtain ⟨i, hi, e⟩ := h.surj hc
  have := nmS_at h' (i := i) (by rw [hlen]; exact hi)
  rw [raiseL] at this
  rw [← e, this, nmS_at h hi, rd_mkL _ _ _ hi]
/-- How often a value stands in a row: by names as well. -/
theorem count_nm {st ord : List Int} (h : OrdP st.length ord) (c : Int) : countI (nmS st ord) c st.length = countI st c st.length := by
  have key : ∀ m : Nat, m ≤ st.length → ∀ x : List Int, x.length = st.length → sumN (fun v => if (∃ i : Nat, i < m ∧ rd ord (i : Int) = (v : Int)) ∧ rd (nmS st ord) (v : Int) = c then 1 else 0) st.length = countI st c m := by
    intro m
    induction m with
    | zero =>
      intro _ x _
      rw [sumN_congr (g := fun _ => 0) (fun v hv => if_neg (fun ⟨⟨i, hi, _⟩, _⟩ => by omega))]
      have : ∀ n : Nat, sumN (fun _ => (0 : Int)) n = 0 := by
        intro n
        induction n with
        | zero => rfl
        | succ n ih => simp only [sumN]; rw [ih]; rfl
      exact this _
    | succ m ih =>
      intro hm x hx
      obtain ⟨d, hd, hd2⟩ := h.at (i := m) (by omega)
      have hat := nmS_at h (i := m) (by omega)
      rw [hd] at hat
      have e : sumN (fun v => if (∃ i : Nat, i < m + 1 ∧ rd ord (i : Int) = (v : Int)) ∧ rd (nmS st ord) (v : Int) = c then (1 : Int) else 0) st.length
          = sumN (fun v => (if (∃ i : Nat, i < m ∧ rd ord (i : Int) = (v : Int)) ∧ rd (nmS st ord) (v : Int) = c then (1 : Int) else 0) + (if v = d then (if rd st (m : Int) = c then 1 else 0) else 0)) st.length := by
        refine sumN_congr (fun v hv => ?_)
        by_cases q : v = d
        · subst q
          have hno : ¬ ∃ i : Nat, i < m ∧ rd ord (i : Int) = (v : Int) := by
            rintro ⟨i, hi, z⟩
            have := h.inj (i := i) (j := m) (by omega) (by omega) (by rw [z, hd])
            omega
          rw [if_neg (show ¬ ((∃ i : Nat, i < m ∧ rd ord (i : Int) = (v : Int)) ∧ rd (nmS st ord) (v : Int) = c) from fun z => hno z.1), if_pos (show v = v from rfl), hat]
          by_cases w : rd st (m : Int) = c
          · rw [if_pos ⟨⟨m, by omega, hd⟩, w⟩, if_pos w]; rfl
          · rw [if_neg (fun z => w z.2), if_neg w]; rfl
        · rw [if_neg q, Int.add_zero]
          have : (∃ i : Nat, i < m + 1 ∧ rd ord (i : Int) = (v : Int)) ↔ ∃ i : Nat, i < m ∧ rd ord (i : Int) = (v : Int) := by
            constructor
            · rintro ⟨i, hi, z⟩
              by_cases w : i = m
              · rw [w, hd] at z; exact absurd (by omega) q
              · exact ⟨i, by omega, z⟩
            · rintro ⟨i, hi, z⟩; exact ⟨i, by omega, z⟩
          simp only [this]
      have one : ∀ n : Nat, sumN (fun v => if v = d then (if rd st (m : Int) = c then (1 : Int) else 0) else 0) n = if d < n then (if rd st (m : Int) = c then 1 else 0) else 0 := by
        intro n
        induction n with
        | zero => rfl
        | succ n ih2 =>
          simp only [sumN]
          rw [ih2]
          by_cases q : n = d
          · subst q; rw [if_neg (show ¬ n < n by omega), if_pos (show n = n from rfl), if_pos (show n < n + 1 by omega), Int.zero_add]
          · rw [if_neg q]
            by_cases w : d < n
            · rw [if_pos w, if_pos (show d < n + 1 by omega), Int.add_zero]
            · rw [if_neg w, if_neg (show ¬ d < n + 1 by omega)]; rfl
      rw [e, sumN_add, ih (by omega) x hx, one, if_pos hd2]; rfl
  have hk := key st.length (Nat.le_refl _) st rfl
  have hs : ∀ m : Nat, m ≤ st.length → countI (nmS st ord) c m = sumN (fun v => if (∃ i : Nat, i < st.length ∧ rd ord (i : Int) = (v : Int)) ∧ rd (nmS st ord) (v : Int) = c then 1 else 0) m := by
    intro m
    induction m with
    | zero => intro _; rfl
    | succ m ih =>
      intro hm
      simp only [countI, sumN]
      rw [ih (by omega)]
      obtain ⟨i, hi, e⟩ := h.surj (v := m) (by omega)
      by_cases q : rd (nmS st ord) (m : Int) = c
      · rw [if_pos q, if_pos ⟨⟨i, hi, e⟩, q⟩]
      · rw [if_neg q, if_neg (fun z => q z.2)]
  rw [hs _ (Nat.le_refl _), hk]
theorem FnNamedState : laws_FnNamedState.Pure := by
  intro l _ hl hb
  refine Ev.rounds (?_ : Ev (fun k => laws_FnNamedState.f k l) true)
  unfold laws_FnNamedState.f
  by_cases hbig : (l.length : Int) > 1048576
  · exact Ev.pos hbig (Ev.one rfl)
  refine Ev.neg hbig ?_
  obtain ⟨kinds, st, ord, hd, hst, hord⟩ := drawNamedState_ev hb
  refine Ev.bind hd ?_
  dsimp only
  by_cases h : StP kinds st ∧ OrdP st.length ord
  · obtain ⟨hS, hO⟩ := h
    have hR := raise_state hS
    have hN := nmS_state hS hO
    have hlen : (raiseL kinds st).length = st.length := by rw [raiseL, mkL_len]
    have hl2 := nmS_len st ord
    have hO' : OrdP (raiseL kinds st).length ord := by rw [hlen]; exact hO
    have hc : countL kinds (nmS st ord) = countL kinds st := by
      unfold countL
      rw [hl2]
      exact mkL_congr (fun c _ => count_nm hO (c : Int))
    have hcl : (countL kinds st).length ≤ 6 := by rw [countL, mkL_len]; have := hS.2.1; omega
    refine Ev.bind (iNamS_yes hS hO) (Ev.bind (sNamS_yes hS hO) (Ev.bind (sameInts_ev (nmS st ord) (nmS st ord) (by omega)) (Ev.pos (by simp) ?_)))
    refine Ev.step (fun k => laws_FnNamedState.j0.eq_2 ..) ?_
    refine Ev.neg (by simp) (Ev.pos rfl (Ev.bind (iRaise_yes hS) (Ev.bind (iNamS_yes hR hO') (Ev.bind (iStOk_yes hN) (Ev.pos rfl (Ev.bind (iCount_yes hN) (Ev.bind (iCount_yes hS) ?_)))))))
    rw [hc]
    refine Ev.bind (sameInts_ev (countL kinds st) (countL kinds st) (by omega)) (Ev.pos (by simp) (Ev.pos rfl (Ev.bind (iRaise_yes hN) ?_)))
    dsimp only
    rw [nm_raise hO]
    refine Ev.bind (sameInts_ev (raiseL kinds (nmS st ord)) (raiseL kinds (nmS st ord)) ?_) (Ev.one (by simp))
    rw [raiseL, mkL_len]; omega
  · refine Ev.bind (iNamS_no (by omega) (by omega) h) (Ev.bind (sNamS_no (by omega) (by omega) h) (Ev.bind (sameInts_ev [] [] (by simp)) (Ev.pos (by simp) ?_)))
    refine Ev.step (fun k => laws_FnNamedState.j0.eq_2 ..) ?_
    exact Ev.neg (by simp) (Ev.neg (by simp) (Ev.pos rfl (Ev.bind alive_ev (Ev.now _))))
end Go.Proofs.Ytjofekchopgfbac.Pure
