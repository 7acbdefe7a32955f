/- A step leads to a state; renamed nets fire as before; and all at rest stays so: at every two drawn inputs. Conditions: none beyond those of the statement. -/
import Derived.Test.YtjhlllfkagaafaaCFnFireStep
namespace Go.Proofs.Ytjhlllfkagaafaa.Pure
open Go Go.RowKit Go.Proofs.Ytjhlllfkagaafaa.PFnFireStep Go.Proofs.YtjhlllfkagaafaaW.PrintWords Go.Proofs.YtjhlllfkagaafaaW.PrintLast Go.Proofs.Ytjhlllfkagaafaa.Pl Go.Proofs.Ytjhlllfkagaafaa.CFnFireStep

theorem nm_fires {net st ord : List Int} (h6 : net.length ≤ 6) (h : OrdP net.length ord) (hl : net.length = st.length) {i c : Nat} (hi : i < net.length) (hc : rd ord (i : Int) = (c : Int)) : Fires (nmN net ord) (nmS st ord) c ↔ Fires net st i := by
  have h' : OrdP st.length ord := by rw [← hl]; exact h
  constructor
  · rintro ⟨d, hd, a, b⟩
    rw [nmS_len, ← hl] at hd
    obtain ⟨j, hj, e⟩ := h.surj hd
    rw [nmN_tb h6 h hi hj hc e] at a
    rw [← e, nmS_at h' (by omega)] at b
    exact ⟨j, by omega, a, b⟩
  · rintro ⟨j, hj, a, b⟩
    obtain ⟨d, hd, hd2⟩ := h.at (i := j) (by omega)
    refine ⟨d, by rw [nmS_len]; omega, ?_, ?_⟩
    · rw [nmN_tb h6 h hi (by omega) hc hd]; exact a
    · rw [← hd, nmS_at h' hj]; exact b
theorem nm_step {net : List Int} {kinds : Int} {st ord : List Int} (h6 : net.length ≤ 6) (h : OrdP net.length ord) (hl : net.length = st.length) : stepL (nmN net ord) kinds (nmS st ord) = nmS (stepL net kinds st) ord := by
  have h' : OrdP st.length ord := by rw [← hl]; exact h
  have h'' : OrdP (stepL net kinds st).length ord := by rw [stepL_len]; exact h'
  refine (mkL_ext (by rw [nmS_len, nmS_len, stepL_len]) (fun c hc => ?_)).symm
  rw [nmS_len] at hc
  obtain ⟨i, hi, e⟩ := h'.surj hc
  have hat := nmS_at h' hi
  rw [← e, nmS_at h'' (by rw [stepL_len]; exact hi), stepL_at hi]
  rw [e] at hat
  have hf := nm_fires h6 h hl (i := i) (by omega) e
  by_cases p : 0 < rd st (i : Int)
  · rw [stepAt_up p, stepAt_up (by rw [hat]; exact p), hat]
  · by_cases f : Fires net st i
    · rw [stepAt_fire p f, stepAt_fire (by rw [hat]; exact p) (hf.2 f)]
    · rw [stepAt_rest p f, stepAt_rest (by rw [hat]; exact p) (fun q => f (hf.1 q))]
theorem rest_step {net : List Int} {kinds : Int} {n : Nat} : stepL net kinds (List.replicate n 0) = List.replicate n 0 := by
  refine (mkL_ext (by simp) (fun i hi => ?_)).symm
  have hi' : i < n := by simpa using hi
  rw [rd_rep _ _ _ hi', stepAt_rest (by rw [rd_rep _ _ _ hi']; omega)]
  rintro ⟨j, hj, _, b⟩
  rw [rd_rep _ _ _ (by simpa using hj)] at b
  omega
theorem FnFireStep : laws_FnFireStep.Pure := by
  intro l m _ hl hb _ hl2 hb2
  refine Ev.rounds (?_ : Ev (fun k => laws_FnFireStep.f k l m) true)
  have hbad : ∀ p : Bool, p = true → Ev (fun k => laws_FnFireStep.j0 k l m p) true := by
    intro p hp
    refine Ev.step (fun k => laws_FnFireStep.j0.eq_2 ..) ?_
    exact Ev.pos hp (Ev.one rfl)
  unfold laws_FnFireStep.f
  by_cases hbig : (l.length : Int) > 1048576
  · exact Ev.pos hbig (hbad _ rfl)
  by_cases hbig2 : (m.length : Int) > 1048576
  · exact Ev.neg hbig (hbad _ (decide_eq_true hbig2))
  refine Ev.neg hbig ?_
  rw [decide_eq_false hbig2]
  refine Ev.step (fun k => laws_FnFireStep.j0.eq_2 ..) ?_
  obtain ⟨net, kinds, st, hd, hnl, hsl⟩ := drawFireStep_ev hb
  obtain ⟨net2, ord, hd2, _, hol⟩ := drawNamedNet_ev hb2
  refine Ev.neg (by decide) (Ev.bind hd ?_)
  dsimp only
  by_cases h : AskP net kinds st
  · have h1 := h.2.1.2.2.1
    have h6 := h.1.2.1
    have hln := h.2.2
    have l1 := stepL_len net kinds st
    have hz : AskP net kinds (List.replicate net.length 0) := ⟨h.1, ⟨h.2.1.1, h.2.1.2.1, by simpa using h.1.1, by simpa using h6, fun i hi => by rw [rd_rep _ _ _ (by simpa using hi)]; have := h.2.1.1; omega⟩, by simp⟩
    have hrest := iFire_yes hz
    rw [rest_step] at hrest
    refine Ev.bind (iFire_yes h) (Ev.bind (sFire_yes h) (Ev.bind (sameInts_ev (stepL net kinds st) (stepL net kinds st) (by omega)) (Ev.pos (by simp) (Ev.neg (by omega) (Ev.pos (by omega) (Ev.pos (by omega) (Ev.bind (Ev.now _) (Ev.bind (iStOk_yes (step_state h.2.1)) (Ev.pos rfl ?_)))))))))
    rw [Int.toNat_natCast]
    refine Ev.bind hrest (Ev.bind (sameInts_ev (List.replicate net.length 0) (List.replicate net.length 0) (by simp; omega)) ?_)
    refine Ev.step (fun k => laws_FnFireStep.j1.eq_2 ..) ?_
    refine Ev.neg (by simp) (Ev.bind hd2 ?_)
    dsimp only
    by_cases hO : OrdP net.length ord
    · have hO1 : OrdP st.length ord := by rw [← hln]; exact hO
      have hO2 : OrdP (stepL net kinds st).length ord := by rw [l1]; exact hO1
      have hA : AskP (nmN net ord) kinds (nmS st ord) := ⟨nmN_net h.1 hO, nmS_state h.2.1 hO1, by rw [nmN_len, nmS_len]; exact hln⟩
      have hf := iFire_yes hA
      rw [nm_step h6 hO hln] at hf
      have hl3 : (nmS (stepL net kinds st) ord).length = st.length := by rw [nmS_len, l1]
      exact Ev.bind (iNamN_yes h.1 hO) (Ev.bind (iNamS_yes h.2.1 hO1) (Ev.bind (iNamS_yes (step_state h.2.1) hO2) (Ev.pos rfl (Ev.pos rfl (Ev.pos rfl (Ev.bind hf (Ev.bind (sameInts_ev (nmS (stepL net kinds st) ord) (nmS (stepL net kinds st) ord) (by omega)) (Ev.one (by simp)))))))))
    · have n1 : ¬ (NetP net ∧ OrdP net.length ord) := fun q => hO q.2
      have n2 : ¬ (StP kinds st ∧ OrdP st.length ord) := fun q => hO (by rw [hln]; exact q.2)
      have n3 : ¬ (StP kinds (stepL net kinds st) ∧ OrdP (stepL net kinds st).length ord) := fun q => hO (by rw [hln, ← l1]; exact q.2)
      exact Ev.bind (iNamN_no (by omega) n1) (Ev.bind (iNamS_no (by omega) (by omega) n2) (Ev.bind (iNamS_no (by omega) (by omega) n3) (Ev.neg (by simp) (Ev.neg (by simp) (Ev.neg (by simp) (Ev.one rfl))))))
  · exact Ev.bind (iFire_no (by omega) h) (Ev.bind (sFire_no (by omega) h) (Ev.bind (sameInts_ev [] [] (by simp)) (Ev.pos (by simp) (Ev.pos rfl (Ev.bind alive_ev (Ev.now _))))))
end Go.Proofs.Ytjhlllfkagaafaa.Pure
