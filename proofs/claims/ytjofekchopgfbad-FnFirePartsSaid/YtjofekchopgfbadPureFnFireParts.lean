/- With all nodes of other parts at rest the nodes of the first node's part fire as before, at every drawn input. Conditions: none beyond those of the statement. -/
import Derived.Test.YtjofekchopgfbadCFnFireParts
namespace Go.Proofs.Ytjofekchopgfbad.Pure
open Go Go.RowKit Go.Proofs.Ytjofekchopgfbad.PFnFireParts Go.Proofs.YtjofekchopgfbadW.PrintWords Go.Proofs.YtjofekchopgfbadW.PrintLast Go.Proofs.Ytjofekchopgfbad.Pl Go.Proofs.Ytjofekchopgfbad.CFnFireParts

noncomputable def aloneAt (net st : List Int) (i : Nat) : Int := if partOf net i = 0 then rd st (i : Int) else 0
theorem adj_part {net : List Int} (hn : NetP net) {i j : Nat} (hi : i < net.length) (hj : j < net.length) (h : tb (rd net (i : Int)) j = true) : partOf net i = partOf net j :=
  (partOf_same hn hi hj).2 ⟨1, Wk.one ⟨hi, hj, h⟩⟩
theorem alone_ask {net : List Int} {kinds : Int} {st : List Int} (h : AskP net kinds st) : AskP net kinds (mkL (aloneAt net st) net.length) := by
  have h3 := h.2.1.1
  refine ⟨h.1, ⟨h.2.1.1, h.2.1.2.1, by rw [mkL_len]; exact h.1.1, by rw [mkL_len]; exact h.1.2.1, fun i hi => ?_⟩, by rw [mkL_len]⟩
  rw [mkL_len] at hi
  rw [rd_mkL _ _ _ hi]
  have := h.2.1.2.2.2.2 i (by rw [← h.2.2]; exact hi)
  unfold aloneAt
  split <;> omega
theorem alone_step {net : List Int} {kinds : Int} {st : List Int} (h : AskP net kinds st) {i : Nat} (hi : i < net.length) : stepAt net kinds (mkL (aloneAt net st) net.length) i = if partOf net i = 0 then stepAt net kinds st i else 0 := by
  have hl := h.2.2
  have hal : rd (mkL (aloneAt net st) net.length) (i : Int) = aloneAt net st i := rd_mkL _ _ _ hi
  by_cases c : partOf net i = 0
  · rw [if_pos c]
    have e : aloneAt net st i = rd st (i : Int) := by rw [aloneAt, if_pos c]
    have hf : Fires net (mkL (aloneAt net st) net.length) i ↔ Fires net st i := by
      constructor
      · rintro ⟨j, hj, a, b⟩
        rw [mkL_len] at hj
        rw [rd_mkL _ _ _ hj, aloneAt, if_pos ((adj_part h.1 hi hj a).symm.trans c)] at b
        exact ⟨j, by omega, a, b⟩
      · rintro ⟨j, hj, a, b⟩
        refine ⟨j, by rw [mkL_len]; omega, a, ?_⟩
        rw [rd_mkL _ _ _ (by omega), aloneAt, if_pos ((adj_part h.1 hi (by omega) a).symm.trans c)]
        exact b
    by_cases p : 0 < rd st (i : Int)
    · rw [stepAt_up (by rw [hal, e]; exact p), stepAt_up p, hal, e]
    · by_cases f : Fires net st i
      · rw [stepAt_fire (by rw [hal, e]; exact p) (hf.2 f), stepAt_fire p f]
      · rw [stepAt_rest (by rw [hal, e]; exact p) (fun q => f (hf.1 q)), stepAt_rest p f]
  · rw [if_neg c]
    have e : aloneAt net st i = 0 := by rw [aloneAt, if_neg c]
    refine stepAt_rest (by rw [hal, e]; omega) ?_
    rintro ⟨j, hj, a, b⟩
    rw [mkL_len] at hj
    rw [rd_mkL _ _ _ hj, aloneAt, if_neg (fun q => c ((adj_part h.1 hi hj a).trans q))] at b
    omega
theorem fp_1 {net : List Int} {kinds : Int} {st : List Int} (h : AskP net kinds st) : ∀ (d i : Nat), i + d = net.length → Ev (fun k => laws_FnFireParts.l1 k net (stepL net kinds st) (partRow net) (stepL net kinds (mkL (aloneAt net st) net.length)) (i : Int)) true := by
  have h6 := h.1.2.1
  have hl := h.2.2
  have l1 := stepL_len net kinds st
  have l2 := stepL_len net kinds (mkL (aloneAt net st) net.length)
  rw [mkL_len] at l2
  have l3 := partRow_len net
  intro d
  induction d with
  | zero =>
    intro i hd
    refine Ev.step (fun k => laws_FnFireParts.l1.eq_2 ..) ?_
    exact Ev.neg (by omega) (Ev.bind alive_ev (Ev.now _))
  | succ d ih =>
    intro i hd
    have hi : i < net.length := by omega
    have hst := alone_step h hi
    refine Ev.step (fun k => laws_FnFireParts.l1.eq_2 ..) ?_
    rw [stepL_at (by rw [mkL_len]; exact hi), stepL_at (by omega), partRow_at hi, hst, w64i i (by omega)]
    refine Ev.pos (by omega) (Ev.pos (by omega) (Ev.pos (by omega) (Ev.pos (by omega) (Ev.pos (by omega) ?_))))
    by_cases c : partOf net i = 0
    · rw [if_pos c]
      exact Ev.pos c (Ev.pos (by omega) (Ev.pos (by omega) (Ev.pos rfl (ih (i + 1) (by omega)))))
    · rw [if_neg c]
      exact Ev.neg c (Ev.pos (by omega) (Ev.pos rfl (ih (i + 1) (by omega))))
theorem fp_0 {net : List Int} {kinds : Int} {st : List Int} (h : AskP net kinds st) : ∀ (d i : Nat), i + d = net.length → Ev (fun k => laws_FnFireParts.l0 k net kinds st (stepL net kinds st) (partRow net) (mkL (aloneAt net st) i) (i : Int)) true := by
  have h6 := h.1.2.1
  have hl := h.2.2
  have l3 := partRow_len net
  intro d
  induction d with
  | zero =>
    intro i hd
    refine Ev.step (fun k => laws_FnFireParts.l0.eq_2 ..) ?_
    rw [show i = net.length by omega]
    exact Ev.neg (by omega) (Ev.bind (iFire_yes (alone_ask h)) (fp_1 h net.length 0 (by omega)))
  | succ d ih =>
    intro i hd
    have hi : i < net.length := by omega
    have hnext := ih (i + 1) (by omega)
    rw [← mkL_snoc] at hnext
    refine Ev.step (fun k => laws_FnFireParts.l0.eq_2 ..) ?_
    rw [partRow_at hi, w64i i (by omega)]
    refine Ev.pos (by omega) (Ev.pos (by omega) (Ev.pos (by omega) (Ev.pos (by omega) ?_)))
    by_cases c : partOf net i = 0
    · have e : aloneAt net st i = rd st (i : Int) := by rw [aloneAt, if_pos c]
      rw [e] at hnext
      exact Ev.pos c (Ev.pos (by omega) (Ev.pos (by rw [mkL_len]; omega) hnext))
    · have e : aloneAt net st i = 0 := by rw [aloneAt, if_neg c]
      rw [e] at hnext
      exact Ev.neg c (Ev.pos (by rw [mkL_len]; omega) hnext)
theorem FnFireParts : laws_FnFireParts.Pure := by
  intro l _ hl hb
  refine Ev.rounds (?_ : Ev (fun k => laws_FnFireParts.f k l) true)
  unfold laws_FnFireParts.f
  by_cases hbig : (l.length : Int) > 1048576
  · exact Ev.pos hbig (Ev.one rfl)
  refine Ev.neg hbig ?_
  obtain ⟨net, kinds, st, hd, hnl, hsl⟩ := drawFireStep_ev hb
  refine Ev.bind hd ?_
  dsimp only
  by_cases h : AskP net kinds st
  · have h1 := h.2.1.2.2.1
    have l1 := stepL_len net kinds st
    exact Ev.bind (iFire_yes h) (Ev.neg (by omega) (Ev.bind (iParts_yes h.1) (fp_0 h net.length 0 (by omega))))
  · exact Ev.bind (iFire_no (by omega) h) (Ev.pos rfl (Ev.bind (sFire_no (by omega) h) (Ev.pos rfl (Ev.bind alive_ev (Ev.now _)))))
end Go.Proofs.Ytjofekchopgfbad.Pure
