/- With one kind more just the same nodes fire next, and each node that is not tired of the last kind is as before, at every drawn input. Conditions: none beyond those of the statement. -/
import Derived.Test.YtjofekchopgfbadCFnMoreKinds
namespace Go.Proofs.Ytjofekchopgfbad.Pure
open Go Go.RowKit Go.Proofs.Ytjofekchopgfbad.PFnMoreKinds Go.Proofs.YtjofekchopgfbadW.PrintWords Go.Proofs.YtjofekchopgfbadW.PrintLast Go.Proofs.Ytjofekchopgfbad.Pl Go.Proofs.Ytjofekchopgfbad.CFnMoreKinds

theorem more_ask {net : List Int} {kinds : Int} {st : List Int} (h : AskP net kinds st) (hk : kinds < 5) : AskP net (kinds + 1) st :=
  ⟨h.1, ⟨by have := h.2.1.1; omega, by omega, h.2.1.2.2.1, h.2.1.2.2.2.1, fun i hi => by have := h.2.1.2.2.2.2 i hi; omega⟩, h.2.2⟩
theorem more_at {net : List Int} {kinds : Int} {st : List Int} (h : StP kinds st) (hk : kinds < 5) {i : Nat} (hi : i < st.length) : (stepAt net kinds st i = 1 ↔ stepAt net (kinds + 1) st i = 1) ∧ (rd st (i : Int) < kinds - 1 → stepAt net kinds st i = stepAt net (kinds + 1) st i) := by
  have h3 := h.1
  have hr := h.2.2.2.2 i hi
  have hK : kinds = 3 ∨ kinds = 4 := by omega
  by_cases c : 0 < rd st (i : Int)
  · rw [stepAt_up c, stepAt_up c]
    rcases hK with rfl | rfl <;> omega
  · by_cases f : Fires net st i
    · rw [stepAt_fire c f, stepAt_fire c f]; exact ⟨Iff.rfl, fun _ => rfl⟩
    · rw [stepAt_rest c f, stepAt_rest c f]; exact ⟨Iff.rfl, fun _ => rfl⟩
theorem more_l {net : List Int} {kinds : Int} {st : List Int} (h : AskP net kinds st) (hk : kinds < 5) : ∀ (d i : Nat), i + d = st.length → Ev (fun k => laws_FnMoreKinds.l0 k kinds st (stepL net kinds st) (stepL net (kinds + 1) st) (i : Int)) true := by
  have h3 := h.2.1.1
  have h6 := h.2.1.2.2.2.1
  have l1 := stepL_len net kinds st
  have l2 := stepL_len net (kinds + 1) st
  intro d
  induction d with
  | zero =>
    intro i hd
    refine Ev.step (fun k => laws_FnMoreKinds.l0.eq_2 ..) ?_
    exact Ev.neg (by omega) (Ev.bind alive_ev (Ev.now _))
  | succ d ih =>
    intro i hd
    have hi : i < st.length := by omega
    have m := more_at (net := net) h.2.1 hk hi
    refine Ev.step (fun k => laws_FnMoreKinds.l0.eq_2 ..) ?_
    rw [stepL_at hi, stepL_at hi, w64i i (by omega), w64 (x := kinds - 1) (by omega) (by omega)]
    refine Ev.pos (by omega) (Ev.pos (by omega) (Ev.pos (by omega) (Ev.pos (by omega) (Ev.pos (by omega) (Ev.pos (by omega) (Ev.neg ?_ ?_))))))
    · by_cases c : stepAt net kinds st i = 1
      · have := m.1.1 c; simp [c, this]
      · have c2 : ¬ stepAt net (kinds + 1) st i = 1 := fun q => c (m.1.2 q)
        simp only [beq_eq_false_iff_ne.2 c, beq_eq_false_iff_ne.2 c2, bne_self_eq_false]; decide
    · by_cases c : rd st (i : Int) < kinds - 1
      · exact Ev.pos c (Ev.pos (m.2 c) (ih (i + 1) (by omega)))
      · exact Ev.neg c (ih (i + 1) (by omega))
theorem FnMoreKinds : laws_FnMoreKinds.Pure := by
  intro l _ hl hb
  refine Ev.rounds (?_ : Ev (fun k => laws_FnMoreKinds.f k l) true)
  unfold laws_FnMoreKinds.f
  by_cases hbig : (l.length : Int) > 1048576
  · exact Ev.pos hbig (Ev.one rfl)
  refine Ev.neg hbig ?_
  obtain ⟨net, kinds, st, hd, hnl, hsl⟩ := drawFireStep_ev hb
  refine Ev.bind hd ?_
  dsimp only
  by_cases h : AskP net kinds st
  · have h1 := h.2.1.2.2.1
    have h3 := h.2.1.1
    have l1 := stepL_len net kinds st
    refine Ev.bind (iFire_yes h) (Ev.neg (by omega) ?_)
    refine Ev.step (fun k => laws_FnMoreKinds.j0.eq_2 ..) ?_
    by_cases c : kinds ≥ 5
    · exact Ev.pos (decide_eq_true c) (Ev.pos (by omega) (Ev.bind alive_ev (Ev.now _)))
    · rw [w64 (x := kinds + 1) (by omega) (by omega)]
      exact Ev.neg (by rw [decide_eq_false c]; decide) (Ev.bind (iFire_yes (more_ask h (by omega))) (more_l h (by omega) st.length 0 (by omega)))
  · refine Ev.bind (iFire_no (by omega) h) (Ev.pos rfl ?_)
    refine Ev.step (fun k => laws_FnMoreKinds.j0.eq_2 ..) ?_
    exact Ev.pos rfl (Ev.neg (by simp) (Ev.bind (sFire_no (by omega) h) (Ev.pos rfl (Ev.bind alive_ev (Ev.now _)))))
end Go.Proofs.Ytjofekchopgfbad.Pure
