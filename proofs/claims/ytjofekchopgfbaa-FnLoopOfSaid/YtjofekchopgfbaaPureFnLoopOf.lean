/- Each state comes to a loop, at every drawn input. Conditions: none beyond those of the statement. -/
import Derived.Test.YtjofekchopgfbaaCFnLoopOf
namespace Go.Proofs.Ytjofekchopgfbaa.Pure
open Go Go.RowKit Go.Proofs.Ytjofekchopgfbaa.PFnLoopOf Go.Proofs.YtjofekchopgfbaaW.PrintWords Go.Proofs.YtjofekchopgfbaaW.PrintLast Go.Proofs.Ytjofekchopgfbaa.Pl Go.Proofs.Ytjofekchopgfbaa.CFnLoopOf

theorem loop_pow {net : List Int} {kinds : Int} {st : List Int} {a b : Int} (h : AskP net kinds st) {r : Bool} (cont : Ev (fun k => laws_FnLoopOf.l0 k net kinds st a b (kinds ^ net.length) (net.length : Int)) r) : ∀ (d i : Nat), i + d = net.length → Ev (fun k => laws_FnLoopOf.l0 k net kinds st a b (kinds ^ i) (i : Int)) r := by
  have h6 := h.1.2.1
  have hk3 := h.2.1.1
  have hk5 := h.2.1.2.1
  intro d
  induction d with
  | zero =>
    intro i hd
    obtain rfl : i = net.length := by omega
    exact cont
  | succ d ih =>
    intro i hd
    have hp := pow_kinds hk3 hk5 (i := i) (by omega)
    have hp1 := pow_kinds hk3 hk5 (i := i + 1) (by omega)
    have e : kinds ^ i * kinds = kinds ^ (i + 1) := (Int.pow_succ ..).symm
    refine Ev.step (fun k => laws_FnLoopOf.l0.eq_2 ..) ?_
    rw [e, w64 (x := kinds ^ (i + 1)) (by omega) (by omega), w64i i (by omega)]
    exact Ev.pos (by omega) (ih (i + 1) (by omega))
theorem FnLoopOf : laws_FnLoopOf.Pure := by
  intro l _ hl hb
  refine Ev.rounds (?_ : Ev (fun k => laws_FnLoopOf.f k l) true)
  unfold laws_FnLoopOf.f
  by_cases hbig : (l.length : Int) > 1048576
  · exact Ev.pos hbig (Ev.one rfl)
  refine Ev.neg hbig ?_
  obtain ⟨net, kinds, st, hd, hnet, hst⟩ := drawLoopOf_ev hb
  refine Ev.bind hd ?_
  dsimp only
  by_cases h : AskP net kinds st
  · obtain ⟨mu, la, hP, hle⟩ := LoopP.ex h
    have h6 := h.2.1.2.2.2.1
    have hlen := h.2.2
    have hp := pow_kinds h.2.1.1 h.2.1.2.1 (i := st.length) h6
    have hla := hP.1
    have hstep := iLoop_yes h.step hP.step (by omega)
    refine Ev.bind (iLoop_yes h hP (by omega)) (Ev.bind (sLoop_yes h hP (by omega)) (Ev.pos rfl ?_))
    refine Ev.step (fun k => laws_FnLoopOf.j0.eq_2 ..) ?_
    refine Ev.neg (by simp) (Ev.neg (by omega) ?_)
    suffices hgo : Ev (fun k => laws_FnLoopOf.l0 k net kinds st (mu : Int) (la : Int) (kinds ^ net.length) (net.length : Int)) true by
      have h0 := loop_pow h hgo net.length 0 (by omega)
      rw [Int.pow_zero] at h0
      exact h0
    refine Ev.step (fun k => laws_FnLoopOf.l0.eq_2 ..) ?_
    refine Ev.neg (by omega) ?_
    have hmx : mx (wrap64 ((mu : Int) - 1)) 0 = ((mu - 1 : Nat) : Int) := by
      rw [w64 (by omega) (by omega)]
      unfold mx
      split <;> omega
    have fin : Ev (fun _ => (some ((((mu - 1 : Nat) : Int)) == (mx (wrap64 ((mu : Int) - 1)) 0)) : Option Bool)) true := Ev.one (by rw [hmx]; simp)
    have hcond : wrap64 ((mu : Int) + (la : Int)) ≤ kinds ^ net.length := by
      rw [w64 (by omega) (by omega), hlen]; omega
    by_cases c : mu ≤ 60
    · have hr := h.run mu
      have hrl := runL_len (net := net) (kinds := kinds) (st := st) mu
      by_cases c2 : la ≤ 60
      · refine Ev.bind (iRun_yes h c) (Ev.bind (iRun_yes hr c2) (Ev.bind (iFire_yes h) (Ev.bind hstep (Ev.pos (by show (la : Int) ≥ 1; omega) (Ev.pos hcond ?_)))))
        have hx := h.2.1.2.2.1
        rw [runL_add, ← hP.2.1]
        exact Ev.neg (by omega) (Ev.neg (by omega) (Ev.bind (sameInts_ev _ _ (by omega)) (Ev.pos (by simp) (Ev.pos rfl fin))))
      · refine Ev.bind (iRun_yes h c) (Ev.bind (iRun_no (by omega) (fun q => by omega)) (Ev.bind (iFire_yes h) (Ev.bind hstep (Ev.pos (by show (la : Int) ≥ 1; omega) (Ev.pos hcond ?_)))))
        have hx := h.2.1.2.2.1
        exact Ev.neg (by omega) (Ev.pos (by simp) (Ev.pos rfl fin))
    · refine Ev.bind (iRun_no (by omega) (fun q => by omega)) (Ev.bind (iRun_no (by simp) (fun q => by have := q.1.2.1.2.2.1; simp at this)) (Ev.bind (iFire_yes h) (Ev.bind hstep (Ev.pos (by show (la : Int) ≥ 1; omega) (Ev.pos hcond ?_)))))
      exact Ev.pos (by simp) (Ev.pos rfl fin)
  · refine Ev.bind (iLoop_no (by omega) h) (Ev.bind (sLoop_no (by omega) h) (Ev.pos rfl ?_))
    refine Ev.step (fun k => laws_FnLoopOf.j0.eq_2 ..) ?_
    exact Ev.neg (by simp) (Ev.pos (by decide) (Ev.pos rfl (Ev.pos rfl (Ev.bind alive_ev (Ev.now _)))))
end Go.Proofs.Ytjofekchopgfbaa.Pure
