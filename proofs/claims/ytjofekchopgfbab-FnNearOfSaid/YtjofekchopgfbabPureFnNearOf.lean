/- The neighbours of a set are just the nodes of which some neighbour is in the set, at every drawn input. Conditions: none beyond those of the statement. -/
import Derived.Test.YtjofekchopgfbabCFnNearOf
namespace Go.Proofs.Ytjofekchopgfbab.Pure
open Go Go.RowKit Go.Proofs.Ytjofekchopgfbab.PFnNearOf Go.Proofs.YtjofekchopgfbabW.PrintWords Go.Proofs.YtjofekchopgfbabW.PrintLast Go.Proofs.Ytjofekchopgfbab.Pl Go.Proofs.Ytjofekchopgfbab.CFnNearOf

theorem near_l {net : List Int} (hn : NetP net) {set : Int} (hs : InS net.length set) : ∀ (d i : Nat), i + d = net.length → Ev (fun k => laws_FnNearOf.l0 k net set (near net set) (i : Int)) true := by
  have h6 := hn.2.1
  have hin := near_ins hn set
  intro d
  induction d with
  | zero =>
    intro i hd
    have hz : near net 0 = 0 := set_zero (near_ins hn 0) (fun j hj => by
      cases c : tb (near net 0) j with
      | false => rfl
      | true =>
        obtain ⟨i, _, a, _⟩ := (near_tb hn 0 j).1 c
        rw [tb_zero] at a; cases a)
    have hnear := iNearOf_yes hn (InS.zero net.length)
    rw [hz] at hnear
    refine Ev.step (fun k => laws_FnNearOf.l0.eq_2 ..) ?_
    refine Ev.neg (by omega) (Ev.bind hnear (Ev.pos rfl (Ev.one (congrArg some (decide_eq_true ?_)))))
    rw [shl_one _ (by omega)]
    have := hin.2
    push_cast; exact this
  | succ d ih =>
    intro i hd
    have hi : i < net.length := by omega
    have o := InS.and (by omega) (hn.ins hi) hs
    have key : (near net set / 2 ^ i % 2 = 1) ↔ Go.bits .and .i64 (rd net (i : Int)) set ≠ 0 := by
      rw [← tb_iff, near_tb hn]
      constructor
      · rintro ⟨j, hj, a, b⟩ z
        have := o.2 j
        rw [z, tb_zero, a, hn.sym hi hj, b] at this
        cases this
      · intro z
        refine Classical.byContradiction fun q => z (set_zero o.1 (fun j hj => ?_))
        cases c : tb (Go.bits .and .i64 (rd net (i : Int)) set) j with
        | false => rfl
        | true =>
          rw [o.2, Bool.and_eq_true] at c
          exact absurd ⟨j, hj, c.2, by rw [hn.sym hj hi]; exact c.1⟩ q
    refine Ev.step (fun k => laws_FnNearOf.l0.eq_2 ..) ?_
    rw [stest _ i (by omega) hin.1, w64i i (by omega)]
    refine Ev.pos (by omega) (Ev.pos (by omega) (Ev.neg ?_ (ih (i + 1) (by omega))))
    by_cases c : near net set / 2 ^ i % 2 = 1
    · have := key.1 c
      simp [c, this]
    · have : Go.bits .and .i64 (rd net (i : Int)) set = 0 := Classical.byContradiction fun q => c (key.2 q)
      simp [c, this]
theorem FnNearOf : laws_FnNearOf.Pure := by
  intro l _ hl hb
  refine Ev.rounds (?_ : Ev (fun k => laws_FnNearOf.f k l) true)
  unfold laws_FnNearOf.f
  by_cases hbig : (l.length : Int) > 1048576
  · exact Ev.pos hbig (Ev.one rfl)
  refine Ev.neg hbig ?_
  obtain ⟨net, set, hd, hn⟩ := drawNearOf_ev hb
  refine Ev.bind hd ?_
  dsimp only
  by_cases h : NetP net ∧ InS net.length set
  · have hin := near_ins h.1 set
    exact Ev.bind (iNearOf_yes h.1 h.2) (Ev.bind (sNearOf_yes h.1 h.2) (Ev.pos rfl (Ev.neg (by have := hin.1; omega) (near_l h.1 h.2 net.length 0 (by omega)))))
  · exact Ev.bind (iNearOf_no h) (Ev.bind (sNearOf_no h) (Ev.pos rfl (Ev.pos (by omega) (Ev.pos rfl (Ev.bind alive_ev (Ev.now _))))))
end Go.Proofs.Ytjofekchopgfbab.Pure
