/- It is 0 for just the nodes of the set; neighbours are at most one step apart; and each node that is more than 0 away has a neighbour one nearer: at every drawn input. Conditions: none beyond those of the statement. -/
import Derived.Test.YtjofekchopgfbacCFnDistancesFrom
namespace Go.Proofs.Ytjofekchopgfbac.Pure
open Go Go.RowKit Go.Proofs.Ytjofekchopgfbac.PFnDistancesFrom Go.Proofs.YtjofekchopgfbacW.PrintWords Go.Proofs.YtjofekchopgfbacW.PrintLast Go.Proofs.Ytjofekchopgfbac.Pl Go.Proofs.Ytjofekchopgfbac.CFnDistancesFrom

theorem dl_1 {net : List Int} (hn : NetP net) {set : Int} (hs : InS net.length set) {k0 : Nat} (hk : k0 < net.length) (cont : Ev (fun k => laws_FnDistancesFrom.l0 k net set (distRow net set) ((k0 + 1 : Nat) : Int)) true) :
    ∀ (d j : Nat) (b : Bool), j + d = net.length → (b = true ↔ ∃ j' : Nat, j' < j ∧ Adj net k0 j' ∧ rd (distRow net set) (j' : Int) + 1 = rd (distRow net set) (k0 : Int)) →
      Ev (fun k => laws_FnDistancesFrom.l1 k net set (distRow net set) (k0 : Int) b (j : Int)) true := by
  have h6 := hn.2.1
  have hl := distRow_len net set
  intro d
  induction d with
  | zero =>
    intro j b hd hbb
    refine Ev.step (fun k => laws_FnDistancesFrom.l1.eq_2 ..) ?_
    rw [stest _ k0 (by omega) hs.1, w64i k0 (by omega)]
    refine Ev.neg (by omega) (Ev.pos (by omega) (Ev.pos (by omega) (Ev.neg ?_ ?_)))
    · have := dist_zero (set := set) hk
      by_cases c : rd (distRow net set) (k0 : Int) = 0
      · have c2 := (tb_iff _ _).1 (this.1 c)
        simp [c, c2]
      · have c2 : ¬ set / 2 ^ k0 % 2 = 1 := fun q => c (this.2 ((tb_iff _ _).2 q))
        rw [beq_eq_false_iff_ne.2 c, beq_eq_false_iff_ne.2 c2]; decide
    · by_cases c : rd (distRow net set) (k0 : Int) > 0
      · obtain ⟨j', adj, e⟩ := dist_nearer hn hk c
        exact Ev.pos c (Ev.pos (hbb.2 ⟨j', by have := adj.2.1; omega, adj, e⟩) cont)
      · exact Ev.neg c cont
  | succ d ih =>
    intro j b hd hbb
    refine Ev.step (fun k => laws_FnDistancesFrom.l1.eq_2 ..) ?_
    rw [stest _ j (by omega) (hn.ins hk).1, w64i j (by omega)]
    refine Ev.pos (by omega) (Ev.pos (by omega) (Ev.pos (by omega) (Ev.pos (by omega) ?_)))
    cases c : tb (rd net (k0 : Int)) j with
    | false =>
      refine Ev.pos ((tb_not _ _).1 c) (ih (j + 1) b (by omega) (hbb.trans ⟨fun ⟨j', a, q⟩ => ⟨j', by omega, q⟩, fun ⟨j', a, q⟩ => ⟨j', ?_, q⟩⟩))
      by_cases z : j' = j
      · have := q.1.2.2; rw [z, c] at this; cases this
      · omega
    | true =>
      have adj : Adj net k0 j := ⟨hk, by omega, c⟩
      have hadj := dist_adj hn (set := set) adj
      have hs1 := dist_small (set := set) hk
      have hs2 := dist_small (net := net) (set := set) (i := j) (by omega)
      refine Ev.neg (by rw [(tb_iff _ _).1 c]; decide) (Ev.pos (by omega) (Ev.pos (by omega) (Ev.neg ?_ ?_)))
      · by_cases q : rd (distRow net set) (j : Int) < 0
        · have := hadj.1.1 q; simp [q, this]
        · have : ¬ rd (distRow net set) (k0 : Int) < 0 := fun z => q (hadj.1.2 z)
          simp only [q, this, decide_false, bne_self_eq_false]; decide
      · rw [w64 (x := rd (distRow net set) (k0 : Int) + 1) (by omega) (by omega), w64 (x := rd (distRow net set) (j : Int) + 1) (by omega) (by omega)]
        refine Ev.neg (by omega) ?_
        cases b with
        | true =>
          obtain ⟨j', a, q⟩ := hbb.1 rfl
          exact Ev.pos rfl (ih (j + 1) true (by omega) ⟨fun _ => ⟨j', by omega, q⟩, fun _ => rfl⟩)
        | false =>
          refine Ev.neg (by decide) (ih (j + 1) _ (by omega) ?_)
          rw [beq_iff_eq]
          constructor
          · intro e; exact ⟨j, by omega, adj, e⟩
          · rintro ⟨j', a, q, e⟩
            by_cases z : j' = j
            · rw [← z]; exact e
            · have := hbb.2 ⟨j', by omega, q, e⟩; cases this
theorem dl_0 {net : List Int} (hn : NetP net) {set : Int} (hs : InS net.length set) : ∀ (d i : Nat), i + d = net.length → Ev (fun k => laws_FnDistancesFrom.l0 k net set (distRow net set) (i : Int)) true := by
  have h6 := hn.2.1
  have hl := distRow_len net set
  intro d
  induction d with
  | zero =>
    intro i hd
    refine Ev.step (fun k => laws_FnDistancesFrom.l0.eq_2 ..) ?_
    exact Ev.neg (by omega) (Ev.one (by rw [hl]; simp))
  | succ d ih =>
    intro i hd
    refine Ev.step (fun k => laws_FnDistancesFrom.l0.eq_2 ..) ?_
    exact Ev.pos (by omega) (dl_1 hn hs (by omega) (ih (i + 1) (by omega)) net.length 0 false (by omega) ⟨(fun q => Bool.noConfusion q), fun ⟨j', a, _⟩ => by omega⟩)
theorem FnDistancesFrom : laws_FnDistancesFrom.Pure := by
  intro l _ hl hb
  refine Ev.rounds (?_ : Ev (fun k => laws_FnDistancesFrom.f k l) true)
  unfold laws_FnDistancesFrom.f
  by_cases hbig : (l.length : Int) > 1048576
  · exact Ev.pos hbig (Ev.one rfl)
  refine Ev.neg hbig ?_
  obtain ⟨net, set, hd, hnl⟩ := drawDistancesFrom_ev hb
  refine Ev.bind hd ?_
  dsimp only
  by_cases h : NetP net ∧ InS net.length set
  · have hlen := distRow_len net set
    have := h.1.1
    exact Ev.bind (iDist_yes h.1 h.2) (Ev.bind (sDist_yes h.1 h.2) (Ev.bind (sameInts_ev (distRow net set) (distRow net set) (by omega)) (Ev.pos (by simp) (Ev.neg (by omega) (dl_0 h.1 h.2 net.length 0 (by omega))))))
  · exact Ev.bind (iDist_no h) (Ev.bind (sDist_no h) (Ev.bind (sameInts_ev [] [] (by simp)) (Ev.pos (by simp) (Ev.pos rfl (Ev.bind alive_ev (Ev.now _))))))
end Go.Proofs.Ytjofekchopgfbac.Pure
