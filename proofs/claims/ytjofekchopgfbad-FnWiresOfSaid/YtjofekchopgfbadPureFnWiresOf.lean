/- The neighbours of all nodes are together twice as many as the wires, and there are at least as many wires as nodes less parts, at every drawn input. Conditions: none beyond those of the statement. -/
import Derived.Test.YtjofekchopgfbadCFnWiresOf
namespace Go.Proofs.Ytjofekchopgfbad.Pure
open Go Go.RowKit Go.Proofs.Ytjofekchopgfbad.PFnWiresOf Go.Proofs.YtjofekchopgfbadW.PrintWords Go.Proofs.YtjofekchopgfbadW.PrintLast Go.Proofs.Ytjofekchopgfbad.Pl Go.Proofs.Ytjofekchopgfbad.CFnWiresOf

theorem near_one {net : List Int} (hn : NetP net) {i : Nat} (hi : i < net.length) : near net (2 ^ i) = rd net (i : Int) := by
  have h6 := hn.2.1
  refine set_ext (near_ins hn _) (hn.ins hi) (fun j _ => ?_)
  rw [Bool.eq_iff_iff, near_tb hn]
  have q := (InS.one' (n := net.length) (i := i) (by omega) hi).2
  constructor
  · rintro ⟨k, _, a, b⟩
    rw [q, decide_eq_true_iff] at a
    rw [a]; exact b
  · intro b; exact ⟨i, hi, by rw [q]; simp, b⟩
theorem sumN_one {f : Nat → Int} : ∀ {n j : Nat}, (∀ i, i < n → 0 ≤ f i) → j < n → f j ≤ sumN f n := by
  intro n
  induction n with
  | zero => intro j _ hj; omega
  | succ n ih =>
    intro j h hj
    have hpos : ∀ m : Nat, m ≤ n → 0 ≤ sumN f m := by
      intro m
      induction m with
      | zero => intro _; exact Int.le_refl _
      | succ m ih2 => intro hm; simp only [sumN]; have := ih2 (by omega); have := h m (by omega); omega
    simp only [sumN]
    have h1 := hpos n (Nat.le_refl _)
    have h2 := h n (by omega)
    by_cases e : j = n
    · rw [e]; omega
    · have := ih (j := j) (fun i hi => h i (by omega)) (by omega); omega
noncomputable def rootD (net : List Int) (k : Nat) : Int := rd (distRow net (2 ^ (partOf net k).toNat)) (k : Int)
noncomputable def dnU (net : List Int) (k j : Nat) : Int := if tb (rd net (k : Int)) j = true ∧ rootD net j < rootD net k then 1 else 0
theorem dnU_pair {net : List Int} (hn : NetP net) {k j : Nat} (hk : k < net.length) (hj : j < net.length) : dnU net k j + dnU net j k ≤ rd net (k : Int) / 2 ^ j % 2 := by
  unfold dnU
  cases c : tb (rd net (k : Int)) j with
  | true =>
    have c2 : tb (rd net (j : Int)) k = true := by rw [← hn.sym hk hj]; exact c
    rw [(tb_iff _ _).1 c]
    by_cases p : rootD net j < rootD net k
    · rw [if_pos ⟨rfl, p⟩, if_neg (fun q => by have := q.2; omega)]; omega
    · by_cases r : rootD net k < rootD net j
      · rw [if_neg (fun q => p q.2), if_pos ⟨c2, r⟩]; omega
      · rw [if_neg (fun q => p q.2), if_neg (fun q => r q.2)]; omega
  | false =>
    have c2 : tb (rd net (j : Int)) k = false := by rw [← hn.sym hk hj]; exact c
    rw [(tb_not _ _).1 c, c2, if_neg (fun q => by cases q.1), if_neg (fun q => by cases q.1)]; omega
theorem forest {net : List Int} (hn : NetP net) : (net.length : Int) - sumN (fun k => if partOf net k = (k : Int) then 1 else 0) net.length ≤ wires net := by
  have h6 := hn.2.1
  have hu0 : ∀ k j, 0 ≤ dnU net k j := fun k j => by unfold dnU; split <;> omega
  have h1 : sumN (fun k => 1 - (if partOf net k = (k : Int) then 1 else 0)) net.length ≤ sumN (fun k => sumN (fun j => dnU net k j) net.length) net.length := by
    refine sumN_mono (fun k hk => ?_)
    have hpos : 0 ≤ sumN (fun j => dnU net k j) net.length := by
      have : ∀ m : Nat, 0 ≤ sumN (fun j => dnU net k j) m := by
        intro m
        induction m with
        | zero => exact Int.le_refl _
        | succ m ih => simp only [sumN]; have := hu0 k m; omega
      exact this _
    by_cases c : partOf net k = (k : Int)
    · rw [if_pos c]; omega
    · rw [if_neg c]
      obtain ⟨r, e, hr, hrch, _⟩ := partOf_told hk
      have hrk : Rch net r k := hrch.symm hn
      have hrn : r < net.length := by omega
      have hd0 := (rch_dist h6 hrn hk).2 hrk
      have hdne : rd (distRow net (2 ^ r)) (k : Int) ≠ 0 := by
        intro z
        have := (dist_zero (set := 2 ^ r) hk).1 z
        rw [(InS.one' (n := net.length) (i := r) (by omega) hrn).2, decide_eq_true_iff] at this
        exact c (by rw [e, this])
      obtain ⟨j, adj, ej⟩ := dist_nearer hn (set := 2 ^ r) hk (by omega)
      have hsame := (partOf_same hn hk adj.2.1).2 ⟨1, Wk.one adj⟩
      have hu : dnU net k j = 1 := by
        unfold dnU
        refine if_pos ⟨adj.2.2, ?_⟩
        unfold rootD
        rw [← hsame, e, Int.toNat_natCast]; omega
      have := sumN_one (f := fun j => dnU net k j) (n := net.length) (fun i _ => hu0 k i) adj.2.1
      have hu' : (fun j => dnU net k j) j = 1 := hu
      omega
  have h2 : sumN (fun k => sumN (fun j => dnU net k j) net.length) net.length ≤ wires net := by
    rw [dsum_tri (dnU net)]
    have hz : sumN (fun i => dnU net i i) net.length = 0 := by
      rw [sumN_congr (f := fun i => dnU net i i) (g := fun _ => 0) (fun i _ => by show dnU net i i = 0; unfold dnU; exact if_neg (fun q => by have := q.2; omega))]
      have : ∀ n : Nat, sumN (fun _ => (0 : Int)) n = 0 := by
        intro n
        induction n with
        | zero => rfl
        | succ n ih => simp only [sumN]; rw [ih]; rfl
      exact this _
    rw [hz, Int.add_zero, wires]
    exact sumN_mono (fun k hk => sumN_mono (fun j hj => dnU_pair hn hk (by omega)))
  have h3 : sumN (fun k => 1 - (if partOf net k = (k : Int) then 1 else 0)) net.length = (net.length : Int) - sumN (fun k => if partOf net k = (k : Int) then 1 else 0) net.length := by
    have : ∀ n : Nat, sumN (fun k => 1 - (if partOf net k = (k : Int) then 1 else 0)) n = (n : Int) - sumN (fun k => if partOf net k = (k : Int) then 1 else 0) n := by
      intro n
      induction n with
      | zero => rfl
      | succ n ih => simp only [sumN]; rw [ih]; omega
    exact this _
  omega
theorem wl_1 {net : List Int} (hn : NetP net) {i : Nat} (hi : i < net.length) {acc p n : Int} (ha : 0 ≤ acc ∧ acc ≤ 1000) (hp : 0 ≤ p ∧ p ≤ 1000)
    (cont : Ev (fun k => laws_FnWiresOf.l0 k net n (acc + sumN (fun j => rd net (i : Int) / 2 ^ j % 2) net.length) (p + if partOf net i = (i : Int) then 1 else 0) (partRow net) ((i + 1 : Nat) : Int)) true) :
    ∀ (d j : Nat), j + d = net.length → Ev (fun k => laws_FnWiresOf.l1 k net n (acc + sumN (fun j => rd net (i : Int) / 2 ^ j % 2) j) p (partRow net) (i : Int) (rd net (i : Int)) (j : Int)) true := by
  have h6 := hn.2.1
  have hl := partRow_len net
  have hin := hn.ins hi
  have hmx : mx (rd net (i : Int)) 0 = rd net (i : Int) := by unfold mx; rw [if_neg (by have := hin.1; omega)]
  intro d
  induction d with
  | zero =>
    intro j hd
    refine Ev.step (fun k => laws_FnWiresOf.l1.eq_2 ..) ?_
    rw [partRow_at hi, show j = net.length by omega, w64i i (by omega), w64 (x := p + 1) (by omega) (by omega)]
    refine Ev.neg (by omega) (Ev.pos (by omega) (Ev.pos (by omega) (Ev.pos (by omega) ?_)))
    by_cases c : partOf net i = (i : Int)
    · rw [if_pos c] at cont; exact Ev.pos c cont
    · rw [if_neg c, Int.add_zero] at cont; exact Ev.neg c cont
  | succ d ih =>
    intro j hd
    have hb := sumN_range (fun j => rd net (i : Int) / 2 ^ j % 2) 1 (fun j => by show 0 ≤ rd net (i : Int) / 2 ^ j % 2 ∧ rd net (i : Int) / 2 ^ j % 2 ≤ 1; omega) j
    refine Ev.step (fun k => laws_FnWiresOf.l1.eq_2 ..) ?_
    rw [hmx, shr_at _ j (by omega), w64 (x := acc + sumN (fun j => rd net (i : Int) / 2 ^ j % 2) j + rd net (i : Int) / 2 ^ j % 2) (by omega) (by omega), w64i j (by omega), Int.add_assoc]
    exact Ev.pos (by omega) (Ev.pos (by omega) (ih (j + 1) (by omega)))
theorem wl_0 {net : List Int} (hn : NetP net) : ∀ (d i : Nat), i + d = net.length → Ev (fun k => laws_FnWiresOf.l0 k net (wires net) (sumN (fun i => sumN (fun j => rd net (i : Int) / 2 ^ j % 2) net.length) i) (sumN (fun i => if partOf net i = (i : Int) then 1 else 0) i) (partRow net) (i : Int)) true := by
  have h6 := hn.2.1
  have hw := tri_range net net.length h6
  have hw' : 0 ≤ wires net ∧ wires net ≤ 1000 := hw
  intro d
  induction d with
  | zero =>
    intro i hd
    have hp := sumN_range (fun i => if partOf net i = (i : Int) then (1 : Int) else 0) 1 (fun i => by show 0 ≤ (if partOf net i = (i : Int) then (1 : Int) else 0) ∧ (if partOf net i = (i : Int) then (1 : Int) else 0) ≤ 1; split <;> omega) net.length
    have hf := forest hn
    refine Ev.step (fun k => laws_FnWiresOf.l0.eq_2 ..) ?_
    rw [show i = net.length by omega, ends_wires hn, w64 (x := 2 * wires net) (by omega) (by omega), w64 (x := (net.length : Int) - sumN (fun i => if partOf net i = (i : Int) then (1 : Int) else 0) net.length) (by omega) (by omega)]
    exact Ev.neg (by omega) (Ev.pos rfl (Ev.one (congrArg some (decide_eq_true hf))))
  | succ d ih =>
    intro i hd
    have hi : i < net.length := by omega
    have e : shl .i64 1 (i : Int) = 2 ^ i := by rw [shl_one i (by omega)]; simp
    have hp := sumN_range (fun i => if partOf net i = (i : Int) then (1 : Int) else 0) 1 (fun i => by show 0 ≤ (if partOf net i = (i : Int) then (1 : Int) else 0) ∧ (if partOf net i = (i : Int) then (1 : Int) else 0) ≤ 1; split <;> omega) i
    have ha := sumN_range (fun i => sumN (fun j => rd net (i : Int) / 2 ^ j % 2) net.length) 6 (fun i => by
      have := sumN_range (fun j => rd net (i : Int) / 2 ^ j % 2) 1 (fun j => by show 0 ≤ rd net (i : Int) / 2 ^ j % 2 ∧ rd net (i : Int) / 2 ^ j % 2 ≤ 1; omega) net.length
      show 0 ≤ sumN (fun j => rd net (i : Int) / 2 ^ j % 2) net.length ∧ sumN (fun j => rd net (i : Int) / 2 ^ j % 2) net.length ≤ 6
      omega) i
    have hnear := iNearOf_yes hn (InS.one (n := net.length) (i := i) (by omega) hi).1
    rw [e, near_one hn hi] at hnear
    have := wl_1 hn hi (acc := sumN (fun i => sumN (fun j => rd net (i : Int) / 2 ^ j % 2) net.length) i) (p := sumN (fun i => if partOf net i = (i : Int) then (1 : Int) else 0) i) (n := wires net) (by omega) (by omega) (ih (i + 1) (by omega)) net.length 0 (by omega)
    simp only [sumN, Int.add_zero] at this
    refine Ev.step (fun k => laws_FnWiresOf.l0.eq_2 ..) ?_
    rw [e]
    exact Ev.pos (by omega) (Ev.pos (by omega) (Ev.bind hnear this))
theorem FnWiresOf : laws_FnWiresOf.Pure := by
  intro l _ hl hb
  refine Ev.rounds (?_ : Ev (fun k => laws_FnWiresOf.f k l) true)
  unfold laws_FnWiresOf.f
  by_cases hbig : (l.length : Int) > 1048576
  · exact Ev.pos hbig (Ev.one rfl)
  refine Ev.neg hbig ?_
  obtain ⟨net, hd, hnl⟩ := drawWiresOf_ev hb
  refine Ev.bind hd ?_
  by_cases h : NetP net
  · have hw := tri_range net net.length h.2.1
    have hw' : 0 ≤ wires net ∧ wires net ≤ 1000 := hw
    exact Ev.bind (iWires_yes h) (Ev.bind (sWires_yes h) (Ev.pos rfl (Ev.neg (by omega) (Ev.bind (iParts_yes h) (wl_0 h net.length 0 (by omega))))))
  · exact Ev.bind (iWires_no h) (Ev.bind (sWires_no h) (Ev.pos rfl (Ev.pos (by omega) (Ev.pos rfl (Ev.bind (iNetOk_no h) (Ev.neg (by decide) (Ev.bind alive_ev (Ev.now _))))))))
end Go.Proofs.Ytjofekchopgfbad.Pure
