/- Nets, sets, states and orders as plain lists of whole numbers, and what is told of them. No program in sight. -/
import Derived.Test.YtjofekchopgfbacBase
namespace Go.Proofs.Ytjofekchopgfbac.Pl
open Go Go.RowKit Go.Proofs.YtjofekchopgfbacW.PrintWords Go.Proofs.YtjofekchopgfbacW.PrintLast

/-! rows that are written by a rule -/
def mkL (f : Nat → Int) (n : Nat) : List Int := (List.range n).map f
theorem mkL_len (f : Nat → Int) (n : Nat) : (mkL f n).length = n := by simp [mkL]
theorem mkL_zero (f : Nat → Int) : mkL f 0 = [] := rfl
theorem mkL_snoc (f : Nat → Int) (n : Nat) : mkL f n ++ [f n] = mkL f (n + 1) := by simp [mkL, List.range_succ]
theorem rd_mkL (f : Nat → Int) (n i : Nat) (h : i < n) : rd (mkL f n) (i : Int) = f i := by
  rw [rd_at _ _ (by rw [mkL_len]; exact h)]; simp [mkL]
theorem mkL_ext {f : Nat → Int} {n : Nat} {xs : List Int} (hl : xs.length = n) (h : ∀ i : Nat, i < n → rd xs (i : Int) = f i) : xs = mkL f n :=
  rd_ext (by rw [hl, mkL_len]) (fun i hi => by rw [rd_mkL f n i (by omega)]; exact h i (by omega))
theorem mkL_self (xs : List Int) : mkL (fun i => rd xs (i : Int)) xs.length = xs := (mkL_ext rfl (fun _ _ => rfl)).symm
theorem mkL_congr {f g : Nat → Int} {n : Nat} (h : ∀ i, i < n → f i = g i) : mkL f n = mkL g n :=
  mkL_ext (mkL_len f n) (fun i hi => by rw [rd_mkL f n i hi, h i hi])

/-! nets -/
/-- Row i of a net, told by quotients. -/
def RowP (net : List Int) (i : Nat) : Prop :=
  InS net.length (rd net (i : Int)) ∧ rd net (i : Int) / 2 ^ i % 2 = 0 ∧ ∀ j : Nat, j < net.length → rd net (i : Int) / 2 ^ j % 2 = rd net (j : Int) / 2 ^ i % 2
def NetP (net : List Int) : Prop := 1 ≤ net.length ∧ net.length ≤ 6 ∧ ∀ i : Nat, i < net.length → RowP net i
/-- i and j are neighbours. -/
def Adj (net : List Int) (i j : Nat) : Prop := i < net.length ∧ j < net.length ∧ tb (rd net (i : Int)) j = true
theorem NetP.ins {net : List Int} (h : NetP net) {i : Nat} (hi : i < net.length) : InS net.length (rd net (i : Int)) := (h.2.2 i hi).1
theorem NetP.sym {net : List Int} (h : NetP net) {i j : Nat} (hi : i < net.length) (hj : j < net.length) : tb (rd net (i : Int)) j = tb (rd net (j : Int)) i := by
  have := (h.2.2 i hi).2.2 j hj
  simp only [tb, this]
theorem NetP.irr {net : List Int} (h : NetP net) {i : Nat} (hi : i < net.length) : tb (rd net (i : Int)) i = false := by
  rw [tb_not]; exact (h.2.2 i hi).2.1
theorem Adj.symm {net : List Int} (h : NetP net) {i j : Nat} (a : Adj net i j) : Adj net j i := ⟨a.2.1, a.1, by rw [← h.sym a.1 a.2.1]; exact a.2.2⟩
theorem NetP.of {net : List Int} (h1 : 1 ≤ net.length) (h2 : net.length ≤ 6) (hi : ∀ i : Nat, i < net.length → InS net.length (rd net (i : Int)) ∧ tb (rd net (i : Int)) i = false ∧ ∀ j : Nat, j < net.length → tb (rd net (i : Int)) j = tb (rd net (j : Int)) i) : NetP net := by
  refine ⟨h1, h2, fun i h => ⟨(hi i h).1, (tb_not _ _).1 (hi i h).2.1, fun j hj => ?_⟩⟩
  have e := (hi i h).2.2 j hj
  cases c : tb (rd net (i : Int)) j with
  | true => rw [(tb_iff _ _).1 c, (tb_iff _ _).1 (e ▸ c)]
  | false => rw [(tb_not _ _).1 c, (tb_not _ _).1 (e ▸ c)]

/-! the neighbours of a set -/
def nearI (net : List Int) (set : Int) : Nat → Int
  | 0 => 0
  | i + 1 => if tb set i then Go.bits .or .i64 (nearI net set i) (rd net (i : Int)) else nearI net set i
def near (net : List Int) (set : Int) : Int := nearI net set net.length
theorem nearI_told {net : List Int} (h : NetP net) (set : Int) : ∀ m : Nat, m ≤ net.length → InS net.length (nearI net set m) ∧ ∀ j, tb (nearI net set m) j = true ↔ ∃ i, i < m ∧ tb set i = true ∧ tb (rd net (i : Int)) j = true := by
  intro m
  induction m with
  | zero => intro _; exact ⟨InS.zero _, fun j => by simp [nearI, tb_zero]⟩
  | succ m ih =>
    intro hm
    obtain ⟨h1, h2⟩ := ih (by omega)
    have h6 := h.2.1
    cases c : tb set m with
    | true =>
      have o := InS.or (by omega) h1 (h.ins (i := m) (by omega))
      refine ⟨by simp only [nearI, c, if_true]; exact o.1, fun j => ?_⟩
      simp only [nearI, c, if_true]
      rw [o.2, Bool.or_eq_true, h2]
      constructor
      · rintro (⟨i, hi, a, b⟩ | b)
        · exact ⟨i, by omega, a, b⟩
        · exact ⟨m, by omega, c, b⟩
      · rintro ⟨i, hi, a, b⟩
        by_cases e : i = m
        · subst e; exact .inr b
        · exact .inl ⟨i, by omega, a, b⟩
    | false =>
      refine ⟨by simp only [nearI, c]; exact h1, fun j => ?_⟩
      simp only [nearI, c, Bool.false_eq_true, if_false]
      rw [h2]
      constructor
      · rintro ⟨i, hi, a, b⟩; exact ⟨i, by omega, a, b⟩
      · rintro ⟨i, hi, a, b⟩
        by_cases e : i = m
        · subst e; rw [c] at a; cases a
        · exact ⟨i, by omega, a, b⟩
theorem near_ins {net : List Int} (h : NetP net) (set : Int) : InS net.length (near net set) := (nearI_told h set _ (Nat.le_refl _)).1
theorem near_tb {net : List Int} (h : NetP net) (set : Int) (j : Nat) : tb (near net set) j = true ↔ ∃ i, i < net.length ∧ tb set i = true ∧ tb (rd net (i : Int)) j = true := (nearI_told h set _ (Nat.le_refl _)).2 j

/-! states and orders -/
def StP (kinds : Int) (st : List Int) : Prop := 3 ≤ kinds ∧ kinds ≤ 5 ∧ 1 ≤ st.length ∧ st.length ≤ 6 ∧ ∀ i : Nat, i < st.length → 0 ≤ rd st (i : Int) ∧ rd st (i : Int) < kinds
def OrdP (many : Nat) (ord : List Int) : Prop := ord.length = many ∧ ∀ i : Nat, i < ord.length → 0 ≤ rd ord (i : Int) ∧ rd ord (i : Int) < many ∧ ∀ j : Nat, j < i → rd ord (j : Int) ≠ rd ord (i : Int)
/-! drawers and pigeons -/
theorem pigeon : ∀ (n : Nat) (f : Nat → Nat), (∀ i, i ≤ n → f i < n) → ∃ i j, i < j ∧ j ≤ n ∧ f i = f j := by
  intro n
  induction n with
  | zero => intro f h; exact absurd (h 0 (by omega)) (by omega)
  | succ n ih =>
    intro f h
    by_cases c : ∃ i, i ≤ n ∧ f i = f (n + 1)
    · obtain ⟨i, hi, e⟩ := c
      exact ⟨i, n + 1, by omega, by omega, e⟩
    · have hne : ∀ i, i ≤ n → f i ≠ f (n + 1) := fun i hi e => c ⟨i, hi, e⟩
      have hlast := h (n + 1) (by omega)
      obtain ⟨i, j, hij, hj, e⟩ := ih (fun i => if f i = n then f (n + 1) else f i) (fun i hi => by
        have h1 := h i (by omega)
        have h2 := hne i hi
        show (if f i = n then f (n + 1) else f i) < n
        split <;> omega)
      have hi1 := hne i (by omega)
      have hj1 := hne j (by omega)
      refine ⟨i, j, hij, by omega, ?_⟩
      have e' : (if f i = n then f (n + 1) else f i) = (if f j = n then f (n + 1) else f j) := e
      split at e' <;> split at e' <;> omega

/-! walks and distances -/
/-- There is a walk of just so many steps from the set to the node. -/
def Walk (net : List Int) (set : Int) : Nat → Nat → Prop
  | 0, i => i < net.length ∧ tb set i = true
  | t + 1, i => ∃ j, Walk net set t j ∧ Adj net j i
def First (net : List Int) (set : Int) (t i : Nat) : Prop := Walk net set t i ∧ ∀ s, s < t → ¬ Walk net set s i
theorem Walk.lt {net : List Int} {set : Int} {t i : Nat} (h : Walk net set t i) : i < net.length := by
  cases t with
  | zero => exact h.1
  | succ t => obtain ⟨j, _, a⟩ := h; exact a.2.1
theorem First.lt {net : List Int} {set : Int} {t i : Nat} (h : First net set t i) : i < net.length := h.1.lt
theorem First.before {net : List Int} {set : Int} {t i : Nat} (h : First net set (t + 1) i) : ∃ j, First net set t j ∧ Adj net j i := by
  obtain ⟨⟨j, hj, a⟩, h2⟩ := h
  exact ⟨j, ⟨hj, fun s hs hw => h2 (s + 1) (by omega) ⟨j, hw, a⟩⟩, a⟩
theorem First.of_walk {net : List Int} {set : Int} {i : Nat} : ∀ t, Walk net set t i → ∃ s, s ≤ t ∧ First net set s i := by
  intro t
  induction t using Nat.strongRecOn with
  | _ t ih =>
    intro h
    by_cases c : ∃ s, s < t ∧ Walk net set s i
    · obtain ⟨s, hs, hw⟩ := c
      obtain ⟨r, hr, hf⟩ := ih s hs hw
      exact ⟨r, by omega, hf⟩
    · exact ⟨t, Nat.le_refl _, h, fun s hs hw => c ⟨s, hs, hw⟩⟩
theorem First.det {net : List Int} {set : Int} {s t i : Nat} (h : First net set s i) (h' : First net set t i) : s = t := by
  by_cases c : s < t
  · exact absurd h.1 (h'.2 s c)
  · by_cases c2 : t < s
    · exact absurd h'.1 (h.2 t c2)
    · omega
theorem First.chain {net : List Int} {set : Int} {t i : Nat} (h : First net set t i) : ∀ s, s ≤ t → ∃ j, First net set s j := by
  intro s hs
  induction t generalizing i with
  | zero => exact ⟨i, by rw [show s = 0 by omega]; exact h⟩
  | succ t ih =>
    by_cases c : s = t + 1
    · exact ⟨i, by rw [c]; exact h⟩
    · obtain ⟨j, hj, _⟩ := h.before
      exact ih hj (by omega)
theorem First.small {net : List Int} {set : Int} {t i : Nat} (h : First net set t i) : t < net.length := by
  refine Classical.byContradiction fun hn => ?_
  have hc : ∀ s, ∃ j, s ≤ t → First net set s j := fun s => by
    by_cases hs : s ≤ t
    · obtain ⟨j, hj⟩ := h.chain s hs
      exact ⟨j, fun _ => hj⟩
    · exact ⟨0, fun q => absurd q hs⟩
  obtain ⟨a, b, hab, hb, e⟩ := pigeon net.length (fun s => Classical.choose (hc s)) (fun s hs => (Classical.choose_spec (hc s) (by omega)).lt)
  have h1 := Classical.choose_spec (hc a) (by omega)
  have h2 := Classical.choose_spec (hc b) (by omega)
  have e' : Classical.choose (hc a) = Classical.choose (hc b) := e
  rw [e'] at h1
  have := h1.det h2
  omega
def DistP (net : List Int) (set : Int) (i : Nat) (d : Int) : Prop := (d = -1 ∧ ∀ t, ¬ Walk net set t i) ∨ ∃ t : Nat, d = t ∧ First net set t i
theorem DistP.ex (net : List Int) (set : Int) (i : Nat) : ∃ d, DistP net set i d := by
  by_cases c : ∃ t, Walk net set t i
  · obtain ⟨t, h⟩ := c
    obtain ⟨s, _, hs⟩ := First.of_walk t h
    exact ⟨s, .inr ⟨s, rfl, hs⟩⟩
  · exact ⟨-1, .inl ⟨rfl, fun t h => c ⟨t, h⟩⟩⟩
theorem DistP.det {net : List Int} {set : Int} {i : Nat} {d e : Int} (h : DistP net set i d) (h' : DistP net set i e) : d = e := by
  rcases h with ⟨rfl, h⟩ | ⟨s, rfl, h⟩ <;> rcases h' with ⟨rfl, h'⟩ | ⟨t, rfl, h'⟩
  · rfl
  · exact absurd h'.1 (h t)
  · exact absurd h.1 (h' s)
  · rw [h.det h']
noncomputable def distRow (net : List Int) (set : Int) : List Int := mkL (fun i => Classical.choose (DistP.ex net set i)) net.length
theorem distRow_len (net : List Int) (set : Int) : (distRow net set).length = net.length := mkL_len _ _
theorem distRow_at (net : List Int) (set : Int) (i : Nat) (h : i < net.length) : DistP net set i (rd (distRow net set) (i : Int)) := by
  rw [distRow, rd_mkL _ _ _ h]
  exact Classical.choose_spec (DistP.ex net set i)
theorem distRow_is {net : List Int} {set : Int} {out : List Int} (hl : out.length = net.length) (h : ∀ i : Nat, i < net.length → DistP net set i (rd out (i : Int))) : out = distRow net set :=
  rd_ext (by rw [hl, distRow_len]) (fun i hi => (h i (by omega)).det (distRow_at net set i (by omega)))
theorem dist_nonneg {net : List Int} {set : Int} {i : Nat} (h : i < net.length) : 0 ≤ rd (distRow net set) (i : Int) ↔ ∃ t, Walk net set t i := by
  rcases distRow_at net set i h with ⟨e, hw⟩ | ⟨t, e, hf⟩
  · rw [e]; exact ⟨fun q => by omega, fun ⟨t, q⟩ => absurd q (hw t)⟩
  · rw [e]; exact ⟨fun _ => ⟨t, hf.1⟩, fun _ => by omega⟩
theorem dist_small {net : List Int} {set : Int} {i : Nat} (h : i < net.length) : -1 ≤ rd (distRow net set) (i : Int) ∧ rd (distRow net set) (i : Int) < net.length := by
  rcases distRow_at net set i h with ⟨e, hw⟩ | ⟨t, e, hf⟩
  · rw [e]; omega
  · rw [e]; have := hf.small; omega
theorem dist_le {net : List Int} {set : Int} {t i : Nat} (h : Walk net set t i) : 0 ≤ rd (distRow net set) (i : Int) ∧ rd (distRow net set) (i : Int) ≤ t := by
  rcases distRow_at net set i h.lt with ⟨e, hw⟩ | ⟨s, e, hf⟩
  · exact absurd h (hw t)
  · rw [e]
    refine ⟨by omega, ?_⟩
    by_cases c : t < s
    · exact absurd h (hf.2 t c)
    · omega
theorem dist_walk {net : List Int} {set : Int} {i : Nat} (hi : i < net.length) (h : 0 ≤ rd (distRow net set) (i : Int)) : Walk net set (rd (distRow net set) (i : Int)).toNat i := by
  rcases distRow_at net set i hi with ⟨e, hw⟩ | ⟨s, e, hf⟩
  · omega
  · rw [e]; exact hf.1
/-! states, written by rules -/
def litL (n : Nat) (set : Int) : List Int := mkL (fun i => set / 2 ^ i % 2) n
def ringL : Nat → List Int
  | 3 => [6, 5, 3]
  | 4 => [10, 5, 10, 5]
  | 5 => [18, 5, 10, 20, 9]
  | 6 => [34, 5, 10, 20, 40, 17]
  | _ => []
def pathL : Nat → List Int
  | 1 => [0]
  | 2 => [2, 1]
  | 3 => [2, 5, 2]
  | 4 => [2, 5, 10, 4]
  | 5 => [2, 5, 10, 20, 8]
  | 6 => [2, 5, 10, 20, 40, 16]
  | _ => []
def raiseL (kinds : Int) (st : List Int) : List Int := mkL (fun i => (rd st (i : Int) + 1) % kinds) st.length
def countI (st : List Int) (c : Int) : Nat → Int
  | 0 => 0
  | i + 1 => countI st c i + if rd st (i : Int) = c then 1 else 0
def countL (kinds : Int) (st : List Int) : List Int := mkL (fun c => countI st (c : Int) st.length) kinds.toNat
theorem countI_range (st : List Int) (c : Int) : ∀ i : Nat, 0 ≤ countI st c i ∧ countI st c i ≤ i := by
  intro i
  induction i with
  | zero => simp [countI]
  | succ i ih => simp only [countI]; split <;> omega
theorem count_zero (st : List Int) (n : Nat) : List.replicate n 0 = mkL (fun c => countI st (c : Int) 0) n :=
  mkL_ext (by simp) (fun i hi => by rw [rd_rep _ _ _ hi]; rfl)
theorem count_set (st : List Int) (n i c : Nat) (h : rd st (i : Int) = (c : Int)) : (mkL (fun c => countI st (c : Int) i) n).set c (countI st (c : Int) i + 1) = mkL (fun c => countI st (c : Int) (i + 1)) n := by
  refine mkL_ext (by rw [List.length_set, mkL_len]) (fun j hj => ?_)
  by_cases hc : c < n
  · rw [rd_set _ _ _ _ (by rw [mkL_len]; exact hc), rd_mkL _ _ _ hj]
    simp only [countI, h]
    by_cases e : c = j
    · subst e; simp
    · rw [if_neg e, if_neg (by omega)]; omega
  · rw [List.set_eq_of_length_le (by rw [mkL_len]; omega), rd_mkL _ _ _ hj]
    simp only [countI, h]
    rw [if_neg (by omega)]; omega

/-! the number of a state -/
def numL (kinds : Int) (st : List Int) : Int := st.foldr (fun x a => a * kinds + x) 0
def digN (kinds : Int) : Nat → Int → List Int
  | 0, _ => []
  | n + 1, x => x % kinds :: digN kinds n (x / kinds)
def restN (kinds : Int) : Nat → Int → Int
  | 0, x => x
  | n + 1, x => restN kinds n (x / kinds)
def stOf (n : Nat) (kinds x : Int) : List Int := if 0 < restN kinds n x then [] else digN kinds n x
theorem digN_len (kinds : Int) : ∀ (n : Nat) (x : Int), (digN kinds n x).length = n := by
  intro n
  induction n with
  | zero => intro x; rfl
  | succ n ih => intro x; simp [digN, ih]
theorem stOf_len (n : Nat) (kinds x : Int) : (stOf n kinds x).length ≤ n := by
  unfold stOf
  split
  · simp
  · rw [digN_len]; exact Nat.le_refl _
theorem pow_kinds {kinds : Int} (hk : 3 ≤ kinds) (h5 : kinds ≤ 5) {i : Nat} (h6 : i ≤ 6) : 1 ≤ kinds ^ i ∧ kinds ^ i ≤ 15625 := by
  have a : kinds = 3 ∨ kinds = 4 ∨ kinds = 5 := by omega
  have b : i = 0 ∨ i = 1 ∨ i = 2 ∨ i = 3 ∨ i = 4 ∨ i = 5 ∨ i = 6 := by omega
  rcases a with rfl | rfl | rfl <;> rcases b with rfl | rfl | rfl | rfl | rfl | rfl | rfl <;> decide
theorem numL_bound {kinds : Int} (hk : 1 ≤ kinds) : ∀ l : List Int, (∀ x ∈ l, 0 ≤ x ∧ x < kinds) → 0 ≤ numL kinds l ∧ numL kinds l < kinds ^ l.length := by
  intro l
  induction l with
  | nil => intro _; simp [numL]
  | cons x l ih =>
    intro h
    obtain ⟨h1, h2⟩ := ih (fun y hy => h y (List.mem_cons_of_mem _ hy))
    have hx := h x (List.mem_cons_self ..)
    have e : numL kinds (x :: l) = numL kinds l * kinds + x := rfl
    have m1 : 0 ≤ numL kinds l * kinds := Int.mul_nonneg h1 (by omega)
    have m2 : numL kinds l * kinds ≤ (kinds ^ l.length - 1) * kinds := Int.mul_le_mul_of_nonneg_right (by omega) (by omega)
    rw [Int.sub_mul, Int.one_mul] at m2
    rw [e, List.length_cons, Int.pow_succ]
    omega
theorem StP.mem {kinds : Int} {st : List Int} (h : StP kinds st) : ∀ x ∈ st, 0 ≤ x ∧ x < kinds := by
  intro x hx
  obtain ⟨i, hi, rfl⟩ := List.mem_iff_getElem.1 hx
  rw [← rd_at st i hi]; exact h.2.2.2.2 i hi
theorem numL_drop {kinds : Int} {st : List Int} (h : StP kinds st) (i : Nat) (hi : i + 1 ≤ st.length) :
    0 ≤ numL kinds (st.drop (i + 1)) ∧ numL kinds (st.drop (i + 1)) < 15625 ∧ wrap64 (numL kinds (st.drop (i + 1)) * kinds) = numL kinds (st.drop (i + 1)) * kinds ∧
    wrap64 (numL kinds (st.drop (i + 1)) * kinds + rd st (i : Int)) = numL kinds (st.drop i) := by
  have hk := h.1
  have hk5 := h.2.1
  have h6 := h.2.2.2.1
  have hb := numL_bound (kinds := kinds) (by omega) (st.drop (i + 1)) (fun x hx => h.mem x (List.mem_of_mem_drop hx))
  have hp := pow_kinds hk hk5 (i := (st.drop (i + 1)).length) (by simp; omega)
  have hr := h.2.2.2.2 i (by omega)
  have e : numL kinds (st.drop i) = numL kinds (st.drop (i + 1)) * kinds + rd st (i : Int) := by
    rw [List.drop_eq_getElem_cons (by omega : i < st.length), rd_at st i (by omega)]; rfl
  have m1 : 0 ≤ numL kinds (st.drop (i + 1)) * kinds := Int.mul_nonneg hb.1 (by omega)
  have m2 : numL kinds (st.drop (i + 1)) * kinds ≤ numL kinds (st.drop (i + 1)) * 5 := Int.mul_le_mul_of_nonneg_left hk5 hb.1
  exact ⟨hb.1, by omega, w64 (by omega) (by omega), by rw [e, w64 (by omega) (by omega)]⟩
theorem rest_pos {kinds : Int} (hk : 1 ≤ kinds) : ∀ (n : Nat) {x : Int}, 0 ≤ x → (0 < restN kinds n x ↔ x ≥ kinds ^ n) := by
  intro n
  induction n with
  | zero => intro x hx; simp only [restN, Int.pow_zero]; omega
  | succ n ih =>
    intro x hx
    simp only [restN]
    rw [ih (Int.ediv_nonneg hx (by omega)), Int.pow_succ]
    exact Int.le_ediv_iff_mul_le (by omega)
theorem digN_bound {kinds : Int} (hk : 1 ≤ kinds) : ∀ (n : Nat) (x : Int), ∀ y ∈ digN kinds n x, 0 ≤ y ∧ y < kinds := by
  intro n
  induction n with
  | zero => intro x y hy; simp [digN] at hy
  | succ n ih =>
    intro x y hy
    simp only [digN, List.mem_cons] at hy
    rcases hy with rfl | hy
    · exact ⟨Int.emod_nonneg _ (by omega), Int.emod_lt_of_pos _ (by omega)⟩
    · exact ih _ y hy
theorem digN_state {kinds : Int} (hk : 3 ≤ kinds) (h5 : kinds ≤ 5) {n : Nat} (h1 : 1 ≤ n) (h6 : n ≤ 6) {x : Int} (_h0 : 0 ≤ x) : StP kinds (digN kinds n x) :=
  ⟨hk, h5, by rw [digN_len]; exact h1, by rw [digN_len]; exact h6, fun i hi => rd_mem (P := fun y => 0 ≤ y ∧ y < kinds) (digN_bound (by omega) n x) i hi⟩
theorem numL_digN {kinds : Int} (hk : 1 ≤ kinds) : ∀ (n : Nat) {x : Int}, 0 ≤ x → x < kinds ^ n → numL kinds (digN kinds n x) = x := by
  intro n
  induction n with
  | zero => intro x h0 h1; simp only [Int.pow_zero] at h1; simp only [digN, numL, List.foldr_nil]; omega
  | succ n ih =>
    intro x h0 h1
    have e : numL kinds (digN kinds (n + 1) x) = numL kinds (digN kinds n (x / kinds)) * kinds + x % kinds := rfl
    rw [e, ih (Int.ediv_nonneg h0 (by omega)) (by rw [Int.pow_succ] at h1; exact Int.ediv_lt_of_lt_mul (by omega) h1)]
    have := Int.mul_ediv_add_emod x kinds
    rw [Int.mul_comm] at this
    exact this
theorem digN_numL {kinds : Int} (hk : 1 ≤ kinds) : ∀ l : List Int, (∀ x ∈ l, 0 ≤ x ∧ x < kinds) → digN kinds l.length (numL kinds l) = l := by
  intro l
  induction l with
  | nil => intro _; rfl
  | cons x l ih =>
    intro h
    have hx := h x (List.mem_cons_self ..)
    have e : numL kinds (x :: l) = x + numL kinds l * kinds := by rw [Int.add_comm]; rfl
    simp only [List.length_cons, digN]
    rw [e, Int.add_mul_emod_self_right, Int.emod_eq_of_lt hx.1 hx.2, Int.add_mul_ediv_right _ _ (by omega), Int.ediv_eq_zero_of_lt hx.1 hx.2, Int.zero_add, ih (fun y hy => h y (List.mem_cons_of_mem _ hy))]
theorem numL_zero (kinds : Int) (n : Nat) : numL kinds (List.replicate n 0) = 0 := by
  induction n with
  | zero => rfl
  | succ n ih =>
    have e : numL kinds (List.replicate (n + 1) 0) = numL kinds (List.replicate n 0) * kinds + 0 := rfl
    rw [e, ih]; simp
/-! distances, wave by wave -/
/-- What a row tells of node i when all walks of fewer than t steps were looked at. -/
def DStat (net : List Int) (set : Int) (t i : Nat) (v : Int) : Prop := (v = -1 ∧ ∀ s, s < t → ¬ Walk net set s i) ∨ ∃ s : Nat, s < t ∧ v = s ∧ First net set s i
theorem DStat.first {net : List Int} {set : Int} {t i : Nat} {v : Int} (h : DStat net set t i v) (hf : First net set t i) : v = -1 := by
  rcases h with h | ⟨s, hs, _, h⟩
  · exact h.1
  · exact absurd h.1 (hf.2 s hs)
theorem DStat.neg {net : List Int} {set : Int} {t i : Nat} {v : Int} (h : DStat net set t i v) (hv : v < 0) (hw : Walk net set t i) : First net set t i := by
  rcases h with h | ⟨s, _, e, _⟩
  · exact ⟨hw, h.2⟩
  · omega
theorem DStat.up {net : List Int} {set : Int} {t i : Nat} {v : Int} (h : DStat net set t i v) (hf : ¬ First net set t i) : DStat net set (t + 1) i v := by
  rcases h with h | ⟨s, hs, e, h⟩
  · refine .inl ⟨h.1, fun s hs hw => ?_⟩
    by_cases c : s = t
    · subst c; exact hf ⟨hw, h.2⟩
    · exact h.2 s (by omega) hw
  · exact .inr ⟨s, by omega, e, h⟩
theorem DStat.now {net : List Int} {set : Int} {t i : Nat} (h : First net set t i) : DStat net set (t + 1) i t := .inr ⟨t, by omega, rfl, h⟩
theorem DStat.none (net : List Int) (set : Int) (i : Nat) : DStat net set 0 i (-1) := .inl ⟨rfl, fun s hs => absurd hs (by omega)⟩
theorem DStat.done {net : List Int} {set : Int} {t : Nat} {out : List Int} (hl : out.length = net.length) (h : ∀ i : Nat, i < net.length → DStat net set t i (rd out (i : Int))) (hf : ∀ i, ¬ First net set t i) : out = distRow net set := by
  refine distRow_is hl (fun i hi => ?_)
  rcases h i hi with ⟨e, hw⟩ | ⟨s, _, e, h⟩
  · refine .inl ⟨e, fun s hs => ?_⟩
    obtain ⟨s', _, hs'⟩ := First.of_walk s hs
    by_cases c : s' < t
    · exact hw s' c hs'.1
    · obtain ⟨j, hj⟩ := hs'.chain t (by omega)
      exact hf j hj
  · exact .inr ⟨s, e, h⟩
theorem First.next {net : List Int} {set : Int} {t i : Nat} (h : First net set (t + 1) i) : ∃ j, First net set t j ∧ j < net.length ∧ tb (rd net (j : Int)) i = true := by
  obtain ⟨j, hj, a⟩ := h.before
  exact ⟨j, hj, a.1, a.2.2⟩
theorem First.zero {net : List Int} {set : Int} {i : Nat} : First net set 0 i ↔ i < net.length ∧ tb set i = true :=
  ⟨fun h => h.1, fun h => ⟨h, fun s hs => absurd hs (by omega)⟩⟩
/-! other names -/
def nmState (st ord : List Int) : Nat → List Int
  | 0 => List.replicate st.length 0
  | i + 1 => (nmState st ord i).set (rd ord (i : Int)).toNat (rd st (i : Int))
theorem nmState_len (st ord : List Int) (i : Nat) : (nmState st ord i).length = st.length := by
  induction i with
  | zero => simp [nmState]
  | succ i ih => simp [nmState, ih]
/-- The names of the first nodes of a set. -/
def nmSet (ord : List Int) (s : Int) : Nat → Int
  | 0 => 0
  | i + 1 => if tb s i then Go.bits .or .i64 (nmSet ord s i) (shl .i64 1 (rd ord (i : Int))) else nmSet ord s i
def nmNet (net ord : List Int) : Nat → List Int
  | 0 => List.replicate net.length 0
  | i + 1 => (nmNet net ord i).set (rd ord (i : Int)).toNat (nmSet ord (rd net (i : Int)) net.length)
theorem nmNet_len (net ord : List Int) (i : Nat) : (nmNet net ord i).length = net.length := by
  induction i with
  | zero => simp [nmNet]
  | succ i ih => simp [nmNet, ih]
theorem OrdP.at {many : Nat} {ord : List Int} (h : OrdP many ord) {i : Nat} (hi : i < many) : ∃ c : Nat, rd ord (i : Int) = (c : Int) ∧ c < many := by
  have := h.2 i (by rw [h.1]; exact hi)
  obtain ⟨c, hc⟩ := Int.eq_ofNat_of_zero_le this.1
  exact ⟨c, hc, by omega⟩
theorem OrdP.inj {many : Nat} {ord : List Int} (h : OrdP many ord) {i j : Nat} (hi : i < many) (hj : j < many) (e : rd ord (i : Int) = rd ord (j : Int)) : i = j := by
  refine Classical.byContradiction fun hn => ?_
  by_cases c : i < j
  · exact (h.2 j (by rw [h.1]; exact hj)).2.2 i c e
  · exact (h.2 i (by rw [h.1]; exact hi)).2.2 j (by omega) e.symm
theorem inj_surj : ∀ (n : Nat) (f : Nat → Nat), (∀ i, i < n → f i < n) → (∀ i j, i < n → j < n → f i = f j → i = j) → ∀ v, v < n → ∃ i, i < n ∧ f i = v := by
  intro n f hf hi v hv
  refine Classical.byContradiction fun hno => ?_
  have hne : ∀ i, i < n → f i ≠ v := fun i h e => hno ⟨i, h, e⟩
  obtain ⟨m, rfl⟩ : ∃ m, n = m + 1 := ⟨n - 1, by omega⟩
  obtain ⟨i, j, hij, hj, e⟩ := pigeon m (fun i => if f i < v then f i else f i - 1) (fun i h => by
    have h1 := hf i (by omega)
    have h2 := hne i (by omega)
    show (if f i < v then f i else f i - 1) < m
    split <;> omega)
  have e' : (if f i < v then f i else f i - 1) = (if f j < v then f j else f j - 1) := e
  have hi1 := hne i (by omega)
  have hj1 := hne j (by omega)
  have : f i = f j := by split at e' <;> split at e' <;> omega
  have := hi i j (by omega) (by omega) this
  omega
theorem OrdP.surj {many : Nat} {ord : List Int} (h : OrdP many ord) {v : Nat} (hv : v < many) : ∃ i : Nat, i < many ∧ rd ord (i : Int) = (v : Int) := by
  obtain ⟨i, hi, e⟩ := inj_surj many (fun i => (rd ord (i : Int)).toNat) (fun i hi => by obtain ⟨c, hc, hc2⟩ := h.at hi; show (rd ord (i : Int)).toNat < many; rw [hc]; omega) (fun i j hi hj e => by
    obtain ⟨c, hc, _⟩ := h.at hi
    obtain ⟨d, hd, _⟩ := h.at hj
    refine h.inj hi hj ?_
    have e' : (rd ord (i : Int)).toNat = (rd ord (j : Int)).toNat := e
    rw [hc, hd] at e' ⊢; omega) v hv
  obtain ⟨c, hc, _⟩ := h.at hi
  have e' : (rd ord (i : Int)).toNat = v := e
  exact ⟨i, hi, by rw [hc] at e' ⊢; omega⟩
theorem nmState_at {st ord : List Int} (h : OrdP st.length ord) : ∀ m : Nat, m ≤ st.length → ∀ i : Nat, i < m → rd (nmState st ord m) (rd ord (i : Int)) = rd st (i : Int) := by
  intro m
  induction m with
  | zero => intro _ i hi; omega
  | succ m ih =>
    intro hm i hi
    obtain ⟨c, hc, hc2⟩ := h.at (i := i) (by omega)
    obtain ⟨d, hd, hd2⟩ := h.at (i := m) (by omega)
    simp only [nmState]
    rw [hc, hd, Int.toNat_natCast, rd_set _ _ _ _ (by rw [nmState_len]; exact hd2)]
    by_cases e : i = m
    · subst e
      rw [if_pos (by omega)]
    · rw [if_neg (fun q => e (h.inj (by omega) (by omega) (by rw [hc, hd]; omega))), ← hc]
      exact ih (by omega) i (by omega)
theorem nmSet_told {net ord : List Int} (hn6 : net.length ≤ 6) (h : OrdP net.length ord) (s : Int) : ∀ m : Nat, m ≤ net.length → InS net.length (nmSet ord s m) ∧ ∀ v : Nat, tb (nmSet ord s m) v = true ↔ ∃ i : Nat, i < m ∧ tb s i = true ∧ rd ord (i : Int) = (v : Int) := by
  intro m
  induction m with
  | zero => intro _; exact ⟨InS.zero _, fun v => by simp [nmSet, tb_zero]⟩
  | succ m ih =>
    intro hm
    obtain ⟨h1, h2⟩ := ih (by omega)
    cases c : tb s m with
    | true =>
      obtain ⟨d, hd, hd2⟩ := h.at (i := m) (by omega)
      have q := InS.one (n := net.length) (i := d) (by omega) hd2
      have o := InS.or (by omega) h1 q.1
      simp only [nmSet, c, if_true]
      rw [hd]
      refine ⟨o.1, fun v => ?_⟩
      rw [o.2, Bool.or_eq_true, h2, q.2, decide_eq_true_iff]
      constructor
      · rintro (⟨i, a, b⟩ | b)
        · exact ⟨i, by omega, b⟩
        · exact ⟨m, by omega, c, by rw [hd, b]⟩
      · rintro ⟨i, a, b, e⟩
        by_cases z : i = m
        · subst z; right; rw [hd] at e; omega
        · exact .inl ⟨i, by omega, b, e⟩
    | false =>
      simp only [nmSet, c, Bool.false_eq_true, if_false]
      refine ⟨h1, fun v => (h2 v).trans ⟨fun ⟨i, a, b⟩ => ⟨i, by omega, b⟩, fun ⟨i, a, b⟩ => ⟨i, ?_, b⟩⟩⟩
      by_cases z : i = m
      · subst z; rw [c] at b; exact absurd b.1 (by decide)
      · omega
theorem nmNet_zero {net ord : List Int} (h : OrdP net.length ord) : ∀ m : Nat, m ≤ net.length → ∀ c : Nat, c < net.length → (∀ j : Nat, j < m → rd ord (j : Int) ≠ (c : Int)) → rd (nmNet net ord m) (c : Int) = 0 := by
  intro m
  induction m with
  | zero => intro _ c hc _; rw [nmNet, rd_rep _ _ _ hc]
  | succ m ih =>
    intro hm c hc hj
    obtain ⟨d, hd, hd2⟩ := h.at (i := m) (by omega)
    simp only [nmNet]
    rw [hd, Int.toNat_natCast, rd_set _ _ _ _ (by rw [nmNet_len]; exact hd2), if_neg (fun e => hj m (by omega) (by rw [hd, e]))]
    exact ih (by omega) c hc (fun j q => hj j (by omega))
theorem nmNet_at {net ord : List Int} (h : OrdP net.length ord) : ∀ m : Nat, m ≤ net.length → ∀ i : Nat, i < m → rd (nmNet net ord m) (rd ord (i : Int)) = nmSet ord (rd net (i : Int)) net.length := by
  intro m
  induction m with
  | zero => intro _ i hi; omega
  | succ m ih =>
    intro hm i hi
    obtain ⟨c, hc, hc2⟩ := h.at (i := i) (by omega)
    obtain ⟨d, hd, hd2⟩ := h.at (i := m) (by omega)
    simp only [nmNet]
    rw [hc, hd, Int.toNat_natCast, rd_set _ _ _ _ (by rw [nmNet_len]; exact hd2)]
    by_cases e : i = m
    · subst e
      rw [if_pos (by omega)]
    · rw [if_neg (fun q => e (h.inj (by omega) (by omega) (by rw [hc, hd]; omega))), ← hc]
      exact ih (by omega) i (by omega)
def nmN (net ord : List Int) : List Int := nmNet net ord net.length
def nmS (st ord : List Int) : List Int := nmState st ord st.length
theorem nmN_len (net ord : List Int) : (nmN net ord).length = net.length := nmNet_len _ _ _
theorem nmS_len (st ord : List Int) : (nmS st ord).length = st.length := nmState_len _ _ _
theorem nmS_at {st ord : List Int} (h : OrdP st.length ord) {i : Nat} (hi : i < st.length) : rd (nmS st ord) (rd ord (i : Int)) = rd st (i : Int) := nmState_at h _ (Nat.le_refl _) i hi
/-- Neighbours, by their new names. -/
theorem nmN_tb {net ord : List Int} (hn6 : net.length ≤ 6) (h : OrdP net.length ord) {i j c d : Nat} (hi : i < net.length) (hj : j < net.length) (hc : rd ord (i : Int) = (c : Int)) (hd : rd ord (j : Int) = (d : Int)) :
    tb (rd (nmN net ord) (c : Int)) d = tb (rd net (i : Int)) j := by
  have e : rd (nmN net ord) (c : Int) = nmSet ord (rd net (i : Int)) net.length := by rw [← hc]; exact nmNet_at h _ (Nat.le_refl _) i hi
  rw [e, Bool.eq_iff_iff, (nmSet_told hn6 h _ _ (Nat.le_refl _)).2]
  constructor
  · rintro ⟨k, hk, b, q⟩
    have := h.inj hk hj (by rw [q, hd])
    subst this; exact b
  · intro b; exact ⟨j, hj, b, hd⟩
theorem nmN_net {net ord : List Int} (hn : NetP net) (h : OrdP net.length ord) : NetP (nmN net ord) := by
  have h6 := hn.2.1
  refine NetP.of (by rw [nmN_len]; exact hn.1) (by rw [nmN_len]; exact h6) (fun c hc => ?_)
  rw [nmN_len] at hc ⊢
  obtain ⟨i, hi, e⟩ := h.surj hc
  refine ⟨?_, ?_, fun d hd => ?_⟩
  · have e2 : rd (nmN net ord) (c : Int) = nmSet ord (rd net (i : Int)) net.length := by rw [← e]; exact nmNet_at h _ (Nat.le_refl _) i hi
    rw [e2]; exact (nmSet_told h6 h _ _ (Nat.le_refl _)).1
  · rw [nmN_tb h6 h hi hi e e]; exact hn.irr hi
  · obtain ⟨j, hj, e2⟩ := h.surj hd
    rw [nmN_tb h6 h hi hj e e2, nmN_tb h6 h hj hi e2 e]; exact hn.sym hi hj
theorem nmS_state {kinds : Int} {st ord : List Int} (hs : StP kinds st) (h : OrdP st.length ord) : StP kinds (nmS st ord) := by
  refine ⟨hs.1, hs.2.1, by rw [nmS_len]; exact hs.2.2.1, by rw [nmS_len]; exact hs.2.2.2.1, fun c hc => ?_⟩
  rw [nmS_len] at hc
  obtain ⟨i, hi, e⟩ := h.surj hc
  rw [← e, nmS_at h hi]
  exact hs.2.2.2.2 i hi

/-! node to node -/
def Wk (net : List Int) (a : Nat) : Nat → Nat → Prop
  | 0, b => a = b ∧ a < net.length
  | t + 1, b => ∃ c, Wk net a t c ∧ Adj net c b
theorem walk_iff {net : List Int} {set : Int} : ∀ {t i : Nat}, Walk net set t i ↔ ∃ a, a < net.length ∧ tb set a = true ∧ Wk net a t i := by
  intro t
  induction t with
  | zero =>
    intro i
    constructor
    · rintro ⟨h1, h2⟩; exact ⟨i, h1, h2, rfl, h1⟩
    · rintro ⟨a, h1, h2, rfl, _⟩; exact ⟨h1, h2⟩
  | succ t ih =>
    intro i
    constructor
    · rintro ⟨j, hj, adj⟩
      obtain ⟨a, h1, h2, h3⟩ := ih.1 hj
      exact ⟨a, h1, h2, j, h3, adj⟩
    · rintro ⟨a, h1, h2, j, h3, adj⟩
      exact ⟨j, ih.2 ⟨a, h1, h2, h3⟩, adj⟩
theorem walk_one {net : List Int} {a t i : Nat} (h6 : net.length ≤ 6) (ha : a < net.length) : Walk net (2 ^ a) t i ↔ Wk net a t i := by
  rw [walk_iff]
  have q := (InS.one' (n := net.length) (i := a) (by omega) ha).2
  constructor
  · rintro ⟨b, _, h2, h3⟩
    rw [q, decide_eq_true_iff] at h2
    subst h2; exact h3
  · intro h; exact ⟨a, ha, by rw [q]; simp, h⟩
theorem Wk.lt {net : List Int} {a b : Nat} : ∀ {t : Nat}, Wk net a t b → a < net.length ∧ b < net.length := by
  intro t
  induction t generalizing b with
  | zero => rintro ⟨rfl, h⟩; exact ⟨h, h⟩
  | succ t ih => rintro ⟨c, h, adj⟩; exact ⟨(ih h).1, adj.2.1⟩
theorem Wk.trans {net : List Int} {a b s : Nat} (h : Wk net a s b) : ∀ {t c : Nat}, Wk net b t c → Wk net a (s + t) c := by
  intro t
  induction t with
  | zero => rintro c ⟨rfl, _⟩; exact h
  | succ t ih => rintro c ⟨d, hd, adj⟩; exact ⟨d, ih hd, adj⟩
theorem Wk.one {net : List Int} {a b : Nat} (h : Adj net a b) : Wk net a 1 b := ⟨a, ⟨rfl, h.1⟩, h⟩
theorem Wk.symm {net : List Int} (hn : NetP net) {a : Nat} : ∀ {t b : Nat}, Wk net a t b → Wk net b t a := by
  intro t
  induction t with
  | zero => rintro b ⟨rfl, h⟩; exact ⟨rfl, h⟩
  | succ t ih =>
    rintro b ⟨c, h, adj⟩
    have := (Wk.one (adj.symm hn)).trans (ih h)
    rw [Nat.add_comm] at this
    exact this
/-- b is come to from a. -/
def Rch (net : List Int) (a b : Nat) : Prop := ∃ t, Wk net a t b
theorem Rch.refl {net : List Int} {a : Nat} (h : a < net.length) : Rch net a a := ⟨0, rfl, h⟩
theorem Rch.symm {net : List Int} (hn : NetP net) {a b : Nat} (h : Rch net a b) : Rch net b a := by
  obtain ⟨t, h⟩ := h; exact ⟨t, h.symm hn⟩
theorem Rch.trans {net : List Int} {a b c : Nat} (h : Rch net a b) (k : Rch net b c) : Rch net a c := by
  obtain ⟨s, h⟩ := h; obtain ⟨t, k⟩ := k; exact ⟨s + t, h.trans k⟩
theorem rch_dist {net : List Int} (h6 : net.length ≤ 6) {a b : Nat} (ha : a < net.length) (hb : b < net.length) : 0 ≤ rd (distRow net (2 ^ a)) (b : Int) ↔ Rch net a b := by
  rw [dist_nonneg hb]
  exact ⟨fun ⟨t, h⟩ => ⟨t, (walk_one h6 ha).1 h⟩, fun ⟨t, h⟩ => ⟨t, (walk_one h6 ha).2 h⟩⟩
/-! sums -/
def sumN (f : Nat → Int) : Nat → Int
  | 0 => 0
  | i + 1 => sumN f i + f i
theorem sumN_range (f : Nat → Int) (B : Int) (h : ∀ i, 0 ≤ f i ∧ f i ≤ B) : ∀ i : Nat, 0 ≤ sumN f i ∧ sumN f i ≤ B * i := by
  intro i
  induction i with
  | zero => simp [sumN]
  | succ i ih =>
    have := h i
    simp only [sumN]
    rw [show ((i + 1 : Nat) : Int) = (i : Int) + 1 by omega, Int.mul_add, Int.mul_one]
    omega
theorem sumN_congr {f g : Nat → Int} : ∀ {n : Nat}, (∀ i, i < n → f i = g i) → sumN f n = sumN g n := by
  intro n
  induction n with
  | zero => intro _; rfl
  | succ n ih => intro h; simp only [sumN]; rw [ih (fun i hi => h i (by omega)), h n (by omega)]
theorem sumN_add (f g : Nat → Int) : ∀ n : Nat, sumN (fun i => f i + g i) n = sumN f n + sumN g n := by
  intro n
  induction n with
  | zero => rfl
  | succ n ih => simp only [sumN]; rw [ih]; omega
theorem sumN_mono {f g : Nat → Int} : ∀ {n : Nat}, (∀ i, i < n → f i ≤ g i) → sumN f n ≤ sumN g n := by
  intro n
  induction n with
  | zero => intro _; exact Int.le_refl _
  | succ n ih => intro h; simp only [sumN]; have := ih (fun i hi => h i (by omega)); have := h n (by omega); omega
theorem sumN_far {f : Nat → Int} {n : Nat} (h : ∀ j, n ≤ j → f j = 0) : ∀ d : Nat, sumN f (n + d) = sumN f n := by
  intro d
  induction d with
  | zero => rfl
  | succ d ih => rw [← Nat.add_assoc]; simp only [sumN]; rw [ih, h (n + d) (by omega)]; omega
theorem dsum_tri (u : Nat → Nat → Int) : ∀ m : Nat, sumN (fun i => sumN (fun j => u i j) m) m = sumN (fun i => sumN (fun j => u i j + u j i) i) m + sumN (fun i => u i i) m := by
  intro m
  induction m with
  | zero => rfl
  | succ m ih =>
    have e : sumN (fun i => sumN (fun j => u i j) (m + 1)) m = sumN (fun i => sumN (fun j => u i j) m) m + sumN (fun i => u i m) m := by
      rw [← sumN_add]; rfl
    have e2 := sumN_add (fun j => u m j) (fun j => u j m) m
    show sumN (fun i => sumN (fun j => u i j) (m + 1)) m + (sumN (fun j => u m j) m + u m m) = sumN (fun i => sumN (fun j => u i j + u j i) i) m + sumN (fun j => u m j + u j m) m + (sumN (fun i => u i i) m + u m m)
    rw [e, ih, e2]; omega
def popc (x : Int) : Int := x % 2 + x / 2 % 2 + x / 4 % 2 + x / 8 % 2 + x / 16 % 2 + x / 32 % 2
theorem popc_range (x : Int) : 0 ≤ popc x ∧ popc x ≤ 6 := by unfold popc; omega
theorem popc_sum {n : Nat} (h6 : n ≤ 6) {x : Int} (hx : InS n x) : popc x = sumN (fun j => x / 2 ^ j % 2) n := by
  have h : sumN (fun j => x / 2 ^ j % 2) (n + (6 - n)) = sumN (fun j => x / 2 ^ j % 2) n := sumN_far (fun j hj => (tb_not _ _).1 (tb_far hx hj)) _
  rw [← h, show n + (6 - n) = 6 by omega]
  simp only [sumN, popc]
  simp
/-- How many pairs of neighbours. -/
def wires (net : List Int) : Int := sumN (fun i => sumN (fun j => rd net (i : Int) / 2 ^ j % 2) i) net.length
theorem tri_range (net : List Int) : ∀ i : Nat, i ≤ 6 → 0 ≤ sumN (fun i => sumN (fun j => rd net (i : Int) / 2 ^ j % 2) i) i ∧ sumN (fun i => sumN (fun j => rd net (i : Int) / 2 ^ j % 2) i) i ≤ 1000 := by
  have key : ∀ i : Nat, i ≤ 6 → 0 ≤ sumN (fun i => sumN (fun j => rd net (i : Int) / 2 ^ j % 2) i) i ∧ sumN (fun i => sumN (fun j => rd net (i : Int) / 2 ^ j % 2) i) i ≤ 6 * i := by
    intro i
    induction i with
    | zero => intro _; simp [sumN]
    | succ i ih =>
      intro hi
      have h1 := ih (by omega)
      have h2 := sumN_range (fun j => rd net (i : Int) / 2 ^ j % 2) 1 (fun j => by show 0 ≤ rd net (i : Int) / 2 ^ j % 2 ∧ rd net (i : Int) / 2 ^ j % 2 ≤ 1; omega) i
      show 0 ≤ sumN (fun i => sumN (fun j => rd net (i : Int) / 2 ^ j % 2) i) i + sumN (fun j => rd net (i : Int) / 2 ^ j % 2) i ∧ sumN (fun i => sumN (fun j => rd net (i : Int) / 2 ^ j % 2) i) i + sumN (fun j => rd net (i : Int) / 2 ^ j % 2) i ≤ 6 * ((i + 1 : Nat) : Int)
      omega
  intro i hi
  have := key i hi
  omega
theorem ends_wires {net : List Int} (hn : NetP net) : sumN (fun i => sumN (fun j => rd net (i : Int) / 2 ^ j % 2) net.length) net.length = 2 * wires net := by
  have hd := dsum_tri (fun i j => rd net (i : Int) / 2 ^ j % 2) net.length
  have hz : sumN (fun i => rd net (i : Int) / 2 ^ i % 2) net.length = 0 := by
    rw [sumN_congr (g := fun _ => 0) (fun i hi => (hn.2.2 i hi).2.1)]
    have : ∀ n : Nat, sumN (fun _ => (0 : Int)) n = 0 := by
      intro n
      induction n with
      | zero => rfl
      | succ n ih => simp only [sumN]; rw [ih]; rfl
    exact this _
  have ht : sumN (fun i => sumN (fun j => rd net (i : Int) / 2 ^ j % 2 + rd net (j : Int) / 2 ^ i % 2) i) net.length = wires net + wires net := by
    rw [wires, ← sumN_add]
    refine sumN_congr (fun i hi => ?_)
    rw [← sumN_add]
    exact sumN_congr (fun j hj => by rw [(hn.2.2 i hi).2.2 j (by omega)])
  rw [hd, hz, ht]; omega
theorem pop_wires {net : List Int} (hn : NetP net) : sumN (fun i => popc (rd net (i : Int))) net.length / 2 = wires net := by
  rw [sumN_congr (g := fun i => sumN (fun j => rd net (i : Int) / 2 ^ j % 2) net.length) (fun i hi => popc_sum hn.2.1 (hn.ins hi)), ends_wires hn]
  omega

/-! the greatest of a row -/
def maxI (x : List Int) : Nat → Int
  | 0 => rd x 0
  | 1 => rd x 0
  | i + 2 => mx (maxI x (i + 1)) (rd x ((i + 1 : Nat) : Int))
theorem maxI_succ (x : List Int) (i : Nat) (h : 1 ≤ i) : mx (maxI x i) (rd x (i : Int)) = maxI x (i + 1) := by
  obtain ⟨j, rfl⟩ : ∃ j, i = j + 1 := ⟨i - 1, by omega⟩
  rfl
theorem maxI_ge (x : List Int) : ∀ i : Nat, 1 ≤ i → ∀ j : Nat, j < i → rd x (j : Int) ≤ maxI x i := by
  intro i
  induction i with
  | zero => intro h; omega
  | succ i ih =>
    intro _ j hj
    by_cases c : i = 0
    · subst c
      have : j = 0 := by omega
      subst this
      exact Int.le_refl _
    · rw [← maxI_succ x i (by omega)]
      have := ih (by omega)
      by_cases e : j = i
      · subst e; unfold mx; split <;> omega
      · have := this j (by omega)
        unfold mx; split <;> omega
theorem maxI_mem (x : List Int) : ∀ i : Nat, 1 ≤ i → ∃ j : Nat, j < i ∧ maxI x i = rd x (j : Int) := by
  intro i
  induction i with
  | zero => intro h; omega
  | succ i ih =>
    intro _
    by_cases c : i = 0
    · subst c; exact ⟨0, by omega, rfl⟩
    · rw [← maxI_succ x i (by omega)]
      obtain ⟨j, hj, e⟩ := ih (by omega)
      unfold mx
      split
      · exact ⟨i, by omega, rfl⟩
      · exact ⟨j, by omega, e⟩
def max0 (x : List Int) : Nat → Int
  | 0 => 0
  | i + 1 => mx (max0 x i) (rd x (i : Int))
theorem max0_ge (x : List Int) : ∀ i : Nat, 0 ≤ max0 x i ∧ ∀ j : Nat, j < i → rd x (j : Int) ≤ max0 x i := by
  intro i
  induction i with
  | zero => exact ⟨Int.le_refl _, fun j hj => by omega⟩
  | succ i ih =>
    refine ⟨by simp only [max0]; unfold mx; split <;> omega, fun j hj => ?_⟩
    simp only [max0]
    by_cases e : j = i
    · subst e; unfold mx; split <;> omega
    · have := ih.2 j (by omega)
      unfold mx; split <;> omega
theorem max0_mem (x : List Int) : ∀ i : Nat, max0 x i = 0 ∨ ∃ j : Nat, j < i ∧ max0 x i = rd x (j : Int) := by
  intro i
  induction i with
  | zero => exact .inl rfl
  | succ i ih =>
    simp only [max0]
    unfold mx
    split
    · exact .inr ⟨i, by omega, rfl⟩
    · rcases ih with h | ⟨j, hj, e⟩
      · exact .inl h
      · exact .inr ⟨j, by omega, e⟩
noncomputable def farthest (net : List Int) (a : Nat) : Int := maxI (distRow net (2 ^ a)) net.length
theorem dist_self {net : List Int} (h6 : net.length ≤ 6) {a : Nat} (ha : a < net.length) : rd (distRow net (2 ^ a)) (a : Int) = 0 := by
  have hw : Walk net (2 ^ a) 0 a := (walk_one h6 ha).2 ⟨rfl, ha⟩
  have := dist_le hw
  omega
theorem max0_is {net : List Int} (h6 : net.length ≤ 6) {a : Nat} (ha : a < net.length) : max0 (distRow net (2 ^ a)) net.length = farthest net a := by
  have h0 := dist_self h6 ha
  have h1 := maxI_ge (distRow net (2 ^ a)) net.length (by omega)
  obtain ⟨j, hj, e⟩ := maxI_mem (distRow net (2 ^ a)) net.length (by omega)
  have h2 := max0_ge (distRow net (2 ^ a)) net.length
  have h3 := h1 a ha
  have h4 := h2.2 j hj
  unfold farthest
  rcases max0_mem (distRow net (2 ^ a)) net.length with h | ⟨i, hi, h⟩
  · omega
  · have := h1 i hi
    omega

/-! parts -/
theorem least_ex (P : Nat → Prop) : ∀ m : Nat, P m → ∃ k, k ≤ m ∧ P k ∧ ∀ j, j < k → ¬ P j := by
  intro m
  induction m using Nat.strongRecOn with
  | _ m ih =>
    intro h
    by_cases c : ∃ j, j < m ∧ P j
    · obtain ⟨j, hj, hp⟩ := c
      obtain ⟨k, hk, r⟩ := ih j hj hp
      exact ⟨k, by omega, r⟩
    · exact ⟨m, Nat.le_refl _, h, fun j hj hp => c ⟨j, hj, hp⟩⟩
theorem part_ex (net : List Int) (i : Nat) : ∃ v : Int, i < net.length → ∃ m : Nat, v = m ∧ m ≤ i ∧ Rch net i m ∧ ∀ j, j < m → ¬ Rch net i j := by
  by_cases h : i < net.length
  · obtain ⟨k, hk, hp, hl⟩ := least_ex (Rch net i) i (Rch.refl h)
    exact ⟨k, fun _ => ⟨k, rfl, hk, hp, hl⟩⟩
  · exact ⟨0, fun q => absurd q h⟩
noncomputable def partOf (net : List Int) (i : Nat) : Int := Classical.choose (part_ex net i)
theorem partOf_told {net : List Int} {i : Nat} (h : i < net.length) : ∃ m : Nat, partOf net i = m ∧ m ≤ i ∧ Rch net i m ∧ ∀ j, j < m → ¬ Rch net i j := Classical.choose_spec (part_ex net i) h
theorem partOf_is {net : List Int} {i m : Nat} (h : i < net.length) (hr : Rch net i m) (hl : ∀ j, j < m → ¬ Rch net i j) : partOf net i = (m : Int) := by
  obtain ⟨k, e, _, hk, hk2⟩ := partOf_told h
  rw [e]
  by_cases c : k < m
  · exact absurd hk (hl k c)
  · by_cases c2 : m < k
    · exact absurd hr (hk2 m c2)
    · omega
noncomputable def partRow (net : List Int) : List Int := mkL (partOf net) net.length
theorem partRow_len (net : List Int) : (partRow net).length = net.length := mkL_len _ _
theorem partRow_at {net : List Int} {i : Nat} (h : i < net.length) : rd (partRow net) (i : Int) = partOf net i := rd_mkL _ _ _ h
theorem partOf_same {net : List Int} (hn : NetP net) {i j : Nat} (hi : i < net.length) (hj : j < net.length) : partOf net i = partOf net j ↔ Rch net i j := by
  obtain ⟨k, e, _, hk, hk2⟩ := partOf_told hi
  obtain ⟨m, e2, _, hm, hm2⟩ := partOf_told hj
  constructor
  · intro h
    rw [e, e2] at h
    have : k = m := by omega
    subst this
    exact hk.trans (hm.symm hn)
  · intro h
    rw [e]
    exact (partOf_is hj ((h.symm hn).trans hk) (fun v hv q => hk2 v hv (h.trans q))).symm
/-! a step -/
def Fires (net st : List Int) (i : Nat) : Prop := ∃ j : Nat, j < st.length ∧ tb (rd net (i : Int)) j = true ∧ rd st (j : Int) = 1
noncomputable def stepAt (net : List Int) (kinds : Int) (st : List Int) (i : Nat) : Int :=
  if 0 < rd st (i : Int) then (rd st (i : Int) + 1) % kinds else @ite Int (Fires net st i) (Classical.propDecidable _) 1 0
noncomputable def stepL (net : List Int) (kinds : Int) (st : List Int) : List Int := mkL (stepAt net kinds st) st.length
def AskP (net : List Int) (kinds : Int) (st : List Int) : Prop := NetP net ∧ StP kinds st ∧ net.length = st.length
theorem stepL_len (net : List Int) (kinds : Int) (st : List Int) : (stepL net kinds st).length = st.length := mkL_len _ _
theorem stepL_at {net : List Int} {kinds : Int} {st : List Int} {i : Nat} (h : i < st.length) : rd (stepL net kinds st) (i : Int) = stepAt net kinds st i := rd_mkL _ _ _ h
theorem stepAt_up {net : List Int} {kinds : Int} {st : List Int} {i : Nat} (h : 0 < rd st (i : Int)) : stepAt net kinds st i = (rd st (i : Int) + 1) % kinds := by rw [stepAt, if_pos h]
theorem stepAt_fire {net : List Int} {kinds : Int} {st : List Int} {i : Nat} (h : ¬ 0 < rd st (i : Int)) (hf : Fires net st i) : stepAt net kinds st i = 1 := by rw [stepAt, if_neg h, if_pos hf]
theorem stepAt_rest {net : List Int} {kinds : Int} {st : List Int} {i : Nat} (h : ¬ 0 < rd st (i : Int)) (hf : ¬ Fires net st i) : stepAt net kinds st i = 0 := by rw [stepAt, if_neg h, if_neg hf]
theorem stepAt_range {net : List Int} {kinds : Int} {st : List Int} (h : StP kinds st) {i : Nat} (_hi : i < st.length) : 0 ≤ stepAt net kinds st i ∧ stepAt net kinds st i < kinds := by
  have h3 := h.1
  by_cases c : 0 < rd st (i : Int)
  · rw [stepAt_up c]; exact ⟨Int.emod_nonneg _ (by omega), Int.emod_lt_of_pos _ (by omega)⟩
  · by_cases f : Fires net st i
    · rw [stepAt_fire c f]; omega
    · rw [stepAt_rest c f]; omega
theorem step_state {net : List Int} {kinds : Int} {st : List Int} (h : StP kinds st) : StP kinds (stepL net kinds st) :=
  ⟨h.1, h.2.1, by rw [stepL_len]; exact h.2.2.1, by rw [stepL_len]; exact h.2.2.2.1, fun i hi => by rw [stepL_len] at hi; rw [stepL_at hi]; exact stepAt_range h hi⟩
theorem AskP.step {net : List Int} {kinds : Int} {st : List Int} (h : AskP net kinds st) : AskP net kinds (stepL net kinds st) := ⟨h.1, step_state h.2.1, by rw [stepL_len]; exact h.2.2⟩
/-- After so many steps. -/
noncomputable def runL (net : List Int) (kinds : Int) (st : List Int) : Nat → List Int
  | 0 => st
  | t + 1 => stepL net kinds (runL net kinds st t)
theorem AskP.run {net : List Int} {kinds : Int} {st : List Int} (h : AskP net kinds st) : ∀ t, AskP net kinds (runL net kinds st t) := by
  intro t
  induction t with
  | zero => exact h
  | succ t ih => exact ih.step
theorem runL_len {net : List Int} {kinds : Int} {st : List Int} : ∀ t, (runL net kinds st t).length = st.length := by
  intro t
  induction t with
  | zero => rfl
  | succ t ih => rw [runL, stepL_len, ih]
theorem runL_add {net : List Int} {kinds : Int} {st : List Int} (s : Nat) : ∀ t, runL net kinds (runL net kinds st s) t = runL net kinds st (s + t) := by
  intro t
  induction t with
  | zero => rfl
  | succ t ih => rw [runL, ih]; rfl
theorem runL_step {net : List Int} {kinds : Int} {st : List Int} (t : Nat) : runL net kinds (stepL net kinds st) t = runL net kinds st (t + 1) := by
  have := runL_add (net := net) (kinds := kinds) (st := st) 1 t
  rw [Nat.add_comm] at this
  exact this
/-! what distances are -/
theorem dist_adj {net : List Int} (hn : NetP net) {set : Int} {k j : Nat} (a : Adj net k j) : (rd (distRow net set) (j : Int) < 0 ↔ rd (distRow net set) (k : Int) < 0) ∧ rd (distRow net set) (j : Int) ≤ rd (distRow net set) (k : Int) + 1 := by
  have hk := dist_small (set := set) a.1
  have hj := dist_small (set := set) a.2.1
  have up : ∀ {p q : Nat}, Adj net p q → 0 ≤ rd (distRow net set) (p : Int) → 0 ≤ rd (distRow net set) (q : Int) ∧ rd (distRow net set) (q : Int) ≤ rd (distRow net set) (p : Int) + 1 := by
    intro p q adj h
    have hw := dist_walk adj.1 h
    have hw2 : Walk net set ((rd (distRow net set) (p : Int)).toNat + 1) q := ⟨p, hw, adj⟩
    have := dist_le hw2
    omega
  by_cases c : 0 ≤ rd (distRow net set) (k : Int)
  · have := up a c
    exact ⟨by omega, by omega⟩
  · by_cases d : 0 ≤ rd (distRow net set) (j : Int)
    · have := up (a.symm hn) d; omega
    · exact ⟨by omega, by omega⟩
theorem dist_zero {net : List Int} {set : Int} {k : Nat} (hk : k < net.length) : rd (distRow net set) (k : Int) = 0 ↔ tb set k = true := by
  constructor
  · intro h
    have := dist_walk (set := set) hk (by omega)
    rw [h] at this
    exact this.2
  · intro h
    have hw : Walk net set 0 k := ⟨hk, h⟩
    have := dist_le hw
    omega
theorem dist_nearer {net : List Int} (hn : NetP net) {set : Int} {k : Nat} (hk : k < net.length) (h : 0 < rd (distRow net set) (k : Int)) : ∃ j, Adj net k j ∧ rd (distRow net set) (j : Int) + 1 = rd (distRow net set) (k : Int) := by
  rcases distRow_at net set k hk with ⟨e, _⟩ | ⟨t, e, hf⟩
  · omega
  · obtain ⟨s, rfl⟩ : ∃ s, t = s + 1 := ⟨t - 1, by omega⟩
    obtain ⟨j, hj, adj⟩ := hf.before
    refine ⟨j, adj.symm hn, ?_⟩
    rcases distRow_at net set j adj.1 with ⟨_, hw⟩ | ⟨r, e2, hf2⟩
    · exact absurd hj.1 (hw s)
    · have := hf2.det hj
      omega
theorem far_tri {net : List Int} (hn : NetP net) {a k : Nat} (ha : a < net.length) (hk : k < net.length) (h : 0 ≤ rd (distRow net (2 ^ a)) (k : Int)) : farthest net k ≤ farthest net a + rd (distRow net (2 ^ a)) (k : Int) := by
  have h6 := hn.2.1
  have h0 := dist_self h6 ha
  have hge := maxI_ge (distRow net (2 ^ a)) net.length (by omega)
  have hga := hge a ha
  obtain ⟨j, hj, e⟩ := maxI_mem (distRow net (2 ^ k)) net.length (by omega)
  unfold farthest
  rw [e]
  by_cases c : 0 ≤ rd (distRow net (2 ^ k)) (j : Int)
  · have w1 := (walk_one h6 ha).1 (dist_walk hk h)
    obtain ⟨s, w2⟩ := (rch_dist h6 hk hj).1 c
    have hra : Rch net a j := Rch.trans ⟨_, w1⟩ ⟨s, w2⟩
    have c2 := (rch_dist h6 ha hj).2 hra
    have w3 := (walk_one h6 ha).1 (dist_walk hj c2)
    have w4 := (w1.symm hn).trans w3
    have := dist_le ((walk_one h6 hk).2 w4)
    have := hge j hj
    omega
  · omega
theorem far_small {net : List Int} (hn : NetP net) {a : Nat} (ha : a < net.length) : 0 ≤ farthest net a ∧ farthest net a < net.length := by
  have h6 := hn.2.1
  have h0 := dist_self h6 ha
  have hge := maxI_ge (distRow net (2 ^ a)) net.length (by omega) a ha
  obtain ⟨j, hj, e⟩ := maxI_mem (distRow net (2 ^ a)) net.length (by omega)
  have := dist_small (set := 2 ^ a) hj
  unfold farthest
  omega

/-! distances by other names -/
theorem nm_walk {net ord : List Int} (hn : NetP net) (h : OrdP net.length ord) {c0 : Nat} (hc0 : rd ord ((0 : Nat) : Int) = (c0 : Int)) : ∀ (t v : Nat), Walk (nmN net ord) (2 ^ c0) t v ↔ ∃ i : Nat, i < net.length ∧ rd ord (i : Int) = (v : Int) ∧ Walk net 1 t i := by
  have h6 := hn.2.1
  have hpos := hn.1
  obtain ⟨c0', e0, hlt⟩ := h.at (i := 0) (by omega)
  have hc : c0 < net.length := by omega
  have hone : ∀ j, tb 1 j = decide (0 = j) := by
    have := (InS.one' (n := 6) (i := 0) (by omega) (by omega)).2
    simpa using this
  intro t
  induction t with
  | zero =>
    intro v
    constructor
    · rintro ⟨h1, h2⟩
      rw [(InS.one' (n := net.length) (by omega) hc).2, decide_eq_true_iff] at h2
      exact ⟨0, by omega, by rw [hc0, h2], by omega, by rw [hone]; rfl⟩
    · rintro ⟨i, hi, e, h1, h2⟩
      rw [hone, decide_eq_true_iff] at h2
      subst h2
      rw [hc0] at e
      refine ⟨by rw [nmN_len]; omega, ?_⟩
      rw [(InS.one' (n := net.length) (by omega) hc).2, decide_eq_true_iff]; omega
  | succ t ih =>
    intro v
    constructor
    · rintro ⟨j, hj, adj⟩
      obtain ⟨i, hi, e, hw⟩ := (ih j).1 hj
      have hv : v < net.length := by have := adj.2.1; rw [nmN_len] at this; exact this
      obtain ⟨i2, hi2, e2⟩ := h.surj hv
      refine ⟨i2, hi2, e2, i, hw, hi, hi2, ?_⟩
      rw [← nmN_tb h6 h hi hi2 e e2]; exact adj.2.2
    · rintro ⟨i2, hi2, e2, i, hw, adj⟩
      obtain ⟨c, hc, hc2⟩ := h.at (i := i) adj.1
      refine ⟨c, (ih c).2 ⟨i, adj.1, hc, hw⟩, by rw [nmN_len]; exact hc2, ?_, ?_⟩
      · obtain ⟨d, hd, hd2⟩ := h.at hi2
        rw [nmN_len]; omega
      · rw [nmN_tb h6 h adj.1 hi2 hc e2]; exact adj.2.2
theorem nm_dist {net ord : List Int} (hn : NetP net) (h : OrdP net.length ord) {c0 : Nat} (hc0 : rd ord ((0 : Nat) : Int) = (c0 : Int)) {i : Nat} (hi : i < net.length) : rd (distRow (nmN net ord) (2 ^ c0)) (rd ord (i : Int)) = rd (distRow net 1) (i : Int) := by
  obtain ⟨c, hc, hc2⟩ := h.at hi
  rw [hc]
  have key : ∀ t, Walk (nmN net ord) (2 ^ c0) t c ↔ Walk net 1 t i := by
    intro t
    rw [nm_walk hn h hc0]
    constructor
    · rintro ⟨j, hj, e, hw⟩
      have := h.inj hj hi (by rw [e, hc])
      rw [← this]; exact hw
    · intro hw; exact ⟨i, hi, hc, hw⟩
  refine (distRow_at (nmN net ord) (2 ^ c0) c (by rw [nmN_len]; exact hc2)).det ?_
  rcases distRow_at net 1 i hi with ⟨e, hw⟩ | ⟨t, e, hf⟩
  · exact .inl ⟨e, fun t q => hw t ((key t).1 q)⟩
  · exact .inr ⟨t, e, (key t).2 hf.1, fun s hs q => hf.2 s hs ((key s).1 q)⟩

/-! nets side by side -/
def joI (a b : List Int) (i : Nat) : List Int := a ++ mkL (fun i => rd b (i : Int) * 2 ^ a.length) i
def jo (a b : List Int) : List Int := joI a b b.length
theorem joI_snoc (a b : List Int) (i : Nat) : joI a b i ++ [rd b (i : Int) * 2 ^ a.length] = joI a b (i + 1) := by
  unfold joI
  rw [List.append_assoc, show [rd b (i : Int) * 2 ^ a.length] = [(fun i : Nat => rd b (i : Int) * 2 ^ a.length) i] from rfl, mkL_snoc]
theorem joI_len (a b : List Int) (i : Nat) : (joI a b i).length = a.length + i := by simp [joI, mkL_len]
theorem jo_len (a b : List Int) : (jo a b).length = a.length + b.length := joI_len _ _ _
theorem jo_lo (a b : List Int) {i : Nat} (h : i < a.length) : rd (jo a b) (i : Int) = rd a (i : Int) := by
  rw [rd_at _ _ (by rw [jo_len]; omega), rd_at _ _ h]
  simp [jo, joI, h]
theorem jo_hi (a b : List Int) {i : Nat} (h : i < b.length) : rd (jo a b) ((a.length + i : Nat) : Int) = rd b (i : Int) * 2 ^ a.length := by
  rw [rd_at _ _ (by rw [jo_len]; omega)]
  simp [jo, joI, mkL]
theorem tb_mul (x : Int) (h : 0 ≤ x) (n v : Nat) : tb (x * 2 ^ n) v = (decide (n ≤ v) && tb x (v - n)) := by
  obtain ⟨a, rfl⟩ := Int.eq_ofNat_of_zero_le h
  rw [show (a : Int) * 2 ^ n = ((a <<< n : Nat) : Int) by rw [Nat.shiftLeft_eq]; simp, tb_nat, tb_nat, Nat.testBit_shiftLeft]
theorem jo_net {a b : List Int} (ha : NetP a) (hb : NetP b) (h6 : a.length + b.length ≤ 6) : NetP (jo a b) := by
  refine NetP.of (by rw [jo_len]; have := ha.1; omega) (by rw [jo_len]; exact h6) (fun i hi => ?_)
  rw [jo_len] at hi
  rw [jo_len]
  have lo : ∀ j : Nat, a.length ≤ j → j < a.length + b.length → ∃ k, j = a.length + k ∧ k < b.length := fun j h1 h2 => ⟨j - a.length, by omega, by omega⟩
  by_cases c : i < a.length
  · have hin := ha.ins c
    rw [jo_lo a b c]
    refine ⟨hin.mono (by omega), ha.irr c, fun j hj => ?_⟩
    by_cases d : j < a.length
    · rw [jo_lo a b d]; exact ha.sym c d
    · obtain ⟨k, rfl, hk⟩ := lo j (by omega) hj
      rw [jo_hi a b hk, tb_mul _ (hb.ins hk).1, tb_far hin (by omega), decide_eq_false (by omega)]; rfl
  · obtain ⟨m, rfl, hm⟩ := lo i (by omega) hi
    have hin := hb.ins hm
    rw [jo_hi a b hm]
    refine ⟨⟨Int.mul_nonneg hin.1 (by exact_mod_cast Nat.zero_le _), ?_⟩, ?_, fun j hj => ?_⟩
    · rw [Int.pow_add, Int.mul_comm ((2 : Int) ^ a.length)]
      exact Int.mul_lt_mul_of_pos_right hin.2 (by exact_mod_cast Nat.two_pow_pos _)
    · rw [tb_mul _ hin.1, Nat.add_sub_cancel_left, hb.irr hm, Bool.and_false]
    · by_cases d : j < a.length
      · rw [jo_lo a b d, tb_mul _ hin.1, tb_far (ha.ins d) (by omega), decide_eq_false (by omega)]; rfl
      · obtain ⟨k, rfl, hk⟩ := lo j (by omega) hj
        rw [jo_hi a b hk, tb_mul _ hin.1, tb_mul _ (hb.ins hk).1, Nat.add_sub_cancel_left, Nat.add_sub_cancel_left, hb.sym hm hk, decide_eq_true (by omega), decide_eq_true (by omega)]
theorem jo_first {a b : List Int} (ha : NetP a) : ∀ (t i : Nat), Walk (jo a b) (2 ^ a.length - 1) t i → i < a.length := by
  intro t
  induction t with
  | zero =>
    rintro i ⟨_, h⟩
    refine Classical.byContradiction fun q => ?_
    have hin : InS a.length (2 ^ a.length - 1) := ⟨by have : (1 : Int) ≤ 2 ^ a.length := (by exact_mod_cast Nat.two_pow_pos a.length); omega, by omega⟩
    rw [tb_far hin (by omega)] at h; cases h
  | succ t ih =>
    rintro i ⟨j, hj, adj⟩
    have hj' := ih j hj
    have := adj.2.2
    rw [jo_lo a b hj'] at this
    refine Classical.byContradiction fun q => ?_
    rw [tb_far (ha.ins hj') (by omega)] at this; cases this
theorem jo_walk {a b : List Int} (_ha : NetP a) (hb : NetP b) (h6 : a.length + b.length ≤ 6) : ∀ (t i : Nat), Walk (jo a b) (2 ^ a.length) t i ↔ ∃ k, i = a.length + k ∧ Walk b 1 t k := by
  have hbp := hb.1
  have hone : ∀ j, tb 1 j = decide (0 = j) := by
    have := (InS.one' (n := 6) (i := 0) (by omega) (by omega)).2
    simpa using this
  have hsh := (InS.one' (n := 6) (i := a.length) (by omega) (by omega)).2
  intro t
  induction t with
  | zero =>
    intro i
    constructor
    · rintro ⟨h1, h2⟩
      rw [hsh, decide_eq_true_iff] at h2
      exact ⟨0, by omega, by omega, by rw [hone]; rfl⟩
    · rintro ⟨k, rfl, h1, h2⟩
      rw [hone, decide_eq_true_iff] at h2
      subst h2
      exact ⟨by rw [jo_len]; omega, by rw [hsh]; simp⟩
  | succ t ih =>
    intro i
    constructor
    · rintro ⟨j, hj, adj⟩
      obtain ⟨k, rfl, hw⟩ := (ih j).1 hj
      have hk := hw.lt
      have h2 := adj.2.2
      rw [jo_hi a b hk, tb_mul _ (hb.ins hk).1, Bool.and_eq_true, decide_eq_true_iff] at h2
      have h1 := adj.2.1
      rw [jo_len] at h1
      exact ⟨i - a.length, by omega, k, hw, hk, by omega, h2.2⟩
    · rintro ⟨k, rfl, j, hw, adj⟩
      refine ⟨a.length + j, (ih _).2 ⟨j, rfl, hw⟩, by rw [jo_len]; have := adj.1; omega, by rw [jo_len]; have := adj.2.1; omega, ?_⟩
      rw [jo_hi a b adj.1, tb_mul _ (hb.ins adj.1).1, Nat.add_sub_cancel_left, adj.2.2, decide_eq_true (by omega)]; rfl
theorem jo_dist1 {a b : List Int} (ha : NetP a) {k : Nat} (hk : k < b.length) : rd (distRow (jo a b) (2 ^ a.length - 1)) ((a.length + k : Nat) : Int) = -1 := by
  rcases distRow_at (jo a b) (2 ^ a.length - 1) (a.length + k) (by rw [jo_len]; omega) with ⟨e, _⟩ | ⟨t, _, hf⟩
  · exact e
  · have := jo_first ha t _ hf.1; omega
theorem jo_dist2 {a b : List Int} (ha : NetP a) (hb : NetP b) (h6 : a.length + b.length ≤ 6) {k : Nat} (hk : k < b.length) : rd (distRow (jo a b) (2 ^ a.length)) ((a.length + k : Nat) : Int) = rd (distRow b 1) (k : Int) := by
  have key : ∀ t, Walk (jo a b) (2 ^ a.length) t (a.length + k) ↔ Walk b 1 t k := by
    intro t
    rw [jo_walk ha hb h6]
    exact ⟨fun ⟨k', e, hw⟩ => by rw [show k = k' by omega]; exact hw, fun hw => ⟨k, rfl, hw⟩⟩
  refine (distRow_at (jo a b) (2 ^ a.length) (a.length + k) (by rw [jo_len]; omega)).det ?_
  rcases distRow_at b 1 k hk with ⟨e, hw⟩ | ⟨t, e, hf⟩
  · exact .inl ⟨e, fun t q => hw t ((key t).1 q)⟩
  · exact .inr ⟨t, e, (key t).2 hf.1, fun s hs q => hf.2 s hs ((key s).1 q)⟩
end Go.Proofs.Ytjofekchopgfbac.Pl
