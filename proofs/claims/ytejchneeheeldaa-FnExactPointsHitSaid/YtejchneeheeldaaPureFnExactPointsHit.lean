/- What is proved: the pure statement of the law FnExactPointsHit, about numbers and lists alone; no condition. -/
import Derived.Test.YtejchneeheeldaaPx25
namespace Go.Proofs.Ytejchneeheeldaa.Pure
open Go.RowKit Go.Proofs.Ytejchneeheeldaa.P Go.Proofs.YtejchneeheeldaaW.PrintWords Go.Proofs.YtejchneeheeldaaW.PrintLast
set_option linter.unusedVariables false
set_option linter.unusedSimpArgs false

theorem l1In_eq (n lo hi : Int) : spec_l1In.f n lo hi = some (inR n lo hi) := by
  unfold spec_l1In.f inR
  by_cases h : n ≥ lo
  · rw [if_pos h]; congr 1; simp only [decide_eq_decide]; omega
  · rw [if_neg h]; congr 1; exact (decide_eq_false (by omega)).symm
theorem wrap_one {n lo hi : Int} (h : inR n lo hi = true) (h1 : -1000000 ≤ lo) (h2 : hi ≤ 1000000) : wrap64 (n - 1) = n - 1 := by
  have := inR_true.1 h
  unfold wrap64
  omega
theorem wrap_id {x : Int} (h : -9000000000000000000 ≤ x) (h2 : x ≤ 9000000000000000000) : wrap64 x = x := by unfold wrap64; omega
/-- A table. -/
def tabOk (n f : Int) : Bool := inR n 3 60 && inR f 0 (n - 1)
theorem tabOk_true {n f : Int} : tabOk n f = true ↔ 3 ≤ n ∧ n ≤ 60 ∧ 0 ≤ f ∧ f ≤ n - 1 := by
  simp only [tabOk, Bool.and_eq_true, inR_true]
  omega
theorem srPoints_eq (n : Int) : spec_srPoints.f n = some (inR n 3 60) := by
  unfold spec_srPoints.f; rw [l1In_eq]; rfl
theorem step_eq {n f p : Int} (h : tabOk n f = true) (h0 : 0 ≤ p) (h1 : p ≤ 60) : Int.tmod (wrap64 (p * f)) n = p * f % n := by
  have hb := tabOk_true.1 h
  have hm : 0 ≤ p * f := Int.mul_nonneg h0 (by omega)
  have hm2 : p * f ≤ 60 * 60 := by
    have := Int.mul_le_mul h1 (show f ≤ 60 by omega) (by omega) (by omega)
    omega
  rw [wrap_id (by omega) (by omega), Int.tmod_eq_emod_of_nonneg hm]
theorem step_bd {n f p : Int} (h : tabOk n f = true) : 0 ≤ p * f % n ∧ p * f % n < n := by
  have hb := tabOk_true.1 h
  exact ⟨Int.emod_nonneg _ (by omega), Int.emod_lt_of_pos _ (by omega)⟩
theorem taGood_eq (n f : Int) : spec_taGood.f n f = some (tabOk n f) := by
  unfold spec_taGood.f tabOk
  rw [srPoints_eq]
  simp only [Option.bind_some]
  by_cases h : inR n 3 60 = true
  · rw [if_pos h, wrap_one h (by omega) (by omega), l1In_eq, h]; rfl
  · rw [if_neg h]; simp only [Bool.not_eq_true] at h; rw [h]; rfl
theorem isTable_nil (n f : Int) : impl_isTable.f n f [] = some (tabOk n f) := by
  simp [impl_isTable.f, tabOk]
theorem isTable_one (n f p : Int) : impl_isTable.f n f [p] = some (tabOk n f && inR p 0 (n - 1)) := by
  simp [impl_isTable.f, tabOk]
/-- The points to which the lines of i, i + 1, .. (d of them) lead. -/
def rowD (n f i : Int) : Nat → List Int
  | 0 => []
  | d + 1 => (i * f % n) :: rowD n f (i + 1) d
theorem rowD_len (n f i : Int) (d : Nat) : (rowD n f i d).length = d := by
  induction d generalizing i with
  | zero => rfl
  | succ d ih => simp [rowD, ih]
theorem rowD_at (n f : Int) (d : Nat) : ∀ (i : Int) (j : Nat), j < d → (rowD n f i d).getD j 0 = (i + j) * f % n := by
  induction d with
  | zero => intro i j h; omega
  | succ d ih =>
    intro i j h
    cases j with
    | zero => simp [rowD]
    | succ j =>
      simp only [rowD, List.getD_cons_succ]
      rw [ih (i + 1) j (by omega)]
      congr 2
      omega
theorem rd_row (n f x : Int) (h0 : 0 ≤ x) (h1 : x < n) : rd (rowD n f 0 n.toNat) x = x * f % n := by
  unfold rd
  rw [rowD_at n f n.toNat 0 x.toNat (by omega)]
  congr 2
  omega
theorem taRow_l0 (n f : Int) (h : tabOk n f = true) (d : Nat) : ∀ (k : Nat) (l : List Int) (i : Int), 0 ≤ i → i + d = n → d < k → (l.length : Int) + d ≤ 1000 →
    spec_taRow.l0 k n f l i = some (l ++ rowD n f i d) := by
  have hb := tabOk_true.1 h
  induction d with
  | zero =>
    intro k l i hi hd hk _
    obtain ⟨k, rfl⟩ : ∃ m, k = m + 1 := ⟨k - 1, by omega⟩
    rw [spec_taRow.l0, if_neg (by omega)]
    simp [rowD]
  | succ d ih =>
    intro k l i hi hd hk hl
    obtain ⟨k, rfl⟩ : ∃ m, k = m + 1 := ⟨k - 1, by omega⟩
    rw [spec_taRow.l0, if_pos (by omega), if_neg (by omega), if_pos (by omega), step_eq h hi (by omega), wrap_id (x := i + 1) (by omega) (by omega), ih k _ (i + 1) (by omega) (by omega) (by omega) (by simp; omega)]
    simp [rowD]
theorem taRow_f (n f : Int) (h : tabOk n f = true) (k : Nat) (hk : 61 ≤ k) : spec_taRow.f k n f = some (rowD n f 0 n.toNat) := by
  have hb := tabOk_true.1 h
  unfold spec_taRow.f
  rw [taRow_l0 n f h n.toNat k [] 0 (by omega) (by omega) (by omega) (by simp; omega)]
  simp
theorem timesRow_l0 (n f : Int) (h : tabOk n f = true) (d : Nat) : ∀ (k : Nat) (l : List Int) (i : Int), 0 ≤ i → i + d = n → d < k → (l.length : Int) + d ≤ 1000 →
    impl_timesRow.l0 k n f l n i = some (l ++ rowD n f i d) := by
  have hb := tabOk_true.1 h
  induction d with
  | zero =>
    intro k l i hi hd hk _
    obtain ⟨k, rfl⟩ : ∃ m, k = m + 1 := ⟨k - 1, by omega⟩
    rw [impl_timesRow.l0, if_neg (by omega)]
    simp [rowD]
  | succ d ih =>
    intro k l i hi hd hk hl
    obtain ⟨k, rfl⟩ : ∃ m, k = m + 1 := ⟨k - 1, by omega⟩
    rw [impl_timesRow.l0, if_pos (by omega), if_neg (by omega), if_pos (by omega), step_eq h hi (by omega), wrap_id (x := i + 1) (by omega) (by omega), ih k _ (i + 1) (by omega) (by omega) (by omega) (by simp; omega)]
    simp [rowD]
theorem eqIntS_l0 (l : List Int) (hl : (l.length : Int) ≤ 1000000000000) : ∀ (d k : Nat) (i : Int), 0 ≤ i → i + d = l.length → d < k → laws_eqIntS.l0 k l l i = some true
  | 0, k + 1, i, h0, hi, _ => by
    unfold laws_eqIntS.l0
    rw [if_neg (by omega)]
  | d + 1, k + 1, i, h0, hi, hk => by
    unfold laws_eqIntS.l0
    rw [if_pos (by omega), if_pos h0, if_pos (by omega), if_pos rfl, wrap_id (by omega) (by omega)]
    exact eqIntS_l0 l hl d k (i + 1) (by omega) (by omega) (by omega)
theorem eqIntS_self {l : List Int} (hl : (l.length : Int) ≤ 1000000000000) {k : Nat} (hk : l.length < k) : laws_eqIntS.f k l l = some true := by
  unfold laws_eqIntS.f
  rw [if_pos rfl]
  exact eqIntS_l0 l hl l.length k 0 (by omega) (by omega) hk
/-- a, a + 1, .. -/
def marks (a : Int) : Nat → List Int
  | 0 => []
  | n + 1 => a :: marks (a + 1) n
theorem marks_len (a : Int) (n : Nat) : (marks a n).length = n := by
  induction n generalizing a with
  | zero => rfl
  | succ n ih => simp [marks, ih]

theorem rd_drop {l : List Int} {i : Int} {x : Int} {r : List Int} (h0 : 0 ≤ i) (h : l.drop i.toNat = x :: r) : rd l i = x ∧ l.drop (i + 1).toNat = r ∧ i.toNat < l.length := by
  have hl : i.toNat < l.length := by
    rcases Nat.lt_or_ge i.toNat l.length with h1 | h1
    · exact h1
    · rw [List.drop_eq_nil_of_le h1] at h; cases h
  have h3 := List.drop_eq_getElem_cons hl
  rw [h3] at h
  injection h with h4 h5
  refine ⟨by simp [rd, List.getD_eq_getElem?_getD, List.getElem?_eq_getElem hl, h4], ?_, hl⟩
  rw [show (i + 1).toNat = i.toNat + 1 by omega]; exact h5
theorem markIntS_l0 : ∀ (d k : Nat) (l : List Int) (a i : Int), 0 ≤ i → i + d = l.length → d < k → (l.length : Int) ≤ 1000000000000 → -1000000000000 ≤ a → a + d ≤ 3000000000000 → laws_markIntS.l0 k l a i = some (a + d, l.take i.toNat ++ marks a d)
  | 0, k + 1, l, a, i, h0, hi, _, hl, ha, hb => by
    unfold laws_markIntS.l0
    rw [if_neg (by omega), List.take_of_length_le (by omega)]
    simp [marks]
  | d + 1, k + 1, l, a, i, h0, hi, hk, hl, ha, hb => by
    unfold laws_markIntS.l0
    rw [if_pos (by omega), if_pos h0, wrap_id (by omega) (by omega), wrap_id (by omega) (by omega)]
    rw [markIntS_l0 d k (l.set i.toNat a) (a + 1) (i + 1) (by omega) (by rw [List.length_set]; omega) (by omega) (by rw [List.length_set]; omega) (by omega) (by omega)]
    have e : (l.set i.toNat a).take (i + 1).toNat = l.take i.toNat ++ [a] := by
      rw [show (i + 1).toNat = i.toNat + 1 by omega, List.take_succ_eq_append_getElem (by rw [List.length_set]; omega), List.take_set_of_le (Nat.le_refl _)]
      simp
    rw [e]
    simp only [marks, List.append_assoc, List.singleton_append]
    congr 2
    omega
theorem markIntS_f {l : List Int} (hl : (l.length : Int) ≤ 1000000000000) {k : Nat} (hk : l.length < k) {a : Int} (ha : -1000000000000 ≤ a) (hb : a ≤ 2000000000000) : laws_markIntS.f k l a = some (a + l.length, marks a l.length) := by
  unfold laws_markIntS.f
  rw [markIntS_l0 l.length k l a 0 (by omega) (by omega) hk hl ha (by omega)]
  simp
theorem heldIntS_l0 : ∀ (d k : Nat) (l : List Int) (a i : Int), 0 ≤ i → i + d = l.length → l.drop i.toNat = marks a d → d < k → (l.length : Int) ≤ 1000000000000 → -1000000000000 ≤ a → a + d ≤ 3000000000000 → laws_heldIntS.l0 k l a i = some (a + d)
  | 0, k + 1, l, a, i, h0, hi, _, _, hl, ha, hb => by
    unfold laws_heldIntS.l0
    rw [if_neg (by omega)]
    simp
  | d + 1, k + 1, l, a, i, h0, hi, hd, hk, hl, ha, hb => by
    obtain ⟨e1, e2, e3⟩ := rd_drop h0 (show l.drop i.toNat = a :: marks (a + 1) d from hd)
    unfold laws_heldIntS.l0
    rw [if_pos (by omega), if_pos h0, if_pos e1, wrap_id (by omega) (by omega), wrap_id (by omega) (by omega)]
    rw [heldIntS_l0 d k l (a + 1) (i + 1) (by omega) (by omega) e2 (by omega) hl (by omega) (by omega)]
    congr 1
    omega
theorem heldIntS_f {n k : Nat} (hn : (n : Int) ≤ 1000000000000) (hk : n < k) {a : Int} (ha : -1000000000000 ≤ a) (hb : a ≤ 2000000000000) : laws_heldIntS.f k (marks a n) a = some (a + n) := by
  unfold laws_heldIntS.f
  exact heldIntS_l0 n k (marks a n) a 0 (by omega) (by rw [marks_len]; omega) (by simp) hk (by rw [marks_len]; exact hn) ha (by omega)
/-- The numbers i, i + 1, .. of the next d at which p holds. -/
def numsD (p : Int → Bool) (i : Int) : Nat → List Int
  | 0 => []
  | d + 1 => if p i = true then i :: numsD p (i + 1) d else numsD p (i + 1) d
theorem numsD_len (p : Int → Bool) (i : Int) (d : Nat) : (numsD p i d).length ≤ d := by
  induction d generalizing i with
  | zero => simp [numsD]
  | succ d ih =>
    have := ih (i + 1)
    simp only [numsD]
    split
    · simp; omega
    · omega
theorem numsD_congr {p q : Int → Bool} {i : Int} {d : Nat} (h : ∀ x, i ≤ x → x < i + d → p x = q x) : numsD p i d = numsD q i d := by
  induction d generalizing i with
  | zero => rfl
  | succ d ih =>
    have h0 := h i (by omega) (by omega)
    have h1 := ih (i := i + 1) (fun x hx hy => h x (by omega) (by omega))
    simp only [numsD, h0, h1]
theorem numsD_mem {p : Int → Bool} {a : Int} : ∀ {d : Nat} {i : Int}, a ∈ numsD p i d ↔ i ≤ a ∧ a < i + d ∧ p a = true
  | 0, i => by simp [numsD]; omega
  | d + 1, i => by
    simp only [numsD]
    split
    · rename_i h
      rw [List.mem_cons, numsD_mem (d := d) (i := i + 1)]
      constructor
      · rintro (rfl | ⟨h1, h2, h3⟩)
        · exact ⟨by omega, by omega, h⟩
        · exact ⟨by omega, by omega, h3⟩
      · rintro ⟨h1, h2, h3⟩
        rcases Int.lt_or_eq_of_le h1 with h4 | h4
        · exact Or.inr ⟨by omega, by omega, h3⟩
        · exact Or.inl h4.symm
    · rename_i h
      rw [numsD_mem (d := d) (i := i + 1)]
      constructor
      · rintro ⟨h1, h2, h3⟩; exact ⟨by omega, by omega, h3⟩
      · rintro ⟨h1, h2, h3⟩
        rcases Int.lt_or_eq_of_le h1 with h4 | h4
        · exact ⟨by omega, by omega, h3⟩
        · subst h4; exact absurd h3 h
theorem numsD_rises (p : Int → Bool) : ∀ (d : Nat) (i : Int), (numsD p i d).Pairwise (· < ·)
  | 0, i => by simp [numsD]
  | d + 1, i => by
    simp only [numsD]
    split
    · rw [List.pairwise_cons]
      exact ⟨fun a ha => by have := (numsD_mem.1 ha).1; omega, numsD_rises p d (i + 1)⟩
    · exact numsD_rises p d (i + 1)
theorem rd_get {l : List Int} {i : Int} (h0 : 0 ≤ i) (h1 : i < (l.length : Int)) : rd l i = l[i.toNat]'(by omega) := by
  simp [rd, List.getD_eq_getElem?_getD, List.getElem?_eq_getElem (show i.toNat < l.length by omega)]
theorem has_l0 (l : List Int) (a : Int) (hl : (l.length : Int) ≤ 1000000) (d : Nat) : ∀ (k : Nat) (i : Int), 0 ≤ i → i + d = l.length → d < k → spec_l1Has.l0 k a l (l.length : Int) i = some ((l.drop i.toNat).any fun x => x == a) := by
  induction d with
  | zero =>
    intro k i h0 hi hk
    obtain ⟨k, rfl⟩ : ∃ m, k = m + 1 := ⟨k - 1, by omega⟩
    rw [spec_l1Has.l0, if_neg (by omega), List.drop_eq_nil_of_le (by omega)]
    rfl
  | succ d ih =>
    intro k i h0 hi hk
    obtain ⟨k, rfl⟩ : ∃ m, k = m + 1 := ⟨k - 1, by omega⟩
    rw [spec_l1Has.l0, if_pos (show i < (l.length : Int) by omega), if_pos h0, if_pos (show i < (l.length : Int) by omega), List.drop_eq_getElem_cons (show i.toNat < l.length by omega), List.any_cons, ← rd_get h0 (by omega), show i.toNat + 1 = (i + 1).toNat by omega, wrap_id (x := i + 1) (by omega) (by omega)]
    by_cases h : rd l i = a
    · rw [if_pos h, h]; simp
    · rw [if_neg h, ih k (i + 1) (by omega) (by omega) (by omega)]
      have : (rd l i == a) = false := by simpa using h
      rw [this, Bool.false_or]
theorem has_f {l : List Int} (a : Int) (hl : (l.length : Int) ≤ 1000000) {k : Nat} (hk : l.length < k) : spec_l1Has.f k l a = some (l.any fun x => x == a) := by
  unfold spec_l1Has.f
  rw [has_l0 l a hl l.length k 0 (by omega) (by omega) (by omega)]
  simp
/-- Two ascending lists with the same members are one. -/
theorem asc_ext : ∀ {l m : List Int}, l.Pairwise (· < ·) → m.Pairwise (· < ·) → (∀ x, x ∈ l ↔ x ∈ m) → l = m
  | [], [], _, _, _ => rfl
  | [], y :: m, _, _, h => absurd ((h y).2 List.mem_cons_self) (by simp)
  | x :: l, [], _, _, h => absurd ((h x).1 List.mem_cons_self) (by simp)
  | x :: l, y :: m, hl, hm, h => by
    obtain ⟨hl1, hl2⟩ := List.pairwise_cons.1 hl
    obtain ⟨hm1, hm2⟩ := List.pairwise_cons.1 hm
    have e : x = y := by
      have h1 := (h x).1 List.mem_cons_self
      have h2 := (h y).2 List.mem_cons_self
      rcases List.mem_cons.1 h1 with h1 | h1
      · exact h1
      · rcases List.mem_cons.1 h2 with h2 | h2
        · exact h2.symm
        · have := hm1 x h1; have := hl1 y h2; omega
    subst e
    congr 1
    refine asc_ext hl2 hm2 fun z => ?_
    constructor
    · intro hz
      rcases List.mem_cons.1 ((h z).1 (List.mem_cons_of_mem _ hz)) with e | e
      · have := hl1 z hz; omega
      · exact e
    · intro hz
      rcases List.mem_cons.1 ((h z).2 (List.mem_cons_of_mem _ hz)) with e | e
      · have := hm1 z hz; omega
      · exact e
theorem compact_upto (d : Array Int) (hd : ∀ i j, i ≤ j → j < d.size → d[i]! ≤ d[j]!) : ∀ m, m ≤ d.size →
    (Go.Lib.compactUpTo d m).Pairwise (· < ·) ∧ (∀ x, x ∈ Go.Lib.compactUpTo d m ↔ ∃ j, j < m ∧ d[j]! = x)
  | 0, _ => ⟨by simp [Go.Lib.compactUpTo], by simp [Go.Lib.compactUpTo]⟩
  | m + 1, hm => by
    obtain ⟨h1, h2⟩ := compact_upto d hd m (by omega)
    rw [Go.Lib.compactUpTo_succ]
    by_cases hk : m = 0 ∨ d[m]! ≠ d[m - 1]!
    · have e : Go.Lib.keeps d m = true := by unfold Go.Lib.keeps; exact decide_eq_true hk
      rw [e, if_pos rfl]
      constructor
      · rw [List.pairwise_append]
        refine ⟨h1, by simp, fun x hx y hy => ?_⟩
        obtain ⟨j, hj, rfl⟩ := (h2 x).1 hx
        obtain rfl := List.mem_singleton.1 hy
        rcases hk with hk | hk
        · omega
        · have := hd j (m - 1) (by omega) (by omega)
          have := hd (m - 1) m (by omega) (by omega)
          omega
      · intro x
        rw [List.mem_append, h2, List.mem_singleton]
        constructor
        · rintro (⟨j, hj, rfl⟩ | rfl)
          · exact ⟨j, by omega, rfl⟩
          · exact ⟨m, by omega, rfl⟩
        · rintro ⟨j, hj, rfl⟩
          by_cases e : j = m
          · subst e; exact .inr rfl
          · exact .inl ⟨j, by omega, rfl⟩
    · have e : Go.Lib.keeps d m = false := by unfold Go.Lib.keeps; exact decide_eq_false hk
      rw [e]
      simp only [Bool.false_eq_true, if_false, List.append_nil]
      refine ⟨h1, fun x => ?_⟩
      rw [h2]
      constructor
      · rintro ⟨j, hj, rfl⟩; exact ⟨j, by omega, rfl⟩
      · rintro ⟨j, hj, rfl⟩
        by_cases e : j = m
        · subst e
          exact ⟨j - 1, by omega, by
            rcases Decidable.em (d[j]! = d[j - 1]!) with h | h
            · exact h.symm
            · exact absurd (Or.inr h) hk⟩
        · exact ⟨j, by omega, rfl⟩
theorem compact_sorted (l : List Int) : (Go.Lib.compact (l.mergeSort fun x y => decide (x ≤ y))).Pairwise (· < ·) ∧ ∀ x, x ∈ Go.Lib.compact (l.mergeSort fun x y => decide (x ≤ y)) ↔ x ∈ l := by
  have hp := List.pairwise_mergeSort (le := fun x y : Int => decide (x ≤ y)) (fun a b c h1 h2 => by simp at *; omega) (fun a b => by simp; omega) l
  have hm := fun x => List.mem_mergeSort (le := fun x y : Int => decide (x ≤ y)) (a := x) (l := l)
  generalize (l.mergeSort fun x y => decide (x ≤ y)) = s at hp hm
  have hd : ∀ i j, i ≤ j → j < s.toArray.size → s.toArray[i]! ≤ s.toArray[j]! := by
    intro i j hij hj
    have hj' : j < s.length := by simpa using hj
    rw [getElem!_pos s.toArray i (by simp; omega), getElem!_pos s.toArray j hj]
    simp only [List.getElem_toArray]
    rcases Nat.lt_or_eq_of_le hij with h | h
    · have := List.pairwise_iff_getElem.1 hp i j (by omega) hj' h
      simpa using this
    · subst h; exact Int.le_refl _
  obtain ⟨h1, h2⟩ := compact_upto s.toArray hd s.length (by simp)
  refine ⟨h1, fun x => ?_⟩
  unfold Go.Lib.compact
  rw [h2, ← hm, List.mem_iff_getElem]
  constructor
  · rintro ⟨j, hj, rfl⟩
    exact ⟨j, hj, by rw [getElem!_pos s.toArray j (by simpa using hj)]; simp⟩
  · rintro ⟨j, hj, rfl⟩
    exact ⟨j, hj, by rw [getElem!_pos s.toArray j (by simpa using hj)]; simp⟩
theorem hit_l0 (n : Int) (r : List Int) (hr : (r.length : Int) ≤ 60) (hn : n ≤ 60) (d : Nat) : ∀ (k : Nat) (o : List Int) (i : Int), 0 ≤ i → i + d = n → d + 62 < k → (o.length : Int) + d ≤ 1000 →
    spec_PointsHit.l0 k n o r i = some (o ++ numsD (fun x => r.any fun y => y == x) i d, true) := by
  induction d with
  | zero =>
    intro k o i h0 hi hk _
    obtain ⟨k, rfl⟩ : ∃ m, k = m + 1 := ⟨k - 1, by omega⟩
    rw [spec_PointsHit.l0, if_neg (by omega)]
    simp [numsD]
  | succ d ih =>
    intro k o i h0 hi hk hl
    obtain ⟨k, rfl⟩ : ∃ m, k = m + 1 := ⟨k - 1, by omega⟩
    rw [spec_PointsHit.l0, if_pos (by omega), has_f i (by omega) (by omega)]
    simp only [Option.bind_some]
    rw [wrap_id (x := i + 1) (by omega) (by omega)]
    by_cases h : (r.any fun y => y == i) = true
    · rw [if_pos h, if_pos (by omega), ih k _ (i + 1) (by omega) (by omega) (by omega) (by simp; omega)]
      simp only [numsD]
      rw [if_pos h]; simp
    · rw [if_neg h, ih k _ (i + 1) (by omega) (by omega) (by omega) (by omega)]
      simp only [numsD]
      rw [if_neg h]
theorem rowD_bd {n f : Int} (h : tabOk n f = true) {x : Int} : ∀ {d : Nat} {i : Int}, x ∈ rowD n f i d → 0 ≤ x ∧ x < n
  | 0, i, hx => by simp [rowD] at hx
  | d + 1, i, hx => by
    simp only [rowD, List.mem_cons] at hx
    rcases hx with rfl | hx
    · exact step_bd h
    · exact rowD_bd h hx
theorem FnExactPointsHit : laws_FnExactPointsHit.Pure := by
  intro n f _ _
  have key : ∃ (r : List Int) (ok : Bool), (r.length : Int) ≤ 60 ∧ spec_PointsHit.f 300 n f = some (r, ok) ∧ impl_PointsHit.f 300 n f = some (r, ok) := by
    by_cases h : tabOk n f = true
    · have hb := tabOk_true.1 h
      have hl := rowD_len n f 0 n.toNat
      refine ⟨numsD (fun x => (rowD n f 0 n.toNat).any fun y => y == x) 0 n.toNat, true, ?_, ?_, ?_⟩
      · have := numsD_len (fun x => (rowD n f 0 n.toNat).any fun y => y == x) 0 n.toNat
        omega
      · unfold spec_PointsHit.f
        rw [taGood_eq, h]
        simp only [Option.bind_some, if_true]
        rw [taRow_f n f h 300 (by omega)]
        simp only [Option.bind_some]
        rw [hit_l0 n _ (by omega) (by omega) n.toNat 300 [] 0 (by omega) (by omega) (by omega) (by simp; omega)]
        simp
      · unfold impl_PointsHit.f impl_timesRow.f slices_Sort_int_int.f slices_Compact_int_int.f
        rw [isTable_nil, h]
        simp only [Option.bind_some, if_true]
        rw [timesRow_l0 n f h n.toNat 300 [] 0 (by omega) (by omega) (by omega) (by simp; omega)]
        simp only [List.nil_append, Option.bind_some]
        rw [if_pos (by omega)]
        simp only [Option.bind_some]
        congr 2
        obtain ⟨h1, h2⟩ := compact_sorted (rowD n f 0 n.toNat)
        refine asc_ext h1 (numsD_rises _ _ _) fun x => ?_
        rw [h2, numsD_mem]
        constructor
        · intro hx
          have := rowD_bd h hx
          exact ⟨by omega, by omega, List.any_eq_true.2 ⟨x, hx, by simp⟩⟩
        · rintro ⟨_, _, hx⟩
          obtain ⟨y, hy, e⟩ := List.any_eq_true.1 hx
          have : y = x := by simpa using e
          subst this; exact hy
    · refine ⟨[], false, by simp, ?_, ?_⟩
      · unfold spec_PointsHit.f
        rw [taGood_eq]; simp [h]
      · unfold impl_PointsHit.f
        rw [isTable_nil]; simp [h]
  obtain ⟨r, ok, hl, hs, hi⟩ := key
  refine ⟨300, ?_⟩
  unfold laws_FnExactPointsHit.f
  rw [hs, hi]
  simp only [Option.bind_some]
  rw [eqIntS_self (by omega) (by omega)]
  simp only [Option.bind_some, if_true, bne_self_eq_false, Bool.false_eq_true, if_false]
  rw [markIntS_f (by omega) (by omega) (by omega) (by omega)]
  simp only [Option.bind_some]
  rw [heldIntS_f (by omega) (by omega) (by omega) (by omega)]
  simp only [Option.bind_some, if_true]
  rw [if_neg (by omega), if_neg (by omega)]

end Go.Proofs.Ytejchneeheeldaa.Pure
