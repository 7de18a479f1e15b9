/- What is proved: the pure statement of the law FnExactCyclesOfTable, about numbers and lists alone; no condition. -/
import Derived.Test.YtejchneeheeldaaPx20
namespace Go.Proofs.Ytejchneeheeldaa.Pure
open Go.RowKit Go.Proofs.Ytejchneeheeldaa.P Go.Proofs.YtejchneeheeldaaW.PrintWords Go.Proofs.YtejchneeheeldaaW.PrintLast
set_option linter.unusedVariables false
set_option linter.unusedSimpArgs false

theorem l1In_eq (n lo hi : Int) : spec_l1In.f n lo hi = some (inR n lo hi) := by
  unfold spec_l1In.f inR
  by_cases h : n ≥ lo
  · rw [if_pos h]; congr 1; simp only [decide_eq_decide]; omega
  · rw [if_neg h]; congr 1; exact (decide_eq_false (by omega)).symm
theorem wrap_one {n lo hi : Int} (h : inR n lo hi = true) (h1 : -1000000 ≤ lo) (h2 : hi ≤ 1000000) : wrap64 (n - 1) = n - 1 := by
  have := inR_true.1 h
  unfold wrap64
  omega
theorem wrap_id {x : Int} (h : -9000000000000000000 ≤ x) (h2 : x ≤ 9000000000000000000) : wrap64 x = x := by unfold wrap64; omega
/-- A table. -/
def tabOk (n f : Int) : Bool := inR n 3 60 && inR f 0 (n - 1)
theorem tabOk_true {n f : Int} : tabOk n f = true ↔ 3 ≤ n ∧ n ≤ 60 ∧ 0 ≤ f ∧ f ≤ n - 1 := by
  simp only [tabOk, Bool.and_eq_true, inR_true]
  omega
theorem srPoints_eq (n : Int) : spec_srPoints.f n = some (inR n 3 60) := by
  unfold spec_srPoints.f; rw [l1In_eq]; rfl
theorem step_eq {n f p : Int} (h : tabOk n f = true) (h0 : 0 ≤ p) (h1 : p ≤ 60) : Int.tmod (wrap64 (p * f)) n = p * f % n := by
  have hb := tabOk_true.1 h
  have hm : 0 ≤ p * f := Int.mul_nonneg h0 (by omega)
  have hm2 : p * f ≤ 60 * 60 := by
    have := Int.mul_le_mul h1 (show f ≤ 60 by omega) (by omega) (by omega)
    omega
  rw [wrap_id (by omega) (by omega), Int.tmod_eq_emod_of_nonneg hm]
theorem step_bd {n f p : Int} (h : tabOk n f = true) : 0 ≤ p * f % n ∧ p * f % n < n := by
  have hb := tabOk_true.1 h
  exact ⟨Int.emod_nonneg _ (by omega), Int.emod_lt_of_pos _ (by omega)⟩
theorem taGood_eq (n f : Int) : spec_taGood.f n f = some (tabOk n f) := by
  unfold spec_taGood.f tabOk
  rw [srPoints_eq]
  simp only [Option.bind_some]
  by_cases h : inR n 3 60 = true
  · rw [if_pos h, wrap_one h (by omega) (by omega), l1In_eq, h]; rfl
  · rw [if_neg h]; simp only [Bool.not_eq_true] at h; rw [h]; rfl
theorem isTable_nil (n f : Int) : impl_isTable.f n f [] = some (tabOk n f) := by
  simp [impl_isTable.f, tabOk]
theorem isTable_one (n f p : Int) : impl_isTable.f n f [p] = some (tabOk n f && inR p 0 (n - 1)) := by
  simp [impl_isTable.f, tabOk]
theorem idxP_snoc (p : Int → Bool) (l : List Int) (x : Int) : idxP p (l ++ [x]) = if 0 ≤ idxP p l then idxP p l else if p x then (l.length : Int) else -1 := by
  induction l with
  | nil => simp [idxP]
  | cons y r ih =>
    have lo := idxP_lo p r
    by_cases hy : p y = true
    · simp [idxP, hy]
    · simp only [List.cons_append, idxP, hy, Bool.false_eq_true, if_false, ih]
      by_cases h0 : 0 ≤ idxP p r
      · rw [if_pos h0, if_neg (by omega), if_pos (by omega)]
      · rw [if_neg h0, if_pos (show idxP p r < 0 by omega), if_neg (show ¬ (0 : Int) ≤ -1 by omega)]
        by_cases hx : p x = true
        · rw [if_pos hx, if_neg (by omega), if_pos hx]; simp
        · rw [if_neg hx, if_pos (by omega), if_neg hx]
theorem idxP_lt (p : Int → Bool) (l : List Int) : idxP p l < l.length := by
  induction l with
  | nil => simp [idxP]
  | cons y r ih =>
    simp only [idxP, List.length_cons]
    split
    · omega
    · split <;> omega
theorem index_l0 (l : List Int) (q : Int) (hl : (l.length : Int) ≤ 1000000) (d : Nat) : ∀ (k : Nat) (i : Int), 0 ≤ i → i + d = l.length → d < k →
    slices_Index_int_int.l0 k l q (l.length : Int) i = some (if idxP (fun y => q == y) (l.drop i.toNat) < 0 then -1 else i + idxP (fun y => q == y) (l.drop i.toNat)) := by
  induction d with
  | zero =>
    intro k i hi hd hk
    obtain ⟨k, rfl⟩ : ∃ m, k = m + 1 := ⟨k - 1, by omega⟩
    rw [slices_Index_int_int.l0, if_neg (by omega), List.drop_eq_nil_of_le (by omega)]
    simp [idxP]
  | succ d ih =>
    intro k i hi hd hk
    obtain ⟨k, rfl⟩ : ∃ m, k = m + 1 := ⟨k - 1, by omega⟩
    have hlt : i.toNat < l.length := by omega
    have e : l.drop i.toNat = l[i.toNat] :: l.drop (i.toNat + 1) := List.drop_eq_getElem_cons hlt
    have er : rd l i = l[i.toNat] := by simp [rd, List.getD_eq_getElem?_getD, List.getElem?_eq_getElem hlt]
    rw [slices_Index_int_int.l0, if_pos (by omega), if_pos hi, if_pos (by omega), er, e]
    by_cases hq : q = l[i.toNat]
    · rw [if_pos hq]; simp [idxP, hq]
    · have hx : (q == l[i.toNat]) = false := beq_eq_false_iff_ne.mpr hq
      rw [if_neg hq, wrap_id (x := i + 1) (by omega) (by omega), ih k (i + 1) (by omega) (by omega) (by omega), show (i + 1).toNat = i.toNat + 1 by omega]
      have lo := idxP_lo (fun y => q == y) (l.drop (i.toNat + 1))
      simp only [idxP, hx, Bool.false_eq_true, if_false]
      by_cases h0 : idxP (fun y => q == y) (l.drop (i.toNat + 1)) < 0
      · simp [h0]
      · simp only [h0, if_false]
        rw [if_neg (by omega)]
        congr 1
        omega
theorem index_f (l : List Int) (q : Int) (hl : (l.length : Int) ≤ 1000000) (k : Nat) (hk : l.length < k) : slices_Index_int_int.f k l q = some (idxP (fun y => q == y) l) := by
  unfold slices_Index_int_int.f
  rw [index_l0 l q hl l.length k 0 (by omega) (by omega) hk]
  have lo := idxP_lo (fun y => q == y) l
  simp only [Int.toNat_zero, List.drop_zero]
  split
  · congr 1; omega
  · congr 1; omega
theorem rd_set (l : List Int) (i j x : Int) (hi : 0 ≤ i) (hi2 : i < l.length) (hj : 0 ≤ j) : rd (l.set i.toNat x) j = if j = i then x else rd l j := by
  unfold rd
  by_cases h : j = i
  · subst h
    rw [if_pos rfl, List.getD_eq_getElem?_getD, List.getElem?_set_self (by omega)]
    rfl
  · rw [if_neg h, List.getD_eq_getElem?_getD, List.getD_eq_getElem?_getD, List.getElem?_set_ne (by omega)]
/-- The marks of a path: at each point of it its place and one, else 0. -/
structure Marked (n : Int) (arr path : List Int) : Prop where
  len : (arr.length : Int) = n
  nodup : path.Nodup
  bd : ∀ q ∈ path, 0 ≤ q ∧ q < n
  at_ : ∀ q, 0 ≤ q → q < n → rd arr q = idxP (fun y => q == y) path + 1
theorem idxP_mem (path : List Int) (q : Int) : idxP (fun y => q == y) path < 0 → q ∉ path := by
  intro h hm
  have := idxP_any (fun y => q == y) path
  rw [decide_eq_false (by omega)] at this
  have h2 : path.any (fun y => q == y) = true := List.any_eq_true.2 ⟨q, hm, by simp⟩
  rw [h2] at this
  cases this
theorem Marked.short {n : Int} {arr path : List Int} (h : Marked n arr path) : (path.length : Int) ≤ n := by
  have h1 : path.length ≤ ((List.range n.toNat).map fun (j : Nat) => (j : Int)).length := h.nodup.length_le_of_subset (fun q hq => by
    have := h.bd q hq
    exact List.mem_map.2 ⟨q.toNat, List.mem_range.2 (by omega), by omega⟩)
  have h2 : 0 ≤ n := by have := h.len; omega
  simp at h1
  omega
theorem Marked.snoc {n : Int} {arr path : List Int} (h : Marked n arr path) (q : Int) (h0 : 0 ≤ q) (h1 : q < n) (h2 : rd arr q = 0) : Marked n (arr.set q.toNat ((path ++ [q]).length : Int)) (path ++ [q]) := by
  have hq := h.at_ q h0 h1
  have hn : q ∉ path := idxP_mem path q (by omega)
  refine ⟨by rw [List.length_set]; exact h.len, ?_, ?_, ?_⟩
  · rw [List.nodup_append]
    refine ⟨h.nodup, by simp, ?_⟩
    intro a ha b hb e
    simp only [List.mem_singleton] at hb
    subst hb e
    exact hn ha
  · intro x hx
    rcases List.mem_append.1 hx with hx | hx
    · exact h.bd x hx
    · simp only [List.mem_singleton] at hx; subst hx; exact ⟨h0, h1⟩
  · intro x hx0 hx1
    have hl := h.len
    rw [rd_set arr q x _ h0 (by omega) hx0, idxP_snoc]
    by_cases e : x = q
    · subst e
      rw [if_pos rfl, if_neg (by omega), if_pos (by simp)]
      simp
    · rw [if_neg e, h.at_ x hx0 hx1]
      have lo := idxP_lo (fun y => x == y) path
      have hb : (x == q) = false := beq_eq_false_iff_ne.mpr e
      by_cases h3 : 0 ≤ idxP (fun y => x == y) path
      · rw [if_pos h3]
      · rw [if_neg h3, hb]; simp; omega
theorem lead_l0 (n f : Int) (h : tabOk n f = true) (d : Nat) : ∀ (k : Nat) (p : Int) (arr path : List Int), 0 ≤ p → p < n → Marked n arr path → n - path.length ≤ d → d + 62 < k →
    ∃ (path' : List Int) (i : Int), spec_taLead.l0 k n f p arr path = some (path', i) ∧ impl_leadOf.l0 k n f p path = some (i, path'.drop i.toNat) ∧ 0 ≤ i ∧ i ≤ path'.length ∧ (path'.length : Int) ≤ 60 := by
  have hb := tabOk_true.1 h
  induction d with
  | zero =>
    intro k p arr path h0 h1 hm hd hk
    obtain ⟨k, rfl⟩ : ∃ m, k = m + 1 := ⟨k - 1, by omega⟩
    have hs := hm.short
    have hl := hm.len
    have ha := hm.at_ p h0 h1
    have lo := idxP_lo (fun y => p == y) path
    have up := idxP_lt (fun y => p == y) path
    have hne : ¬ rd arr p = 0 := by
      intro e
      have := (hm.snoc p h0 h1 e).short
      simp at this
      omega
    rw [spec_taLead.l0, if_pos h0, if_pos (by omega), if_neg hne, impl_leadOf.l0, index_f path p (by omega) k (by omega)]
    simp only [Option.bind_some]
    rw [if_pos (by omega), if_pos (by omega), if_pos (by omega), wrap_id (by omega) (by omega)]
    refine ⟨_, _, rfl, ?_, by omega, by omega, by omega⟩
    rw [show rd arr p - 1 = idxP (fun y => p == y) path by omega]
  | succ d ih =>
    intro k p arr path h0 h1 hm hd hk
    obtain ⟨k, rfl⟩ : ∃ m, k = m + 1 := ⟨k - 1, by omega⟩
    have hs := hm.short
    have hl := hm.len
    have ha := hm.at_ p h0 h1
    have lo := idxP_lo (fun y => p == y) path
    have up := idxP_lt (fun y => p == y) path
    by_cases hz : rd arr p = 0
    · have hm2 := hm.snoc p h0 h1 hz
      have hb2 := step_bd (p := p) h
      obtain ⟨path', i, r1, r2, r3⟩ := ih k (p * f % n) _ _ hb2.1 hb2.2 hm2 (by simp; omega) (by omega)
      rw [spec_taLead.l0, if_pos h0, if_pos (by omega), if_pos hz, if_pos (by omega)]
      simp only [Option.bind_some]
      rw [if_neg (by omega), step_eq h h0 (by omega), impl_leadOf.l0, index_f path p (by omega) k (by omega)]
      simp only [Option.bind_some]
      rw [if_neg (by omega), if_pos (by omega), if_neg (by omega), step_eq h h0 (by omega)]
      exact ⟨path', i, r1, r2, r3⟩
    · rw [spec_taLead.l0, if_pos h0, if_pos (by omega), if_neg hz, impl_leadOf.l0, index_f path p (by omega) k (by omega)]
      simp only [Option.bind_some]
      rw [if_pos (by omega), if_pos (by omega), if_pos (by omega), wrap_id (by omega) (by omega)]
      refine ⟨_, _, rfl, ?_, by omega, by omega, by omega⟩
      rw [show rd arr p - 1 = idxP (fun y => p == y) path by omega]
theorem lead_f (n f p : Int) (h : tabOk n f = true) (h0 : 0 ≤ p) (h1 : p < n) (k : Nat) (hk : 130 ≤ k) :
    ∃ (path' : List Int) (i : Int), spec_taLead.f k n f p = some (path', i) ∧ impl_leadOf.f k n f p = some (i, path'.drop i.toNat) ∧ 0 ≤ i ∧ i ≤ path'.length ∧ (path'.length : Int) ≤ 60 := by
  have hb := tabOk_true.1 h
  unfold spec_taLead.f impl_leadOf.f
  rw [if_pos (by omega), if_pos (by omega)]
  refine lead_l0 n f h 61 k p _ _ h0 h1 ⟨by simp; omega, by simp, by simp, fun q h2 h3 => ?_⟩ (by simp; omega) (by omega)
  simp only [idxP, rd]
  rw [List.getD_eq_getElem?_getD, List.getElem?_replicate]
  split <;> rfl
theorem eqIntS_l0 (l : List Int) (hl : (l.length : Int) ≤ 1000000000000) : ∀ (d k : Nat) (i : Int), 0 ≤ i → i + d = l.length → d < k → laws_eqIntS.l0 k l l i = some true
  | 0, k + 1, i, h0, hi, _ => by
    unfold laws_eqIntS.l0
    rw [if_neg (by omega)]
  | d + 1, k + 1, i, h0, hi, hk => by
    unfold laws_eqIntS.l0
    rw [if_pos (by omega), if_pos h0, if_pos (by omega), if_pos rfl, wrap_id (by omega) (by omega)]
    exact eqIntS_l0 l hl d k (i + 1) (by omega) (by omega) (by omega)
theorem eqIntS_self {l : List Int} (hl : (l.length : Int) ≤ 1000000000000) {k : Nat} (hk : l.length < k) : laws_eqIntS.f k l l = some true := by
  unfold laws_eqIntS.f
  rw [if_pos rfl]
  exact eqIntS_l0 l hl l.length k 0 (by omega) (by omega) hk
/-- a, a + 1, .. -/
def marks (a : Int) : Nat → List Int
  | 0 => []
  | n + 1 => a :: marks (a + 1) n
theorem marks_len (a : Int) (n : Nat) : (marks a n).length = n := by
  induction n generalizing a with
  | zero => rfl
  | succ n ih => simp [marks, ih]

theorem rd_drop {l : List Int} {i : Int} {x : Int} {r : List Int} (h0 : 0 ≤ i) (h : l.drop i.toNat = x :: r) : rd l i = x ∧ l.drop (i + 1).toNat = r ∧ i.toNat < l.length := by
  have hl : i.toNat < l.length := by
    rcases Nat.lt_or_ge i.toNat l.length with h1 | h1
    · exact h1
    · rw [List.drop_eq_nil_of_le h1] at h; cases h
  have h3 := List.drop_eq_getElem_cons hl
  rw [h3] at h
  injection h with h4 h5
  refine ⟨by simp [rd, List.getD_eq_getElem?_getD, List.getElem?_eq_getElem hl, h4], ?_, hl⟩
  rw [show (i + 1).toNat = i.toNat + 1 by omega]; exact h5
theorem markIntS_l0 : ∀ (d k : Nat) (l : List Int) (a i : Int), 0 ≤ i → i + d = l.length → d < k → (l.length : Int) ≤ 1000000000000 → -1000000000000 ≤ a → a + d ≤ 3000000000000 → laws_markIntS.l0 k l a i = some (a + d, l.take i.toNat ++ marks a d)
  | 0, k + 1, l, a, i, h0, hi, _, hl, ha, hb => by
    unfold laws_markIntS.l0
    rw [if_neg (by omega), List.take_of_length_le (by omega)]
    simp [marks]
  | d + 1, k + 1, l, a, i, h0, hi, hk, hl, ha, hb => by
    unfold laws_markIntS.l0
    rw [if_pos (by omega), if_pos h0, wrap_id (by omega) (by omega), wrap_id (by omega) (by omega)]
    rw [markIntS_l0 d k (l.set i.toNat a) (a + 1) (i + 1) (by omega) (by rw [List.length_set]; omega) (by omega) (by rw [List.length_set]; omega) (by omega) (by omega)]
    have e : (l.set i.toNat a).take (i + 1).toNat = l.take i.toNat ++ [a] := by
      rw [show (i + 1).toNat = i.toNat + 1 by omega, List.take_succ_eq_append_getElem (by rw [List.length_set]; omega), List.take_set_of_le (Nat.le_refl _)]
      simp
    rw [e]
    simp only [marks, List.append_assoc, List.singleton_append]
    congr 2
    omega
theorem markIntS_f {l : List Int} (hl : (l.length : Int) ≤ 1000000000000) {k : Nat} (hk : l.length < k) {a : Int} (ha : -1000000000000 ≤ a) (hb : a ≤ 2000000000000) : laws_markIntS.f k l a = some (a + l.length, marks a l.length) := by
  unfold laws_markIntS.f
  rw [markIntS_l0 l.length k l a 0 (by omega) (by omega) hk hl ha (by omega)]
  simp
theorem heldIntS_l0 : ∀ (d k : Nat) (l : List Int) (a i : Int), 0 ≤ i → i + d = l.length → l.drop i.toNat = marks a d → d < k → (l.length : Int) ≤ 1000000000000 → -1000000000000 ≤ a → a + d ≤ 3000000000000 → laws_heldIntS.l0 k l a i = some (a + d)
  | 0, k + 1, l, a, i, h0, hi, _, _, hl, ha, hb => by
    unfold laws_heldIntS.l0
    rw [if_neg (by omega)]
    simp
  | d + 1, k + 1, l, a, i, h0, hi, hd, hk, hl, ha, hb => by
    obtain ⟨e1, e2, e3⟩ := rd_drop h0 (show l.drop i.toNat = a :: marks (a + 1) d from hd)
    unfold laws_heldIntS.l0
    rw [if_pos (by omega), if_pos h0, if_pos e1, wrap_id (by omega) (by omega), wrap_id (by omega) (by omega)]
    rw [heldIntS_l0 d k l (a + 1) (i + 1) (by omega) (by omega) e2 (by omega) hl (by omega) (by omega)]
    congr 1
    omega
theorem heldIntS_f {n k : Nat} (hn : (n : Int) ≤ 1000000000000) (hk : n < k) {a : Int} (ha : -1000000000000 ≤ a) (hb : a ≤ 2000000000000) : laws_heldIntS.f k (marks a n) a = some (a + n) := by
  unfold laws_heldIntS.f
  exact heldIntS_l0 n k (marks a n) a 0 (by omega) (by rw [marks_len]; omega) (by simp) hk (by rw [marks_len]; exact hn) ha (by omega)
theorem rdS_drop {l : List (List Int)} {i : Int} {x : List Int} {r : List (List Int)} (h0 : 0 ≤ i) (h : l.drop i.toNat = x :: r) : rd_L1 l i = x ∧ l.drop (i + 1).toNat = r ∧ i.toNat < l.length := by
  have hl : i.toNat < l.length := by
    rcases Nat.lt_or_ge i.toNat l.length with h1 | h1
    · exact h1
    · rw [List.drop_eq_nil_of_le h1] at h; cases h
  have h3 := List.drop_eq_getElem_cons hl
  rw [h3] at h
  injection h with h4 h5
  refine ⟨by simp [rd_L1, List.getD_eq_getElem?_getD, List.getElem?_eq_getElem hl, h4], ?_, hl⟩
  rw [show (i + 1).toNat = i.toNat + 1 by omega]; exact h5
theorem eqIntSS_l0 (L : List (List Int)) (hL : (L.length : Int) ≤ 1000) : ∀ (ls : List (List Int)) (k : Nat) (i : Int), 0 ≤ i → L.drop i.toNat = ls → (∀ x ∈ ls, x.length ≤ 1000) → ls.length + 1010 < k → laws_eqIntSS.l0 k L L i = some true
  | [], k, i, h0, h, _, hk => by
    obtain ⟨k, rfl⟩ : ∃ m, k = m + 1 := ⟨k - 1, by omega⟩
    have := List.drop_eq_nil_iff.1 h
    rw [laws_eqIntSS.l0, if_neg (by omega)]
  | x :: ls, k, i, h0, h, hr, hk => by
    simp only [List.length_cons] at hk
    obtain ⟨k, rfl⟩ : ∃ m, k = m + 1 := ⟨k - 1, by omega⟩
    obtain ⟨h1, h2, h3⟩ := rdS_drop h0 h
    have hx := hr x List.mem_cons_self
    rw [laws_eqIntSS.l0, if_pos (by omega), if_pos h0, if_pos (by omega), eqIntS_self (l := rd_L1 L i) (by rw [h1]; omega) (by rw [h1]; omega)]
    simp only [Option.bind_some, if_true]
    rw [wrap_id (x := i + 1) (by omega) (by omega)]
    exact eqIntSS_l0 L hL ls k (i + 1) (by omega) h2 (fun y hy => hr y (List.mem_cons_of_mem _ hy)) (by omega)
theorem eqIntSS_self {L : List (List Int)} (hL : (L.length : Int) ≤ 1000) (hr : ∀ x ∈ L, x.length ≤ 1000) {k : Nat} (hk : 2100 ≤ k) : laws_eqIntSS.f k L L = some true := by
  unfold laws_eqIntSS.f
  rw [if_pos rfl]
  exact eqIntSS_l0 L hL L k 0 (by omega) (by simp) hr (by omega)
/-- How long rows are together. -/
def tot : List (List Int) → Int
  | [] => 0
  | r :: rs => r.length + tot rs
/-- Rows marked one behind the other. -/
def mkS (a : Int) : List (List Int) → List (List Int)
  | [] => []
  | r :: rs => marks a r.length :: mkS (a + r.length) rs
theorem tot_bd : ∀ (l : List (List Int)), (∀ x ∈ l, x.length ≤ 1000) → 0 ≤ tot l ∧ tot l ≤ 1000 * l.length
  | [], _ => ⟨Int.le_refl _, by simp [tot]⟩
  | x :: l, h => by
    have h1 := tot_bd l (fun y hy => h y (List.mem_cons_of_mem _ hy))
    have h2 := h x List.mem_cons_self
    simp only [tot, List.length_cons]
    omega
theorem markSS_told {k : Nat} (hk : 1010 ≤ k) : ∀ (l : List (List Int)) (a : Int), (∀ x ∈ l, x.length ≤ 1000) → 0 ≤ a → a + tot l ≤ 1000000000 → markSS k l a = some (a + tot l, mkS a l)
  | [], a, _, _, _ => by simp [markSS, tot, mkS]
  | x :: l, a, h, h0, h1 => by
    have h2 := h x List.mem_cons_self
    have h4 := (tot_bd l (fun y hy => h y (List.mem_cons_of_mem _ hy))).1
    simp only [tot] at h1
    unfold markSS
    rw [markIntS_f (by omega) (by omega) (by omega) (by omega)]
    simp only [Option.bind_some]
    rw [markSS_told hk l (a + x.length) (fun y hy => h y (List.mem_cons_of_mem _ hy)) (by omega) (by omega)]
    simp only [Option.bind_some, tot, mkS]
    congr 2
    omega
theorem mkS_len (a : Int) (l : List (List Int)) : (mkS a l).length = l.length := by
  induction l generalizing a with
  | nil => rfl
  | cons x l ih => simp [mkS, ih]
theorem heldSS_l0 (L : List (List Int)) (hL : (L.length : Int) ≤ 1000) : ∀ (ls : List (List Int)) (k : Nat) (a i : Int), 0 ≤ i → L.drop i.toNat = mkS a ls → (∀ x ∈ ls, x.length ≤ 1000) → ls.length + 1010 < k → 0 ≤ a → a + tot ls ≤ 1000000000 → laws_heldIntSS.l0 k L a i = some (a + tot ls)
  | [], k, a, i, h0, h, _, hk, _, _ => by
    obtain ⟨k, rfl⟩ : ∃ m, k = m + 1 := ⟨k - 1, by omega⟩
    have := List.drop_eq_nil_iff.1 h
    rw [laws_heldIntSS.l0, if_neg (by omega)]
    simp [tot]
  | x :: ls, k, a, i, h0, h, hr, hk, ha, hb => by
    simp only [List.length_cons] at hk
    obtain ⟨k, rfl⟩ : ∃ m, k = m + 1 := ⟨k - 1, by omega⟩
    obtain ⟨h1, h2, h3⟩ := rdS_drop h0 h
    have hx := hr x List.mem_cons_self
    have h4 := (tot_bd ls (fun y hy => hr y (List.mem_cons_of_mem _ hy))).1
    simp only [tot] at hb
    rw [laws_heldIntSS.l0, if_pos (by omega), if_pos h0, h1, heldIntS_f (by omega) (by omega) (by omega) (by omega)]
    simp only [Option.bind_some]
    rw [if_neg (by omega), wrap_id (x := i + 1) (by omega) (by omega), heldSS_l0 L hL ls k (a + x.length) (i + 1) (by omega) h2 (fun y hy => hr y (List.mem_cons_of_mem _ hy)) (by omega) (by omega) (by omega)]
    simp only [tot]
    congr 1
    omega
theorem markIntSS_f {l : List (List Int)} (hL : (l.length : Int) ≤ 1000) (hr : ∀ x ∈ l, x.length ≤ 1000) {k : Nat} (hk : 2100 ≤ k) : laws_markIntSS.f k l 1 = some (1 + tot l, mkS 1 l) := by
  have := tot_bd l hr
  unfold laws_markIntSS.f
  rw [if_pos (by omega), markSS_told (by omega) l 1 hr (by omega) (by omega)]
theorem heldIntSS_f {l : List (List Int)} (hL : (l.length : Int) ≤ 1000) (hr : ∀ x ∈ l, x.length ≤ 1000) {k : Nat} (hk : 2100 ≤ k) : laws_heldIntSS.f k (mkS 1 l) 1 = some (1 + tot l) := by
  have := tot_bd l hr
  unfold laws_heldIntSS.f
  exact heldSS_l0 (mkS 1 l) (by rw [mkS_len]; exact hL) l k 1 0 (by omega) (by simp) hr (by omega) (by omega) (by omega)
theorem minK_bd (l : List Int) : ∀ (k : Nat), k < l.length → minK l k ∈ l ∧ ∀ j, j ≤ k → minK l k ≤ l.getD j 0
  | 0, h => by
    refine ⟨?_, fun j hj => ?_⟩
    · simp only [minK]
      rw [List.getD_eq_getElem?_getD, List.getElem?_eq_getElem h]
      exact List.getElem_mem _
    · obtain rfl : j = 0 := by omega
      exact Int.le_refl _
  | k + 1, h => by
    obtain ⟨h1, h2⟩ := minK_bd l k (by omega)
    have e : l.getD (k + 1) 0 ∈ l := by
      rw [List.getD_eq_getElem?_getD, List.getElem?_eq_getElem h]
      exact List.getElem_mem _
    simp only [minK, mn]
    split
    · refine ⟨e, fun j hj => ?_⟩
      by_cases hjk : j = k + 1
      · subst hjk; exact Int.le_refl _
      · have := h2 j (by omega); omega
    · refine ⟨h1, fun j hj => ?_⟩
      by_cases hjk : j = k + 1
      · subst hjk; omega
      · exact h2 j (by omega)
theorem min_is (l : List Int) (p : Int) (hp : p ∈ l) : (minK l (l.length - 1) = p) ↔ ∀ q ∈ l, q ≥ p := by
  have hl : 0 < l.length := List.length_pos_of_mem hp
  obtain ⟨h1, h2⟩ := minK_bd l (l.length - 1) (by omega)
  have all : ∀ q ∈ l, minK l (l.length - 1) ≤ q := by
    intro q hq
    obtain ⟨j, hj, rfl⟩ := List.getElem_of_mem hq
    have := h2 j (by omega)
    rwa [List.getD_eq_getElem?_getD, List.getElem?_eq_getElem hj] at this
  constructor
  · intro e q hq; have := all q hq; omega
  · intro h
    have a1 := h _ h1
    have a2 := all p hp
    omega
theorem cyc_l1 (n f : Int) (o : List (List Int)) (p : Int) (pa : List Int) (hpa : (pa.length : Int) ≤ 100) (d : Nat) : ∀ (k : Nat) (b : Bool) (i : Int), 0 ≤ i → i + d = pa.length →
    spec_CyclesOfTable.l1 (k + d + 1) n f o p pa b (pa.length : Int) i = (if (b && (pa.drop i.toNat).all fun q => decide (q ≥ p)) = true then (if o.length < 5864062014805 then spec_CyclesOfTable.l0 k n f (o ++ [pa]) (wrap64 (p + 1)) else none) else spec_CyclesOfTable.l0 k n f o (wrap64 (p + 1))) := by
  induction d with
  | zero =>
    intro k b i h0 hi
    rw [spec_CyclesOfTable.l1, if_neg (by omega), List.drop_eq_nil_of_le (by omega)]
    cases b <;> rfl
  | succ d ih =>
    intro k b i h0 hi
    have e : pa.drop i.toNat = rd pa i :: pa.drop (i + 1).toNat := by
      rw [List.drop_eq_getElem_cons (show i.toNat < pa.length by omega), show i.toNat + 1 = (i + 1).toNat by omega]
      simp [rd, List.getD_eq_getElem?_getD, List.getElem?_eq_getElem (show i.toNat < pa.length by omega)]
    rw [show k + (d + 1) + 1 = (k + d + 1) + 1 by omega, spec_CyclesOfTable.l1, if_pos (by omega), if_pos h0, if_pos (by omega), wrap_id (x := i + 1) (by omega) (by omega), e, List.all_cons]
    cases b
    · rw [if_neg (by decide), ih k false (i + 1) (by omega) (by omega)]
      simp
    · rw [if_pos rfl, ih k _ (i + 1) (by omega) (by omega)]
      simp
theorem taLead_keeps (n f : Int) (k : Nat) : ∀ (p : Int) (arr path : List Int) (r : List Int × Int), spec_taLead.l0 k n f p arr path = some r → ∀ x ∈ path, x ∈ r.1 := by
  induction k with
  | zero => intro p arr path r h; simp [spec_taLead.l0] at h
  | succ k ih =>
    intro p arr path r h
    rw [spec_taLead.l0] at h
    split at h
    · split at h
      · split at h
        · split at h
          · simp only [Option.bind_some] at h
            split at h
            · cases h
            · exact fun x hx => ih _ _ _ _ h x (List.mem_append_left _ hx)
          · cases h
        · have e := Option.some.inj h
          subst e
          exact fun x hx => hx
      · cases h
    · cases h
theorem taLead_has (n f p : Int) (h0 : 0 ≤ p) (h1 : p < n) (hn : n ≤ 60) (k : Nat) (hk : 0 < k) (r : List Int × Int) (h : spec_taLead.f k n f p = some r) : p ∈ r.1 := by
  obtain ⟨k, rfl⟩ : ∃ m, k = m + 1 := ⟨k - 1, by omega⟩
  unfold spec_taLead.f at h
  rw [if_pos (by omega), if_pos (by omega), spec_taLead.l0, if_pos h0, if_pos (by simp; omega), if_pos (by
    simp only [rd]
    rw [List.getD_eq_getElem?_getD, List.getElem?_replicate]
    split <;> rfl), if_pos (by simp)] at h
  simp only [Option.bind_some] at h
  rw [if_neg (by omega)] at h
  exact taLead_keeps n f k _ _ _ r h p (by simp)
theorem cyc_l0 (n f : Int) (h : tabOk n f = true) (d : Nat) : ∀ (k : Nat) (o : List (List Int)) (p : Int), 0 ≤ p → p + d = n → (o.length : Int) ≤ p → (∀ x ∈ o, x.length ≤ 1000) → 300 * (d + 1) ≤ k →
    ∃ r : List (List Int), (r.length : Int) ≤ 1000 ∧ (∀ x ∈ r, x.length ≤ 1000) ∧ spec_CyclesOfTable.l0 k n f o p = some (r, true) ∧ ∀ K, 300 ≤ K → cycD K n f d p o = some r := by
  have hb := tabOk_true.1 h
  induction d with
  | zero =>
    intro k o p h0 hp ho hr hk
    obtain ⟨k, rfl⟩ : ∃ m, k = m + 1 := ⟨k - 1, by omega⟩
    refine ⟨o, by omega, hr, ?_, fun K _ => rfl⟩
    rw [spec_CyclesOfTable.l0, if_neg (by omega)]
  | succ d ih =>
    intro k o p h0 hp ho hr hk
    obtain ⟨k, rfl⟩ : ∃ m, k = m + 1 := ⟨k - 1, by omega⟩
    obtain ⟨pa, i, h1, h2, h3, h4, h5⟩ := lead_f n f p h h0 (by omega) k (by omega)
    have hmem := taLead_has n f p h0 (by omega) (by omega) k (by omega) _ h1
    have hl1 := cyc_l1 n f o p pa (by omega) pa.length (k - pa.length - 1) (i == 0) 0 (by omega) (by omega)
    rw [show k - pa.length - 1 + pa.length + 1 = k by omega, Int.toNat_zero, List.drop_zero, if_pos (show o.length < 5864062014805 by omega)] at hl1
    rw [spec_CyclesOfTable.l0, if_pos (by omega), h1]
    simp only [Option.bind_some]
    rw [hl1, wrap_id (x := p + 1) (by omega) (by omega)]
    have hK : ∀ K, 300 ≤ K → impl_leadOf.f K n f p = some (i, pa.drop i.toNat) := by
      intro K hK
      obtain ⟨pa', i', g1, g2, _⟩ := lead_f n f p h h0 (by omega) K (by omega)
      obtain ⟨M, hM1, hM2⟩ : ∃ M, K ≤ M ∧ k ≤ M := ⟨max K k, by omega, by omega⟩
      have up : ∀ (a b : Nat) (x : Int × List Int), a ≤ b → impl_leadOf.f a n f p = some x → impl_leadOf.f b n f p = some x := by
        intro a b x hab ha
        induction hab with
        | refl => exact ha
        | step _ ih2 => exact impl_leadOf.mono _ _ _ _ _ ih2
      have a1 := up K M _ hM1 g2
      have a2 := up k M _ hM2 h2
      rw [a1] at a2
      rw [g2]; exact a2
    by_cases hi : i = 0
    · subst hi
      by_cases hq : ∀ q ∈ pa, q ≥ p
      · have hall : (pa.all fun q => decide (q ≥ p)) = true := by
          rw [List.all_eq_true]; intro q hq'; exact decide_eq_true (hq q hq')
        rw [if_pos (by rw [hall]; rfl)]
        obtain ⟨r, r1, r2, r3, r4⟩ := ih (k - pa.length - 1) (o ++ [pa]) (p + 1) (by omega) (by omega) (by simp; omega) (fun x hx => by
          rcases List.mem_append.1 hx with hx | hx
          · exact hr x hx
          · obtain rfl := List.mem_singleton.1 hx; omega) (by omega)
        refine ⟨r, r1, r2, r3, fun K hK' => ?_⟩
        unfold cycD slices_Min_int_int.f
        rw [hK K hK']
        simp only [Option.bind_some, if_true, Int.toNat_zero, List.drop_zero]
        rw [if_pos (List.length_pos_of_mem hmem)]
        simp only [Option.bind_some]
        rw [if_pos ((min_is pa p hmem).2 hq)]
        exact r4 K hK'
      · have hall : ¬ (pa.all fun q => decide (q ≥ p)) = true := by
          rw [List.all_eq_true]; intro e; exact hq fun q hq' => of_decide_eq_true (e q hq')
        rw [if_neg (by intro e; simp only [Bool.and_eq_true] at e; exact hall e.2)]
        obtain ⟨r, r1, r2, r3, r4⟩ := ih (k - pa.length - 1) o (p + 1) (by omega) (by omega) (by omega) hr (by omega)
        refine ⟨r, r1, r2, r3, fun K hK' => ?_⟩
        unfold cycD slices_Min_int_int.f
        rw [hK K hK']
        simp only [Option.bind_some, if_true, Int.toNat_zero, List.drop_zero]
        rw [if_pos (List.length_pos_of_mem hmem)]
        simp only [Option.bind_some]
        rw [if_neg (fun e => hq ((min_is pa p hmem).1 e))]
        exact r4 K hK'
    · rw [if_neg (by intro e; simp only [Bool.and_eq_true, beq_iff_eq] at e; exact hi e.1)]
      obtain ⟨r, r1, r2, r3, r4⟩ := ih (k - pa.length - 1) o (p + 1) (by omega) (by omega) (by omega) hr (by omega)
      refine ⟨r, r1, r2, r3, fun K hK' => ?_⟩
      unfold cycD
      rw [hK K hK']
      simp only [Option.bind_some]
      rw [if_neg hi]
      exact r4 K hK'
theorem FnExactCyclesOfTable : ∀ (a0 : Int) (a1 : Int), (Lit.int .i64 a0).wf = true → (Lit.int .i64 a1).wf = true → ∃ k, laws_FnExactCyclesOfTable.f k a0 a1 = some true := by
  intro n f _ _
  have key : ∃ r : List (List Int) × Bool, (r.1.length : Int) ≤ 1000 ∧ (∀ x ∈ r.1, x.length ≤ 1000) ∧ spec_CyclesOfTable.f 20000 n f = some r ∧ impl_CyclesOfTable.f 20000 n f = some r := by
    unfold spec_CyclesOfTable.f impl_CyclesOfTable.f
    rw [taGood_eq, isTable_nil]
    simp only [Option.bind_some]
    by_cases h : tabOk n f = true
    · have hb := tabOk_true.1 h
      obtain ⟨r, r1, r2, r3, r4⟩ := cyc_l0 n f h n.toNat 20000 [] 0 (by omega) (by omega) (by simp) (by simp) (by omega)
      rw [if_pos h, if_pos h, if_pos (by omega), r3, r4 20000 (by omega)]
      exact ⟨(r, true), r1, r2, rfl, rfl⟩
    · rw [if_neg h, if_neg h]
      exact ⟨([], false), by simp, by simp, rfl, rfl⟩
  obtain ⟨r, hr, hr2, hs, hi⟩ := key
  have hb := tot_bd r.1 hr2
  refine ⟨20000, ?_⟩
  unfold laws_FnExactCyclesOfTable.f
  rw [hs, hi]
  simp only [Option.bind_some]
  rw [eqIntSS_self hr hr2 (by omega)]
  simp only [Option.bind_some]
  rw [markIntSS_f hr hr2 (by omega)]
  simp only [Option.bind_some]
  rw [heldIntSS_f hr hr2 (by omega)]
  simp only [Option.bind_some]
  rw [if_pos ⟨trivial, trivial, by omega, trivial⟩]

end Go.Proofs.Ytejchneeheeldaa.Pure
