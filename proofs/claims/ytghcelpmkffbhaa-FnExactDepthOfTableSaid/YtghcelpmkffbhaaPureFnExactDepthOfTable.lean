/- What is proved: the pure statement of the law FnExactDepthOfTable, about numbers and lists alone; no condition. -/
import Derived.Test.YtghcelpmkffbhaaPx5
namespace Go.Proofs.Ytghcelpmkffbhaa.Pure
open Go.RowKit Go.Proofs.Ytghcelpmkffbhaa.P Go.Proofs.YtghcelpmkffbhaaW.PrintWords Go.Proofs.YtghcelpmkffbhaaW.PrintLast
set_option linter.unusedVariables false
set_option linter.unusedSimpArgs false

theorem l1In_eq (n lo hi : Int) : spec_l1In.f n lo hi = some (inR n lo hi) := by
  unfold spec_l1In.f inR
  by_cases h : n ≥ lo
  · rw [if_pos h]; congr 1; simp only [decide_eq_decide]; omega
  · rw [if_neg h]; congr 1; exact (decide_eq_false (by omega)).symm
theorem wrap_one {n lo hi : Int} (h : inR n lo hi = true) (h1 : -1000000 ≤ lo) (h2 : hi ≤ 1000000) : wrap64 (n - 1) = n - 1 := by
  have := inR_true.1 h
  unfold wrap64
  omega
theorem wrap_id {x : Int} (h : -9000000000000000000 ≤ x) (h2 : x ≤ 9000000000000000000) : wrap64 x = x := by unfold wrap64; omega
/-- A table. -/
def tabOk (n f : Int) : Bool := inR n 3 60 && inR f 0 (n - 1)
theorem tabOk_true {n f : Int} : tabOk n f = true ↔ 3 ≤ n ∧ n ≤ 60 ∧ 0 ≤ f ∧ f ≤ n - 1 := by
  simp only [tabOk, Bool.and_eq_true, inR_true]
  omega
theorem srPoints_eq (n : Int) : spec_srPoints.f n = some (inR n 3 60) := by
  unfold spec_srPoints.f; rw [l1In_eq]; rfl
theorem taGood_eq (n f : Int) : spec_taGood.f n f = some (tabOk n f) := by
  unfold spec_taGood.f tabOk
  rw [srPoints_eq]
  simp only [Option.bind_some]
  by_cases h : inR n 3 60 = true
  · rw [if_pos h, wrap_one h (by omega) (by omega), l1In_eq, h]; rfl
  · rw [if_neg h]; simp only [Bool.not_eq_true] at h; rw [h]; rfl
theorem isTable_nil (n f : Int) : impl_isTable.f n f [] = some (tabOk n f) := by
  simp [impl_isTable.f, tabOk]
theorem isTable_one (n f p : Int) : impl_isTable.f n f [p] = some (tabOk n f && inR p 0 (n - 1)) := by
  simp [impl_isTable.f, tabOk]
theorem step_eq {n f p : Int} (h : tabOk n f = true) (h0 : 0 ≤ p) (h1 : p ≤ 60) : Int.tmod (wrap64 (p * f)) n = p * f % n := by
  have hb := tabOk_true.1 h
  have hm : 0 ≤ p * f := Int.mul_nonneg h0 (by omega)
  have hm2 : p * f ≤ 60 * 60 := by
    have := Int.mul_le_mul h1 (show f ≤ 60 by omega) (by omega) (by omega)
    omega
  rw [wrap_id (by omega) (by omega), Int.tmod_eq_emod_of_nonneg hm]
theorem step_bd {n f p : Int} (h : tabOk n f = true) : 0 ≤ p * f % n ∧ p * f % n < n := by
  have hb := tabOk_true.1 h
  exact ⟨Int.emod_nonneg _ (by omega), Int.emod_lt_of_pos _ (by omega)⟩
theorem taAsked_eq (n f p : Int) : spec_taAsked.f n f p = some (tabOk n f && inR p 0 (n - 1)) := by
  unfold spec_taAsked.f
  rw [taGood_eq]
  simp only [Option.bind_some]
  by_cases h : tabOk n f = true
  · have hb := tabOk_true.1 h
    rw [if_pos h, wrap_id (by omega) (by omega), l1In_eq, h]; rfl
  · rw [if_neg h]; simp only [Bool.not_eq_true] at h; rw [h]; rfl
theorem idxP_snoc (p : Int → Bool) (l : List Int) (x : Int) : idxP p (l ++ [x]) = if 0 ≤ idxP p l then idxP p l else if p x then (l.length : Int) else -1 := by
  induction l with
  | nil => simp [idxP]
  | cons y r ih =>
    have lo := idxP_lo p r
    by_cases hy : p y = true
    · simp [idxP, hy]
    · simp only [List.cons_append, idxP, hy, Bool.false_eq_true, if_false, ih]
      by_cases h0 : 0 ≤ idxP p r
      · rw [if_pos h0, if_neg (by omega), if_pos (by omega)]
      · rw [if_neg h0, if_pos (show idxP p r < 0 by omega), if_neg (show ¬ (0 : Int) ≤ -1 by omega)]
        by_cases hx : p x = true
        · rw [if_pos hx, if_neg (by omega), if_pos hx]; simp
        · rw [if_neg hx, if_pos (by omega), if_neg hx]
theorem idxP_lt (p : Int → Bool) (l : List Int) : idxP p l < l.length := by
  induction l with
  | nil => simp [idxP]
  | cons y r ih =>
    simp only [idxP, List.length_cons]
    split
    · omega
    · split <;> omega
theorem index_l0 (l : List Int) (q : Int) (hl : (l.length : Int) ≤ 1000000) (d : Nat) : ∀ (k : Nat) (i : Int), 0 ≤ i → i + d = l.length → d < k →
    slices_Index_int_int.l0 k l q (l.length : Int) i = some (if idxP (fun y => q == y) (l.drop i.toNat) < 0 then -1 else i + idxP (fun y => q == y) (l.drop i.toNat)) := by
  induction d with
  | zero =>
    intro k i hi hd hk
    obtain ⟨k, rfl⟩ : ∃ m, k = m + 1 := ⟨k - 1, by omega⟩
    rw [slices_Index_int_int.l0, if_neg (by omega), List.drop_eq_nil_of_le (by omega)]
    simp [idxP]
  | succ d ih =>
    intro k i hi hd hk
    obtain ⟨k, rfl⟩ : ∃ m, k = m + 1 := ⟨k - 1, by omega⟩
    have hlt : i.toNat < l.length := by omega
    have e : l.drop i.toNat = l[i.toNat] :: l.drop (i.toNat + 1) := List.drop_eq_getElem_cons hlt
    have er : rd l i = l[i.toNat] := by simp [rd, List.getD_eq_getElem?_getD, List.getElem?_eq_getElem hlt]
    rw [slices_Index_int_int.l0, if_pos (by omega), if_pos hi, if_pos (by omega), er, e]
    by_cases hq : q = l[i.toNat]
    · rw [if_pos hq]; simp [idxP, hq]
    · have hx : (q == l[i.toNat]) = false := beq_eq_false_iff_ne.mpr hq
      rw [if_neg hq, wrap_id (x := i + 1) (by omega) (by omega), ih k (i + 1) (by omega) (by omega) (by omega), show (i + 1).toNat = i.toNat + 1 by omega]
      have lo := idxP_lo (fun y => q == y) (l.drop (i.toNat + 1))
      simp only [idxP, hx, Bool.false_eq_true, if_false]
      by_cases h0 : idxP (fun y => q == y) (l.drop (i.toNat + 1)) < 0
      · simp [h0]
      · simp only [h0, if_false]
        rw [if_neg (by omega)]
        congr 1
        omega
theorem index_f (l : List Int) (q : Int) (hl : (l.length : Int) ≤ 1000000) (k : Nat) (hk : l.length < k) : slices_Index_int_int.f k l q = some (idxP (fun y => q == y) l) := by
  unfold slices_Index_int_int.f
  rw [index_l0 l q hl l.length k 0 (by omega) (by omega) hk]
  have lo := idxP_lo (fun y => q == y) l
  simp only [Int.toNat_zero, List.drop_zero]
  split
  · congr 1; omega
  · congr 1; omega
theorem rd_set (l : List Int) (i j x : Int) (hi : 0 ≤ i) (hi2 : i < l.length) (hj : 0 ≤ j) : rd (l.set i.toNat x) j = if j = i then x else rd l j := by
  unfold rd
  by_cases h : j = i
  · subst h
    rw [if_pos rfl, List.getD_eq_getElem?_getD, List.getElem?_set_self (by omega)]
    rfl
  · rw [if_neg h, List.getD_eq_getElem?_getD, List.getD_eq_getElem?_getD, List.getElem?_set_ne (by omega)]
/-- The marks of a path: at each point of it its place and one, else 0. -/
structure Marked (n : Int) (arr path : List Int) : Prop where
  len : (arr.length : Int) = n
  nodup : path.Nodup
  bd : ∀ q ∈ path, 0 ≤ q ∧ q < n
  at_ : ∀ q, 0 ≤ q → q < n → rd arr q = idxP (fun y => q == y) path + 1
theorem idxP_mem (path : List Int) (q : Int) : idxP (fun y => q == y) path < 0 → q ∉ path := by
  intro h hm
  have := idxP_any (fun y => q == y) path
  rw [decide_eq_false (by omega)] at this
  have h2 : path.any (fun y => q == y) = true := List.any_eq_true.2 ⟨q, hm, by simp⟩
  rw [h2] at this
  cases this
theorem Marked.short {n : Int} {arr path : List Int} (h : Marked n arr path) : (path.length : Int) ≤ n := by
  have h1 : path.length ≤ ((List.range n.toNat).map fun (j : Nat) => (j : Int)).length := h.nodup.length_le_of_subset (fun q hq => by
    have := h.bd q hq
    exact List.mem_map.2 ⟨q.toNat, List.mem_range.2 (by omega), by omega⟩)
  have h2 : 0 ≤ n := by have := h.len; omega
  simp at h1
  omega
theorem Marked.snoc {n : Int} {arr path : List Int} (h : Marked n arr path) (q : Int) (h0 : 0 ≤ q) (h1 : q < n) (h2 : rd arr q = 0) : Marked n (arr.set q.toNat ((path ++ [q]).length : Int)) (path ++ [q]) := by
  have hq := h.at_ q h0 h1
  have hn : q ∉ path := idxP_mem path q (by omega)
  refine ⟨by rw [List.length_set]; exact h.len, ?_, ?_, ?_⟩
  · rw [List.nodup_append]
    refine ⟨h.nodup, by simp, ?_⟩
    intro a ha b hb e
    simp only [List.mem_singleton] at hb
    subst hb e
    exact hn ha
  · intro x hx
    rcases List.mem_append.1 hx with hx | hx
    · exact h.bd x hx
    · simp only [List.mem_singleton] at hx; subst hx; exact ⟨h0, h1⟩
  · intro x hx0 hx1
    have hl := h.len
    rw [rd_set arr q x _ h0 (by omega) hx0, idxP_snoc]
    by_cases e : x = q
    · subst e
      rw [if_pos rfl, if_neg (by omega), if_pos (by simp)]
      simp
    · rw [if_neg e, h.at_ x hx0 hx1]
      have lo := idxP_lo (fun y => x == y) path
      have hb : (x == q) = false := beq_eq_false_iff_ne.mpr e
      by_cases h3 : 0 ≤ idxP (fun y => x == y) path
      · rw [if_pos h3]
      · rw [if_neg h3, hb]; simp; omega
theorem lead_l0 (n f : Int) (h : tabOk n f = true) (d : Nat) : ∀ (k : Nat) (p : Int) (arr path : List Int), 0 ≤ p → p < n → Marked n arr path → n - path.length ≤ d → d + 62 < k →
    ∃ (path' : List Int) (i : Int), spec_taLead.l0 k n f p arr path = some (path', i) ∧ impl_leadOf.l0 k n f p path = some (i, path'.drop i.toNat) ∧ 0 ≤ i ∧ i ≤ path'.length ∧ (path'.length : Int) ≤ 60 := by
  have hb := tabOk_true.1 h
  induction d with
  | zero =>
    intro k p arr path h0 h1 hm hd hk
    obtain ⟨k, rfl⟩ : ∃ m, k = m + 1 := ⟨k - 1, by omega⟩
    have hs := hm.short
    have hl := hm.len
    have ha := hm.at_ p h0 h1
    have lo := idxP_lo (fun y => p == y) path
    have up := idxP_lt (fun y => p == y) path
    have hne : ¬ rd arr p = 0 := by
      intro e
      have := (hm.snoc p h0 h1 e).short
      simp at this
      omega
    rw [spec_taLead.l0, if_pos h0, if_pos (by omega), if_neg hne, impl_leadOf.l0, index_f path p (by omega) k (by omega)]
    simp only [Option.bind_some]
    rw [if_pos (by omega), if_pos (by omega), if_pos (by omega), wrap_id (by omega) (by omega)]
    refine ⟨_, _, rfl, ?_, by omega, by omega, by omega⟩
    rw [show rd arr p - 1 = idxP (fun y => p == y) path by omega]
  | succ d ih =>
    intro k p arr path h0 h1 hm hd hk
    obtain ⟨k, rfl⟩ : ∃ m, k = m + 1 := ⟨k - 1, by omega⟩
    have hs := hm.short
    have hl := hm.len
    have ha := hm.at_ p h0 h1
    have lo := idxP_lo (fun y => p == y) path
    have up := idxP_lt (fun y => p == y) path
    by_cases hz : rd arr p = 0
    · have hm2 := hm.snoc p h0 h1 hz
      have hb2 := step_bd (p := p) h
      obtain ⟨path', i, r1, r2, r3⟩ := ih k (p * f % n) _ _ hb2.1 hb2.2 hm2 (by simp; omega) (by omega)
      rw [spec_taLead.l0, if_pos h0, if_pos (by omega), if_pos hz, if_pos (by omega)]
      simp only [Option.bind_some]
      rw [if_neg (by omega), step_eq h h0 (by omega), impl_leadOf.l0, index_f path p (by omega) k (by omega)]
      simp only [Option.bind_some]
      rw [if_neg (by omega), if_pos (by omega), if_neg (by omega), step_eq h h0 (by omega)]
      exact ⟨path', i, r1, r2, r3⟩
    · rw [spec_taLead.l0, if_pos h0, if_pos (by omega), if_neg hz, impl_leadOf.l0, index_f path p (by omega) k (by omega)]
      simp only [Option.bind_some]
      rw [if_pos (by omega), if_pos (by omega), if_pos (by omega), wrap_id (by omega) (by omega)]
      refine ⟨_, _, rfl, ?_, by omega, by omega, by omega⟩
      rw [show rd arr p - 1 = idxP (fun y => p == y) path by omega]
theorem lead_f (n f p : Int) (h : tabOk n f = true) (h0 : 0 ≤ p) (h1 : p < n) (k : Nat) (hk : 130 ≤ k) :
    ∃ (path' : List Int) (i : Int), spec_taLead.f k n f p = some (path', i) ∧ impl_leadOf.f k n f p = some (i, path'.drop i.toNat) ∧ 0 ≤ i ∧ i ≤ path'.length ∧ (path'.length : Int) ≤ 60 := by
  have hb := tabOk_true.1 h
  unfold spec_taLead.f impl_leadOf.f
  rw [if_pos (by omega), if_pos (by omega)]
  refine lead_l0 n f h 61 k p _ _ h0 h1 ⟨by simp; omega, by simp, by simp, fun q h2 h3 => ?_⟩ (by simp; omega) (by omega)
  simp only [idxP, rd]
  rw [List.getD_eq_getElem?_getD, List.getElem?_replicate]
  split <;> rfl
theorem depth_l0 (n f : Int) (h : tabOk n f = true) (d : Nat) : ∀ (k : Nat) (m i : Int), 0 ≤ i → i + d = n → d + 130 < k →
    ∃ r, spec_DepthOfTable.l0 k n f m i = some r ∧ impl_DepthOfTable.l0 k n f m n i = some r := by
  have hb := tabOk_true.1 h
  induction d with
  | zero =>
    intro k m i hi hd hk
    obtain ⟨k, rfl⟩ : ∃ m, k = m + 1 := ⟨k - 1, by omega⟩
    rw [spec_DepthOfTable.l0, if_neg (by omega), impl_DepthOfTable.l0, if_neg (by omega)]
    exact ⟨_, rfl, rfl⟩
  | succ d ih =>
    intro k m i hi hd hk
    obtain ⟨k, rfl⟩ : ∃ m, k = m + 1 := ⟨k - 1, by omega⟩
    obtain ⟨path, j, h1, h2, _⟩ := lead_f n f i h hi (by omega) k (by omega)
    have e : spec_l1Most.f m j = some (mx m j) := by
      unfold spec_l1Most.f mx
      by_cases hq : m > j
      · rw [if_pos hq, if_neg (by omega)]
      · rw [if_neg hq]
        by_cases hp : m < j
        · rw [if_pos hp]
        · rw [if_neg hp]; congr 1; omega
    rw [spec_DepthOfTable.l0, if_pos (by omega), h1]
    simp only [Option.bind_some]
    rw [e]
    simp only [Option.bind_some]
    rw [impl_DepthOfTable.l0, if_pos (by omega), h2]
    simp only [Option.bind_some]
    rw [wrap_id (x := i + 1) (by omega) (by omega)]
    exact ih k _ (i + 1) (by omega) (by omega) (by omega)
theorem FnExactDepthOfTable : laws_FnExactDepthOfTable.Pure := by
  intro n f _ _
  refine ⟨200, ?_⟩
  unfold laws_FnExactDepthOfTable.f spec_DepthOfTable.f impl_DepthOfTable.f
  rw [taGood_eq, isTable_nil]
  by_cases h : tabOk n f = true
  · have hb := tabOk_true.1 h
    obtain ⟨r, h1, h2⟩ := depth_l0 n f h n.toNat 200 0 0 (by omega) (by omega) (by omega)
    simp only [h, Option.bind_some, if_true, h1, h2]
    simp
  · simp [h]

end Go.Proofs.Ytghcelpmkffbhaa.Pure
