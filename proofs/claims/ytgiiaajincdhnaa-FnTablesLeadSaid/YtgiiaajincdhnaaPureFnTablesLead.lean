/- What is proved: the pure statement of the law FnTablesLead, about numbers and lists alone; no condition. -/
import Derived.Test.YtgiiaajincdhnaaPx8
import Derived.WalkSmall
namespace Go.Proofs.Ytgiiaajincdhnaa.Pure
open Go.RowKit Go.Proofs.Ytgiiaajincdhnaa.P Go.Proofs.YtgiiaajincdhnaaW.PrintWords Go.Proofs.YtgiiaajincdhnaaW.PrintLast
set_option linter.unusedVariables false
set_option linter.unusedSimpArgs false

theorem l1In_eq (n lo hi : Int) : spec_l1In.f n lo hi = some (inR n lo hi) := by
 unfold spec_l1In.f inR
 by_cases h : n ≥ lo
 ·rw [if_pos h]; congr 1; simp only [decide_eq_decide]; omega
 ·rw [if_neg h]; congr 1; exact (decide_eq_false (by omega)).symm
theorem wrap_one {n lo hi : Int} (h : inR n lo hi = true) (h1 : -1000000 ≤ lo) (h2 : hi ≤ 1000000) : wrap64 (n - 1) = n - 1 := by
 have := inR_true.1 h
 unfold wrap64
 omega
theorem wrap_id {x : Int} (h : -9000000000000000000 ≤ x) (h2 : x ≤ 9000000000000000000) : wrap64 x = x := by unfold wrap64; omega
/-- A table. -/
def tabOk (n f : Int) : Bool := inR n 3 60 && inR f 0 (n - 1)
theorem tabOk_true {n f : Int} : tabOk n f = true ↔ 3 ≤ n ∧ n ≤ 60 ∧ 0 ≤ f ∧ f ≤ n - 1 := by
 simp only [tabOk, Bool.and_eq_true, inR_true]
 omega
theorem srPoints_eq (n : Int) : spec_srPoints.f n = some (inR n 3 60) := by
 unfold spec_srPoints.f; rw [l1In_eq]; rfl
theorem step_eq {n f p : Int} (h : tabOk n f = true) (h0 : 0 ≤ p) (h1 : p ≤ 60) : Int.tmod (wrap64 (p * f)) n = p * f % n := by
 have hb := tabOk_true.1 h
 have hm : 0 ≤ p * f := Int.mul_nonneg h0 (by omega)
 have hm2 : p * f ≤ 60 * 60 := by
  have := Int.mul_le_mul h1 (show f ≤ 60 by omega) (by omega) (by omega)
  omega
 rw [wrap_id (by omega) (by omega), Int.tmod_eq_emod_of_nonneg hm]
theorem step_bd {n f p : Int} (h : tabOk n f = true) : 0 ≤ p * f % n ∧ p * f % n < n := by
 have hb := tabOk_true.1 h
 exact ⟨Int.emod_nonneg _ (by omega), Int.emod_lt_of_pos _ (by omega)⟩
theorem taGood_eq (n f : Int) : spec_taGood.f n f = some (tabOk n f) := by
 unfold spec_taGood.f tabOk
 rw [srPoints_eq]
 simp only [Option.bind_some]
 by_cases h : inR n 3 60 = true
 ·rw [if_pos h, wrap_one h (by omega) (by omega), l1In_eq, h]; rfl
 ·rw [if_neg h]; simp only [Bool.not_eq_true] at h; rw [h]; rfl
theorem isTable_nil (n f : Int) : impl_isTable.f n f [] = some (tabOk n f) := by
 simp [impl_isTable.f, tabOk]
theorem isTable_one (n f p : Int) : impl_isTable.f n f [p] = some (tabOk n f && inR p 0 (n - 1)) := by
 simp [impl_isTable.f, tabOk]
theorem idxP_snoc (p : Int → Bool) (l : List Int) (x : Int) : idxP p (l ++ [x]) = if 0 ≤ idxP p l then idxP p l else if p x then (l.length : Int) else -1 := by
 induction l with
 | nil => simp [idxP]
 | cons y r ih =>
  have lo := idxP_lo p r
  by_cases hy : p y = true
  ·simp [idxP, hy]
  ·simp only [List.cons_append, idxP, hy, Bool.false_eq_true, if_false, ih]
   by_cases h0 : 0 ≤ idxP p r
   ·rw [if_pos h0, if_neg (by omega), if_pos (by omega)]
   ·rw [if_neg h0, if_pos (show idxP p r < 0 by omega), if_neg (show ¬ (0 : Int) ≤ -1 by omega)]
    by_cases hx : p x = true
    ·rw [if_pos hx, if_neg (by omega), if_pos hx]; simp
    ·rw [if_neg hx, if_pos (by omega), if_neg hx]
theorem idxP_lt (p : Int → Bool) (l : List Int) : idxP p l < l.length := by
 induction l with
 | nil => simp [idxP]
 | cons y r ih =>
  simp only [idxP, List.length_cons]
  split
  ·omega
  ·split <;> omega
theorem index_l0 (l : List Int) (q : Int) (hl : (l.length : Int) ≤ 1000000) (d : Nat) : ∀ (k : Nat) (i : Int), 0 ≤ i → i + d = l.length → d < k →
  slices_Index_int_int.l0 k l q (l.length : Int) i = some (if idxP (fun y => q == y) (l.drop i.toNat) < 0 then -1 else i + idxP (fun y => q == y) (l.drop i.toNat)) := by
 induction d with
 | zero =>
  intro k i hi hd hk
  obtain ⟨k, rfl⟩ : ∃ m, k = m + 1 := ⟨k - 1, by omega⟩
  rw [slices_Index_int_int.l0, if_neg (by omega), List.drop_eq_nil_of_le (by omega)]
  simp [idxP]
 | succ d ih =>
  intro k i hi hd hk
  obtain ⟨k, rfl⟩ : ∃ m, k = m + 1 := ⟨k - 1, by omega⟩
  have hlt : i.toNat < l.length := by omega
  have e : l.drop i.toNat = l[i.toNat] :: l.drop (i.toNat + 1) := List.drop_eq_getElem_cons hlt
  have er : rd l i = l[i.toNat] := by simp [rd, List.getD_eq_getElem?_getD, List.getElem?_eq_getElem hlt]
  rw [slices_Index_int_int.l0, if_pos (by omega), if_pos hi, if_pos (by omega), er, e]
  by_cases hq : q = l[i.toNat]
  ·rw [if_pos hq]; simp [idxP, hq]
  ·have hx : (q == l[i.toNat]) = false := beq_eq_false_iff_ne.mpr hq
   rw [if_neg hq, wrap_id (x := i + 1) (by omega) (by omega), ih k (i + 1) (by omega) (by omega) (by omega), show (i + 1).toNat = i.toNat + 1 by omega]
   have lo := idxP_lo (fun y => q == y) (l.drop (i.toNat + 1))
   simp only [idxP, hx, Bool.false_eq_true, if_false]
   by_cases h0 : idxP (fun y => q == y) (l.drop (i.toNat + 1)) < 0
   ·simp [h0]
   ·simp only [h0, if_false]
    rw [if_neg (by omega)]
    congr 1
    omega
theorem index_f (l : List Int) (q : Int) (hl : (l.length : Int) ≤ 1000000) (k : Nat) (hk : l.length < k) : slices_Index_int_int.f k l q = some (idxP (fun y => q == y) l) := by
 unfold slices_Index_int_int.f
 rw [index_l0 l q hl l.length k 0 (by omega) (by omega) hk]
 have lo := idxP_lo (fun y => q == y) l
 simp only [Int.toNat_zero, List.drop_zero]
 split
 ·congr 1; omega
 ·congr 1; omega
theorem rd_set (l : List Int) (i j x : Int) (hi : 0 ≤ i) (hi2 : i < l.length) (hj : 0 ≤ j) : rd (l.set i.toNat x) j = if j = i then x else rd l j := by
 unfold rd
 by_cases h : j = i
 ·subst h
  rw [if_pos rfl, List.getD_eq_getElem?_getD, List.getElem?_set_self (by omega)]
  rfl
 ·rw [if_neg h, List.getD_eq_getElem?_getD, List.getD_eq_getElem?_getD, List.getElem?_set_ne (by omega)]
/-- The marks of a path: at each point of it its place and one, else 0. -/
structure Marked (n : Int) (arr path : List Int) : Prop where
 len : (arr.length : Int) = n
 nodup : path.Nodup
 bd : ∀ q ∈ path, 0 ≤ q ∧ q < n
 at_ : ∀ q, 0 ≤ q → q < n → rd arr q = idxP (fun y => q == y) path + 1
theorem idxP_mem (path : List Int) (q : Int) : idxP (fun y => q == y) path < 0 → q ∉ path := by
 intro h hm
 have := idxP_any (fun y => q == y) path
 rw [decide_eq_false (by omega)] at this
 have h2 : path.any (fun y => q == y) = true := List.any_eq_true.2 ⟨q, hm, by simp⟩
 rw [h2] at this
 cases this
theorem Marked.short {n : Int} {arr path : List Int} (h : Marked n arr path) : (path.length : Int) ≤ n := by
 have h1 : path.length ≤ ((List.range n.toNat).map fun (j : Nat) => (j : Int)).length := h.nodup.length_le_of_subset (fun q hq => by
  have := h.bd q hq
  exact List.mem_map.2 ⟨q.toNat, List.mem_range.2 (by omega), by omega⟩)
 have h2 : 0 ≤ n := by have := h.len; omega
 simp at h1
 omega
theorem Marked.snoc {n : Int} {arr path : List Int} (h : Marked n arr path) (q : Int) (h0 : 0 ≤ q) (h1 : q < n) (h2 : rd arr q = 0) : Marked n (arr.set q.toNat ((path ++ [q]).length : Int)) (path ++ [q]) := by
 have hq := h.at_ q h0 h1
 have hn : q ∉ path := idxP_mem path q (by omega)
 refine ⟨by rw [List.length_set]; exact h.len, ?_, ?_, ?_⟩
 ·rw [List.nodup_append]
  refine ⟨h.nodup, by simp, ?_⟩
  intro a ha b hb e
  simp only [List.mem_singleton] at hb
  subst hb e
  exact hn ha
 ·intro x hx
  rcases List.mem_append.1 hx with hx | hx
  ·exact h.bd x hx
  ·simp only [List.mem_singleton] at hx; subst hx; exact ⟨h0, h1⟩
 ·intro x hx0 hx1
  have hl := h.len
  rw [rd_set arr q x _ h0 (by omega) hx0, idxP_snoc]
  by_cases e : x = q
  ·subst e
   rw [if_pos rfl, if_neg (by omega), if_pos (by simp)]
   simp
  ·rw [if_neg e, h.at_ x hx0 hx1]
   have lo := idxP_lo (fun y => x == y) path
   have hb : (x == q) = false := beq_eq_false_iff_ne.mpr e
   by_cases h3 : 0 ≤ idxP (fun y => x == y) path
   ·rw [if_pos h3]
   ·rw [if_neg h3, hb]; simp; omega
theorem lead_l0 (n f : Int) (h : tabOk n f = true) (d : Nat) : ∀ (k : Nat) (p : Int) (arr path : List Int), 0 ≤ p → p < n → Marked n arr path → n - path.length ≤ d → d + 62 < k →
  ∃ (path' : List Int) (i : Int), spec_taLead.l0 k n f p arr path = some (path', i) ∧ impl_leadOf.l0 k n f p path = some (i, path'.drop i.toNat) ∧ 0 ≤ i ∧ i ≤ path'.length ∧ (path'.length : Int) ≤ 60 := by
 have hb := tabOk_true.1 h
 induction d with
 | zero =>
  intro k p arr path h0 h1 hm hd hk
  obtain ⟨k, rfl⟩ : ∃ m, k = m + 1 := ⟨k - 1, by omega⟩
  have hs := hm.short
  have hl := hm.len
  have ha := hm.at_ p h0 h1
  have lo := idxP_lo (fun y => p == y) path
  have up := idxP_lt (fun y => p == y) path
  have hne : ¬ rd arr p = 0 := by
   intro e
   have := (hm.snoc p h0 h1 e).short
   simp at this
   omega
  rw [spec_taLead.l0, if_pos h0, if_pos (by omega), if_neg hne, impl_leadOf.l0, index_f path p (by omega) k (by omega)]
  simp only [Option.bind_some]
  rw [if_pos (by omega), if_pos (by omega), if_pos (by omega), wrap_id (by omega) (by omega)]
  refine ⟨_, _, rfl, ?_, by omega, by omega, by omega⟩
  rw [show rd arr p - 1 = idxP (fun y => p == y) path by omega]
 | succ d ih =>
  intro k p arr path h0 h1 hm hd hk
  obtain ⟨k, rfl⟩ : ∃ m, k = m + 1 := ⟨k - 1, by omega⟩
  have hs := hm.short
  have hl := hm.len
  have ha := hm.at_ p h0 h1
  have lo := idxP_lo (fun y => p == y) path
  have up := idxP_lt (fun y => p == y) path
  by_cases hz : rd arr p = 0
  ·have hm2 := hm.snoc p h0 h1 hz
   have hb2 := step_bd (p := p) h
   obtain ⟨path', i, r1, r2, r3⟩ := ih k (p * f % n) _ _ hb2.1 hb2.2 hm2 (by simp; omega) (by omega)
   rw [spec_taLead.l0, if_pos h0, if_pos (by omega), if_pos hz, if_pos (by omega)]
   simp only [Option.bind_some]
   rw [if_neg (by omega), step_eq h h0 (by omega), impl_leadOf.l0, index_f path p (by omega) k (by omega)]
   simp only [Option.bind_some]
   rw [if_neg (by omega), if_pos (by omega), if_neg (by omega), step_eq h h0 (by omega)]
   exact ⟨path', i, r1, r2, r3⟩
  ·rw [spec_taLead.l0, if_pos h0, if_pos (by omega), if_neg hz, impl_leadOf.l0, index_f path p (by omega) k (by omega)]
   simp only [Option.bind_some]
   rw [if_pos (by omega), if_pos (by omega), if_pos (by omega), wrap_id (by omega) (by omega)]
   refine ⟨_, _, rfl, ?_, by omega, by omega, by omega⟩
   rw [show rd arr p - 1 = idxP (fun y => p == y) path by omega]
theorem lead_f (n f p : Int) (h : tabOk n f = true) (h0 : 0 ≤ p) (h1 : p < n) (k : Nat) (hk : 130 ≤ k) :
  ∃ (path' : List Int) (i : Int), spec_taLead.f k n f p = some (path', i) ∧ impl_leadOf.f k n f p = some (i, path'.drop i.toNat) ∧ 0 ≤ i ∧ i ≤ path'.length ∧ (path'.length : Int) ≤ 60 := by
 have hb := tabOk_true.1 h
 unfold spec_taLead.f impl_leadOf.f
 rw [if_pos (by omega), if_pos (by omega)]
 refine lead_l0 n f h 61 k p _ _ h0 h1 ⟨by simp; omega, by simp, by simp, fun q h2 h3 => ?_⟩ (by simp; omega) (by omega)
 simp only [idxP, rd]
 rw [List.getD_eq_getElem?_getD, List.getElem?_replicate]
 split <;> rfl
/-- Where so many lines from a point lead. -/
def itP (n f p : Int) (j : Nat) : Int := p * f ^ j % n
theorem itP_zero {n f p : Int} (h0 : 0 ≤ p) (h1 : p < n) : itP n f p 0 = p := by
 unfold itP; rw [Int.pow_zero, Int.mul_one, Int.emod_eq_of_lt h0 h1]
theorem itP_succ (n f p : Int) (j : Nat) : itP n f p (j + 1) = itP n f p j * f % n := by
 unfold itP; rw [Int.pow_succ, ← Int.mul_assoc, Int.mul_emod (p * f ^ j % n), Int.emod_emod_of_dvd _ (Int.dvd_refl n), ← Int.mul_emod]
theorem itP_add (n f p : Int) (i j : Nat) : itP n f p (i + j) = itP n f (itP n f p i) j := by
 unfold itP; rw [Int.pow_add, ← Int.mul_assoc, Int.mul_emod (p * f ^ i % n), Int.emod_emod_of_dvd _ (Int.dvd_refl n), ← Int.mul_emod]
theorem itP_bd {n : Int} (hn : 0 < n) (f p : Int) (j : Nat) : 0 ≤ itP n f p j ∧ itP n f p j < n :=
 ⟨Int.emod_nonneg _ (by omega), Int.emod_lt_of_pos _ hn⟩
theorem itP_one (n f p : Int) : itP n f p 1 = p * f % n := by
 unfold itP; rw [Int.pow_succ, Int.pow_zero, Int.one_mul]
/-- The points of a way until one comes again, and the place of that one. -/
structure Way (n f p : Int) (path : List Int) (i : Nat) : Prop where
 lt : i < path.length
 le : (path.length : Int) ≤ n
 at_ : ∀ j, j < path.length → path.getD j 0 = itP n f p j
 inj : ∀ a b, a < path.length → b < path.length → itP n f p a = itP n f p b → a = b
 close : itP n f p path.length = itP n f p i
theorem itP_shift {n f p : Int} {a b : Nat} (h : itP n f p a = itP n f p b) (t : Nat) : itP n f p (a + t) = itP n f p (b + t) := by
 rw [itP_add, itP_add, h]
theorem Way.mem {n f p q : Int} {path : List Int} {i : Nat} (h : Way n f p path i) : q ∈ path ↔ ∃ j, j < path.length ∧ itP n f p j = q := by
 constructor
 ·intro hq
  obtain ⟨j, hj, rfl⟩ := List.getElem_of_mem hq
  refine ⟨j, hj, ?_⟩
  rw [← h.at_ j hj, List.getD_eq_getElem?_getD, List.getElem?_eq_getElem hj]; rfl
 ·rintro ⟨j, hj, rfl⟩
  rw [← h.at_ j hj, List.getD_eq_getElem?_getD, List.getElem?_eq_getElem hj]
  exact List.getElem_mem hj
/-- Each place far on is one on the cycle. -/
theorem Way.far {n f p : Int} {path : List Int} {i : Nat} (h : Way n f p path i) (t : Nat) : ∃ j, i ≤ j ∧ j < path.length ∧ itP n f p (i + t) = itP n f p j := by
 induction t with
 | zero => exact ⟨i, Nat.le_refl _, h.lt, rfl⟩
 | succ t ih =>
  obtain ⟨j, h1, h2, h3⟩ := ih
  have e : itP n f p (i + (t + 1)) = itP n f p (j + 1) := by rw [← Nat.add_assoc, itP_succ, h3, ← itP_succ]
  by_cases hj : j + 1 < path.length
  ·exact ⟨j + 1, by omega, hj, e⟩
  ·have : j + 1 = path.length := by omega
   rw [this, h.close] at e
   exact ⟨i, Nat.le_refl _, h.lt, e⟩
/-- No line leads to the cycle if the point is come to again. -/
theorem Way.on {n f p : Int} {path : List Int} {i : Nat} (h : Way n f p path i) : i = 0 ↔ ∃ j, 1 ≤ j ∧ itP n f p j = itP n f p 0 := by
 constructor
 ·rintro rfl
  exact ⟨path.length, h.lt, h.close⟩
 ·rintro ⟨j, hj, e⟩
  rcases Nat.eq_zero_or_pos i with h0 | h0
  ·exact h0
  exfalso
  have hl := h.lt
  by_cases hji : j < path.length
  ·have := h.inj j 0 hji (by omega) e; omega
  ·obtain ⟨a, h1, h2, h3⟩ := h.far (j - i)
   rw [show i + (j - i) = j by omega, e] at h3
   have := h.inj 0 a (by omega) h2 h3
   omega
theorem Way.nodup {n f p : Int} {path : List Int} {i : Nat} (h : Way n f p path i) : path.Nodup := by
 rw [List.nodup_iff_pairwise_ne, List.pairwise_iff_getElem]
 intro a b ha hb hab e
 have h1 := h.at_ a ha
 have h2 := h.at_ b hb
 rw [List.getD_eq_getElem?_getD, List.getElem?_eq_getElem ha] at h1
 rw [List.getD_eq_getElem?_getD, List.getElem?_eq_getElem hb] at h2
 simp only [Option.getD_some] at h1 h2
 have := h.inj a b ha hb (by rw [← h1, ← h2, e])
 omega
/-- From a fixed point no line leads away. -/
theorem Way.fix {n f p : Int} {path : List Int} {i : Nat} (h : Way n f p path i) (h0 : 0 ≤ p) (h1 : p < n) (hf : p * f % n = p) : i = 0 ∧ path.length = 1 := by
 have hl := h.lt
 have e : itP n f p 1 = itP n f p 0 := by rw [itP_one, itP_zero h0 h1, hf]
 have hi := h.on.2 ⟨1, Nat.le_refl _, e⟩
 refine ⟨hi, ?_⟩
 by_cases hq : 1 < path.length
 ·have := h.inj 1 0 hq (by omega) e; omega
 ·omega
theorem Way.one {n f p : Int} {path : List Int} {i : Nat} (h : Way n f p path i) (h0 : 0 ≤ p) (h1 : p < n) (hl : path.length = 1) : p * f % n = p := by
 have hi : i = 0 := by have := h.lt; omega
 have := h.close
 rw [hl, hi, itP_one, itP_zero h0 h1] at this
 exact this
/-- Two cycles that have a point in common: each is on the other. -/
theorem Way.meet {n f p q x : Int} {a b : List Int} (ha : Way n f p a 0) (hb : Way n f q b 0) (hp0 : 0 ≤ p) (hp1 : p < n) (h1 : x ∈ a) (h2 : x ∈ b) : p ∈ b := by
 obtain ⟨j, hj, e1⟩ := ha.mem.1 h1
 obtain ⟨k, hk, e2⟩ := hb.mem.1 h2
 have e3 : itP n f p (j + (a.length - j)) = itP n f q (k + (a.length - j)) := by rw [itP_add, itP_add, e1, e2]
 rw [show j + (a.length - j) = a.length by omega, ha.close, itP_zero hp0 hp1] at e3
 obtain ⟨c, _, hc, e4⟩ := hb.far (k + (a.length - j))
 rw [Nat.zero_add, ← e3] at e4
 exact hb.mem.2 ⟨c, hc, e4.symm⟩
/-- The way so far: point by point, without a point twice. -/
structure WayTo (n f p q : Int) (arr path : List Int) : Prop where
 mkd : Marked n arr path
 at_ : ∀ j, j < path.length → path.getD j 0 = itP n f p j
 now : q = itP n f p path.length
theorem idxP_at (l : List Int) (q : Int) : 0 ≤ idxP (fun y => q == y) l → l.getD (idxP (fun y => q == y) l).toNat 0 = q := by
 induction l with
 | nil => intro h; simp [idxP] at h
 | cons y r ih =>
  intro h
  have lo := idxP_lo (fun y => q == y) r
  by_cases hy : (q == y) = true
  ·simp only [idxP, hy, if_true]
   have := beq_iff_eq.1 hy
   simp [this]
  ·simp only [idxP, hy, if_false, Bool.false_eq_true] at h ⊢
   by_cases h0 : idxP (fun y => q == y) r < 0
   ·rw [if_pos h0] at h; omega
   ·rw [if_neg h0]
    rw [show (idxP (fun y => q == y) r + 1).toNat = (idxP (fun y => q == y) r).toNat + 1 by omega, List.getD_cons_succ]
    exact ih (by omega)
theorem WayTo.inj {n f p q : Int} {arr path : List Int} (h : WayTo n f p q arr path) (a b : Nat) (ha : a < path.length) (hb : b < path.length) (e : itP n f p a = itP n f p b) : a = b := by
 have hn := h.mkd.nodup
 have h1 := h.at_ a ha
 have h2 := h.at_ b hb
 rw [List.getD_eq_getElem?_getD, List.getElem?_eq_getElem ha, Option.getD_some] at h1
 rw [List.getD_eq_getElem?_getD, List.getElem?_eq_getElem hb, Option.getD_some] at h2
 rw [List.nodup_iff_pairwise_ne, List.pairwise_iff_getElem] at hn
 rcases Nat.lt_trichotomy a b with h3 | h3 | h3
 ·exact absurd (by rw [h1, h2, e]) (hn a b ha hb h3)
 ·exact h3
 ·exact absurd (by rw [h1, h2, e]) (hn b a hb ha h3)
theorem way_l0 (n f p : Int) (h : tabOk n f = true) (k : Nat) : ∀ (q : Int) (arr path : List Int) (r : List Int × Int), 0 ≤ q → q < n → WayTo n f p q arr path → spec_taLead.l0 k n f q arr path = some r → Way n f p r.1 r.2.toNat := by
 have hb := tabOk_true.1 h
 induction k with
 | zero => intro q arr path r _ _ _ e; simp [spec_taLead.l0] at e
 | succ k ih =>
  intro q arr path r h0 h1 hw e
  have hl := hw.mkd.len
  have hs := hw.mkd.short
  rw [spec_taLead.l0, if_pos h0, if_pos (by omega)] at e
  by_cases hz : rd arr q = 0
  ·have hm2 := hw.mkd.snoc q h0 h1 hz
   have hb2 := step_bd (p := q) h
   rw [if_pos hz, if_pos (by omega)] at e
   simp only [Option.bind_some] at e
   rw [if_neg (by omega), step_eq h h0 (by omega)] at e
   refine ih _ _ _ r hb2.1 hb2.2 ⟨hm2, ?_, ?_⟩ e
   ·intro j hj
    by_cases hjl : j < path.length
    ·rw [List.getD_eq_getElem?_getD, List.getElem?_append_left hjl, ← List.getD_eq_getElem?_getD]
     exact hw.at_ j hjl
    ·have : j = path.length := by simp at hj; omega
     subst this
     rw [List.getD_eq_getElem?_getD, List.getElem?_append_right (Nat.le_refl _)]
     simp [hw.now]
   ·rw [List.length_append, List.length_singleton, itP_succ, ← hw.now]
  ·rw [if_neg hz] at e
   have e := Option.some.inj e
   subst e
   have ha := hw.mkd.at_ q h0 h1
   have lo := idxP_lo (fun y => q == y) path
   have up := idxP_lt (fun y => q == y) path
   rw [wrap_id (by omega) (by omega)]
   have ei : rd arr q - 1 = idxP (fun y => q == y) path := by omega
   simp only
   rw [ei]
   refine ⟨by omega, hs, hw.at_, hw.inj, ?_⟩
   rw [← hw.now, ← hw.at_ _ (by omega), idxP_at path q (by omega)]
/-- The way from a point, and how many lines lead to the cycle. -/
def wayL (n f p : Int) : List Int := ((spec_taLead.f 130 n f p).getD ([], 0)).1
def wayI (n f p : Int) : Nat := ((spec_taLead.f 130 n f p).getD ([], 0)).2.toNat
theorem lead_up {n f p : Int} : ∀ (a b : Nat) (x : Int × List Int), a ≤ b → impl_leadOf.f a n f p = some x → impl_leadOf.f b n f p = some x := by
 intro a b x hab ha
 induction hab with
 | refl => exact ha
 | step _ ih2 => exact impl_leadOf.mono _ _ _ _ _ ih2
theorem taLead_up {n f p : Int} : ∀ (a b : Nat) (x : List Int × Int), a ≤ b → spec_taLead.f a n f p = some x → spec_taLead.f b n f p = some x := by
 intro a b x hab ha
 induction hab with
 | refl => exact ha
 | step _ ih2 => exact spec_taLead.mono _ _ _ _ _ ih2
theorem way_f {n f p : Int} (h : tabOk n f = true) (h0 : 0 ≤ p) (h1 : p < n) : Way n f p (wayL n f p) (wayI n f p) ∧ ∀ k, 130 ≤ k →
  spec_taLead.f k n f p = some (wayL n f p, (wayI n f p : Int)) ∧ impl_leadOf.f k n f p = some ((wayI n f p : Int), (wayL n f p).drop (wayI n f p)) := by
 have hb := tabOk_true.1 h
 obtain ⟨path, i, e1, e2, g1, _⟩ := lead_f n f p h h0 h1 130 (by omega)
 have eL : wayL n f p = path := by unfold wayL; rw [e1]; rfl
 have eI : wayI n f p = i.toNat := by unfold wayI; rw [e1]; rfl
 have eI2 : (wayI n f p : Int) = i := by omega
 constructor
 ·have e3 := e1
  unfold spec_taLead.f at e3
  rw [if_pos (by omega), if_pos (by omega)] at e3
  have := way_l0 n f p h 130 p _ _ (path, i) h0 h1 ⟨⟨by simp; omega, by simp, by simp, fun q h2 h3 => by
   simp only [idxP, rd]
   rw [List.getD_eq_getElem?_getD, List.getElem?_replicate]
   split <;> rfl⟩, by simp, by simp [itP_zero h0 h1]⟩ e3
  rw [eL, eI]; exact this
 ·intro k hk
  rw [eI2, eL, eI]
  exact ⟨taLead_up 130 k _ hk e1, lead_up 130 k _ hk e2⟩
theorem minK_bd (l : List Int) : ∀ (k : Nat), k < l.length → minK l k ∈ l ∧ ∀ j, j ≤ k → minK l k ≤ l.getD j 0
 | 0, h => by
  refine ⟨?_, fun j hj => ?_⟩
  ·simp only [minK]
   rw [List.getD_eq_getElem?_getD, List.getElem?_eq_getElem h]
   exact List.getElem_mem _
  ·obtain rfl : j = 0 := by omega
   exact Int.le_refl _
 | k + 1, h => by
  obtain ⟨h1, h2⟩ := minK_bd l k (by omega)
  have e : l.getD (k + 1) 0 ∈ l := by
   rw [List.getD_eq_getElem?_getD, List.getElem?_eq_getElem h]
   exact List.getElem_mem _
  simp only [minK, mn]
  split
  ·refine ⟨e, fun j hj => ?_⟩
   by_cases hjk : j = k + 1
   ·subst hjk; exact Int.le_refl _
   ·have := h2 j (by omega); omega
  ·refine ⟨h1, fun j hj => ?_⟩
   by_cases hjk : j = k + 1
   ·subst hjk; omega
   ·exact h2 j (by omega)
theorem min_is (l : List Int) (p : Int) (hp : p ∈ l) : (minK l (l.length - 1) = p) ↔ ∀ q ∈ l, q ≥ p := by
 have hl : 0 < l.length := List.length_pos_of_mem hp
 obtain ⟨h1, h2⟩ := minK_bd l (l.length - 1) (by omega)
 have all : ∀ q ∈ l, minK l (l.length - 1) ≤ q := by
  intro q hq
  obtain ⟨j, hj, rfl⟩ := List.getElem_of_mem hq
  have := h2 j (by omega)
  rwa [List.getD_eq_getElem?_getD, List.getElem?_eq_getElem hj] at this
 constructor
 ·intro e q hq; have := all q hq; omega
 ·intro h
  have a1 := h _ h1
  have a2 := all p hp
  omega
theorem cyc_l1 (n f : Int) (o : List (List Int)) (p : Int) (pa : List Int) (hpa : (pa.length : Int) ≤ 100) (d : Nat) : ∀ (k : Nat) (b : Bool) (i : Int), 0 ≤ i → i + d = pa.length →
  spec_CyclesOfTable.l1 (k + d + 1) n f o p pa b (pa.length : Int) i = (if (b && (pa.drop i.toNat).all fun q => decide (q ≥ p)) = true then (if o.length < 5864062014805 then spec_CyclesOfTable.l0 k n f (o ++ [pa]) (wrap64 (p + 1)) else none) else spec_CyclesOfTable.l0 k n f o (wrap64 (p + 1))) := by
 induction d with
 | zero =>
  intro k b i h0 hi
  rw [spec_CyclesOfTable.l1, if_neg (by omega), List.drop_eq_nil_of_le (by omega)]
  cases b <;> rfl
 | succ d ih =>
  intro k b i h0 hi
  have e : pa.drop i.toNat = rd pa i :: pa.drop (i + 1).toNat := by
   rw [List.drop_eq_getElem_cons (show i.toNat < pa.length by omega), show i.toNat + 1 = (i + 1).toNat by omega]
   simp [rd, List.getD_eq_getElem?_getD, List.getElem?_eq_getElem (show i.toNat < pa.length by omega)]
  rw [show k + (d + 1) + 1 = (k + d + 1) + 1 by omega, spec_CyclesOfTable.l1, if_pos (by omega), if_pos h0, if_pos (by omega), wrap_id (x := i + 1) (by omega) (by omega), e, List.all_cons]
  cases b
  ·rw [if_neg (by decide), ih k false (i + 1) (by omega) (by omega)]
   simp
  ·rw [if_pos rfl, ih k _ (i + 1) (by omega) (by omega)]
   simp
/-- The greatest number of lines that lead from one of i, i + 1, .. (d of them) to a cycle, and m. -/
def depD (n f : Int) (m i : Int) : Nat → Int
 | 0 => m
 | d + 1 => depD n f (mx m (wayI n f i)) (i + 1) d
theorem depD_ge (n f : Int) : ∀ (d : Nat) (m i : Int), m ≤ depD n f m i d ∧ ∀ p, i ≤ p → p < i + d → (wayI n f p : Int) ≤ depD n f m i d
 | 0, m, i => ⟨Int.le_refl _, fun p h1 h2 => by omega⟩
 | d + 1, m, i => by
  obtain ⟨h1, h2⟩ := depD_ge n f d (mx m (wayI n f i)) (i + 1)
  have h3 : m ≤ mx m (wayI n f i) ∧ (wayI n f i : Int) ≤ mx m (wayI n f i) := by unfold mx; split <;> omega
  unfold depD
  refine ⟨by omega, fun p h4 h5 => ?_⟩
  by_cases e : p = i
  ·subst e; omega
  ·exact h2 p (by omega) (by omega)
theorem depD_zero (n f : Int) : ∀ (d : Nat) (i : Int), (∀ p, i ≤ p → p < i + d → wayI n f p = 0) → depD n f 0 i d = 0
 | 0, i, _ => rfl
 | d + 1, i, h => by
  unfold depD
  rw [h i (by omega) (by omega)]
  exact depD_zero n f d (i + 1) (fun p h1 h2 => h p (by omega) (by omega))
theorem depth_none {n f : Int} (h : tabOk n f = true) : depD n f 0 0 n.toNat = 0 ↔ ∀ p, 0 ≤ p → p < n → wayI n f p = 0 := by
 constructor
 ·intro e p h0 h1
  have := (depD_ge n f n.toNat 0 0).2 p h0 (by omega)
  omega
 ·exact fun hall => depD_zero n f _ 0 (fun p h1 h2 => hall p h1 (by omega))
theorem depth_way {n f : Int} (h : tabOk n f = true) (d : Nat) : ∀ (k : Nat) (m i : Int), 0 ≤ i → i + d = n → d + 130 < k →
  spec_DepthOfTable.l0 k n f m i = some (depD n f m i d, true) ∧ impl_DepthOfTable.l0 k n f m n i = some (depD n f m i d, true) := by
 have hb := tabOk_true.1 h
 induction d with
 | zero =>
  intro k m i hi hd hk
  obtain ⟨k, rfl⟩ : ∃ m, k = m + 1 := ⟨k - 1, by omega⟩
  rw [spec_DepthOfTable.l0, if_neg (by omega), impl_DepthOfTable.l0, if_neg (by omega)]
  exact ⟨rfl, rfl⟩
 | succ d ih =>
  intro k m i hi hd hk
  obtain ⟨k, rfl⟩ : ∃ m, k = m + 1 := ⟨k - 1, by omega⟩
  obtain ⟨h1, h2⟩ := (way_f h hi (show i < n by omega)).2 k (by omega)
  have e : spec_l1Most.f m (wayI n f i) = some (mx m (wayI n f i)) := by
   unfold spec_l1Most.f mx
   by_cases hq : m > wayI n f i
   ·rw [if_pos hq, if_neg (by omega)]
   ·rw [if_neg hq]
    by_cases hp : m < wayI n f i
    ·rw [if_pos hp]
    ·rw [if_neg hp]; congr 1; omega
  rw [spec_DepthOfTable.l0, if_pos (by omega), h1]
  simp only [Option.bind_some]
  rw [e]
  simp only [Option.bind_some]
  rw [impl_DepthOfTable.l0, if_pos (by omega), h2]
  simp only [Option.bind_some]
  rw [wrap_id (x := i + 1) (by omega) (by omega)]
  exact ih k _ (i + 1) (by omega) (by omega) (by omega)
/-- The numbers i, i + 1, .. of the next d at which p holds. -/
def numsD (p : Int → Bool) (i : Int) : Nat → List Int
 | 0 => []
 | d + 1 => if p i = true then i :: numsD p (i + 1) d else numsD p (i + 1) d
theorem numsD_len (p : Int → Bool) (i : Int) (d : Nat) : (numsD p i d).length ≤ d := by
 induction d generalizing i with
 | zero => simp [numsD]
 | succ d ih =>
  have := ih (i + 1)
  simp only [numsD]
  split
  ·simp; omega
  ·omega
theorem numsD_congr {p q : Int → Bool} {i : Int} {d : Nat} (h : ∀ x, i ≤ x → x < i + d → p x = q x) : numsD p i d = numsD q i d := by
 induction d generalizing i with
 | zero => rfl
 | succ d ih =>
  have h0 := h i (by omega) (by omega)
  have h1 := ih (i := i + 1) (fun x hx hy => h x (by omega) (by omega))
  simp only [numsD, h0, h1]
theorem way_zero {n f p : Int} (h : tabOk n f = true) (h0 : 0 ≤ p) (h1 : p < n) : (wayL n f p).getD 0 0 = p := by
 have w := (way_f h h0 h1).1
 rw [w.at_ 0 (by have := w.lt; omega), itP_zero h0 h1]
theorem way_self {n f p : Int} (h : tabOk n f = true) (h0 : 0 ≤ p) (h1 : p < n) : p ∈ wayL n f p := by
 have w := (way_f h h0 h1).1
 exact w.mem.2 ⟨0, by have := w.lt; omega, itP_zero h0 h1⟩
/-- A point is the least one of its cycle. -/
def headB (n f p : Int) : Bool := wayI n f p == 0 && (wayL n f p).all fun q => decide (q ≥ p)
/-- The cycles whose least point is one of i, i + 1, .. (d of them). -/
def cycL (n f i : Int) : Nat → List (List Int)
 | 0 => []
 | d + 1 => if headB n f i = true then wayL n f i :: cycL n f (i + 1) d else cycL n f (i + 1) d
theorem cycL_len (n f : Int) : ∀ (d : Nat) (i : Int), (cycL n f i d).length ≤ d
 | 0, i => Nat.le_refl _
 | d + 1, i => by
  have := cycL_len n f d (i + 1)
  unfold cycL
  split
  ·simp; omega
  ·omega
theorem cycL_mem {n f : Int} {c : List Int} : ∀ (d : Nat) (i : Int), c ∈ cycL n f i d ↔ ∃ p, i ≤ p ∧ p < i + d ∧ headB n f p = true ∧ c = wayL n f p
 | 0, i => by
  simp only [cycL, List.not_mem_nil, false_iff]
  rintro ⟨p, h1, h2, _⟩; omega
 | d + 1, i => by
  unfold cycL
  by_cases hh : headB n f i = true
  ·rw [if_pos hh, List.mem_cons, cycL_mem d (i + 1)]
   constructor
   ·rintro (rfl | ⟨p, h1, h2, h3⟩)
    ·exact ⟨i, by omega, by omega, hh, rfl⟩
    ·exact ⟨p, by omega, by omega, h3⟩
   ·rintro ⟨p, h1, h2, h3, rfl⟩
    by_cases e : p = i
    ·subst e; exact .inl rfl
    ·exact .inr ⟨p, by omega, by omega, h3, rfl⟩
  ·rw [if_neg hh, cycL_mem d (i + 1)]
   constructor
   ·rintro ⟨p, h1, h2, h3⟩; exact ⟨p, by omega, by omega, h3⟩
   ·rintro ⟨p, h1, h2, h3, h4⟩
    by_cases e : p = i
    ·subst e; exact absurd h3 hh
    ·exact ⟨p, by omega, by omega, h3, h4⟩
theorem headB_true {n f p : Int} : headB n f p = true ↔ wayI n f p = 0 ∧ ∀ q ∈ wayL n f p, q ≥ p := by
 unfold headB
 rw [Bool.and_eq_true, beq_iff_eq, List.all_eq_true]
 constructor
 ·rintro ⟨h1, h2⟩; exact ⟨h1, fun q hq => of_decide_eq_true (h2 q hq)⟩
 ·rintro ⟨h1, h2⟩; exact ⟨h1, fun q hq => decide_eq_true (h2 q hq)⟩
/-- Each cycle begins with a greater point than the ones ahead of it. -/
theorem cycL_up {n f : Int} (h : tabOk n f = true) : ∀ (d : Nat) (i : Int), 0 ≤ i → i + d = n → (cycL n f i d).Pairwise (fun a b => a.getD 0 0 < b.getD 0 0)
 | 0, i, _, _ => List.Pairwise.nil
 | d + 1, i, h0, hi => by
  unfold cycL
  have ih := cycL_up h d (i + 1) (by omega) (by omega)
  split
  ·refine List.pairwise_cons.2 ⟨fun c hc => ?_, ih⟩
   obtain ⟨p, h1, h2, _, rfl⟩ := (cycL_mem d (i + 1)).1 hc
   rw [way_zero h h0 (by omega), way_zero h (by omega) (by omega)]
   omega
  ·exact ih
/-- As many cycles of one point as fixed points. -/
theorem cycL_single {n f : Int} (h : tabOk n f = true) : ∀ (d : Nat) (i : Int), 0 ≤ i → i + d = n → ((cycL n f i d).countP fun c => c.length == 1) = (numsD (fixB n f) i d).length
 | 0, i, _, _ => rfl
 | d + 1, i, h0, hi => by
  have ih := cycL_single h d (i + 1) (by omega) (by omega)
  have w := (way_f h h0 (show i < n by omega)).1
  unfold cycL numsD
  by_cases hf : fixB n f i = true
  ·have hf2 : i * f % n = i := by unfold fixB at hf; exact beq_iff_eq.1 hf
   obtain ⟨e1, e2⟩ := w.fix h0 (by omega) hf2
   have hh : headB n f i = true := headB_true.2 ⟨e1, fun q hq => by
    obtain ⟨j, hj, rfl⟩ := w.mem.1 hq
    have : j = 0 := by omega
    subst this
    rw [itP_zero h0 (by omega)]; omega⟩
   rw [if_pos hh, if_pos hf, List.countP_cons, ih, e2]
   simp
  ·rw [if_neg hf]
   by_cases hh : headB n f i = true
   ·have hl : ¬ (wayL n f i).length = 1 := fun e => hf (by unfold fixB; rw [w.one h0 (by omega) e]; simp)
    rw [if_pos hh, List.countP_cons, ih]
    simp [hl]
   ·rw [if_neg hh, ih]
/-- A point of a cycle is come to again from itself. -/
theorem way_again {n f p q : Int} (h : tabOk n f = true) (h0 : 0 ≤ p) (h1 : p < n) (hi : wayI n f p = 0) (hq : q ∈ wayL n f p) : 0 ≤ q ∧ q < n ∧ wayI n f q = 0 ∧ p ∈ wayL n f q ∧ ∀ x ∈ wayL n f q, x ∈ wayL n f p := by
 have hb := tabOk_true.1 h
 have w := (way_f h h0 h1).1
 obtain ⟨j, hj, e⟩ := w.mem.1 hq
 have hq2 := itP_bd (show 0 < n by omega) f p j
 rw [e] at hq2
 have v := (way_f h hq2.1 hq2.2).1
 have hv : wayI n f q = 0 := v.on.2 ⟨(wayL n f p).length, by omega, by
  rw [itP_zero hq2.1 hq2.2, ← e, ← itP_add, Nat.add_comm, itP_shift w.close, hi, Nat.zero_add]⟩
 rw [hi] at w
 rw [hv] at v
 refine ⟨hq2.1, hq2.2, hv, w.meet v h0 h1 hq (way_self h hq2.1 hq2.2), fun x hx => ?_⟩
 obtain ⟨k, hk, rfl⟩ := v.mem.1 hx
 obtain ⟨a, _, ha, e2⟩ := w.far (j + k)
 exact w.mem.2 ⟨a, ha, by rw [← e2, Nat.zero_add, itP_add, e]⟩
/-- The points of the cycles are those from which no line leads to one. -/
theorem cycL_on {n f q : Int} (h : tabOk n f = true) : q ∈ (cycL n f 0 n.toNat).flatten ↔ 0 ≤ q ∧ q < n ∧ wayI n f q = 0 := by
 have hb := tabOk_true.1 h
 rw [List.mem_flatten]
 constructor
 ·rintro ⟨c, hc, hq⟩
  obtain ⟨p, h1, h2, h3, rfl⟩ := (cycL_mem _ _).1 hc
  have := way_again h h1 (by omega) (headB_true.1 h3).1 hq
  exact ⟨this.1, this.2.1, this.2.2.1⟩
 ·rintro ⟨h0, h1, hi⟩
  have hl : 0 < (wayL n f q).length := List.length_pos_of_mem (way_self h h0 h1)
  obtain ⟨m1, m2⟩ := minK_bd (wayL n f q) ((wayL n f q).length - 1) (by omega)
  have all : ∀ x ∈ wayL n f q, minK (wayL n f q) ((wayL n f q).length - 1) ≤ x := by
   intro x hx
   obtain ⟨j, hj, rfl⟩ := List.getElem_of_mem hx
   have := m2 j (by omega)
   rwa [List.getD_eq_getElem?_getD, List.getElem?_eq_getElem hj] at this
  generalize minK (wayL n f q) ((wayL n f q).length - 1) = p at m1 all
  obtain ⟨a0, a1, a2, a3, a4⟩ := way_again h h0 h1 hi m1
  exact ⟨wayL n f p, (cycL_mem _ _).2 ⟨p, a0, by omega, headB_true.2 ⟨a2, fun x hx => all x (a4 x hx)⟩, rfl⟩, a3⟩
theorem cycL_nodup {n f : Int} (h : tabOk n f = true) : ∀ (d : Nat) (i : Int), 0 ≤ i → i + d = n → (cycL n f i d).flatten.Nodup
 | 0, i, _, _ => by simp [cycL]
 | d + 1, i, h0, hi => by
  have ih := cycL_nodup h d (i + 1) (by omega) (by omega)
  unfold cycL
  split
  ·rename_i hh
   rw [List.flatten_cons, List.nodup_append]
   refine ⟨(way_f h h0 (by omega)).1.nodup, ih, fun x hx y hy e => ?_⟩
   subst e
   obtain ⟨c, hc, hx2⟩ := List.mem_flatten.1 hy
   obtain ⟨p, h1, h2, h3, rfl⟩ := (cycL_mem d (i + 1)).1 hc
   have w := (way_f h h0 (show i < n by omega)).1
   have v := (way_f h (show 0 ≤ p by omega) (show p < n by omega)).1
   rw [(headB_true.1 hh).1] at w
   rw [(headB_true.1 h3).1] at v
   have := (headB_true.1 h3).2 i (w.meet v h0 (by omega) hx hx2)
   omega
  ·exact ih
theorem all_on {n f : Int} (h : tabOk n f = true) : (((cycL n f 0 n.toNat).map List.length).sum = n.toNat) ↔ ∀ p, 0 ≤ p → p < n → wayI n f p = 0 := by
 have hb := tabOk_true.1 h
 rw [← List.length_flatten]
 have hn := cycL_nodup h n.toNat 0 (by omega) (by omega)
 have hr : ((List.range n.toNat).map fun (j : Nat) => (j : Int)).length = n.toNat := by simp
 have hrn : ((List.range n.toNat).map fun (j : Nat) => (j : Int)).Nodup := by
  rw [List.nodup_iff_pairwise_ne, List.pairwise_map]
  exact List.Pairwise.imp (fun hab e => by omega) List.pairwise_lt_range
 constructor
 ·intro e p h0 h1
  rcases Nat.eq_zero_or_pos (wayI n f p) with hz | hz
  ·exact hz
  exfalso
  have hp : p ∉ (cycL n f 0 n.toNat).flatten := fun hp => by have := ((cycL_on h).1 hp).2.2; omega
  have h2 : (p :: (cycL n f 0 n.toNat).flatten).Nodup := List.nodup_cons.2 ⟨hp, hn⟩
  have h3 := h2.length_le_of_subset (l₂ := (List.range n.toNat).map fun (j : Nat) => (j : Int)) (fun x hx => by
   rcases List.mem_cons.1 hx with rfl | hx
   ·exact List.mem_map.2 ⟨x.toNat, List.mem_range.2 (by omega), by omega⟩
   ·have := (cycL_on h).1 hx
    exact List.mem_map.2 ⟨x.toNat, List.mem_range.2 (by omega), by omega⟩)
  rw [List.length_cons] at h3
  omega
 ·intro hall
  have h1 := hn.length_le_of_subset (l₂ := (List.range n.toNat).map fun (j : Nat) => (j : Int)) (fun x hx => by
   have := (cycL_on h).1 hx
   exact List.mem_map.2 ⟨x.toNat, List.mem_range.2 (by omega), by omega⟩)
  have h2 := hrn.length_le_of_subset (l₂ := (cycL n f 0 n.toNat).flatten) (fun x hx => by
   obtain ⟨j, hj, rfl⟩ := List.mem_map.1 hx
   have := List.mem_range.1 hj
   exact (cycL_on h).2 ⟨by omega, by omega, hall _ (by omega) (by omega)⟩)
  omega
theorem cyc_way {n f : Int} (h : tabOk n f = true) (d : Nat) : ∀ (k : Nat) (o : List (List Int)) (p : Int), 0 ≤ p → p + d = n → (o.length : Int) ≤ p → 300 * (d + 1) ≤ k →
  spec_CyclesOfTable.l0 k n f o p = some (o ++ cycL n f p d, true) ∧ ∀ K, 300 ≤ K → cycD K n f d p o = some (o ++ cycL n f p d) := by
 have hb := tabOk_true.1 h
 induction d with
 | zero =>
  intro k o p h0 hp ho hk
  obtain ⟨k, rfl⟩ : ∃ m, k = m + 1 := ⟨k - 1, by omega⟩
  refine ⟨?_, fun K _ => by simp [cycD, cycL]⟩
  rw [spec_CyclesOfTable.l0, if_neg (by omega)]; simp [cycL]
 | succ d ih =>
  intro k o p h0 hp ho hk
  obtain ⟨k, rfl⟩ : ∃ m, k = m + 1 := ⟨k - 1, by omega⟩
  obtain ⟨w, hw⟩ := way_f h h0 (show p < n by omega)
  have hlen := w.le
  obtain ⟨h1, _⟩ := hw k (by omega)
  have hmem := way_self h h0 (show p < n by omega)
  have hl1 := cyc_l1 n f o p (wayL n f p) (by omega) (wayL n f p).length (k - (wayL n f p).length - 1) ((wayI n f p : Int) == 0) 0 (by omega) (by omega)
  have hbe : ((wayI n f p : Int) == 0) = (wayI n f p == 0) := by rw [Bool.eq_iff_iff, beq_iff_eq, beq_iff_eq]; omega
  rw [show k - (wayL n f p).length - 1 + (wayL n f p).length + 1 = k by omega, Int.toNat_zero, List.drop_zero, if_pos (show o.length < 5864062014805 by omega), hbe] at hl1
  rw [spec_CyclesOfTable.l0, if_pos (by omega), h1]
  simp only [Option.bind_some]
  rw [hbe, hl1, wrap_id (x := p + 1) (by omega) (by omega)]
  by_cases hh : headB n f p = true
  ·obtain ⟨r1, r2⟩ := ih (k - (wayL n f p).length - 1) (o ++ [wayL n f p]) (p + 1) (by omega) (by omega) (by simp; omega) (by omega)
   have hh2 := headB_true.1 hh
   unfold headB at hh
   rw [if_pos hh, r1]
   have e : o ++ cycL n f p (d + 1) = o ++ [wayL n f p] ++ cycL n f (p + 1) d := by
    rw [cycL, if_pos (headB_true.2 hh2)]; simp
   refine ⟨by rw [e], fun K hK => ?_⟩
   unfold cycD slices_Min_int_int.f
   rw [(hw K (by omega)).2]
   simp only [Option.bind_some]
   rw [if_pos (by omega), hh2.1, List.drop_zero, if_pos (List.length_pos_of_mem hmem)]
   simp only [Option.bind_some]
   rw [if_pos ((min_is _ p hmem).2 hh2.2), e]
   exact r2 K hK
  ·obtain ⟨r1, r2⟩ := ih (k - (wayL n f p).length - 1) o (p + 1) (by omega) (by omega) (by omega) (by omega)
   have e : cycL n f p (d + 1) = cycL n f (p + 1) d := by rw [cycL, if_neg hh]
   have hh2 := hh
   rw [headB_true] at hh2
   unfold headB at hh
   rw [if_neg hh, r1, e]
   refine ⟨rfl, fun K hK => ?_⟩
   unfold cycD slices_Min_int_int.f
   rw [(hw K (by omega)).2]
   simp only [Option.bind_some]
   by_cases hi : wayI n f p = 0
   ·rw [if_pos (by omega), hi, List.drop_zero, if_pos (List.length_pos_of_mem hmem)]
    simp only [Option.bind_some]
    rw [if_neg (fun e => hh2 ⟨hi, (min_is _ p hmem).1 e⟩)]
    exact r2 K hK
   ·rw [if_neg (by omega)]
    exact r2 K hK
/-- The points to which the lines of i, i + 1, .. (d of them) lead. -/
def rowD (n f i : Int) : Nat → List Int
 | 0 => []
 | d + 1 => (i * f % n) :: rowD n f (i + 1) d
theorem rowD_len (n f i : Int) (d : Nat) : (rowD n f i d).length = d := by
 induction d generalizing i with
 | zero => rfl
 | succ d ih => simp [rowD, ih]
theorem rowD_at (n f : Int) (d : Nat) : ∀ (i : Int) (j : Nat), j < d → (rowD n f i d).getD j 0 = (i + j) * f % n := by
 induction d with
 | zero => intro i j h; omega
 | succ d ih =>
  intro i j h
  cases j with
  | zero => simp [rowD]
  | succ j =>
   simp only [rowD, List.getD_cons_succ]
   rw [ih (i + 1) j (by omega)]
   congr 2
   omega
theorem rd_row (n f x : Int) (h0 : 0 ≤ x) (h1 : x < n) : rd (rowD n f 0 n.toNat) x = x * f % n := by
 unfold rd
 rw [rowD_at n f n.toNat 0 x.toNat (by omega)]
 congr 2
 omega
theorem taRow_l0 (n f : Int) (h : tabOk n f = true) (d : Nat) : ∀ (k : Nat) (l : List Int) (i : Int), 0 ≤ i → i + d = n → d < k → (l.length : Int) + d ≤ 1000 →
  spec_taRow.l0 k n f l i = some (l ++ rowD n f i d) := by
 have hb := tabOk_true.1 h
 induction d with
 | zero =>
  intro k l i hi hd hk _
  obtain ⟨k, rfl⟩ : ∃ m, k = m + 1 := ⟨k - 1, by omega⟩
  rw [spec_taRow.l0, if_neg (by omega)]
  simp [rowD]
 | succ d ih =>
  intro k l i hi hd hk hl
  obtain ⟨k, rfl⟩ : ∃ m, k = m + 1 := ⟨k - 1, by omega⟩
  rw [spec_taRow.l0, if_pos (by omega), if_neg (by omega), if_pos (by omega), step_eq h hi (by omega), wrap_id (x := i + 1) (by omega) (by omega), ih k _ (i + 1) (by omega) (by omega) (by omega) (by simp; omega)]
  simp [rowD]
theorem taRow_f (n f : Int) (h : tabOk n f = true) (k : Nat) (hk : 61 ≤ k) : spec_taRow.f k n f = some (rowD n f 0 n.toNat) := by
 have hb := tabOk_true.1 h
 unfold spec_taRow.f
 rw [taRow_l0 n f h n.toNat k [] 0 (by omega) (by omega) (by omega) (by simp; omega)]
 simp
theorem timesRow_l0 (n f : Int) (h : tabOk n f = true) (d : Nat) : ∀ (k : Nat) (l : List Int) (i : Int), 0 ≤ i → i + d = n → d < k → (l.length : Int) + d ≤ 1000 →
  impl_timesRow.l0 k n f l n i = some (l ++ rowD n f i d) := by
 have hb := tabOk_true.1 h
 induction d with
 | zero =>
  intro k l i hi hd hk _
  obtain ⟨k, rfl⟩ : ∃ m, k = m + 1 := ⟨k - 1, by omega⟩
  rw [impl_timesRow.l0, if_neg (by omega)]
  simp [rowD]
 | succ d ih =>
  intro k l i hi hd hk hl
  obtain ⟨k, rfl⟩ : ∃ m, k = m + 1 := ⟨k - 1, by omega⟩
  rw [impl_timesRow.l0, if_pos (by omega), if_neg (by omega), if_pos (by omega), step_eq h hi (by omega), wrap_id (x := i + 1) (by omega) (by omega), ih k _ (i + 1) (by omega) (by omega) (by omega) (by simp; omega)]
  simp [rowD]
theorem numsD_mem {p : Int → Bool} {a : Int} : ∀ {d : Nat} {i : Int}, a ∈ numsD p i d ↔ i ≤ a ∧ a < i + d ∧ p a = true
 | 0, i => by simp [numsD]; omega
 | d + 1, i => by
  simp only [numsD]
  split
  ·rename_i h
   rw [List.mem_cons, numsD_mem (d := d) (i := i + 1)]
   constructor
   ·rintro (rfl | ⟨h1, h2, h3⟩)
    ·exact ⟨by omega, by omega, h⟩
    ·exact ⟨by omega, by omega, h3⟩
   ·rintro ⟨h1, h2, h3⟩
    rcases Int.lt_or_eq_of_le h1 with h4 | h4
    ·exact Or.inr ⟨by omega, by omega, h3⟩
    ·exact Or.inl h4.symm
  ·rename_i h
   rw [numsD_mem (d := d) (i := i + 1)]
   constructor
   ·rintro ⟨h1, h2, h3⟩; exact ⟨by omega, by omega, h3⟩
   ·rintro ⟨h1, h2, h3⟩
    rcases Int.lt_or_eq_of_le h1 with h4 | h4
    ·exact ⟨by omega, by omega, h3⟩
    ·subst h4; exact absurd h3 h
theorem numsD_rises (p : Int → Bool) : ∀ (d : Nat) (i : Int), (numsD p i d).Pairwise (· < ·)
 | 0, i => by simp [numsD]
 | d + 1, i => by
  simp only [numsD]
  split
  ·rw [List.pairwise_cons]
   exact ⟨fun a ha => by have := (numsD_mem.1 ha).1; omega, numsD_rises p d (i + 1)⟩
  ·exact numsD_rises p d (i + 1)
theorem rd_get {l : List Int} {i : Int} (h0 : 0 ≤ i) (h1 : i < (l.length : Int)) : rd l i = l[i.toNat]'(by omega) := by
 simp [rd, List.getD_eq_getElem?_getD, List.getElem?_eq_getElem (show i.toNat < l.length by omega)]
theorem has_l0 (l : List Int) (a : Int) (hl : (l.length : Int) ≤ 1000000) (d : Nat) : ∀ (k : Nat) (i : Int), 0 ≤ i → i + d = l.length → d < k → spec_l1Has.l0 k a l (l.length : Int) i = some ((l.drop i.toNat).any fun x => x == a) := by
 induction d with
 | zero =>
  intro k i h0 hi hk
  obtain ⟨k, rfl⟩ : ∃ m, k = m + 1 := ⟨k - 1, by omega⟩
  rw [spec_l1Has.l0, if_neg (by omega), List.drop_eq_nil_of_le (by omega)]
  rfl
 | succ d ih =>
  intro k i h0 hi hk
  obtain ⟨k, rfl⟩ : ∃ m, k = m + 1 := ⟨k - 1, by omega⟩
  rw [spec_l1Has.l0, if_pos (show i < (l.length : Int) by omega), if_pos h0, if_pos (show i < (l.length : Int) by omega), List.drop_eq_getElem_cons (show i.toNat < l.length by omega), List.any_cons, ← rd_get h0 (by omega), show i.toNat + 1 = (i + 1).toNat by omega, wrap_id (x := i + 1) (by omega) (by omega)]
  by_cases h : rd l i = a
  ·rw [if_pos h, h]; simp
  ·rw [if_neg h, ih k (i + 1) (by omega) (by omega) (by omega)]
   have : (rd l i == a) = false := by simpa using h
   rw [this, Bool.false_or]
theorem has_f {l : List Int} (a : Int) (hl : (l.length : Int) ≤ 1000000) {k : Nat} (hk : l.length < k) : spec_l1Has.f k l a = some (l.any fun x => x == a) := by
 unfold spec_l1Has.f
 rw [has_l0 l a hl l.length k 0 (by omega) (by omega) (by omega)]
 simp
/-- Two ascending lists with the same members are one. -/
theorem asc_ext : ∀ {l m : List Int}, l.Pairwise (· < ·) → m.Pairwise (· < ·) → (∀ x, x ∈ l ↔ x ∈ m) → l = m
 | [], [], _, _, _ => rfl
 | [], y :: m, _, _, h => absurd ((h y).2 List.mem_cons_self) (by simp)
 | x :: l, [], _, _, h => absurd ((h x).1 List.mem_cons_self) (by simp)
 | x :: l, y :: m, hl, hm, h => by
  obtain ⟨hl1, hl2⟩ := List.pairwise_cons.1 hl
  obtain ⟨hm1, hm2⟩ := List.pairwise_cons.1 hm
  have e : x = y := by
   have h1 := (h x).1 List.mem_cons_self
   have h2 := (h y).2 List.mem_cons_self
   rcases List.mem_cons.1 h1 with h1 | h1
   ·exact h1
   ·rcases List.mem_cons.1 h2 with h2 | h2
    ·exact h2.symm
    ·have := hm1 x h1; have := hl1 y h2; omega
  subst e
  congr 1
  refine asc_ext hl2 hm2 fun z => ?_
  constructor
  ·intro hz
   rcases List.mem_cons.1 ((h z).1 (List.mem_cons_of_mem _ hz)) with e | e
   ·have := hl1 z hz; omega
   ·exact e
  ·intro hz
   rcases List.mem_cons.1 ((h z).2 (List.mem_cons_of_mem _ hz)) with e | e
   ·have := hm1 z hz; omega
   ·exact e
theorem compact_upto (d : Array Int) (hd : ∀ i j, i ≤ j → j < d.size → d[i]! ≤ d[j]!) : ∀ m, m ≤ d.size →
  (Go.Lib.compactUpTo d m).Pairwise (· < ·) ∧ (∀ x, x ∈ Go.Lib.compactUpTo d m ↔ ∃ j, j < m ∧ d[j]! = x)
 | 0, _ => ⟨by simp [Go.Lib.compactUpTo], by simp [Go.Lib.compactUpTo]⟩
 | m + 1, hm => by
  obtain ⟨h1, h2⟩ := compact_upto d hd m (by omega)
  rw [Go.Lib.compactUpTo_succ]
  by_cases hk : m = 0 ∨ d[m]! ≠ d[m - 1]!
  ·have e : Go.Lib.keeps d m = true := by unfold Go.Lib.keeps; exact decide_eq_true hk
   rw [e, if_pos rfl]
   constructor
   ·rw [List.pairwise_append]
    refine ⟨h1, by simp, fun x hx y hy => ?_⟩
    obtain ⟨j, hj, rfl⟩ := (h2 x).1 hx
    obtain rfl := List.mem_singleton.1 hy
    rcases hk with hk | hk
    ·omega
    ·have := hd j (m - 1) (by omega) (by omega)
     have := hd (m - 1) m (by omega) (by omega)
     omega
   ·intro x
    rw [List.mem_append, h2, List.mem_singleton]
    constructor
    ·rintro (⟨j, hj, rfl⟩ | rfl)
     ·exact ⟨j, by omega, rfl⟩
     ·exact ⟨m, by omega, rfl⟩
    ·rintro ⟨j, hj, rfl⟩
     by_cases e : j = m
     ·subst e; exact .inr rfl
     ·exact .inl ⟨j, by omega, rfl⟩
  ·have e : Go.Lib.keeps d m = false := by unfold Go.Lib.keeps; exact decide_eq_false hk
   rw [e]
   simp only [Bool.false_eq_true, if_false, List.append_nil]
   refine ⟨h1, fun x => ?_⟩
   rw [h2]
   constructor
   ·rintro ⟨j, hj, rfl⟩; exact ⟨j, by omega, rfl⟩
   ·rintro ⟨j, hj, rfl⟩
    by_cases e : j = m
    ·subst e
     exact ⟨j - 1, by omega, by
      rcases Decidable.em (d[j]! = d[j - 1]!) with h | h
      ·exact h.symm
      ·exact absurd (Or.inr h) hk⟩
    ·exact ⟨j, by omega, rfl⟩
theorem compact_sorted (l : List Int) : (Go.Lib.compact (l.mergeSort fun x y => decide (x ≤ y))).Pairwise (· < ·) ∧ ∀ x, x ∈ Go.Lib.compact (l.mergeSort fun x y => decide (x ≤ y)) ↔ x ∈ l := by
 have hp := List.pairwise_mergeSort (le := fun x y : Int => decide (x ≤ y)) (fun a b c h1 h2 => by simp at *; omega) (fun a b => by simp; omega) l
 have hm := fun x => List.mem_mergeSort (le := fun x y : Int => decide (x ≤ y)) (a := x) (l := l)
 generalize (l.mergeSort fun x y => decide (x ≤ y)) = s at hp hm
 have hd : ∀ i j, i ≤ j → j < s.toArray.size → s.toArray[i]! ≤ s.toArray[j]! := by
  intro i j hij hj
  have hj' : j < s.length := by simpa using hj
  rw [getElem!_pos s.toArray i (by simp; omega), getElem!_pos s.toArray j hj]
  simp only [List.getElem_toArray]
  rcases Nat.lt_or_eq_of_le hij with h | h
  ·have := List.pairwise_iff_getElem.1 hp i j (by omega) hj' h
   simpa using this
  ·subst h; exact Int.le_refl _
 obtain ⟨h1, h2⟩ := compact_upto s.toArray hd s.length (by simp)
 refine ⟨h1, fun x => ?_⟩
 unfold Go.Lib.compact
 rw [h2, ← hm, List.mem_iff_getElem]
 constructor
 ·rintro ⟨j, hj, rfl⟩
  exact ⟨j, hj, by rw [getElem!_pos s.toArray j (by simpa using hj)]; simp⟩
 ·rintro ⟨j, hj, rfl⟩
  exact ⟨j, hj, by rw [getElem!_pos s.toArray j (by simpa using hj)]; simp⟩
theorem hit_l0 (n : Int) (r : List Int) (hr : (r.length : Int) ≤ 60) (hn : n ≤ 60) (d : Nat) : ∀ (k : Nat) (o : List Int) (i : Int), 0 ≤ i → i + d = n → d + 62 < k → (o.length : Int) + d ≤ 1000 →
  spec_PointsHit.l0 k n o r i = some (o ++ numsD (fun x => r.any fun y => y == x) i d, true) := by
 induction d with
 | zero =>
  intro k o i h0 hi hk _
  obtain ⟨k, rfl⟩ : ∃ m, k = m + 1 := ⟨k - 1, by omega⟩
  rw [spec_PointsHit.l0, if_neg (by omega)]
  simp [numsD]
 | succ d ih =>
  intro k o i h0 hi hk hl
  obtain ⟨k, rfl⟩ : ∃ m, k = m + 1 := ⟨k - 1, by omega⟩
  rw [spec_PointsHit.l0, if_pos (by omega), has_f i (by omega) (by omega)]
  simp only [Option.bind_some]
  rw [wrap_id (x := i + 1) (by omega) (by omega)]
  by_cases h : (r.any fun y => y == i) = true
  ·rw [if_pos h, if_pos (by omega), ih k _ (i + 1) (by omega) (by omega) (by omega) (by simp; omega)]
   simp only [numsD]
   rw [if_pos h]; simp
  ·rw [if_neg h, ih k _ (i + 1) (by omega) (by omega) (by omega) (by omega)]
   simp only [numsD]
   rw [if_neg h]
theorem rowD_bd {n f : Int} (h : tabOk n f = true) {x : Int} : ∀ {d : Nat} {i : Int}, x ∈ rowD n f i d → 0 ≤ x ∧ x < n
 | 0, i, hx => by simp [rowD] at hx
 | d + 1, i, hx => by
  simp only [rowD, List.mem_cons] at hx
  rcases hx with rfl | hx
  ·exact step_bd h
  ·exact rowD_bd h hx
theorem numsD_eq (p : Int → Bool) (i : Int) (d : Nat) : ((List.range d).map fun (j : Nat) => i + (j : Int)).filter p = numsD p i d := by
 induction d generalizing i with
 | zero => rfl
 | succ d ih =>
  rw [List.range_succ_eq_map, List.map_cons, List.map_map]
  have e : (fun (j : Nat) => i + (j : Int)) ∘ Nat.succ = fun (j : Nat) => (i + 1) + (j : Int) := by funext j; simp; omega
  rw [e, List.filter_cons, ih]
  simp [numsD]
theorem numsW_numsD (p : Int → Bool) (lo hi : Int) : numsW p lo hi = numsD p lo (hi + 1 - lo).toNat := numsD_eq p lo _
theorem numsW_len (p : Int → Bool) (lo hi : Int) : ((numsW p lo hi).length : Int) ≤ max 0 (hi + 1 - lo) := by
 rw [numsW_numsD]
 have := numsD_len p lo (hi + 1 - lo).toNat
 omega
theorem taAsked_eq (n f p : Int) : spec_taAsked.f n f p = some (tabOk n f && inR p 0 (n - 1)) := by
 unfold spec_taAsked.f
 rw [taGood_eq]
 simp only [Option.bind_some]
 by_cases h : tabOk n f = true
 ·have hb := tabOk_true.1 h
  rw [if_pos h, wrap_id (by omega) (by omega), l1In_eq, h]; rfl
 ·rw [if_neg h]; simp only [Bool.not_eq_true] at h; rw [h]; rfl
theorem lines_l0 (n f p : Int) (h : tabOk n f = true) (d : Nat) : ∀ (k : Nat) (l : List Int) (i : Int), 0 ≤ i → i + d = n → d < k → (l.length : Int) + d ≤ 1000 →
  spec_LinesTo.l0 k p l (rowD n f 0 n.toNat) n i = some (l ++ numsD (fun x => x * f % n == p) i d, true) := by
 have hb := tabOk_true.1 h
 have hlen : ((rowD n f 0 n.toNat).length : Int) = n := by rw [rowD_len]; omega
 induction d with
 | zero =>
  intro k l i hi hd hk _
  obtain ⟨k, rfl⟩ : ∃ m, k = m + 1 := ⟨k - 1, by omega⟩
  rw [spec_LinesTo.l0, if_neg (by omega)]
  simp [numsD]
 | succ d ih =>
  intro k l i hi hd hk hl
  obtain ⟨k, rfl⟩ : ∃ m, k = m + 1 := ⟨k - 1, by omega⟩
  rw [spec_LinesTo.l0, if_pos (by omega), if_pos hi, if_pos (by omega), rd_row n f i hi (by omega), wrap_id (x := i + 1) (by omega) (by omega)]
  by_cases hq : i * f % n = p
  ·rw [if_pos hq, if_pos (by omega), ih k _ (i + 1) (by omega) (by omega) (by omega) (by simp; omega)]
   simp [numsD, hq]
  ·rw [if_neg hq, ih k l (i + 1) (by omega) (by omega) (by omega) (by omega)]
   simp [numsD, hq]
theorem taFixed_l0 (n f : Int) (h : tabOk n f = true) (d : Nat) : ∀ (k : Nat) (l : List Int) (i : Int), 0 ≤ i → i + d = n → d < k → (l.length : Int) + d ≤ 1000 →
  spec_taFixed.l0 k l (rowD n f 0 n.toNat) n i = some (l ++ numsD (fixB n f) i d) := by
 have hb := tabOk_true.1 h
 have hlen : ((rowD n f 0 n.toNat).length : Int) = n := by rw [rowD_len]; omega
 induction d with
 | zero =>
  intro k l i hi hd hk _
  obtain ⟨k, rfl⟩ : ∃ m, k = m + 1 := ⟨k - 1, by omega⟩
  rw [spec_taFixed.l0, if_neg (by omega)]
  simp [numsD]
 | succ d ih =>
  intro k l i hi hd hk hl
  obtain ⟨k, rfl⟩ : ∃ m, k = m + 1 := ⟨k - 1, by omega⟩
  rw [spec_taFixed.l0, if_pos (by omega), if_pos hi, if_pos (by omega), rd_row n f i hi (by omega), wrap_id (x := i + 1) (by omega) (by omega)]
  by_cases hq : i = i * f % n
  ·rw [if_pos hq, if_pos (by omega), ih k _ (i + 1) (by omega) (by omega) (by omega) (by simp; omega)]
   have hx : fixB n f i = true := by unfold fixB; rw [← hq]; simp
   simp [numsD, hx]
  ·rw [if_neg hq, ih k l (i + 1) (by omega) (by omega) (by omega) (by omega)]
   have hx : fixB n f i = false := by unfold fixB; exact beq_eq_false_iff_ne.mpr (fun e => hq e.symm)
   simp [numsD, hx]
theorem taFixed_f (n f : Int) (h : tabOk n f = true) (k : Nat) (hk : 61 ≤ k) : spec_taFixed.f k n f = some (numsW (fixB n f) 0 (n - 1)) := by
 have hb := tabOk_true.1 h
 unfold spec_taFixed.f
 rw [taRow_f n f h k hk]
 simp only [Option.bind_some]
 rw [show ((rowD n f 0 n.toNat).length : Int) = n by rw [rowD_len]; omega, taFixed_l0 n f h n.toNat k [] 0 (by omega) (by omega) (by omega) (by simp; omega), numsW_numsD]
 simp
theorem fixed_i (n f : Int) (h : tabOk n f = true) : impl_fixedPoints.f n f = some (numsW (fixB n f) 0 (n - 1)) := by
 have hb := tabOk_true.1 h
 unfold impl_fixedPoints.f
 rw [if_pos (by omega)]
theorem emod_pow (a n : Int) (m : Nat) : (a % n) ^ m % n = a ^ m % n := by
 induction m with
 | zero => simp
 | succ m ih => rw [Int.pow_succ, Int.pow_succ, Int.mul_emod, ih, Int.emod_emod_of_dvd _ (Int.dvd_refl n), ← Int.mul_emod]
theorem after_i (n f p : Int) (t : Nat) (h : tabOk n f = true) (hp : 0 ≤ p ∧ p < n) (d : Nat) : ∀ (k i : Nat) (q : Int), i + d = t → t ≤ 1000000 → d < k → q = p * f ^ i % n →
  impl_TimesAfter.l0 k n f q t i = some (p * f ^ t % n, true) := by
 have hb := tabOk_true.1 h
 induction d with
 | zero =>
  intro k i q hi ht hk hq
  obtain ⟨k, rfl⟩ : ∃ m, k = m + 1 := ⟨k - 1, by omega⟩
  rw [impl_TimesAfter.l0, if_neg (by omega), hq, show i = t by omega]
 | succ d ih =>
  intro k i q hi ht hk hq
  obtain ⟨k, rfl⟩ : ∃ m, k = m + 1 := ⟨k - 1, by omega⟩
  have h0 : 0 ≤ q := by rw [hq]; exact Int.emod_nonneg _ (by omega)
  have h1 : q < n := by rw [hq]; exact Int.emod_lt_of_pos _ (by omega)
  rw [impl_TimesAfter.l0, if_pos (by omega), if_neg (by omega), step_eq h h0 (by omega), wrap_id (x := (i : Int) + 1) (by omega) (by omega)]
  refine ih k (i + 1) _ (by omega) ht (by omega) ?_
  rw [hq, Int.pow_succ, ← Int.mul_assoc, Int.mul_emod, Int.emod_emod_of_dvd _ (Int.dvd_refl n), ← Int.mul_emod]
theorem after_s (n : Int) (hn : 3 ≤ n) (hn2 : n ≤ 60) (t : Nat) : ∀ (k : Nat) (q b : Int), t ≤ 1000000 → t < k → 0 ≤ q → q < n → 0 ≤ b → b < n →
  spec_TimesAfter.l0 k n q t b = some (q * b ^ t % n, true) := by
 induction t using Nat.strongRecOn with
 | _ t ih =>
  intro k q b ht hk h0 h1 h2 h3
  obtain ⟨k, rfl⟩ : ∃ m, k = m + 1 := ⟨k - 1, by omega⟩
  have hbb : 0 ≤ b * b := Int.mul_nonneg h2 h2
  have hbb2 : b * b ≤ 60 * 60 := Int.mul_le_mul (by omega) (by omega) h2 (by omega)
  have hqb : 0 ≤ q * b := Int.mul_nonneg h0 h2
  have hqb2 : q * b ≤ 60 * 60 := Int.mul_le_mul (by omega) (by omega) h2 (by omega)
  rw [spec_TimesAfter.l0]
  by_cases h : (t : Int) > 0
  ·have e1 : Int.tmod (t : Int) 2 = ((t % 2 : Nat) : Int) := rfl
   have e2 : Int.tdiv (t : Int) 2 = ((t / 2 : Nat) : Int) := rfl
   have s1 : Int.tmod (wrap64 (b * b)) n = b * b % n := by rw [wrap_id (by omega) (by omega), Int.tmod_eq_emod_of_nonneg hbb]
   have s2 : Int.tmod (wrap64 (q * b)) n = q * b % n := by rw [wrap_id (by omega) (by omega), Int.tmod_eq_emod_of_nonneg hqb]
   have sq : b * b = b ^ 2 := by rw [Int.pow_succ, Int.pow_succ, Int.pow_zero, Int.one_mul]
   rw [if_pos h, e1, e2, s1, s2, wrap_id (x := ((t / 2 : Nat) : Int)) (by omega) (by omega)]
   have r1 : 0 ≤ b * b % n := Int.emod_nonneg _ (by omega)
   have r2 : b * b % n < n := Int.emod_lt_of_pos _ (by omega)
   have r3 : 0 ≤ q * b % n := Int.emod_nonneg _ (by omega)
   have r4 : q * b % n < n := Int.emod_lt_of_pos _ (by omega)
   by_cases ho : ((t % 2 : Nat) : Int) = 1
   ·rw [if_pos ho, if_neg (by omega), ih (t / 2) (by omega) k _ _ (by omega) (by omega) r3 r4 r1 r2]
    have e : t = 2 * (t / 2) + 1 := by omega
    congr 2
    rw [Int.mul_emod, emod_pow, Int.emod_emod_of_dvd _ (Int.dvd_refl n), ← Int.mul_emod, sq, ← Int.pow_mul, Int.mul_assoc]
    conv => rhs; rw [e, Int.pow_succ, Int.mul_comm (b ^ (2 * (t / 2))) b]
   ·rw [if_neg ho, if_neg (by omega), ih (t / 2) (by omega) k _ _ (by omega) (by omega) h0 h1 r1 r2]
    have e : t = 2 * (t / 2) := by omega
    congr 2
    rw [Int.mul_emod, emod_pow, ← Int.mul_emod, sq, ← Int.pow_mul]
    conv => rhs; rw [e]
  ·have e : t = 0 := by omega
   subst e
   rw [if_neg h, Int.pow_zero, Int.mul_one, Int.emod_eq_of_lt h0 h1]
theorem gSame_l0 (l : List Int) (hl : (l.length : Int) ≤ 1000000) (d : Nat) : ∀ (k : Nat) (i : Int), 0 ≤ i → i + d = l.length → d < k → laws_gSame.l0 k l l (l.length : Int) i = some true := by
 induction d with
 | zero =>
  intro k i h0 hi hk
  obtain ⟨k, rfl⟩ : ∃ m, k = m + 1 := ⟨k - 1, by omega⟩
  rw [laws_gSame.l0, if_neg (by omega)]
 | succ d ih =>
  intro k i h0 hi hk
  obtain ⟨k, rfl⟩ : ∃ m, k = m + 1 := ⟨k - 1, by omega⟩
  rw [laws_gSame.l0, if_pos (show i < (l.length : Int) by omega), if_pos h0, if_pos (show i < (l.length : Int) by omega), if_pos (show i < (l.length : Int) by omega), if_pos rfl, wrap_id (by omega) (by omega)]
  exact ih k (i + 1) (by omega) (by omega) (by omega)
theorem gSame_self {l : List Int} (hl : (l.length : Int) ≤ 1000000) {k : Nat} (hk : l.length < k) : laws_gSame.f k l l = some true := by
 unfold laws_gSame.f
 rw [if_pos rfl]
 exact gSame_l0 l hl l.length k 0 (by omega) (by omega) hk
theorem gHas_l0 (l : List Int) (a : Int) (hl : (l.length : Int) ≤ 1000000) (d : Nat) : ∀ (k : Nat) (i : Int), 0 ≤ i → i + d = l.length → d < k → laws_gHas.l0 k a l (l.length : Int) i = some ((l.drop i.toNat).any fun x => x == a) := by
 induction d with
 | zero =>
  intro k i h0 hi hk
  obtain ⟨k, rfl⟩ : ∃ m, k = m + 1 := ⟨k - 1, by omega⟩
  rw [laws_gHas.l0, if_neg (by omega), List.drop_eq_nil_of_le (by omega)]; rfl
 | succ d ih =>
  intro k i h0 hi hk
  obtain ⟨k, rfl⟩ : ∃ m, k = m + 1 := ⟨k - 1, by omega⟩
  rw [laws_gHas.l0, if_pos (show i < (l.length : Int) by omega), if_pos h0, if_pos (show i < (l.length : Int) by omega), wrap_id (x := i + 1) (by omega) (by omega), List.drop_eq_getElem_cons (by omega), List.any_cons, ← rd_get h0 (by omega), show i.toNat + 1 = (i + 1).toNat by omega]
  by_cases h : rd l i = a
  ·rw [if_pos h, show (rd l i == a) = true by simpa using h]; rfl
  ·rw [if_neg h, ih k (i + 1) (by omega) (by omega) (by omega), show (rd l i == a) = false by simpa using h]; rfl
theorem gHas_f {l : List Int} (a : Int) (hl : (l.length : Int) ≤ 1000000) {k : Nat} (hk : l.length < k) : laws_gHas.f k l a = some (l.any fun x => x == a) := by
 unfold laws_gHas.f
 rw [gHas_l0 l a hl l.length k 0 (by omega) (by omega) hk]; simp
theorem gRises_l0 (l : List Int) (hl : (l.length : Int) ≤ 1000000) (hp : l.Pairwise (· < ·)) (d : Nat) : ∀ (k : Nat) (i : Int), 1 ≤ i → (l.length : Int) ≤ i + d → d < k → laws_gRises.l0 k l i = some true := by
 induction d with
 | zero =>
  intro k i h0 hi hk
  obtain ⟨k, rfl⟩ : ∃ m, k = m + 1 := ⟨k - 1, by omega⟩
  rw [laws_gRises.l0, if_neg (by omega)]
 | succ d ih =>
  intro k i h0 hi hk
  obtain ⟨k, rfl⟩ : ∃ m, k = m + 1 := ⟨k - 1, by omega⟩
  by_cases h : i < (l.length : Int)
  ·have := (List.pairwise_iff_getElem.1 hp) (i - 1).toNat i.toNat (by omega) (by omega) (by omega)
   rw [laws_gRises.l0, if_pos h, wrap_id (x := i - 1) (by omega) (by omega), if_pos (by omega), if_pos (by omega), if_pos (by omega), wrap_id (by omega) (by omega), rd_get (i := i - 1) (by omega) (by omega), rd_get (i := i) (by omega) (by omega), if_neg (by omega)]
   exact ih k (i + 1) (by omega) (by omega) (by omega)
  ·rw [laws_gRises.l0, if_neg h]
theorem gRises_f {l : List Int} (hl : (l.length : Int) ≤ 1000000) (hp : l.Pairwise (· < ·)) {k : Nat} (hk : l.length < k) : laws_gRises.f k l = some true := by
 unfold laws_gRises.f
 exact gRises_l0 l hl hp l.length k 1 (by omega) (by omega) hk
theorem numsW_mem {p : Int → Bool} {lo hi a : Int} (h : lo ≤ hi + 1) : a ∈ numsW p lo hi ↔ lo ≤ a ∧ a ≤ hi ∧ p a = true := by
 rw [numsW_numsD, numsD_mem]
 constructor
 ·rintro ⟨h1, h2, h3⟩; exact ⟨h1, by omega, h3⟩
 ·rintro ⟨h1, h2, h3⟩; exact ⟨h1, by omega, h3⟩
theorem u64w (x : Int) : 0 ≤ IntKind.u64.wrap x ∧ IntKind.u64.wrap x ≤ 18446744073709551615 := by
 have e : IntKind.u64.wrap x = x % 18446744073709551616 := rfl
 rw [e]; omega
theorem byte_and {x : Int} (h0 : 0 ≤ x) (h1 : x ≤ 18446744073709551615) : 0 ≤ Go.bits .and .u64 x 255 ∧ Go.bits .and .u64 x 255 ≤ 255 := by
 have h := Go.bits_and_u64_nat x.toNat 255 (by omega) (by omega)
 rw [Int.toNat_of_nonneg h0] at h
 have h2 : x.toNat &&& 255 ≤ 255 := Nat.and_le_right
 have h3 : Go.bits .and .u64 x 255 = ((x.toNat &&& 255 : Nat) : Int) := h
 rw [h3]; omega
/-- Bytes. -/
def Bytes (s : List Int) : Prop := (s.length : Int) ≤ 1048576 ∧ ∀ x ∈ s, 0 ≤ x ∧ x ≤ 255
theorem Bytes.at {s : List Int} (h : Bytes s) {i : Int} (h0 : 0 ≤ i) (h1 : i < s.length) : 0 ≤ rd s i ∧ rd s i ≤ 255 := by
 have : rd s i = s[i.toNat]'(by omega) := by
  simp [rd, List.getD_eq_getElem?_getD, List.getElem?_eq_getElem (show i.toNat < s.length by omega)]
 rw [this]; exact h.2 _ (List.getElem_mem _)
theorem Bytes.of {s : List Int} (hl : (s.length : Int) ≤ 1048576) (h : ∀ x ∈ s, (Lit.int .u8 x).wf = true) : Bytes s := by
 refine ⟨hl, fun x hx => ?_⟩
 have := h x hx
 have e0 : IntKind.u8.min = 0 := rfl
 have e1 : IntKind.u8.max = 255 := rfl
 simp [Lit.wf] at this
 omega
theorem next_tot {s : List Int} (hs : Bytes s) {a sd : Int} (h0 : 0 ≤ a) (h1 : a ≤ 1000000) : ∃ b sd', spec_l1Cur_next.f s a sd = some (b, a + 1, sd') ∧ 0 ≤ b ∧ b ≤ 255 := by
 unfold spec_l1Cur_next.f
 rw [wrap_id (x := a + 1) (by omega) (by omega)]
 by_cases h : a < (s.length : Int)
 ·have hr := hs.at h0 h
  rw [if_pos h, if_pos h0, if_pos (by omega), wrap_id (x := rd s a) (by omega) (by omega)]
  exact ⟨_, _, rfl, hr⟩
 ·rw [if_neg h, if_neg (by omega)]
  refine ⟨_, _, rfl, ?_⟩
  have hu := u64w (IntKind.u64.wrap (IntKind.u64.wrap (sd * 6364136223846793005)) + 1442695040888963407)
  have hb := byte_and (x := IntKind.u64.wrap (IntKind.u64.wrap (IntKind.u64.wrap (sd * 6364136223846793005)) + 1442695040888963407) / 1099511627776) (by omega) (by omega)
  rw [wrap_id (by omega) (by omega)]
  exact hb
theorem pick_tot {s : List Int} (hs : Bytes s) {a sd : Int} (n : Int) (h0 : 0 ≤ a) (h1 : a ≤ 900000) : ∃ v a' sd', spec_l1Cur_pick.f s a sd n = some (v, a', sd') ∧ a ≤ a' ∧ a' ≤ a + 2 ∧ 0 ≤ v ∧ (1 ≤ n → v < n) ∧ (n ≤ 1 → v = 0) := by
 unfold spec_l1Cur_pick.f
 by_cases h : n ≤ 1
 ·rw [if_pos h]; exact ⟨0, a, sd, rfl, by omega, by omega, by omega, by omega, fun _ => rfl⟩
 ·rw [if_neg h]
  obtain ⟨b, sd1, e1, b0, b1⟩ := next_tot hs (sd := sd) h0 (by omega)
  rw [e1]
  simp only [Option.bind_some]
  by_cases h2 : n > 200
  ·rw [if_pos h2]
   obtain ⟨c, sd2, e2, c0, c1⟩ := next_tot hs (a := a + 1) (sd := sd1) (by omega) (by omega)
   rw [e2]
   simp only [Option.bind_some]
   rw [if_neg (by omega), wrap_id (x := b * 256) (by omega) (by omega), wrap_id (x := b * 256 + c) (by omega) (by omega), Int.tmod_eq_emod_of_nonneg (by omega)]
   exact ⟨_, _, _, rfl, by omega, by omega, Int.emod_nonneg _ (by omega), fun _ => Int.emod_lt_of_pos _ (by omega), by omega⟩
  ·rw [if_neg h2, if_neg (by omega), Int.tmod_eq_emod_of_nonneg (by omega)]
   exact ⟨_, _, _, rfl, by omega, by omega, Int.emod_nonneg _ (by omega), fun _ => Int.emod_lt_of_pos _ (by omega), by omega⟩
theorem one_tot {s : List Int} (hs : Bytes s) {a sd : Int} (n : Int) (h0 : 0 ≤ a) (h1 : a ≤ 900000) : ∃ v a' sd', spec_l1Cur_one.f s a sd n = some (v, a', sd') ∧ a ≤ a' ∧ a' ≤ a + 2 := by
 unfold spec_l1Cur_one.f
 obtain ⟨v, a', sd', e, q1, q2, _⟩ := pick_tot hs (sd := sd) n h0 h1
 rw [e]
 exact ⟨_, _, _, rfl, q1, q2⟩
theorem among_tot {s : List Int} (hs : Bytes s) {a sd : Int} (l : List Int) (hl : 1 ≤ (l.length : Int)) (h0 : 0 ≤ a) (h1 : a ≤ 900000) : ∃ v a' sd', spec_l1Cur_among.f s a sd l = some (v, a', sd') ∧ a ≤ a' ∧ a' ≤ a + 2 := by
 unfold spec_l1Cur_among.f
 obtain ⟨v, a', sd', e, q1, q2, q3, q4, _⟩ := pick_tot hs (sd := sd) (l.length : Int) h0 h1
 rw [e]
 simp only [Option.bind_some]
 rw [if_pos q3, if_pos (q4 hl)]
 exact ⟨_, _, _, rfl, q1, q2⟩
theorem table_tot {s : List Int} (hs : Bytes s) {a sd : Int} (h0 : 0 ≤ a) (h1 : a ≤ 800000) : ∃ n m a' sd', spec_l1Cur_table.f s a sd = some (n, m, a', sd') ∧ a ≤ a' ∧ a' ≤ a + 6 := by
 unfold spec_l1Cur_table.f
 obtain ⟨v, a1, sd1, e, q1, q2⟩ := one_tot hs (sd := sd) 12 h0 (by omega)
 rw [e]
 simp only [Option.bind_some]
 by_cases h : v = true
 ·rw [if_pos h]
  obtain ⟨x, a2, sd2, e2, q3, q4⟩ := among_tot hs (a := a1) (sd := sd1) [(-1), 2, 3, 60, 61, 4611686018427387904] (by simp) (by omega) (by omega)
  rw [e2]
  simp only [Option.bind_some]
  obtain ⟨y, a3, sd3, e3, q5, q6⟩ := among_tot hs (a := a2) (sd := sd2) [(-1), 0, 1, 2, 3, 59, 60, 4611686018427387904] (by simp) (by omega) (by omega)
  rw [e3]
  exact ⟨_, _, a3, _, rfl, by omega, by omega⟩
 ·rw [if_neg h]
  obtain ⟨x, a2, sd2, e2, q3, q4, _⟩ := pick_tot hs (a := a1) (sd := sd1) 28 (by omega) (by omega)
  rw [e2]
  simp only [Option.bind_some]
  obtain ⟨y, a3, sd3, e3, q5, q6, _⟩ := pick_tot hs (a := a2) (sd := sd2) (wrap64 (3 + x)) (by omega) (by omega)
  rw [e3]
  exact ⟨_, _, a3, _, rfl, by omega, by omega⟩
theorem most_tot (a b : Int) : ∃ r, spec_l1Most.f a b = some r := by
 unfold spec_l1Most.f; split <;> exact ⟨_, rfl⟩
theorem least_tot (a b : Int) : ∃ r, spec_l1Least.f a b = some r := by
 unfold spec_l1Least.f; split <;> exact ⟨_, rfl⟩
theorem drawAfter {s : List Int} (hs : Bytes s) : ∃ n f p t, spec_DrawTimesAfter.f s = some (n, f, p, t) := by
 obtain ⟨n, m, a, sd, e, q1, q2⟩ := table_tot hs (a := 0) (sd := 0) (by omega) (by omega)
 obtain ⟨u, eu⟩ := most_tot 1 n
 obtain ⟨v, ev⟩ := least_tot 60 u
 obtain ⟨x, a1, sd1, e1, q3, q4, _⟩ := pick_tot hs (a := a) (sd := sd) v (by omega) (by omega)
 obtain ⟨y, a2, sd2, e2, q5, q6, _⟩ := pick_tot hs (a := a1) (sd := sd1) 9 (by omega) (by omega)
 obtain ⟨z, a3, sd3, e3, _⟩ := among_tot hs (a := a2) (sd := sd2) [0, 1, 2, 3, 7, 100, 1000000, 1000001, (-1)] (by simp) (by omega) (by omega)
 refine ⟨n, m, wrap64 (x - wrap64 (Int.tdiv y 8)), z, ?_⟩
 unfold spec_DrawTimesAfter.f spec_DrawTimesAfter_w.f
 simp only [e, eu, ev, e1, e2, e3, Option.bind_some]
theorem drawLead {s : List Int} (hs : Bytes s) : ∃ n f p, spec_DrawLeadOfPoint.f s = some (n, f, p) := by
 obtain ⟨n, m, a, sd, e, q1, q2⟩ := table_tot hs (a := 0) (sd := 0) (by omega) (by omega)
 obtain ⟨u, eu⟩ := most_tot 1 n
 obtain ⟨v, ev⟩ := least_tot 60 u
 obtain ⟨x, a1, sd1, e1, q3, q4, _⟩ := pick_tot hs (a := a) (sd := sd) v (by omega) (by omega)
 obtain ⟨y, a2, sd2, e2, q5, q6, _⟩ := pick_tot hs (a := a1) (sd := sd1) 9 (by omega) (by omega)
 refine ⟨n, m, wrap64 (x - wrap64 (Int.tdiv y 8)), ?_⟩
 unfold spec_DrawLeadOfPoint.f spec_DrawTimesPoint.f spec_DrawTimesPoint_w.f
 simp only [e, eu, ev, e1, e2, Option.bind_some]
theorem afterI {n f p : Int} (h : tabOk n f = true) (h0 : 0 ≤ p) (h1 : p < n) (t : Nat) (ht : t ≤ 1000000) {k : Nat} (hk : t + 2 ≤ k) : impl_TimesAfter.f k n f p t = some (p * f ^ t % n, true) := by
 have hb := tabOk_true.1 h
 obtain ⟨k, rfl⟩ : ∃ m, k = m + 1 := ⟨k - 1, by omega⟩
 have hp : inR p 0 (n - 1) = true := inR_true.2 (by omega)
 have hti : inR (t : Int) 0 1000000 = true := inR_true.2 (by omega)
 unfold impl_TimesAfter.f
 rw [isTable_one, h, hp]
 simp only [Option.bind_some, Bool.and_self, if_true, within_eq, hti, Bool.not_true]
 rw [impl_TimesAfter.j0, if_neg (by decide)]
 rw [show (0 : Int) = ((0 : Nat) : Int) from rfl, after_i n f p t h (by omega) t k 0 p (by omega) (by omega) (by omega) (by rw [Int.pow_zero, Int.mul_one, Int.emod_eq_of_lt (by omega) (by omega)])]
theorem pointI {n f p : Int} (h : tabOk n f = true) (h0 : 0 ≤ p) (h1 : p < n) {k : Nat} (hk : 3 ≤ k) : impl_TimesPoint.f k n f p = some (p * f % n, true) := by
 have h2 := afterI h h0 h1 1 (by omega) (k := k) (by omega)
 unfold impl_TimesPoint.f
 rw [show (1 : Int) = ((1 : Nat) : Int) from rfl, h2]
 simp only [Option.bind_some]
 rw [Int.pow_succ, Int.pow_zero, Int.one_mul]
theorem afterE (n f p t : Int) {k : Nat} (hk : 1000011 ≤ k) : ∃ r : Int × Bool, impl_TimesAfter.f k n f p t = some r ∧ spec_TimesAfter.f k n f p t = some r ∧ (r.2 = true → tabOk n f = true ∧ 0 ≤ p ∧ p < n ∧ 0 ≤ t ∧ t ≤ 1000000 ∧ r.1 = p * f ^ t.toNat % n) := by
 obtain ⟨k, rfl⟩ : ∃ m, k = m + 1 := ⟨k - 1, by omega⟩
 unfold spec_TimesAfter.f impl_TimesAfter.f
 rw [taAsked_eq, isTable_one]
 by_cases h : (tabOk n f && inR p 0 (n - 1)) = true
 ·have hb := h
  rw [Bool.and_eq_true] at hb
  obtain ⟨h1, h2⟩ := hb
  have hb := tabOk_true.1 h1
  have hp := inR_true.1 h2
  simp only [h, Option.bind_some, if_true, within_eq, l1In_eq]
  by_cases ht : inR t 0 1000000 = true
  ·have hb2 := inR_true.1 ht
   obtain ⟨t, rfl⟩ := Int.eq_ofNat_of_zero_le hb2.1
   rw [ht]
   simp only [Bool.not_true]
   rw [spec_TimesAfter.j0, impl_TimesAfter.j0, if_neg (by decide), if_neg (by decide)]
   rw [after_s n (by omega) (by omega) t _ p f (by omega) (by omega) (by omega) (by omega) (by omega) (by omega)]
   rw [show (0 : Int) = ((0 : Nat) : Int) from rfl, after_i n f p t h1 (by omega) t _ 0 p (by omega) (by omega) (by omega) (by rw [Int.pow_zero, Int.mul_one, Int.emod_eq_of_lt (by omega) (by omega)])]
   exact ⟨_, rfl, rfl, fun _ => ⟨h1, hp.1, by omega, by omega, by omega, rfl⟩⟩
  ·simp only [Bool.not_eq_true] at ht
   rw [ht]
   simp only [Bool.not_false]
   rw [spec_TimesAfter.j0, impl_TimesAfter.j0, if_pos rfl, if_pos rfl]
   exact ⟨_, rfl, rfl, fun h => by cases h⟩
 ·simp only [h, Option.bind_some, if_false, Bool.false_eq_true]
  rw [spec_TimesAfter.j0, impl_TimesAfter.j0, if_pos rfl, if_pos rfl]
  exact ⟨_, rfl, rfl, fun h => by cases h⟩
theorem lea_l0 {s : List Int} (hj : ∀ k, 30000 ≤ k → laws_FnTablesLead.j2 k s = some true) {n f p : Int} (h : tabOk n f = true) (h0 : 0 ≤ p) (h1 : p < n) (t : Nat) (ht : t ≤ 100) (d : Nat) : ∀ (k i : Nat) (q : Int), i + d = t → d + 30001 ≤ k → q = p * f ^ i % n →
  laws_FnTablesLead.l0 k s n f t (p * f ^ t % n) q i = some true := by
 have hb := tabOk_true.1 h
 induction d with
 | zero =>
  intro k i q hi hk hq
  obtain ⟨k, rfl⟩ : ∃ m, k = m + 1 := ⟨k - 1, by omega⟩
  have e : i = t := by omega
  subst e
  rw [laws_FnTablesLead.l0, if_neg (by omega), if_pos hq]
  exact hj k (by omega)
 | succ d ih =>
  intro k i q hi hk hq
  obtain ⟨k, rfl⟩ : ∃ m, k = m + 1 := ⟨k - 1, by omega⟩
  have q0 : 0 ≤ q := by rw [hq]; exact Int.emod_nonneg _ (by omega)
  have q1 : q < n := by rw [hq]; exact Int.emod_lt_of_pos _ (by omega)
  rw [laws_FnTablesLead.l0, if_pos (by omega), pointI h q0 q1 (by omega)]
  simp only [Option.bind_some, if_true]
  rw [wrap_id (x := (i : Int) + 1) (by omega) (by omega)]
  refine ih k (i + 1) _ (by omega) (by omega) ?_
  rw [hq, Int.pow_succ, ← Int.mul_assoc, Int.mul_emod, Int.emod_emod_of_dvd _ (Int.dvd_refl n), ← Int.mul_emod]
/-- A cycle of a table. -/
structure CycOk (n f : Int) (c : List Int) : Prop where
 pos : 0 < c.length
 le : (c.length : Int) ≤ 60
 head : ∀ q ∈ c, c.getD 0 0 ≤ q
 bd : ∀ q ∈ c, 0 ≤ q ∧ q < n
 step : ∀ j : Nat, j < c.length → c.getD j 0 * f % n = c.getD ((j + 1) % c.length) 0
theorem cyc_ok {n f : Int} (h : tabOk n f = true) {c : List Int} (hc : c ∈ cycL n f 0 n.toNat) : CycOk n f c := by
 have hb := tabOk_true.1 h
 obtain ⟨p, p0, p1, hh, rfl⟩ := (cycL_mem n.toNat 0).1 hc
 have p2 : p < n := by omega
 obtain ⟨i0, hmin⟩ := headB_true.1 hh
 have hw := (way_f h p0 p2).1
 rw [i0] at hw
 refine ⟨hw.lt, by have := hw.le; omega, ?_, ?_, ?_⟩
 ·intro q hq; rw [way_zero h p0 p2]; exact hmin q hq
 ·intro q hq
  obtain ⟨j, _, rfl⟩ := hw.mem.1 hq
  exact itP_bd (by omega) f p j
 ·intro j hj
  rw [hw.at_ j hj, ← itP_succ]
  rcases Nat.lt_or_ge (j + 1) (wayL n f p).length with h1 | h1
  ·rw [Nat.mod_eq_of_lt h1, hw.at_ _ h1]
  ·have e : j + 1 = (wayL n f p).length := by omega
   rw [e, Nat.mod_self, hw.at_ 0 hw.lt, hw.close]
theorem rdL_get {l : List (List Int)} {i : Int} (h0 : 0 ≤ i) (h1 : i < (l.length : Int)) : rd_L3 l i = l[i.toNat]'(by omega) := by
 simp [rd_L3, List.getD_eq_getElem?_getD, List.getElem?_eq_getElem (show i.toNat < l.length by omega)]
theorem lea_l3 {n f : Int} (h : tabOk n f = true) {c : List Int} (hc : CycOk n f c) (F : List Int) (C X : List (List Int)) (D on sg i L : Int) (hi : 0 ≤ i ∧ i ≤ 1000) (K : Nat)
  (hn : ∀ k, K ≤ k → laws_FnTablesLead.l2 k n (rowD n f 0 n.toNat) F C D on sg X L (i + 1) = some true) (d : Nat) : ∀ (k : Nat) (j : Int), 0 ≤ j → j + d = c.length → d + K < k →
  laws_FnTablesLead.l3 k n (rowD n f 0 n.toNat) F C D on sg c X L i c (c.length : Int) j = some true := by
 have hb := tabOk_true.1 h
 have hlen := rowD_len n f 0 n.toNat
 have h1 := hc.pos
 have h2 := hc.le
 induction d with
 | zero =>
  intro k j h0 hj hk
  obtain ⟨k, rfl⟩ : ∃ m, k = m + 1 := ⟨k - 1, by omega⟩
  rw [laws_FnTablesLead.l3, if_neg (by omega), wrap_id (by omega) (by omega)]
  exact hn k (by omega)
 | succ d ih =>
  intro k j h0 hj hk
  obtain ⟨k, rfl⟩ : ∃ m, k = m + 1 := ⟨k - 1, by omega⟩
  have hm : rd c j ∈ c := by rw [rd_get h0 (by omega)]; exact List.getElem_mem _
  have hbd := hc.bd _ hm
  have hhd : rd c 0 ≤ rd c j := hc.head _ hm
  have hst := hc.step j.toNat (by omega)
  have em : Int.tmod (j + 1) (c.length : Int) = (((j.toNat + 1) % c.length : Nat) : Int) := by
   rw [show j + 1 = ((j.toNat + 1 : Nat) : Int) by omega]; rfl
  have hmod := Nat.mod_lt (j.toNat + 1) h1
  have e2 : rd (rowD n f 0 n.toNat) (rd c j) = rd c (((j.toNat + 1) % c.length : Nat) : Int) := by
   rw [rd_row n f _ hbd.1 hbd.2]; exact hst
  rw [laws_FnTablesLead.l3, if_pos (show j < (c.length : Int) by omega), if_pos h0, if_pos (show j < (c.length : Int) by omega), if_pos (show (0 : Int) < (c.length : Int) by omega), if_neg (Int.not_lt.2 hhd), if_pos hbd.1,
   if_pos (show rd c j < ((rowD n f 0 n.toNat).length : Int) by omega), if_neg (show ¬ (c.length : Int) = 0 by omega), wrap_id (x := j + 1) (by omega) (by omega), em, if_pos (by omega), if_pos (by omega), if_pos e2]
  exact ih k (j + 1) (by omega) (by omega) (by omega)
theorem lea_l2 {n f : Int} (h : tabOk n f = true) {F : List Int} {D T : Int} {C : List (List Int)} (hc : ∀ c ∈ C, CycOk n f c) (hup : C.Pairwise (fun a b => a.getD 0 0 < b.getD 0 0)) (hl : (C.length : Int) ≤ 60) (hT : ((T == n) != (D == 0)) = false) (d : Nat) :
  ∀ (k : Nat) (i on sg : Int), 0 ≤ i → i + d = C.length → 0 ≤ on → on ≤ 60 * i → 0 ≤ sg → sg ≤ i → on + ((((C.drop i.toNat).map List.length).sum : Nat) : Int) = T → sg + (((C.drop i.toNat).countP fun c => c.length == 1 : Nat) : Int) = F.length → 200 * d + 10 ≤ k →
  laws_FnTablesLead.l2 k n (rowD n f 0 n.toNat) F C D on sg C (C.length : Int) i = some true := by
 induction d with
 | zero =>
  intro k i on sg h0 hi o0 o1 s0 s1 hon hsg hk
  obtain ⟨k, rfl⟩ : ∃ m, k = m + 1 := ⟨k - 1, by omega⟩
  rw [List.drop_eq_nil_of_le (by omega)] at hon hsg
  simp only [List.map_nil, List.sum_nil, List.countP_nil] at hon hsg
  rw [laws_FnTablesLead.l2, if_neg (by omega), if_pos (by omega), show on = T by omega, hT]
  rfl
 | succ d ih =>
  intro k i on sg h0 hi o0 o1 s0 s1 hon hsg hk
  obtain ⟨k, rfl⟩ : ∃ m, k = m + 1 := ⟨k - 1, by omega⟩
  have hg := rdL_get (l := C) h0 (by omega)
  have hm : rd_L3 C i ∈ C := by rw [hg]; exact List.getElem_mem _
  have hok := hc _ hm
  have p1 := hok.pos
  have p2 := hok.le
  have ec : C.drop i.toNat = rd_L3 C i :: C.drop (i + 1).toNat := by
   rw [List.drop_eq_getElem_cons (show i.toNat < C.length by omega), hg, show i.toNat + 1 = (i + 1).toNat by omega]
  rw [ec] at hon hsg
  simp only [List.map_cons, List.sum_cons, List.countP_cons] at hon hsg
  have hl3 : ∀ sg', 0 ≤ sg' → sg' ≤ i + 1 → sg' + (((C.drop (i + 1).toNat).countP fun c => c.length == 1 : Nat) : Int) = F.length →
    laws_FnTablesLead.l3 k n (rowD n f 0 n.toNat) F C D (on + ((rd_L3 C i).length : Int)) sg' (rd_L3 C i) C (C.length : Int) i (rd_L3 C i) ((rd_L3 C i).length : Int) 0 = some true := fun sg' a1 a2 a3 =>
   lea_l3 h hok F C C D _ sg' i _ (by omega) (200 * d + 10) (fun k' hk' => ih k' (i + 1) _ sg' (by omega) (by omega) (by omega) (by omega) a1 a2 (by omega) a3 hk') (rd_L3 C i).length k 0 (by omega) (by omega) (by omega)
  have hprev : i > 0 → 0 < ((rd_L3 C (i - 1)).length : Int) ∧ rd (rd_L3 C (i - 1)) 0 < rd (rd_L3 C i) 0 := by
   intro hi0
   have hg1 := rdL_get (l := C) (i := i - 1) (by omega) (by omega)
   have hlt := List.pairwise_iff_getElem.1 hup (i - 1).toNat i.toNat (by omega) (by omega) (by omega)
   rw [← hg, ← hg1] at hlt
   have hq := (hc (rd_L3 C (i - 1)) (by rw [hg1]; exact List.getElem_mem _)).pos
   exact ⟨by omega, hlt⟩
  rw [laws_FnTablesLead.l2, if_pos (show i < (C.length : Int) by omega), if_pos h0, if_pos (show i < (C.length : Int) by omega), wrap_id (x := on + _) (by omega) (by omega), wrap_id (x := sg + 1) (by omega) (by omega), wrap_id (x := i - 1) (by omega) (by omega)]
  by_cases h1 : ((rd_L3 C i).length : Int) = 1
  ·have hq : ((rd_L3 C i).length == 1) = true := by rw [beq_iff_eq]; omega
   rw [if_pos hq] at hsg
   have hfin := hl3 (sg + 1) (by omega) (by omega) (by omega)
   rw [if_pos h1, if_neg (by omega)]
   by_cases hi0 : i > 0
   ·obtain ⟨a1, a2⟩ := hprev hi0
    rw [if_pos hi0, if_pos (by omega), if_pos (by omega), if_pos a1, if_pos (by omega), if_neg (Int.not_le.2 a2)]
    exact hfin
   ·rw [if_neg hi0]; exact hfin
  ·have hq : ¬ ((rd_L3 C i).length == 1) = true := by rw [beq_iff_eq]; omega
   rw [if_neg hq] at hsg
   have hfin := hl3 sg (by omega) (by omega) (by omega)
   rw [if_neg h1, if_neg (by omega)]
   by_cases hi0 : i > 0
   ·obtain ⟨a1, a2⟩ := hprev hi0
    rw [if_pos hi0, if_pos (by omega), if_pos (by omega), if_pos a1, if_pos (by omega), if_neg (Int.not_le.2 a2)]
    exact hfin
   ·rw [if_neg hi0]; exact hfin
theorem lea_j5 {n f : Int} (h : tabOk n f = true) {H : List Int} (hH : H.Pairwise (· < ·)) (hHl : (H.length : Int) ≤ 60) : ∀ k, 13000 ≤ k →
  laws_FnTablesLead.j5 k n (rowD n f 0 n.toNat) true (numsW (fixB n f) 0 (n - 1)) (cycL n f 0 n.toNat) (depD n f 0 0 n.toNat) H = some true := by
 intro k hk
 obtain ⟨k, rfl⟩ : ∃ m, k = m + 1 := ⟨k - 1, by omega⟩
 have hb := tabOk_true.1 h
 have hlen := rowD_len n f 0 n.toNat
 have hF := numsW_len (fixB n f) 0 (n - 1)
 have hFr : (numsW (fixB n f) 0 (n - 1)).Pairwise (· < ·) := by rw [numsW_numsD]; exact numsD_rises _ _ _
 have hCl := cycL_len n f n.toNat 0
 have hon := all_on h
 have hsg := cycL_single h n.toNat 0 (by omega) (by omega)
 have hd := depth_none h
 have hT : (((((cycL n f 0 n.toNat).map List.length).sum : Nat) : Int) == n) = (depD n f 0 0 n.toNat == 0) := by
  rw [Bool.eq_iff_iff, beq_iff_eq, beq_iff_eq, hd, ← hon]
  omega
 rw [laws_FnTablesLead.j5, if_pos rfl, if_pos (by omega), gRises_f (by omega) hFr (by omega)]
 simp only [Option.bind_some, if_true]
 rw [gRises_f (by omega) hH (by omega)]
 simp only [Option.bind_some, if_true]
 refine lea_l2 h (T := ((((cycL n f 0 n.toNat).map List.length).sum : Nat) : Int)) (fun c hc => cyc_ok h hc) (cycL_up h n.toNat 0 (by omega) (by omega)) (by omega) (by rw [hT]; simp) (cycL n f 0 n.toNat).length k 0 0 0 (by omega) (by omega) (by omega) (by omega) (by omega) (by omega) ?_ ?_ (by omega)
 ·rw [Int.toNat_zero, List.drop_zero]; omega
 ·rw [Int.toNat_zero, List.drop_zero, hsg, numsW_numsD, show (n - 1 + 1 - 0).toNat = n.toNat by omega]; omega
theorem any_mem (l : List Int) (p : Int) : (l.any fun x => x == p) = decide (p ∈ l) := by
 rw [Bool.eq_iff_iff, List.any_eq_true, decide_eq_true_iff]
 constructor
 ·rintro ⟨x, hx, e⟩
  obtain rfl := beq_iff_eq.1 e
  exact hx
 ·intro hp; exact ⟨p, hp, by simp⟩
theorem lea_l1 {n f p I L : Int} {LN F R H : List Int} {C : List (List Int)} {D : Int} (h : tabOk n f = true) (h0 : 0 ≤ p) (h1 : p < n) (hR : R = rowD n f 0 n.toNat) (hLn : (LN.length : Int) ≤ 60) (hF : (F.length : Int) ≤ 60) (hH : (H.length : Int) ≤ 60)
  (hm : ∀ q ∈ LN, 0 ≤ q ∧ q < n ∧ q * f % n = p) (hHp : decide ((LN.length : Int) > 0) = decide (p ∈ H)) (hFp : p ∈ F ↔ p * f % n = p) (hfx : p ∈ F → I = 0 ∧ L = 1) (K : Nat) (hK : 100 ≤ K) (hj : ∀ k, K ≤ k → laws_FnTablesLead.j5 k n R true F C D H = some true) (d : Nat) :
  ∀ (k : Nat) (i : Int), 0 ≤ i → i + d = LN.length → d + K < k → laws_FnTablesLead.l1 k n p I L LN R true F C D H LN (LN.length : Int) i = some true := by
 have hb := tabOk_true.1 h
 have hlen := rowD_len n f 0 n.toNat
 have hRl : (R.length : Int) = n := by rw [hR]; omega
 induction d with
 | zero =>
  intro k i hi hd hk
  obtain ⟨k, rfl⟩ : ∃ m, k = m + 1 := ⟨k - 1, by omega⟩
  rw [laws_FnTablesLead.l1, if_neg (by omega), gHas_f p (by omega) (by omega), any_mem]
  simp only [Option.bind_some]
  rw [hHp, gHas_f p (by omega) (by omega), any_mem]
  simp only [Option.bind_some, bne_self_eq_false, Bool.false_eq_true, if_false]
  have e : decide (p ∈ F) = (rd R p == p) := by
   rw [hR, rd_row n f p h0 h1, Bool.eq_iff_iff, decide_eq_true_iff, beq_iff_eq]; exact hFp
  rw [if_pos h0, if_pos (by omega), e]
  simp only [bne_self_eq_false, Bool.false_eq_true, if_false]
  rw [← e]
  by_cases hq : p ∈ F
  ·obtain ⟨i0, l1⟩ := hfx hq
   rw [decide_eq_true hq, if_pos rfl, if_pos i0, if_pos l1]
   exact hj k (by omega)
  ·rw [decide_eq_false hq, if_neg (by decide)]
   exact hj k (by omega)
 | succ d ih =>
  intro k i hi hd hk
  obtain ⟨k, rfl⟩ : ∃ m, k = m + 1 := ⟨k - 1, by omega⟩
  have hmm : rd LN i ∈ LN := by rw [rd_get hi (by omega)]; exact List.getElem_mem _
  obtain ⟨q0, q1, q2⟩ := hm _ hmm
  have e : rd R (rd LN i) = p := by rw [hR, rd_row n f _ q0 q1]; exact q2
  rw [laws_FnTablesLead.l1, if_pos (show i < (LN.length : Int) by omega), if_pos hi, if_pos (show i < (LN.length : Int) by omega), if_pos q0, if_pos (by omega), if_pos e, wrap_id (by omega) (by omega)]
  exact ih k (i + 1) (by omega) (by omega) (by omega)
theorem gRows_l0 (l : List (List Int)) (hl : (l.length : Int) ≤ 1000) (hx : ∀ x ∈ l, (x.length : Int) ≤ 100) (d : Nat) : ∀ (k : Nat) (i : Int), 0 ≤ i → i + d = l.length → d + 101 < k → laws_gRows.l0 k l l (l.length : Int) i = some true := by
 induction d with
 | zero =>
  intro k i h0 hi hk
  obtain ⟨k, rfl⟩ : ∃ m, k = m + 1 := ⟨k - 1, by omega⟩
  rw [laws_gRows.l0, if_neg (by omega)]
 | succ d ih =>
  intro k i h0 hi hk
  obtain ⟨k, rfl⟩ : ∃ m, k = m + 1 := ⟨k - 1, by omega⟩
  have hm : rd_L3 l i ∈ l := by rw [rdL_get h0 (by omega)]; exact List.getElem_mem _
  have h1 := hx _ hm
  rw [laws_gRows.l0, if_pos (show i < (l.length : Int) by omega), if_pos h0, if_pos (show i < (l.length : Int) by omega), if_pos (show i < (l.length : Int) by omega), gSame_self (by omega) (by omega)]
  simp only [Option.bind_some, if_true]
  rw [wrap_id (by omega) (by omega)]
  exact ih k (i + 1) (by omega) (by omega) (by omega)
theorem gRows_self {l : List (List Int)} (hl : (l.length : Int) ≤ 1000) (hx : ∀ x ∈ l, (x.length : Int) ≤ 100) {k : Nat} (hk : 1200 ≤ k) : laws_gRows.f k l l = some true := by
 unfold laws_gRows.f
 rw [if_pos rfl]
 exact gRows_l0 l hl hx l.length k 0 (by omega) (by omega) (by omega)
/-- The points to which a line leads. -/
def hitL (n f : Int) : List Int := numsD (fun x => (rowD n f 0 n.toNat).any fun y => y == x) 0 n.toNat
theorem hitE {n f : Int} (h : tabOk n f = true) {k : Nat} (hk : 300 ≤ k) : impl_PointsHit.f k n f = some (hitL n f, true) ∧ spec_PointsHit.f k n f = some (hitL n f, true) := by
 have hb := tabOk_true.1 h
 have hl := rowD_len n f 0 n.toNat
 constructor
 ·unfold impl_PointsHit.f impl_timesRow.f slices_Sort_int_int.f slices_Compact_int_int.f
  rw [isTable_nil, h]
  simp only [Option.bind_some, if_true]
  rw [timesRow_l0 n f h n.toNat k [] 0 (by omega) (by omega) (by omega) (by simp; omega)]
  simp only [List.nil_append, Option.bind_some]
  rw [if_pos (by omega)]
  simp only [Option.bind_some]
  congr 2
  obtain ⟨h1, h2⟩ := compact_sorted (rowD n f 0 n.toNat)
  refine asc_ext h1 (numsD_rises _ _ _) fun x => ?_
  rw [h2]
  unfold hitL
  rw [numsD_mem]
  constructor
  ·intro hx
   have := rowD_bd h hx
   exact ⟨by omega, by omega, List.any_eq_true.2 ⟨x, hx, by simp⟩⟩
  ·rintro ⟨_, _, hx⟩
   obtain ⟨y, hy, e⟩ := List.any_eq_true.1 hx
   have : y = x := by simpa using e
   subst this; exact hy
 ·unfold spec_PointsHit.f
  rw [taGood_eq, h]
  simp only [Option.bind_some, if_true]
  rw [taRow_f n f h k (by omega)]
  simp only [Option.bind_some]
  rw [hit_l0 n _ (by omega) (by omega) n.toNat k [] 0 (by omega) (by omega) (by omega) (by simp; omega)]
  simp [hitL]
theorem lea_j2 {s : List Int} (hs : Bytes s) : ∀ k, 30000 ≤ k → laws_FnTablesLead.j2 k s = some true := by
 intro k hk
 obtain ⟨k, rfl⟩ : ∃ m, k = m + 1 := ⟨k - 1, by omega⟩
 obtain ⟨n, f, p, e⟩ := drawLead hs
 rw [laws_FnTablesLead.j2, e]
 simp only [Option.bind_some]
 by_cases h : tabOk n f = true
 ·have hb := tabOk_true.1 h
  have hlen := rowD_len n f 0 n.toNat
  have hF := numsW_len (fixB n f) 0 (n - 1)
  have hCl := cycL_len n f n.toNat 0
  have hHl : (hitL n f).length ≤ n.toNat := numsD_len _ _ _
  have hHr : (hitL n f).Pairwise (· < ·) := numsD_rises _ _ _
  have r1 : impl_TimesRow.f k n f = some (rowD n f 0 n.toNat, true) := by
   unfold impl_TimesRow.f impl_timesRow.f
   rw [isTable_nil, h]
   simp only [Option.bind_some, if_true]
   rw [timesRow_l0 n f h n.toNat k [] 0 (by omega) (by omega) (by omega) (by simp; omega)]
   simp
  have r2 : spec_TimesRow.f k n f = some (rowD n f 0 n.toNat, true) := by
   unfold spec_TimesRow.f
   rw [taGood_eq, h]
   simp only [Option.bind_some, if_true, taRow_f n f h k (by omega)]
  have r3 : impl_FixedPoints.f n f = some (numsW (fixB n f) 0 (n - 1), true) := by
   unfold impl_FixedPoints.f
   rw [isTable_nil, h]
   simp only [Option.bind_some, if_true, fixed_i n f h]
  have r4 : spec_FixedPoints.f k n f = some (numsW (fixB n f) 0 (n - 1), true) := by
   unfold spec_FixedPoints.f
   rw [taGood_eq, h]
   simp only [Option.bind_some, if_true, taFixed_f n f h k (by omega)]
  obtain ⟨c1, c2⟩ := cyc_way h n.toNat k [] 0 (by omega) (by omega) (by simp) (by omega)
  have r5 : impl_CyclesOfTable.f k n f = some (cycL n f 0 n.toNat, true) := by
   unfold impl_CyclesOfTable.f
   rw [isTable_nil, h]
   simp only [Option.bind_some, if_true]
   rw [if_pos (by omega), c2 k (by omega)]
   simp
  have r6 : spec_CyclesOfTable.f k n f = some (cycL n f 0 n.toNat, true) := by
   unfold spec_CyclesOfTable.f
   rw [taGood_eq, h]
   simp only [Option.bind_some, if_true]
   rw [c1]
   simp
  obtain ⟨d1, d2⟩ := depth_way h n.toNat k 0 0 (by omega) (by omega) (by omega)
  have r7 : impl_DepthOfTable.f k n f = some (depD n f 0 0 n.toNat, true) := by
   unfold impl_DepthOfTable.f
   rw [isTable_nil, h]
   simp only [Option.bind_some, if_true]
   exact d2
  have r8 : spec_DepthOfTable.f k n f = some (depD n f 0 0 n.toNat, true) := by
   unfold spec_DepthOfTable.f
   rw [taGood_eq, h]
   simp only [Option.bind_some, if_true]
   exact d1
  obtain ⟨r9, r10⟩ := hitE h (k := k) (by omega)
  have hcl : ∀ x ∈ cycL n f 0 n.toNat, (x.length : Int) ≤ 100 := fun x hx => by have := (cyc_ok h hx).le; omega
  have g1 : laws_gSame.f k (rowD n f 0 n.toNat) (rowD n f 0 n.toNat) = some true := gSame_self (by omega) (by omega)
  have g2 : laws_gSame.f k (numsW (fixB n f) 0 (n - 1)) (numsW (fixB n f) 0 (n - 1)) = some true := gSame_self (by omega) (by omega)
  have g3 : laws_gRows.f k (cycL n f 0 n.toNat) (cycL n f 0 n.toNat) = some true := gRows_self (by omega) hcl (by omega)
  have g4 : laws_gSame.f k (hitL n f) (hitL n f) = some true := gSame_self (by omega) (by omega)
  have hj5 := fun k hk => lea_j5 h hHr (by omega) k hk
  by_cases hp : inR p 0 (n - 1) = true
  ·have hpb := inR_true.1 hp
   obtain ⟨hw, hwf⟩ := way_f h hpb.1 (show p < n by omega)
   obtain ⟨w1, w2⟩ := hwf k (by omega)
   have wlt := hw.lt
   have wle := hw.le
   have hdrop : ((wayL n f p).drop (wayI n f p)).length = (wayL n f p).length - wayI n f p := List.length_drop
   have s1 : impl_LeadOfPoint.f k n f p = some ((wayI n f p : Int), (((wayL n f p).length - wayI n f p : Nat) : Int), true) := by
    unfold impl_LeadOfPoint.f
    rw [isTable_one, h, hp]
    simp only [Option.bind_some, Bool.and_self, if_true, w2, hdrop]
   have s2 : spec_LeadOfPoint.f k n f p = some ((wayI n f p : Int), (((wayL n f p).length - wayI n f p : Nat) : Int), true) := by
    unfold spec_LeadOfPoint.f
    rw [taAsked_eq, h, hp]
    simp only [Option.bind_some, Bool.and_self, if_true, w1]
    rw [wrap_id (by omega) (by omega), Int.ofNat_sub (by omega)]
   have s3 : impl_LinesTo.f n f p = some (numsW (fun x => x * f % n == p) 0 (n - 1), true) := by
    unfold impl_LinesTo.f
    rw [if_pos (show (inR n 3 60 && inR f 0 (n - 1) && inR p 0 (n - 1)) = true by rw [show (inR n 3 60 && inR f 0 (n - 1)) = tabOk n f from rfl, h, hp]; rfl)]
   have s4 : spec_LinesTo.f k n f p = some (numsW (fun x => x * f % n == p) 0 (n - 1), true) := by
    unfold spec_LinesTo.f
    rw [taAsked_eq, h, hp]
    simp only [Option.bind_some, Bool.and_self, if_true, taRow_f n f h k (by omega)]
    rw [show ((rowD n f 0 n.toNat).length : Int) = n by rw [rowD_len]; omega, lines_l0 n f p h n.toNat k [] 0 (by omega) (by omega) (by omega) (by simp; omega), numsW_numsD]
    simp
   have hLl := numsW_len (fun x => x * f % n == p) 0 (n - 1)
   have hLr : (numsW (fun x => x * f % n == p) 0 (n - 1)).Pairwise (· < ·) := by rw [numsW_numsD]; exact numsD_rises _ _ _
   have hLm : ∀ q, q ∈ numsW (fun x => x * f % n == p) 0 (n - 1) ↔ 0 ≤ q ∧ q ≤ n - 1 ∧ q * f % n = p := fun q => by
    rw [numsW_mem (by omega), beq_iff_eq]
   have hFm : p ∈ numsW (fixB n f) 0 (n - 1) ↔ p * f % n = p := by
    rw [numsW_mem (by omega)]
    unfold fixB
    rw [beq_iff_eq]
    exact ⟨fun h => h.2.2, fun h => ⟨by omega, by omega, h⟩⟩
   have hHm : p ∈ hitL n f ↔ ∃ q, 0 ≤ q ∧ q ≤ n - 1 ∧ q * f % n = p := by
    unfold hitL
    rw [numsD_mem, any_mem, decide_eq_true_iff]
    constructor
    ·rintro ⟨_, _, hm⟩
     obtain ⟨j, hj, e⟩ := List.getElem_of_mem hm
     refine ⟨(j : Int), by omega, by omega, ?_⟩
     rw [← rd_row n f (j : Int) (by omega) (by omega), rd_get (by omega) (by omega), ← e]
     rfl
    ·rintro ⟨q, q0, q1, e⟩
     refine ⟨by omega, by omega, ?_⟩
     rw [← e, ← rd_row n f q q0 (by omega), rd_get q0 (by omega)]
     exact List.getElem_mem _
   rw [s1, s2, s3, s4]
   simp only [Option.bind_some]
   rw [r1, r2, r3, r4, r5, r6, r7, r8, r9, r10]
   simp only [Option.bind_some]
   generalize hLN : numsW (fun x => x * f % n == p) 0 (n - 1) = LN at hLl hLr hLm
   rw [gSame_self (l := LN) (by omega) (by omega)]
   simp only [Option.bind_some, g1, g2, g3, g4, bne_self_eq_false, Bool.false_eq_true, if_false, if_true]
   obtain ⟨k, rfl⟩ : ∃ m, k = m + 1 := ⟨k - 1, by omega⟩
   have hdep := (depD_ge n f n.toNat 0 0).2 p (by omega) (by omega)
   have hbd := itP_bd (n := n) (by omega) f p (wayI n f p)
   have a1 := afterI h hpb.1 (show p < n by omega) (wayI n f p) (by omega) (k := k) (by omega)
   have a2 := afterI h hbd.1 hbd.2 ((wayL n f p).length - wayI n f p) (by omega) (k := k) (by omega)
   have a3 : itP n f p (wayI n f p) * f ^ ((wayL n f p).length - wayI n f p) % n = itP n f p (wayI n f p) := by
    have q := itP_add n f p (wayI n f p) ((wayL n f p).length - wayI n f p)
    rw [Nat.add_sub_cancel' (Nat.le_of_lt wlt), hw.close] at q
    exact q.symm
   rw [laws_FnTablesLead.j3, if_neg (by decide), if_pos rfl, if_neg (by omega), if_neg (by omega), if_neg (by omega), gRises_f (by omega) hLr (by omega)]
   simp only [Option.bind_some, if_true]
   rw [a1]
   simp only [Option.bind_some]
   rw [show p * f ^ (wayI n f p) % n = itP n f p (wayI n f p) from rfl, a2]
   simp only [Option.bind_some, if_true]
   rw [a3, if_pos rfl]
   refine lea_l1 h hpb.1 (by omega) rfl (by omega) (by omega) (by omega) (fun q hq => by have := (hLm q).1 hq; exact ⟨this.1, by omega, this.2.2⟩) ?_ hFm ?_ 13000 (by omega) hj5 LN.length k 0 (by omega) (by omega) (by omega)
   ·rw [Bool.eq_iff_iff, decide_eq_true_iff, decide_eq_true_iff, hHm]
    constructor
    ·intro hpos
     obtain ⟨q, hq⟩ := List.exists_mem_of_length_pos (l := LN) (by omega)
     exact ⟨q, (hLm q).1 hq⟩
    ·rintro ⟨q, hq⟩
     have := List.length_pos_of_mem ((hLm q).2 hq)
     omega
   ·intro hq
    obtain ⟨e1, e2⟩ := hw.fix hpb.1 (by omega) (hFm.1 hq)
    exact ⟨by rw [e1]; rfl, by rw [e1, e2]; rfl⟩
  ·simp only [Bool.not_eq_true] at hp
   have s1 : impl_LeadOfPoint.f k n f p = some (0, 0, false) := by
    unfold impl_LeadOfPoint.f
    rw [isTable_one, h, hp]; rfl
   have s2 : spec_LeadOfPoint.f k n f p = some (0, 0, false) := by
    unfold spec_LeadOfPoint.f
    rw [taAsked_eq, h, hp]; rfl
   have s3 : impl_LinesTo.f n f p = some ([], false) := by
    unfold impl_LinesTo.f
    rw [if_neg (show ¬ (inR n 3 60 && inR f 0 (n - 1) && inR p 0 (n - 1)) = true by rw [hp, Bool.and_false]; decide)]
   have s4 : spec_LinesTo.f k n f p = some ([], false) := by
    unfold spec_LinesTo.f
    rw [taAsked_eq, h, hp]; rfl
   rw [s1, s2, s3, s4]
   simp only [Option.bind_some]
   rw [r1, r2, r3, r4, r5, r6, r7, r8, r9, r10]
   simp only [Option.bind_some]
   rw [gSame_self (l := []) (by simp) (by simp; omega)]
   simp only [Option.bind_some, g1, g2, g3, g4, bne_self_eq_false, Bool.false_eq_true, if_false, if_true]
   obtain ⟨k, rfl⟩ : ∃ m, k = m + 1 := ⟨k - 1, by omega⟩
   rw [laws_FnTablesLead.j3, if_neg (by decide), if_neg (by decide)]
   exact hj5 k (by omega)
 ·simp only [Bool.not_eq_true] at h
  have s1 : impl_LeadOfPoint.f k n f p = some (0, 0, false) := by
   unfold impl_LeadOfPoint.f
   rw [isTable_one, h]; rfl
  have s2 : spec_LeadOfPoint.f k n f p = some (0, 0, false) := by
   unfold spec_LeadOfPoint.f
   rw [taAsked_eq, h]; rfl
  have s3 : impl_LinesTo.f n f p = some ([], false) := by
   unfold impl_LinesTo.f
   rw [if_neg (show ¬ (inR n 3 60 && inR f 0 (n - 1) && inR p 0 (n - 1)) = true by rw [show (inR n 3 60 && inR f 0 (n - 1)) = tabOk n f from rfl, h]; simp)]
  have s4 : spec_LinesTo.f k n f p = some ([], false) := by
   unfold spec_LinesTo.f
   rw [taAsked_eq, h]; rfl
  have r1 : impl_TimesRow.f k n f = some ([], false) := by unfold impl_TimesRow.f; rw [isTable_nil, h]; rfl
  have r2 : spec_TimesRow.f k n f = some ([], false) := by unfold spec_TimesRow.f; rw [taGood_eq, h]; rfl
  have r3 : impl_FixedPoints.f n f = some ([], false) := by unfold impl_FixedPoints.f; rw [isTable_nil, h]; rfl
  have r4 : spec_FixedPoints.f k n f = some ([], false) := by unfold spec_FixedPoints.f; rw [taGood_eq, h]; rfl
  have r5 : impl_CyclesOfTable.f k n f = some ([], false) := by unfold impl_CyclesOfTable.f; rw [isTable_nil, h]; rfl
  have r6 : spec_CyclesOfTable.f k n f = some ([], false) := by unfold spec_CyclesOfTable.f; rw [taGood_eq, h]; rfl
  have r7 : impl_DepthOfTable.f k n f = some (0, false) := by unfold impl_DepthOfTable.f; rw [isTable_nil, h]; rfl
  have r8 : spec_DepthOfTable.f k n f = some (0, false) := by unfold spec_DepthOfTable.f; rw [taGood_eq, h]; rfl
  have r9 : impl_PointsHit.f k n f = some ([], false) := by unfold impl_PointsHit.f; rw [isTable_nil, h]; rfl
  have r10 : spec_PointsHit.f k n f = some ([], false) := by unfold spec_PointsHit.f; rw [taGood_eq, h]; rfl
  have g1 : laws_gSame.f k [] [] = some true := gSame_self (by simp) (by simp; omega)
  have g3 : laws_gRows.f k [] [] = some true := gRows_self (by simp) (by simp) (by omega)
  rw [s1, s2, s3, s4]
  simp only [Option.bind_some]
  rw [r1, r2, r3, r4, r5, r6, r7, r8, r9, r10]
  simp only [Option.bind_some, g1, g3, bne_self_eq_false, Bool.false_eq_true, if_false, if_true]
  obtain ⟨k, rfl⟩ : ∃ m, k = m + 1 := ⟨k - 1, by omega⟩
  rw [laws_FnTablesLead.j3, if_neg (by decide), if_neg (by decide)]
  obtain ⟨k, rfl⟩ : ∃ m, k = m + 1 := ⟨k - 1, by omega⟩
  rw [laws_FnTablesLead.j5, if_neg (by decide)]
theorem FnTablesLead : laws_FnTablesLead.Pure := by
 intro l0 l1 h0 h1 h2 h3 h4 h5
 refine ⟨1100000, ?_⟩
 unfold laws_FnTablesLead.f laws_big.f
 by_cases hb : (l0.length : Int) > 1048576
 ·rw [if_pos hb]; rfl
 ·rw [if_neg hb]
  simp only [Option.bind_some]
  rw [wrap_id (by omega) (by omega)]
  by_cases hb2 : (l1.length : Int) > 1048576 - (l0.length : Int)
  ·rw [decide_eq_true hb2, if_pos rfl]
  ·rw [decide_eq_false hb2, if_neg (by decide)]
   have hs0 := Bytes.of (s := l0) (by omega) h2
   have hs1 := Bytes.of (s := l1) (by omega) h5
   obtain ⟨n, f, p, t, e⟩ := drawAfter hs0
   obtain ⟨r, e1, e2, e3⟩ := afterE n f p t (k := 1100000) (by omega)
   have hj2 := lea_j2 hs1
   rw [e]
   simp only [Option.bind_some]
   rw [e1, e2]
   simp only [Option.bind_some, bne_self_eq_false, Bool.false_eq_true, if_false, if_true]
   by_cases hr : r.2 = true
   ·obtain ⟨q1, q2, q3, q4, q5, q6⟩ := e3 hr
    rw [if_pos hr]
    by_cases ht : t ≤ 100
    ·rw [decide_eq_true ht, laws_FnTablesLead.j0, if_pos rfl]
     obtain ⟨t, rfl⟩ := Int.eq_ofNat_of_zero_le q4
     rw [q6, Int.toNat_natCast]
     exact lea_l0 hj2 q1 q2 q3 t (by omega) t _ 0 p (by omega) (by omega) (by rw [Int.pow_zero, Int.mul_one, Int.emod_eq_of_lt q2 q3])
    ·rw [decide_eq_false ht, laws_FnTablesLead.j0, if_neg (by decide)]
     exact hj2 _ (by omega)
   ·rw [if_neg hr, laws_FnTablesLead.j0, if_neg (by decide)]
    exact hj2 _ (by omega)

end Go.Proofs.Ytgiiaajincdhnaa.Pure
