/- What is proved: the pure statement of the law FnTablesUndone, about numbers and lists alone; no condition. -/
import Derived.Test.YteihhjieihgojaaGreatPx15
import Derived.WalkSmall
namespace Go.Proofs.YteihhjieihgojaaGreat.Pure
open Go.RowKit Go.Proofs.YteihhjieihgojaaGreat.P Go.Proofs.YteihhjieihgojaaGreatW.PrintWords Go.Proofs.YteihhjieihgojaaGreatW.PrintLast
set_option linter.unusedVariables false
set_option linter.unusedSimpArgs false

theorem l1In_eq (n lo hi : Int) : spec_l1In.f n lo hi = some (inR n lo hi) := by
 unfold spec_l1In.f inR
 by_cases h : n ≥ lo
 ·rw [if_pos h]; congr 1; simp only [decide_eq_decide]; omega
 ·rw [if_neg h]; congr 1; exact (decide_eq_false (by omega)).symm
theorem wrap_one {n lo hi : Int} (h : inR n lo hi = true) (h1 : -1000000 ≤ lo) (h2 : hi ≤ 1000000) : wrap64 (n - 1) = n - 1 := by
 have := inR_true.1 h
 unfold wrap64
 omega
theorem wrap_id {x : Int} (h : -9000000000000000000 ≤ x) (h2 : x ≤ 9000000000000000000) : wrap64 x = x := by unfold wrap64; omega
/-- A table. -/
def tabOk (n f : Int) : Bool := inR n 3 60 && inR f 0 (n - 1)
theorem tabOk_true {n f : Int} : tabOk n f = true ↔ 3 ≤ n ∧ n ≤ 60 ∧ 0 ≤ f ∧ f ≤ n - 1 := by
 simp only [tabOk, Bool.and_eq_true, inR_true]
 omega
theorem srPoints_eq (n : Int) : spec_srPoints.f n = some (inR n 3 60) := by
 unfold spec_srPoints.f; rw [l1In_eq]; rfl
theorem step_eq {n f p : Int} (h : tabOk n f = true) (h0 : 0 ≤ p) (h1 : p ≤ 60) : Int.tmod (wrap64 (p * f)) n = p * f % n := by
 have hb := tabOk_true.1 h
 have hm : 0 ≤ p * f := Int.mul_nonneg h0 (by omega)
 have hm2 : p * f ≤ 60 * 60 := by
  have := Int.mul_le_mul h1 (show f ≤ 60 by omega) (by omega) (by omega)
  omega
 rw [wrap_id (by omega) (by omega), Int.tmod_eq_emod_of_nonneg hm]
theorem step_bd {n f p : Int} (h : tabOk n f = true) : 0 ≤ p * f % n ∧ p * f % n < n := by
 have hb := tabOk_true.1 h
 exact ⟨Int.emod_nonneg _ (by omega), Int.emod_lt_of_pos _ (by omega)⟩
/-- The loop of the order, on whole numbers from 0: the rounds that are left where it stops. -/
def ordN (n f : Nat) : Nat → Nat → Option Nat
 | 0, _ => none
 | k + 1, x => if x = 1 then some k else ordN n f k (x * f % n)
theorem ordN_lt (n f : Nat) : ∀ (k x j : Nat), ordN n f k x = some j → j < k
 | 0, _, _, h => by simp [ordN] at h
 | k + 1, x, j, h => by
  rw [ordN] at h
  by_cases hx : x = 1
  ·rw [if_pos hx] at h; injection h with h; omega
  ·rw [if_neg hx] at h; have := ordN_lt n f k _ j h; omega
/-- Every factor that has no common divisor with the number of points comes to 1: by trying all. -/
theorem ordN_stops : ∀ n ∈ List.range 61, ∀ f ∈ List.range n, 3 ≤ n → Nat.gcd n f = 1 → (ordN n f 62 f).isSome = true := by decide +kernel
theorem ord_l0 (n f : Nat) (hn : 3 ≤ n) (hn2 : n ≤ 60) (hf : f < n) : ∀ (k x j o : Nat) (m : Nat), ordN n f k x = some j → o + k ≤ 1000000 → x < n →
  spec_taOrder.l0 (k + m) (n : Int) (f : Int) (o : Int) (x : Int) = some ((o + (k - 1 - j) : Nat) : Int) ∧ impl_orderOf.l0 (k + m) (n : Int) (f : Int) (o : Int) (x : Int) = some ((o + (k - 1 - j) : Nat) : Int)
 | 0, _, _, _, _, h, _, _ => by simp [ordN] at h
 | k + 1, x, j, o, m, h, hk, hxn => by
  rw [show k + 1 + m = (k + m) + 1 by omega]
  rw [ordN] at h
  by_cases hx : x = 1
  ·rw [if_pos hx] at h
   injection h with h
   subst h
   rw [spec_taOrder.l0, if_pos (by omega), impl_orderOf.l0, if_pos (by omega)]
   constructor <;> (congr 2; omega)
  ·rw [if_neg hx] at h
   have hlt := ordN_lt n f k _ j h
   have hm : x * f ≤ 60 * 60 := Nat.mul_le_mul (by omega) (by omega)
   have e : Int.tmod (wrap64 ((x : Int) * (f : Int))) (n : Int) = ((x * f % n : Nat) : Int) := by
    rw [show (x : Int) * (f : Int) = ((x * f : Nat) : Int) by simp, wrap_id (by omega) (by omega)]
    rfl
   rw [spec_taOrder.l0, if_neg (by omega), if_neg (by omega), impl_orderOf.l0, if_neg (by omega), if_neg (by omega), e, wrap_id (x := (o : Int) + 1) (by omega) (by omega)]
   have := ord_l0 n f hn hn2 hf k (x * f % n) j (o + 1) m h (by omega) (Nat.mod_lt _ (by omega))
   rw [show (((o + 1 : Nat)) : Int) = (o : Int) + 1 by simp] at this
   rw [this.1, this.2]
   constructor <;> (congr 2; omega)
theorem ord_f (n f : Int) (h : tabOk n f = true) (hg : gcdGo n f = 1) (k : Nat) (hk : 62 ≤ k) : ∃ r : Int, spec_taOrder.f k n f = some r ∧ impl_orderOf.f k n f = some r ∧ 1 ≤ r := by
 have hb := tabOk_true.1 h
 obtain ⟨n, rfl⟩ := Int.eq_ofNat_of_zero_le (show 0 ≤ n by omega)
 obtain ⟨f, rfl⟩ := Int.eq_ofNat_of_zero_le (show 0 ≤ f by omega)
 rw [gcdGo_nat] at hg
 have hs := ordN_stops n (List.mem_range.2 (by omega)) f (List.mem_range.2 (by omega)) (by omega) (by omega)
 obtain ⟨j, hj⟩ := Option.isSome_iff_exists.1 hs
 have := ord_l0 n f (by omega) (by omega) (by omega) 62 f j 1 (k - 62) hj (by omega) (by omega)
 rw [show 62 + (k - 62) = k by omega] at this
 refine ⟨((1 + (62 - 1 - j) : Nat) : Int), ?_, ?_, by omega⟩
 ·unfold spec_taOrder.f
  exact this.1
 ·unfold impl_orderOf.f impl_divisor.f
  rw [gcdGo_nat, hg]
  simp only [Option.bind_some]
  rw [if_neg (by decide)]
  exact this.2
theorem ord_no (n f : Int) (h : tabOk n f = true) (hg : ¬ gcdGo n f = 1) (k : Nat) : impl_orderOf.f k n f = some 0 := by
 have hb := tabOk_true.1 h
 have hg2 := gcdGo_bd (a := n) (b := f) (by omega) (by omega)
 unfold impl_orderOf.f impl_divisor.f
 simp only [Option.bind_some]
 rw [if_pos (by omega)]
/-- The numbers i, i + 1, .. of the next d at which p holds. -/
def numsD (p : Int → Bool) (i : Int) : Nat → List Int
 | 0 => []
 | d + 1 => if p i = true then i :: numsD p (i + 1) d else numsD p (i + 1) d
theorem numsD_len (p : Int → Bool) (i : Int) (d : Nat) : (numsD p i d).length ≤ d := by
 induction d generalizing i with
 | zero => simp [numsD]
 | succ d ih =>
  have := ih (i + 1)
  simp only [numsD]
  split
  ·simp; omega
  ·omega
theorem numsD_congr {p q : Int → Bool} {i : Int} {d : Nat} (h : ∀ x, i ≤ x → x < i + d → p x = q x) : numsD p i d = numsD q i d := by
 induction d generalizing i with
 | zero => rfl
 | succ d ih =>
  have h0 := h i (by omega) (by omega)
  have h1 := ih (i := i + 1) (fun x hx hy => h x (by omega) (by omega))
  simp only [numsD, h0, h1]
theorem numsD_eq (p : Int → Bool) (i : Int) (d : Nat) : ((List.range d).map fun (j : Nat) => i + (j : Int)).filter p = numsD p i d := by
 induction d generalizing i with
 | zero => rfl
 | succ d ih =>
  rw [List.range_succ_eq_map, List.map_cons, List.map_map]
  have e : (fun (j : Nat) => i + (j : Int)) ∘ Nat.succ = fun (j : Nat) => (i + 1) + (j : Int) := by funext j; simp; omega
  rw [e, List.filter_cons, ih]
  simp [numsD]
theorem numsW_numsD (p : Int → Bool) (lo hi : Int) : numsW p lo hi = numsD p lo (hi + 1 - lo).toNat := numsD_eq p lo _
theorem numsW_len (p : Int → Bool) (lo hi : Int) : ((numsW p lo hi).length : Int) ≤ max 0 (hi + 1 - lo) := by
 rw [numsW_numsD]
 have := numsD_len p lo (hi + 1 - lo).toNat
 omega
theorem up {α : Type} {f : Nat → Option α} (hm : ∀ k, LeO (f k) (f (k + 1))) {k0 : Nat} {r : α} (h : f k0 = some r) : ∀ k, k0 ≤ k → f k = some r := by
 intro k hk
 obtain ⟨d, rfl⟩ : ∃ d, k = k0 + d := ⟨k - k0, by omega⟩
 clear hk
 induction d with
 | zero => exact h
 | succ d ih => exact hm (k0 + d) _ ih
/-- The order that is told of a factor: 0 if its table cannot be undone. -/
def ordV (n x : Int) : Int := (impl_orderOf.f 62 n x).getD 0
theorem ordV_i {n x : Int} (h : tabOk n x = true) {k : Nat} (hk : 62 ≤ k) : impl_orderOf.f k n x = some (ordV n x) := by
 by_cases hg : gcdGo n x = 1
 ·obtain ⟨r, _, h2, _⟩ := ord_f n x h hg 62 (by omega)
  have := up (fun k => impl_orderOf.mono n x k) h2 k hk
  unfold ordV
  rw [h2, this]; rfl
 ·unfold ordV
  rw [ord_no n x h hg, ord_no n x h hg]; rfl
theorem ordV_s {n x : Int} (h : tabOk n x = true) (hg : gcdGo n x = 1) {k : Nat} (hk : 62 ≤ k) : spec_taOrder.f k n x = some (ordV n x) := by
 obtain ⟨r, h1, h2, _⟩ := ord_f n x h hg k hk
 rw [ordV_i h hk] at h2
 rw [h1, h2]
theorem ordV_yes {n x : Int} (h : tabOk n x = true) (hg : gcdGo n x = 1) : 1 ≤ ordV n x := by
 obtain ⟨r, _, h2, h3⟩ := ord_f n x h hg 62 (by omega)
 rw [ordV_i h (by omega)] at h2
 have := Option.some.inj h2
 omega
theorem ordV_no {n x : Int} (h : tabOk n x = true) (hg : ¬ gcdGo n x = 1) : ordV n x = 0 := by
 unfold ordV
 rw [ord_no n x h hg]; rfl
/-- The greatest of m and the orders of the next d factors. -/
def lfM (n : Int) : Nat → Int → Int → Int
 | 0, _, m => m
 | d + 1, i, m => lfM n d (i + 1) (mx m (ordV n i))
theorem lfM_ge (n : Int) : ∀ (d : Nat) (i m : Int), m ≤ lfM n d i m
 | 0, _, _ => Int.le_refl _
 | d + 1, i, m => by
  have := lfM_ge n d (i + 1) (mx m (ordV n i))
  show m ≤ lfM n d (i + 1) (mx m (ordV n i))
  unfold mx at this ⊢
  split at this <;> split <;> omega
theorem lfMost_eq {n : Int} (h0 : 3 ≤ n) (h1 : n ≤ 60) {k : Nat} (hk : 62 ≤ k) : ∀ (d : Nat) (i m : Int), 0 ≤ i → i + d ≤ n → lfMost k n d i m = some (lfM n d i m)
 | 0, _, _, _, _ => rfl
 | d + 1, i, m, h2, h3 => by
  show (impl_orderOf.f k n i).bind _ = _
  rw [ordV_i (tabOk_true.2 (by omega)) hk]
  exact lfMost_eq h0 h1 hk d (i + 1) _ (by omega) (by omega)
theorem gcdGo_one (n : Int) (h0 : 3 ≤ n) : gcdGo n 1 = 1 := by
 have h := gcdGo_bd (a := n) (b := 1) (by omega) (by omega)
 obtain ⟨n, rfl⟩ := Int.eq_ofNat_of_zero_le (show 0 ≤ n by omega)
 have e : (1 : Int) = ((1 : Nat) : Int) := rfl
 rw [e, gcdGo_nat]
 simp
theorem gcdGo_zero (n : Int) (h0 : 3 ≤ n) : ¬ gcdGo n 0 = 1 := by
 obtain ⟨n, rfl⟩ := Int.eq_ofNat_of_zero_le (show 0 ≤ n by omega)
 have e : (0 : Int) = ((0 : Nat) : Int) := rfl
 rw [e, gcdGo_nat]
 simp
 omega
/-- A factor whose order is m. -/
def lfP (n m : Int) (x : Int) : Bool := decide (gcdGo n x = 1) && decide (ordV n x = m)
theorem long_l0 {n : Int} (h0 : 3 ≤ n) (h1 : n ≤ 60) (d : Nat) : ∀ (k : Nat) (m : Int) (o : List Int) (i : Int), 0 ≤ m → 1 ≤ i → i + d = n → d + 62 < k → (o.length : Int) + d ≤ 1000 →
  spec_LongFactors.l0 k n m o i = some (if m < lfM n d i m then numsD (lfP n (lfM n d i m)) i d else o ++ numsD (lfP n m) i d, lfM n d i m, true) := by
 induction d with
 | zero =>
  intro k m o i hm hi hd hk _
  obtain ⟨k, rfl⟩ : ∃ m, k = m + 1 := ⟨k - 1, by omega⟩
  rw [spec_LongFactors.l0, if_neg (by omega)]
  simp [numsD, lfM]
 | succ d ih =>
  intro k m o i hm hi hd hk hl
  obtain ⟨k, rfl⟩ : ∃ m, k = m + 1 := ⟨k - 1, by omega⟩
  have h : tabOk n i = true := tabOk_true.2 (by omega)
  have e : lfM n (d + 1) i m = lfM n d (i + 1) (mx m (ordV n i)) := rfl
  rw [spec_LongFactors.l0, if_pos (by omega)]
  unfold spec_taUndone.f spec_srCommon.f
  simp only [Option.bind_some]
  by_cases hg : gcdGo n i = 1
  ·rw [if_pos (by rw [hg]; rfl), ordV_s h hg (by omega)]
   simp only [Option.bind_some]
   have hy := ordV_yes h hg
   rw [wrap_id (x := i + 1) (by omega) (by omega)]
   by_cases h2 : ordV n i > m
   ·have e2 : mx m (ordV n i) = ordV n i := by unfold mx; split <;> omega
    have hge := lfM_ge n d (i + 1) (ordV n i)
    rw [if_pos h2, if_pos (by simp), ih k (ordV n i) _ (i + 1) (by omega) (by omega) (by omega) (by omega) (by simp; omega), e, e2, if_pos (show m < lfM n d (i + 1) (ordV n i) by omega)]
    congr 2
    by_cases h3 : ordV n i < lfM n d (i + 1) (ordV n i)
    ·have : lfP n (lfM n d (i + 1) (ordV n i)) i = false := by unfold lfP; rw [decide_eq_false (show ¬ ordV n i = lfM n d (i + 1) (ordV n i) by omega)]; simp
     rw [if_pos h3]
     simp [numsD, this]
    ·have h4 : lfM n d (i + 1) (ordV n i) = ordV n i := by omega
     have : lfP n (ordV n i) i = true := by unfold lfP; rw [decide_eq_true hg, decide_eq_true rfl]; rfl
     rw [if_neg h3, h4]
     simp [numsD, this]
   ·rw [if_neg h2]
    have e2 : mx m (ordV n i) = m := by unfold mx; split <;> omega
    have hge := lfM_ge n d (i + 1) m
    by_cases h3 : ordV n i = m
    ·rw [if_pos h3, if_pos (by omega), ih k m _ (i + 1) (by omega) (by omega) (by omega) (by omega) (by simp; omega), e, e2]
     have : lfP n m i = true := by unfold lfP; rw [decide_eq_true hg, decide_eq_true h3]; rfl
     congr 2
     by_cases h4 : m < lfM n d (i + 1) m
     ·have h5 : lfP n (lfM n d (i + 1) m) i = false := by unfold lfP; rw [decide_eq_false (show ¬ ordV n i = lfM n d (i + 1) m by omega)]; simp
      rw [if_pos h4, if_pos h4]
      simp [numsD, h5]
     ·rw [if_neg h4, if_neg h4]
      simp [numsD, this]
    ·rw [if_neg h3, ih k m _ (i + 1) (by omega) (by omega) (by omega) (by omega) (by omega), e, e2]
     have h5 : lfP n m i = false := by unfold lfP; rw [decide_eq_false h3]; simp
     have h6 : lfP n (lfM n d (i + 1) m) i = false := by unfold lfP; rw [decide_eq_false (show ¬ ordV n i = lfM n d (i + 1) m by omega)]; simp
     simp [numsD, h5, h6]
  ·have h5 : ∀ M, lfP n M i = false := fun M => by unfold lfP; rw [decide_eq_false hg]; rfl
   have e2 : mx m (ordV n i) = m := by rw [ordV_no h hg]; unfold mx; split <;> omega
   rw [if_neg (by simp; exact hg), wrap_id (x := i + 1) (by omega) (by omega), ih k m _ (i + 1) (by omega) (by omega) (by omega) (by omega) (by omega), e, e2]
   simp [numsD, h5]
theorem taGood_eq (n f : Int) : spec_taGood.f n f = some (tabOk n f) := by
 unfold spec_taGood.f tabOk
 rw [srPoints_eq]
 simp only [Option.bind_some]
 by_cases h : inR n 3 60 = true
 ·rw [if_pos h, wrap_one h (by omega) (by omega), l1In_eq, h]; rfl
 ·rw [if_neg h]; simp only [Bool.not_eq_true] at h; rw [h]; rfl
theorem isTable_nil (n f : Int) : impl_isTable.f n f [] = some (tabOk n f) := by
 simp [impl_isTable.f, tabOk]
theorem isTable_one (n f p : Int) : impl_isTable.f n f [p] = some (tabOk n f && inR p 0 (n - 1)) := by
 simp [impl_isTable.f, tabOk]
theorem emod_pow (a n : Int) (m : Nat) : (a % n) ^ m % n = a ^ m % n := by
 induction m with
 | zero => simp
 | succ m ih => rw [Int.pow_succ, Int.pow_succ, Int.mul_emod, ih, Int.emod_emod_of_dvd _ (Int.dvd_refl n), ← Int.mul_emod]
theorem after_i (n f p : Int) (t : Nat) (h : tabOk n f = true) (hp : 0 ≤ p ∧ p < n) (d : Nat) : ∀ (k i : Nat) (q : Int), i + d = t → t ≤ 1000000 → d < k → q = p * f ^ i % n →
  impl_TimesAfter.l0 k n f q t i = some (p * f ^ t % n, true) := by
 have hb := tabOk_true.1 h
 induction d with
 | zero =>
  intro k i q hi ht hk hq
  obtain ⟨k, rfl⟩ : ∃ m, k = m + 1 := ⟨k - 1, by omega⟩
  rw [impl_TimesAfter.l0, if_neg (by omega), hq, show i = t by omega]
 | succ d ih =>
  intro k i q hi ht hk hq
  obtain ⟨k, rfl⟩ : ∃ m, k = m + 1 := ⟨k - 1, by omega⟩
  have h0 : 0 ≤ q := by rw [hq]; exact Int.emod_nonneg _ (by omega)
  have h1 : q < n := by rw [hq]; exact Int.emod_lt_of_pos _ (by omega)
  rw [impl_TimesAfter.l0, if_pos (by omega), if_neg (by omega), step_eq h h0 (by omega), wrap_id (x := (i : Int) + 1) (by omega) (by omega)]
  refine ih k (i + 1) _ (by omega) ht (by omega) ?_
  rw [hq, Int.pow_succ, ← Int.mul_assoc, Int.mul_emod, Int.emod_emod_of_dvd _ (Int.dvd_refl n), ← Int.mul_emod]
theorem idxP_snoc (p : Int → Bool) (l : List Int) (x : Int) : idxP p (l ++ [x]) = if 0 ≤ idxP p l then idxP p l else if p x then (l.length : Int) else -1 := by
 induction l with
 | nil => simp [idxP]
 | cons y r ih =>
  have lo := idxP_lo p r
  by_cases hy : p y = true
  ·simp [idxP, hy]
  ·simp only [List.cons_append, idxP, hy, Bool.false_eq_true, if_false, ih]
   by_cases h0 : 0 ≤ idxP p r
   ·rw [if_pos h0, if_neg (by omega), if_pos (by omega)]
   ·rw [if_neg h0, if_pos (show idxP p r < 0 by omega), if_neg (show ¬ (0 : Int) ≤ -1 by omega)]
    by_cases hx : p x = true
    ·rw [if_pos hx, if_neg (by omega), if_pos hx]; simp
    ·rw [if_neg hx, if_pos (by omega), if_neg hx]
theorem idxP_lt (p : Int → Bool) (l : List Int) : idxP p l < l.length := by
 induction l with
 | nil => simp [idxP]
 | cons y r ih =>
  simp only [idxP, List.length_cons]
  split
  ·omega
  ·split <;> omega
theorem index_l0 (l : List Int) (q : Int) (hl : (l.length : Int) ≤ 1000000) (d : Nat) : ∀ (k : Nat) (i : Int), 0 ≤ i → i + d = l.length → d < k →
  slices_Index_int_int.l0 k l q (l.length : Int) i = some (if idxP (fun y => q == y) (l.drop i.toNat) < 0 then -1 else i + idxP (fun y => q == y) (l.drop i.toNat)) := by
 induction d with
 | zero =>
  intro k i hi hd hk
  obtain ⟨k, rfl⟩ : ∃ m, k = m + 1 := ⟨k - 1, by omega⟩
  rw [slices_Index_int_int.l0, if_neg (by omega), List.drop_eq_nil_of_le (by omega)]
  simp [idxP]
 | succ d ih =>
  intro k i hi hd hk
  obtain ⟨k, rfl⟩ : ∃ m, k = m + 1 := ⟨k - 1, by omega⟩
  have hlt : i.toNat < l.length := by omega
  have e : l.drop i.toNat = l[i.toNat] :: l.drop (i.toNat + 1) := List.drop_eq_getElem_cons hlt
  have er : rd l i = l[i.toNat] := by simp [rd, List.getD_eq_getElem?_getD, List.getElem?_eq_getElem hlt]
  rw [slices_Index_int_int.l0, if_pos (by omega), if_pos hi, if_pos (by omega), er, e]
  by_cases hq : q = l[i.toNat]
  ·rw [if_pos hq]; simp [idxP, hq]
  ·have hx : (q == l[i.toNat]) = false := beq_eq_false_iff_ne.mpr hq
   rw [if_neg hq, wrap_id (x := i + 1) (by omega) (by omega), ih k (i + 1) (by omega) (by omega) (by omega), show (i + 1).toNat = i.toNat + 1 by omega]
   have lo := idxP_lo (fun y => q == y) (l.drop (i.toNat + 1))
   simp only [idxP, hx, Bool.false_eq_true, if_false]
   by_cases h0 : idxP (fun y => q == y) (l.drop (i.toNat + 1)) < 0
   ·simp [h0]
   ·simp only [h0, if_false]
    rw [if_neg (by omega)]
    congr 1
    omega
theorem index_f (l : List Int) (q : Int) (hl : (l.length : Int) ≤ 1000000) (k : Nat) (hk : l.length < k) : slices_Index_int_int.f k l q = some (idxP (fun y => q == y) l) := by
 unfold slices_Index_int_int.f
 rw [index_l0 l q hl l.length k 0 (by omega) (by omega) hk]
 have lo := idxP_lo (fun y => q == y) l
 simp only [Int.toNat_zero, List.drop_zero]
 split
 ·congr 1; omega
 ·congr 1; omega
/-- Where so many lines from a point lead. -/
def itP (n f p : Int) (j : Nat) : Int := p * f ^ j % n
theorem itP_zero {n f p : Int} (h0 : 0 ≤ p) (h1 : p < n) : itP n f p 0 = p := by
 unfold itP; rw [Int.pow_zero, Int.mul_one, Int.emod_eq_of_lt h0 h1]
theorem itP_succ (n f p : Int) (j : Nat) : itP n f p (j + 1) = itP n f p j * f % n := by
 unfold itP; rw [Int.pow_succ, ← Int.mul_assoc, Int.mul_emod (p * f ^ j % n), Int.emod_emod_of_dvd _ (Int.dvd_refl n), ← Int.mul_emod]
theorem itP_add (n f p : Int) (i j : Nat) : itP n f p (i + j) = itP n f (itP n f p i) j := by
 unfold itP; rw [Int.pow_add, ← Int.mul_assoc, Int.mul_emod (p * f ^ i % n), Int.emod_emod_of_dvd _ (Int.dvd_refl n), ← Int.mul_emod]
theorem itP_bd {n : Int} (hn : 0 < n) (f p : Int) (j : Nat) : 0 ≤ itP n f p j ∧ itP n f p j < n :=
 ⟨Int.emod_nonneg _ (by omega), Int.emod_lt_of_pos _ hn⟩
theorem itP_one (n f p : Int) : itP n f p 1 = p * f % n := by
 unfold itP; rw [Int.pow_succ, Int.pow_zero, Int.one_mul]
/-- The points of a way until one comes again, and the place of that one. -/
structure Way (n f p : Int) (path : List Int) (i : Nat) : Prop where
 lt : i < path.length
 le : (path.length : Int) ≤ n
 at_ : ∀ j, j < path.length → path.getD j 0 = itP n f p j
 inj : ∀ a b, a < path.length → b < path.length → itP n f p a = itP n f p b → a = b
 close : itP n f p path.length = itP n f p i
theorem itP_shift {n f p : Int} {a b : Nat} (h : itP n f p a = itP n f p b) (t : Nat) : itP n f p (a + t) = itP n f p (b + t) := by
 rw [itP_add, itP_add, h]
theorem Way.mem {n f p q : Int} {path : List Int} {i : Nat} (h : Way n f p path i) : q ∈ path ↔ ∃ j, j < path.length ∧ itP n f p j = q := by
 constructor
 ·intro hq
  obtain ⟨j, hj, rfl⟩ := List.getElem_of_mem hq
  refine ⟨j, hj, ?_⟩
  rw [← h.at_ j hj, List.getD_eq_getElem?_getD, List.getElem?_eq_getElem hj]; rfl
 ·rintro ⟨j, hj, rfl⟩
  rw [← h.at_ j hj, List.getD_eq_getElem?_getD, List.getElem?_eq_getElem hj]
  exact List.getElem_mem hj
/-- Each place far on is one on the cycle. -/
theorem Way.far {n f p : Int} {path : List Int} {i : Nat} (h : Way n f p path i) (t : Nat) : ∃ j, i ≤ j ∧ j < path.length ∧ itP n f p (i + t) = itP n f p j := by
 induction t with
 | zero => exact ⟨i, Nat.le_refl _, h.lt, rfl⟩
 | succ t ih =>
  obtain ⟨j, h1, h2, h3⟩ := ih
  have e : itP n f p (i + (t + 1)) = itP n f p (j + 1) := by rw [← Nat.add_assoc, itP_succ, h3, ← itP_succ]
  by_cases hj : j + 1 < path.length
  ·exact ⟨j + 1, by omega, hj, e⟩
  ·have : j + 1 = path.length := by omega
   rw [this, h.close] at e
   exact ⟨i, Nat.le_refl _, h.lt, e⟩
/-- No line leads to the cycle if the point is come to again. -/
theorem Way.on {n f p : Int} {path : List Int} {i : Nat} (h : Way n f p path i) : i = 0 ↔ ∃ j, 1 ≤ j ∧ itP n f p j = itP n f p 0 := by
 constructor
 ·rintro rfl
  exact ⟨path.length, h.lt, h.close⟩
 ·rintro ⟨j, hj, e⟩
  rcases Nat.eq_zero_or_pos i with h0 | h0
  ·exact h0
  exfalso
  have hl := h.lt
  by_cases hji : j < path.length
  ·have := h.inj j 0 hji (by omega) e; omega
  ·obtain ⟨a, h1, h2, h3⟩ := h.far (j - i)
   rw [show i + (j - i) = j by omega, e] at h3
   have := h.inj 0 a (by omega) h2 h3
   omega
theorem Way.nodup {n f p : Int} {path : List Int} {i : Nat} (h : Way n f p path i) : path.Nodup := by
 rw [List.nodup_iff_pairwise_ne, List.pairwise_iff_getElem]
 intro a b ha hb hab e
 have h1 := h.at_ a ha
 have h2 := h.at_ b hb
 rw [List.getD_eq_getElem?_getD, List.getElem?_eq_getElem ha] at h1
 rw [List.getD_eq_getElem?_getD, List.getElem?_eq_getElem hb] at h2
 simp only [Option.getD_some] at h1 h2
 have := h.inj a b ha hb (by rw [← h1, ← h2, e])
 omega
/-- From a fixed point no line leads away. -/
theorem Way.fix {n f p : Int} {path : List Int} {i : Nat} (h : Way n f p path i) (h0 : 0 ≤ p) (h1 : p < n) (hf : p * f % n = p) : i = 0 ∧ path.length = 1 := by
 have hl := h.lt
 have e : itP n f p 1 = itP n f p 0 := by rw [itP_one, itP_zero h0 h1, hf]
 have hi := h.on.2 ⟨1, Nat.le_refl _, e⟩
 refine ⟨hi, ?_⟩
 by_cases hq : 1 < path.length
 ·have := h.inj 1 0 hq (by omega) e; omega
 ·omega
theorem Way.one {n f p : Int} {path : List Int} {i : Nat} (h : Way n f p path i) (h0 : 0 ≤ p) (h1 : p < n) (hl : path.length = 1) : p * f % n = p := by
 have hi : i = 0 := by have := h.lt; omega
 have := h.close
 rw [hl, hi, itP_one, itP_zero h0 h1] at this
 exact this
/-- Two cycles that have a point in common: each is on the other. -/
theorem Way.meet {n f p q x : Int} {a b : List Int} (ha : Way n f p a 0) (hb : Way n f q b 0) (hp0 : 0 ≤ p) (hp1 : p < n) (h1 : x ∈ a) (h2 : x ∈ b) : p ∈ b := by
 obtain ⟨j, hj, e1⟩ := ha.mem.1 h1
 obtain ⟨k, hk, e2⟩ := hb.mem.1 h2
 have e3 : itP n f p (j + (a.length - j)) = itP n f q (k + (a.length - j)) := by rw [itP_add, itP_add, e1, e2]
 rw [show j + (a.length - j) = a.length by omega, ha.close, itP_zero hp0 hp1] at e3
 obtain ⟨c, _, hc, e4⟩ := hb.far (k + (a.length - j))
 rw [Nat.zero_add, ← e3] at e4
 exact hb.mem.2 ⟨c, hc, e4.symm⟩
theorem idxP_at (l : List Int) (q : Int) : 0 ≤ idxP (fun y => q == y) l → l.getD (idxP (fun y => q == y) l).toNat 0 = q := by
 induction l with
 | nil => intro h; simp [idxP] at h
 | cons y r ih =>
  intro h
  have lo := idxP_lo (fun y => q == y) r
  by_cases hy : (q == y) = true
  ·simp only [idxP, hy, if_true]
   have := beq_iff_eq.1 hy
   simp [this]
  ·simp only [idxP, hy, if_false, Bool.false_eq_true] at h ⊢
   by_cases h0 : idxP (fun y => q == y) r < 0
   ·rw [if_pos h0] at h; omega
   ·rw [if_neg h0]
    rw [show (idxP (fun y => q == y) r + 1).toNat = (idxP (fun y => q == y) r).toNat + 1 by omega, List.getD_cons_succ]
    exact ih (by omega)
theorem idxP_mem (path : List Int) (q : Int) : idxP (fun y => q == y) path < 0 → q ∉ path := by
 intro h hm
 have := idxP_any (fun y => q == y) path
 rw [decide_eq_false (by omega)] at this
 have h2 : path.any (fun y => q == y) = true := List.any_eq_true.2 ⟨q, hm, by simp⟩
 rw [h2] at this
 cases this
/-- The way so far: point by point, without a point twice. -/
structure WayTo (n f p q : Int) (path : List Int) : Prop where
 nodup : path.Nodup
 bd : ∀ x ∈ path, 0 ≤ x ∧ x < n
 at_ : ∀ j, j < path.length → path.getD j 0 = itP n f p j
 now : q = itP n f p path.length
theorem WayTo.short {n f p q : Int} {path : List Int} (h : WayTo n f p q path) (hn : 0 ≤ n) : (path.length : Int) ≤ n := by
 have h1 : path.length ≤ ((List.range n.toNat).map fun (j : Nat) => (j : Int)).length := h.nodup.length_le_of_subset (fun q hq => by
  have := h.bd q hq
  exact List.mem_map.2 ⟨q.toNat, List.mem_range.2 (by omega), by omega⟩)
 simp at h1
 omega
theorem WayTo.inj {n f p q : Int} {path : List Int} (h : WayTo n f p q path) (a b : Nat) (ha : a < path.length) (hb : b < path.length) (e : itP n f p a = itP n f p b) : a = b := by
 have hn := h.nodup
 have h1 := h.at_ a ha
 have h2 := h.at_ b hb
 rw [List.getD_eq_getElem?_getD, List.getElem?_eq_getElem ha, Option.getD_some] at h1
 rw [List.getD_eq_getElem?_getD, List.getElem?_eq_getElem hb, Option.getD_some] at h2
 rw [List.nodup_iff_pairwise_ne, List.pairwise_iff_getElem] at hn
 rcases Nat.lt_trichotomy a b with h3 | h3 | h3
 ·exact absurd (by rw [h1, h2, e]) (hn a b ha hb h3)
 ·exact h3
 ·exact absurd (by rw [h1, h2, e]) (hn b a hb ha h3)
theorem WayTo.next {n f p q : Int} {path : List Int} (h : WayTo n f p q path) (h0 : 0 ≤ q) (h1 : q < n) (hq : q ∉ path) : WayTo n f p (q * f % n) (path ++ [q]) := by
 refine ⟨?_, ?_, ?_, ?_⟩
 ·rw [List.nodup_append]
  refine ⟨h.nodup, by simp, ?_⟩
  intro a ha b hb e
  obtain rfl := List.mem_singleton.1 hb
  subst e
  exact hq ha
 ·intro x hx
  rcases List.mem_append.1 hx with hx | hx
  ·exact h.bd x hx
  ·obtain rfl := List.mem_singleton.1 hx; exact ⟨h0, h1⟩
 ·intro j hj
  by_cases hjl : j < path.length
  ·rw [List.getD_eq_getElem?_getD, List.getElem?_append_left hjl, ← List.getD_eq_getElem?_getD]
   exact h.at_ j hjl
  ·have : j = path.length := by simp at hj; omega
   subst this
   rw [List.getD_eq_getElem?_getD, List.getElem?_append_right (Nat.le_refl _)]
   simp [h.now]
 ·rw [List.length_append, List.length_singleton, itP_succ, ← h.now]
theorem wayi_l0 (n f p : Int) (h : tabOk n f = true) (d : Nat) : ∀ (k : Nat) (q : Int) (path : List Int), 0 ≤ q → q < n → WayTo n f p q path → n - path.length ≤ d → d + 62 < k →
  ∃ (path' : List Int) (i : Nat), impl_leadOf.l0 k n f q path = some ((i : Int), path'.drop i) ∧ Way n f p path' i := by
 have hb := tabOk_true.1 h
 induction d with
 | zero =>
  intro k q path h0 h1 hw hd hk
  obtain ⟨k, rfl⟩ : ∃ m, k = m + 1 := ⟨k - 1, by omega⟩
  have hs := hw.short (by omega)
  have lo := idxP_lo (fun y => q == y) path
  have up := idxP_lt (fun y => q == y) path
  have hne : 0 ≤ idxP (fun y => q == y) path := by
   rcases Int.lt_or_le (idxP (fun y => q == y) path) 0 with e | e
   ·have := (hw.next h0 h1 (idxP_mem path q e)).short (by omega)
    simp at this
    omega
   ·exact e
  rw [impl_leadOf.l0, index_f path q (by omega) k (by omega)]
  simp only [Option.bind_some]
  rw [if_pos (by omega), if_pos (by omega), if_pos (by omega)]
  exact ⟨path, (idxP (fun y => q == y) path).toNat, by rw [Int.toNat_of_nonneg hne], by omega, hs, hw.at_, hw.inj, by rw [← hw.now, ← hw.at_ _ (by omega), idxP_at path q hne]⟩
 | succ d ih =>
  intro k q path h0 h1 hw hd hk
  obtain ⟨k, rfl⟩ : ∃ m, k = m + 1 := ⟨k - 1, by omega⟩
  have hs := hw.short (by omega)
  have lo := idxP_lo (fun y => q == y) path
  have up := idxP_lt (fun y => q == y) path
  rw [impl_leadOf.l0, index_f path q (by omega) k (by omega)]
  simp only [Option.bind_some]
  by_cases hz : idxP (fun y => q == y) path < 0
  ·have hb2 := step_bd (p := q) h
   rw [if_neg (by omega), if_pos (by omega), if_neg (by omega), step_eq h h0 (by omega)]
   exact ih k (q * f % n) _ hb2.1 hb2.2 (hw.next h0 h1 (idxP_mem path q hz)) (by simp; omega) (by omega)
  ·rw [if_pos (by omega), if_pos (by omega), if_pos (by omega)]
   exact ⟨path, (idxP (fun y => q == y) path).toNat, by rw [Int.toNat_of_nonneg (by omega)], by omega, hs, hw.at_, hw.inj, by rw [← hw.now, ← hw.at_ _ (by omega), idxP_at path q (by omega)]⟩
/-- How many lines lead from a point to its cycle. -/
def wayI (n f p : Int) : Nat := ((impl_leadOf.f 130 n f p).getD (0, [])).1.toNat
theorem lead_up {n f p : Int} : ∀ (a b : Nat) (x : Int × List Int), a ≤ b → impl_leadOf.f a n f p = some x → impl_leadOf.f b n f p = some x := by
 intro a b x hab ha
 induction hab with
 | refl => exact ha
 | step _ ih2 => exact impl_leadOf.mono _ _ _ _ _ ih2
theorem way_f {n f p : Int} (h : tabOk n f = true) (h0 : 0 ≤ p) (h1 : p < n) : ∃ path, Way n f p path (wayI n f p) ∧ ∀ k, 130 ≤ k → impl_leadOf.f k n f p = some ((wayI n f p : Int), path.drop (wayI n f p)) := by
 have hb := tabOk_true.1 h
 obtain ⟨path, i, e, w⟩ := wayi_l0 n f p h 61 130 p [] h0 h1 ⟨List.nodup_nil, by simp, by simp, by simp [itP_zero h0 h1]⟩ (by simp; omega) (by omega)
 have e1 : impl_leadOf.f 130 n f p = some ((i : Int), path.drop i) := by unfold impl_leadOf.f; exact e
 have eI : wayI n f p = i := by unfold wayI; rw [e1]; simp
 rw [eI]
 exact ⟨path, w, fun k hk => lead_up 130 k _ hk e1⟩
theorem ord_first (n f : Int) (h : tabOk n f = true) (k : Nat) : ∀ (o : Nat) (x r : Int), o + k ≤ 1000000 → 1 ≤ o → x = f ^ o % n → (∀ j, 1 ≤ j → j < o → ¬ f ^ j % n = 1) → impl_orderOf.l0 k n f (o : Int) x = some r → ∃ R : Nat, r = R ∧ o ≤ R ∧ R ≤ o + k ∧ f ^ R % n = 1 ∧ ∀ j, 1 ≤ j → j < R → ¬ f ^ j % n = 1 := by
 have hb := tabOk_true.1 h
 induction k with
 | zero => intro o x r _ _ _ _ e; simp [impl_orderOf.l0] at e
 | succ k ih =>
  intro o x r ho h1 hx hj e
  have h0 : 0 ≤ x ∧ x < n := by rw [hx]; exact ⟨Int.emod_nonneg _ (by omega), Int.emod_lt_of_pos _ (by omega)⟩
  rw [impl_orderOf.l0] at e
  by_cases hq : x = 1
  ·rw [if_pos hq] at e
   have e := Option.some.inj e
   exact ⟨o, e.symm, Nat.le_refl _, by omega, by rw [← hx, hq], hj⟩
  ·rw [if_neg hq, if_neg (by omega), step_eq h h0.1 (by omega), wrap_id (x := (o : Int) + 1) (by omega) (by omega)] at e
   obtain ⟨R, e1, e2, e3, e4⟩ := ih (o + 1) (x * f % n) r (by omega) (by omega) (by
    rw [hx, Int.pow_succ, Int.mul_emod, Int.emod_emod_of_dvd _ (Int.dvd_refl n), ← Int.mul_emod]) (fun j h2 h3 => by
    by_cases ej : j = o
    ·subst ej; rw [← hx]; exact hq
    ·exact hj j h2 (by omega)) (by rw [show (((o + 1 : Nat)) : Int) = (o : Int) + 1 by simp]; exact e)
   exact ⟨R, e1, by omega, by omega, e4⟩
/-- The order is the first power that is one. -/
theorem ordV_first {n f : Int} (h : tabOk n f = true) (hg : gcdGo n f = 1) : ∃ R : Nat, ordV n f = R ∧ 1 ≤ R ∧ R ≤ 63 ∧ f ^ R % n = 1 ∧ ∀ j, 1 ≤ j → j < R → ¬ f ^ j % n = 1 := by
 have hb := tabOk_true.1 h
 obtain ⟨r, _, h2, h3⟩ := ord_f n f h hg 62 (by omega)
 have e := h2
 rw [ordV_i h (by omega)] at e
 unfold impl_orderOf.f impl_divisor.f at h2
 rw [hg] at h2
 simp only [Option.bind_some] at h2
 rw [if_neg (by decide)] at h2
 obtain ⟨R, e1, e2, e3, e4, e5⟩ := ord_first n f h 62 1 f r (by omega) (by omega) (by
  rw [Int.pow_succ, Int.pow_zero, Int.one_mul, Int.emod_eq_of_lt (by omega) (by omega)]) (fun j h4 h5 => by omega) h2
 exact ⟨R, by rw [Option.some.inj e]; exact e1, e2, by omega, e4, e5⟩
theorem gcdGo_l {a b : Int} (ha : 0 ≤ a) (hb : 0 ≤ b) : ∃ p, a = gcdGo a b * p := by
 rw [gcdGo_of ha hb]
 obtain ⟨p, hp⟩ := Nat.gcd_dvd_left a.toNat b.toNat
 refine ⟨p, ?_⟩
 rw [← Int.natCast_mul, ← hp]; omega
theorem gcdGo_r {a b : Int} (ha : 0 ≤ a) (hb : 0 ≤ b) : ∃ p, b = gcdGo a b * p := by
 rw [gcdGo_of ha hb]
 obtain ⟨p, hp⟩ := Nat.gcd_dvd_right a.toNat b.toNat
 refine ⟨p, ?_⟩
 rw [← Int.natCast_mul, ← hp]; omega
/-- A factor that something leads back from has no common divisor with the number of points. -/
theorem inv_gcd {n f u : Int} (h : tabOk n f = true) (hu : u * f % n = 1) : gcdGo n f = 1 := by
 have hb := tabOk_true.1 h
 have hg := gcdGo_bd (a := n) (b := f) (by omega) (by omega)
 obtain ⟨p, hp⟩ := gcdGo_l (a := n) (b := f) (by omega) (by omega)
 obtain ⟨q, hq⟩ := gcdGo_r (a := n) (b := f) (by omega) (by omega)
 have hd := Int.emod_add_mul_ediv (u * f) n
 rw [hu] at hd
 generalize gcdGo n f = g at hg hp hq
 have e : g * (u * q - p * (u * f / n)) = 1 := by
  have e1 : u * f = g * (u * q) := by rw [hq]; grind
  have e2 : n * (u * f / n) = g * (p * (u * f / n)) := by rw [← Int.mul_assoc, ← hp]
  rw [Int.mul_sub, ← e1, ← e2]; omega
 have : g ∣ 1 := ⟨_, e.symm⟩
 have := Int.le_of_dvd (by omega) this
 omega
theorem pow_inv {n f : Int} (h : tabOk n f = true) {R : Nat} (h1 : 1 ≤ R) (hR : f ^ R % n = 1) : gcdGo n f = 1 := by
 obtain ⟨R, rfl⟩ : ∃ m, R = m + 1 := ⟨R - 1, by omega⟩
 exact inv_gcd (u := f ^ R) h (by rw [← Int.pow_succ]; exact hR)
theorem pow_point {n f p : Int} (h0 : 0 ≤ p) (h1 : p < n) (hn : 3 ≤ n) {R : Nat} (hR : f ^ R % n = 1) : p * f ^ R % n = p := by
 rw [Int.mul_emod, hR, Int.mul_one, Int.emod_emod_of_dvd _ (Int.dvd_refl n), Int.emod_eq_of_lt h0 h1]
theorem pow_one' (f : Int) (j : Nat) : 1 * f ^ j = f ^ j := Int.one_mul _
/-- A table can be undone if no line leads to a cycle from without. -/
theorem can_depth {n f : Int} (h : tabOk n f = true) : gcdGo n f = 1 ↔ ∀ p, 0 ≤ p → p < n → wayI n f p = 0 := by
 have hb := tabOk_true.1 h
 constructor
 ·intro hg p h0 h1
  obtain ⟨R, _, hR1, _, hR, _⟩ := ordV_first h hg
  obtain ⟨path, hw, _⟩ := way_f h h0 h1
  refine hw.on.2 ⟨R, hR1, ?_⟩
  rw [itP_zero h0 h1]
  exact pow_point h0 h1 (by omega) hR
 ·intro hall
  obtain ⟨path, hw, _⟩ := way_f h (show (0 : Int) ≤ 1 by omega) (show (1 : Int) < n by omega)
  obtain ⟨j, hj, e⟩ := hw.on.1 (hall 1 (by omega) (by omega))
  rw [itP_zero (by omega) (by omega)] at e
  unfold itP at e
  rw [Int.one_mul] at e
  exact pow_inv h hj e
theorem undo_told (n f : Int) (h : tabOk n f = true) (d : Nat) : ∀ (k : Nat) (i : Int), 0 ≤ i → i + d = n → d < k →
  ∃ r : Int × Bool, spec_UndoFactor.l0 k n f i = some r ∧ impl_UndoFactor.l0 k n f n i = some r ∧ (r.2 = true → i ≤ r.1 ∧ r.1 < n ∧ r.1 * f % n = 1) ∧ (r.2 = false → ∀ j, i ≤ j → j < n → ¬ j * f % n = 1) := by
 have hb := tabOk_true.1 h
 induction d with
 | zero =>
  intro k i hi hd hk
  obtain ⟨k, rfl⟩ : ∃ m, k = m + 1 := ⟨k - 1, by omega⟩
  rw [spec_UndoFactor.l0, if_neg (by omega), impl_UndoFactor.l0, if_neg (by omega)]
  exact ⟨_, rfl, rfl, (fun e => by cases e), fun _ j h1 h2 => by omega⟩
 | succ d ih =>
  intro k i hi hd hk
  obtain ⟨k, rfl⟩ : ∃ m, k = m + 1 := ⟨k - 1, by omega⟩
  have es := step_eq h hi (show i ≤ 60 by omega)
  by_cases hq : Int.tmod (wrap64 (i * f)) n = 1
  ·rw [spec_UndoFactor.l0, if_pos (by omega), if_neg (by omega), if_pos hq, impl_UndoFactor.l0, if_pos (by omega), if_neg (by omega), if_pos hq]
   exact ⟨_, rfl, rfl, fun _ => ⟨Int.le_refl _, by show i < n; omega, by rw [← es]; exact hq⟩, (fun e => by cases e)⟩
  ·obtain ⟨r, r1, r2, r3, r4⟩ := ih k (i + 1) (by omega) (by omega) (by omega)
   rw [spec_UndoFactor.l0, if_pos (by omega), if_neg (by omega), if_neg hq, impl_UndoFactor.l0, if_pos (by omega), if_neg (by omega), if_neg hq, wrap_id (x := i + 1) (by omega) (by omega)]
   refine ⟨r, r1, r2, fun e => ?_, fun e j h1 h2 => ?_⟩
   ·have := r3 e; exact ⟨by omega, this.2⟩
   ·by_cases ej : j = i
    ·subst ej; rw [← es]; exact hq
    ·exact r4 e j (by omega) h2
theorem undo_can {n f : Int} (h : tabOk n f = true) (hg : gcdGo n f = 1) : ∃ u, 0 ≤ u ∧ u < n ∧ u * f % n = 1 := by
 have hb := tabOk_true.1 h
 obtain ⟨R, _, hR1, _, hR, _⟩ := ordV_first h hg
 obtain ⟨R, rfl⟩ : ∃ m, R = m + 1 := ⟨R - 1, by omega⟩
 refine ⟨f ^ R % n, Int.emod_nonneg _ (by omega), Int.emod_lt_of_pos _ (by omega), ?_⟩
 rw [Int.mul_emod, Int.emod_emod_of_dvd _ (Int.dvd_refl n), ← Int.mul_emod, ← Int.pow_succ]; exact hR
theorem lfM_in (n : Int) : ∀ (d : Nat) (i m x : Int), i ≤ x → x < i + d → ordV n x ≤ lfM n d i m
 | 0, i, m, x, h1, h2 => by omega
 | d + 1, i, m, x, h1, h2 => by
  show ordV n x ≤ lfM n d (i + 1) (mx m (ordV n i))
  by_cases e : x = i
  ·subst e
   have := lfM_ge n d (x + 1) (mx m (ordV n x))
   have h3 : ordV n x ≤ mx m (ordV n x) := by unfold mx; split <;> omega
   omega
  ·exact lfM_in n d (i + 1) _ x (by omega) (by omega)
/-- The points to which the lines of i, i + 1, .. (d of them) lead. -/
def rowD (n f i : Int) : Nat → List Int
 | 0 => []
 | d + 1 => (i * f % n) :: rowD n f (i + 1) d
theorem rowD_len (n f i : Int) (d : Nat) : (rowD n f i d).length = d := by
 induction d generalizing i with
 | zero => rfl
 | succ d ih => simp [rowD, ih]
theorem rowD_at (n f : Int) (d : Nat) : ∀ (i : Int) (j : Nat), j < d → (rowD n f i d).getD j 0 = (i + j) * f % n := by
 induction d with
 | zero => intro i j h; omega
 | succ d ih =>
  intro i j h
  cases j with
  | zero => simp [rowD]
  | succ j =>
   simp only [rowD, List.getD_cons_succ]
   rw [ih (i + 1) j (by omega)]
   congr 2
   omega
theorem rd_row (n f x : Int) (h0 : 0 ≤ x) (h1 : x < n) : rd (rowD n f 0 n.toNat) x = x * f % n := by
 unfold rd
 rw [rowD_at n f n.toNat 0 x.toNat (by omega)]
 congr 2
 omega
theorem taRow_l0 (n f : Int) (h : tabOk n f = true) (d : Nat) : ∀ (k : Nat) (l : List Int) (i : Int), 0 ≤ i → i + d = n → d < k → (l.length : Int) + d ≤ 1000 →
  spec_taRow.l0 k n f l i = some (l ++ rowD n f i d) := by
 have hb := tabOk_true.1 h
 induction d with
 | zero =>
  intro k l i hi hd hk _
  obtain ⟨k, rfl⟩ : ∃ m, k = m + 1 := ⟨k - 1, by omega⟩
  rw [spec_taRow.l0, if_neg (by omega)]
  simp [rowD]
 | succ d ih =>
  intro k l i hi hd hk hl
  obtain ⟨k, rfl⟩ : ∃ m, k = m + 1 := ⟨k - 1, by omega⟩
  rw [spec_taRow.l0, if_pos (by omega), if_neg (by omega), if_pos (by omega), step_eq h hi (by omega), wrap_id (x := i + 1) (by omega) (by omega), ih k _ (i + 1) (by omega) (by omega) (by omega) (by simp; omega)]
  simp [rowD]
theorem taRow_f (n f : Int) (h : tabOk n f = true) (k : Nat) (hk : 61 ≤ k) : spec_taRow.f k n f = some (rowD n f 0 n.toNat) := by
 have hb := tabOk_true.1 h
 unfold spec_taRow.f
 rw [taRow_l0 n f h n.toNat k [] 0 (by omega) (by omega) (by omega) (by simp; omega)]
 simp
theorem taFixed_l0 (n f : Int) (h : tabOk n f = true) (d : Nat) : ∀ (k : Nat) (l : List Int) (i : Int), 0 ≤ i → i + d = n → d < k → (l.length : Int) + d ≤ 1000 →
  spec_taFixed.l0 k l (rowD n f 0 n.toNat) n i = some (l ++ numsD (fixB n f) i d) := by
 have hb := tabOk_true.1 h
 have hlen : ((rowD n f 0 n.toNat).length : Int) = n := by rw [rowD_len]; omega
 induction d with
 | zero =>
  intro k l i hi hd hk _
  obtain ⟨k, rfl⟩ : ∃ m, k = m + 1 := ⟨k - 1, by omega⟩
  rw [spec_taFixed.l0, if_neg (by omega)]
  simp [numsD]
 | succ d ih =>
  intro k l i hi hd hk hl
  obtain ⟨k, rfl⟩ : ∃ m, k = m + 1 := ⟨k - 1, by omega⟩
  rw [spec_taFixed.l0, if_pos (by omega), if_pos hi, if_pos (by omega), rd_row n f i hi (by omega), wrap_id (x := i + 1) (by omega) (by omega)]
  by_cases hq : i = i * f % n
  ·rw [if_pos hq, if_pos (by omega), ih k _ (i + 1) (by omega) (by omega) (by omega) (by simp; omega)]
   have hx : fixB n f i = true := by unfold fixB; rw [← hq]; simp
   simp [numsD, hx]
  ·rw [if_neg hq, ih k l (i + 1) (by omega) (by omega) (by omega) (by omega)]
   have hx : fixB n f i = false := by unfold fixB; exact beq_eq_false_iff_ne.mpr (fun e => hq e.symm)
   simp [numsD, hx]
theorem taFixed_f (n f : Int) (h : tabOk n f = true) (k : Nat) (hk : 61 ≤ k) : spec_taFixed.f k n f = some (numsW (fixB n f) 0 (n - 1)) := by
 have hb := tabOk_true.1 h
 unfold spec_taFixed.f
 rw [taRow_f n f h k hk]
 simp only [Option.bind_some]
 rw [show ((rowD n f 0 n.toNat).length : Int) = n by rw [rowD_len]; omega, taFixed_l0 n f h n.toNat k [] 0 (by omega) (by omega) (by omega) (by simp; omega), numsW_numsD]
 simp
theorem fixed_i (n f : Int) (h : tabOk n f = true) : impl_fixedPoints.f n f = some (numsW (fixB n f) 0 (n - 1)) := by
 have hb := tabOk_true.1 h
 unfold impl_fixedPoints.f
 rw [if_pos (by omega)]
theorem factors_l0 (n x : Int) (h0 : 3 ≤ n) (h1 : n ≤ 60) (d : Nat) : ∀ (k : Nat) (l : List Int) (i : Int), 0 ≤ i → i + d = n → d + 62 < k → (l.length : Int) + d ≤ 1000 →
  spec_FactorsWith.l0 k n x l i = some (l ++ numsD (fun f => ((numsW (fixB n f) 0 (n - 1)).length : Int) == x) i d, true) := by
 induction d with
 | zero =>
  intro k l i hi hd hk _
  obtain ⟨k, rfl⟩ : ∃ m, k = m + 1 := ⟨k - 1, by omega⟩
  rw [spec_FactorsWith.l0, if_neg (by omega)]
  simp [numsD]
 | succ d ih =>
  intro k l i hi hd hk hl
  obtain ⟨k, rfl⟩ : ∃ m, k = m + 1 := ⟨k - 1, by omega⟩
  have h : tabOk n i = true := tabOk_true.2 (by omega)
  rw [spec_FactorsWith.l0, if_pos (by omega), taFixed_f n i h k (by omega)]
  simp only [Option.bind_some]
  rw [wrap_id (x := i + 1) (by omega) (by omega)]
  by_cases hq : ((numsW (fixB n i) 0 (n - 1)).length : Int) = x
  ·rw [if_pos hq, if_pos (by omega), ih k _ (i + 1) (by omega) (by omega) (by omega) (by simp; omega)]
   simp [numsD, hq]
  ·rw [if_neg hq, ih k l (i + 1) (by omega) (by omega) (by omega) (by omega)]
   simp [numsD, hq]
/-- How many points are fixed, on whole numbers from 0. -/
def fixN (n f : Nat) : Nat → Nat
 | 0 => 0
 | k + 1 => (if k * f % n = k then 1 else 0) + fixN n f k
/-- By trying all: some point is fixed, their number divides that of the points, and all are for the factor 1 alone. -/
theorem fixN_all : ∀ n ∈ List.range 61, ∀ f ∈ List.range n, 3 ≤ n → (fixN n f n ≠ 0 ∧ n % fixN n f n = 0 ∧ (fixN n f n = n ↔ f = 1)) := by decide +kernel
theorem fixN_len (n f : Nat) : ∀ (d : Nat), (numsD (fixB (n : Int) (f : Int)) 0 d).length = fixN n f d
 | 0 => rfl
 | d + 1 => by
  have ih := fixN_len n f d
  rw [← numsD_eq] at ih ⊢
  rw [List.range_succ, List.map_append, List.filter_append, List.length_append, ih, fixN]
  have e : fixB (n : Int) (f : Int) (0 + (d : Int)) = decide (d * f % n = d) := by
   unfold fixB
   rw [Int.zero_add, ← Int.natCast_mul, ← Int.natCast_emod, Bool.eq_iff_iff, beq_iff_eq, decide_eq_true_eq]
   omega
  simp only [List.map_cons, List.map_nil, List.filter_cons, List.filter_nil, e]
  by_cases h : d * f % n = d
  ·simp [h, Nat.add_comm]
  ·simp [h]
theorem fix_num {n f : Int} (h : tabOk n f = true) : ∃ c : Nat, ((numsW (fixB n f) 0 (n - 1)).length : Int) = c ∧ 1 ≤ (c : Int) ∧ (c : Int) ≤ n ∧ n % (c : Int) = 0 ∧ ((c : Int) = n ↔ f = 1) := by
 have hb := tabOk_true.1 h
 obtain ⟨n, rfl⟩ := Int.eq_ofNat_of_zero_le (show 0 ≤ n by omega)
 obtain ⟨f, rfl⟩ := Int.eq_ofNat_of_zero_le (show 0 ≤ f by omega)
 obtain ⟨h1, h2, h3⟩ := fixN_all n (List.mem_range.2 (by omega)) f (List.mem_range.2 (by omega)) (by omega)
 have h4 := fixN_len n f n
 have h5 := numsW_len (fixB (n : Int) (f : Int)) 0 ((n : Int) - 1)
 rw [numsW_numsD, show ((n : Int) - 1 + 1 - 0).toNat = n by omega, h4] at h5 ⊢
 refine ⟨fixN n f n, rfl, by omega, by omega, ?_, ?_⟩
 ·rw [← Int.natCast_emod, h2]; rfl
 ·constructor
  ·intro e; have := h3.1 (by omega); omega
  ·intro e; have := h3.2 (by omega); omega
theorem rdC_get {l : List S41} {i : Int} (h0 : 0 ≤ i) (h1 : i < (l.length : Int)) : rd_T41 l i = l[i.toNat]'(by omega) := by
 simp [rd_T41, List.getD_eq_getElem?_getD, List.getElem?_eq_getElem (show i.toNat < l.length by omega)]
theorem timesRow_l0 (n f : Int) (h : tabOk n f = true) (d : Nat) : ∀ (k : Nat) (l : List Int) (i : Int), 0 ≤ i → i + d = n → d < k → (l.length : Int) + d ≤ 1000 →
  impl_timesRow.l0 k n f l n i = some (l ++ rowD n f i d) := by
 have hb := tabOk_true.1 h
 induction d with
 | zero =>
  intro k l i hi hd hk _
  obtain ⟨k, rfl⟩ : ∃ m, k = m + 1 := ⟨k - 1, by omega⟩
  rw [impl_timesRow.l0, if_neg (by omega)]
  simp [rowD]
 | succ d ih =>
  intro k l i hi hd hk hl
  obtain ⟨k, rfl⟩ : ∃ m, k = m + 1 := ⟨k - 1, by omega⟩
  rw [impl_timesRow.l0, if_pos (by omega), if_neg (by omega), if_pos (by omega), step_eq h hi (by omega), wrap_id (x := i + 1) (by omega) (by omega), ih k _ (i + 1) (by omega) (by omega) (by omega) (by simp; omega)]
  simp [rowD]
/-- A chord comes before another. -/
def lessC (x y : S41) : Bool := decide (x.f0 < y.f0 ∨ x.f0 = y.f0 ∧ x.f1 < y.f1)
theorem lessC_iff (x y : S41) : lessC x y = true ↔ x.f0 < y.f0 ∨ x.f0 = y.f0 ∧ x.f1 < y.f1 := by unfold lessC; simp
/-- A chord laid into its place, if it isn't there. -/
def insD : List S41 → S41 → List S41
 | [], t => [t]
 | x :: r, t => if lessC x t = true then x :: insD r t else if (x.f0 == t.f0 && (x.f1 == t.f1)) = true then x :: r else t :: x :: r
theorem insD_cons (x : S41) (r : List S41) (t : S41) : insD (x :: r) t = if lessC x t = true then x :: insD r t else if (x.f0 == t.f0 && (x.f1 == t.f1)) = true then x :: r else t :: x :: r := rfl
theorem eqC {x t : S41} : (x.f0 == t.f0 && (x.f1 == t.f1)) = true ↔ x = t := by
 cases x; cases t; simp
theorem insD_len : ∀ (l : List S41) (t : S41), (insD l t).length ≤ l.length + 1
 | [], t => by simp [insD]
 | x :: r, t => by
  have := insD_len r t
  unfold insD
  repeat' split
  all_goals simp
  all_goals omega
theorem insD_mem {y : S41} : ∀ {l : List S41} {t : S41}, y ∈ insD l t ↔ y = t ∨ y ∈ l
 | [], t => by simp [insD]
 | x :: r, t => by
  unfold insD
  split
  ·rw [List.mem_cons, insD_mem, List.mem_cons]
   constructor
   ·rintro (h | h | h) <;> simp [h]
   ·rintro (h | h | h) <;> simp [h]
  ·split
   ·rename_i h
    rw [eqC] at h
    subst h
    simp
   ·simp
theorem insD_sorted : ∀ (l : List S41) (t : S41), l.Pairwise (fun a b => lessC a b = true) → (insD l t).Pairwise (fun a b => lessC a b = true)
 | [], t, _ => by simp [insD]
 | x :: r, t, h => by
  obtain ⟨h1, h2⟩ := List.pairwise_cons.1 h
  unfold insD
  split
  ·rename_i hx
   refine List.pairwise_cons.2 ⟨fun y hy => ?_, insD_sorted r t h2⟩
   rcases insD_mem.1 hy with rfl | hy
   ·exact hx
   ·exact h1 y hy
  ·split
   ·exact h
   ·rename_i hx hn
    have hx2 : lessC t x = true := by
     rw [lessC_iff] at hx ⊢
     rw [eqC] at hn
     have : ¬ (x.f0 = t.f0 ∧ x.f1 = t.f1) := fun e => hn (by cases x; cases t; simp only at e; rw [e.1, e.2])
     omega
    refine List.pairwise_cons.2 ⟨fun y hy => ?_, h⟩
    rcases List.mem_cons.1 hy with rfl | hy
    ·exact hx2
    ·have := h1 y hy
     rw [lessC_iff] at this hx2 ⊢
     omega
theorem foldD : ∀ (l o : List S41), o.Pairwise (fun a b => lessC a b = true) → (l.foldl insD o).Pairwise (fun a b => lessC a b = true) ∧ (∀ y, y ∈ l.foldl insD o ↔ y ∈ o ∨ y ∈ l) ∧ (l.foldl insD o).length ≤ o.length + l.length
 | [], o, h => ⟨h, by simp, by simp⟩
 | x :: l, o, h => by
  obtain ⟨h1, h2, h3⟩ := foldD l (insD o x) (insD_sorted o x h)
  refine ⟨h1, fun y => ?_, ?_⟩
  ·rw [List.foldl_cons, h2, insD_mem, List.mem_cons]
   constructor
   ·rintro ((e | e) | e) <;> simp [e]
   ·rintro (e | e | e) <;> simp [e]
  ·have := insD_len o x
   rw [List.foldl_cons, List.length_cons]; omega
/-- Two ascending lists with the same members are one. -/
theorem ascC_ext : ∀ {l m : List S41}, l.Pairwise (fun a b => lessC a b = true) → m.Pairwise (fun a b => lessC a b = true) → (∀ x, x ∈ l ↔ x ∈ m) → l = m
 | [], [], _, _, _ => rfl
 | [], y :: m, _, _, h => absurd ((h y).2 List.mem_cons_self) (by simp)
 | x :: l, [], _, _, h => absurd ((h x).1 List.mem_cons_self) (by simp)
 | x :: l, y :: m, hl, hm, h => by
  have irr : ∀ z : S41, ¬ lessC z z = true := fun z hz => by rw [lessC_iff] at hz; omega
  obtain ⟨hl1, hl2⟩ := List.pairwise_cons.1 hl
  obtain ⟨hm1, hm2⟩ := List.pairwise_cons.1 hm
  have e : x = y := by
   have h1 := (h x).1 List.mem_cons_self
   have h2 := (h y).2 List.mem_cons_self
   rcases List.mem_cons.1 h1 with h1 | h1
   ·exact h1
   ·rcases List.mem_cons.1 h2 with h2 | h2
    ·exact h2.symm
    ·have a1 := hm1 x h1; have a2 := hl1 y h2
     rw [lessC_iff] at a1 a2; omega
  subst e
  congr 1
  refine ascC_ext hl2 hm2 fun z => ?_
  constructor
  ·intro hz
   rcases List.mem_cons.1 ((h z).1 (List.mem_cons_of_mem _ hz)) with e | e
   ·have := hl1 z hz; rw [e] at this; exact absurd this (irr _)
   ·exact e
  ·intro hz
   rcases List.mem_cons.1 ((h z).2 (List.mem_cons_of_mem _ hz)) with e | e
   ·have := hm1 z hz; rw [e] at this; exact absurd this (irr _)
   ·exact e
theorem compact_uptoC (d : Array S41) (hd : ∀ i j, i ≤ j → j < d.size → ¬ lessC d[j]! d[i]! = true) : ∀ m, m ≤ d.size →
  (Go.Lib.compactUpTo d m).Pairwise (fun a b => lessC a b = true) ∧ (∀ x, x ∈ Go.Lib.compactUpTo d m ↔ ∃ j, j < m ∧ d[j]! = x)
 | 0, _ => ⟨by simp [Go.Lib.compactUpTo], by simp [Go.Lib.compactUpTo]⟩
 | m + 1, hm => by
  obtain ⟨h1, h2⟩ := compact_uptoC d hd m (by omega)
  rw [Go.Lib.compactUpTo_succ]
  by_cases hk : m = 0 ∨ d[m]! ≠ d[m - 1]!
  ·have e : Go.Lib.keeps d m = true := by unfold Go.Lib.keeps; exact decide_eq_true hk
   rw [e, if_pos rfl]
   constructor
   ·rw [List.pairwise_append]
    refine ⟨h1, by simp, fun x hx y hy => ?_⟩
    obtain ⟨j, hj, rfl⟩ := (h2 x).1 hx
    obtain rfl := List.mem_singleton.1 hy
    rcases hk with hk | hk
    ·omega
    ·have a1 := hd j (m - 1) (by omega) (by omega)
     have a2 := hd (m - 1) m (by omega) (by omega)
     have a3 : ¬ (d[m]!.f0 = d[m - 1]!.f0 ∧ d[m]!.f1 = d[m - 1]!.f1) := fun e => hk (by
      generalize d[m]! = p at e ⊢
      generalize d[m - 1]! = q at e ⊢
      cases p; cases q; simp only at e; rw [e.1, e.2])
     rw [lessC_iff] at a1 a2 ⊢
     omega
   ·intro x
    rw [List.mem_append, h2, List.mem_singleton]
    constructor
    ·rintro (⟨j, hj, rfl⟩ | rfl)
     ·exact ⟨j, by omega, rfl⟩
     ·exact ⟨m, by omega, rfl⟩
    ·rintro ⟨j, hj, rfl⟩
     by_cases e : j = m
     ·subst e; exact .inr rfl
     ·exact .inl ⟨j, by omega, rfl⟩
  ·have e : Go.Lib.keeps d m = false := by unfold Go.Lib.keeps; exact decide_eq_false hk
   rw [e]
   simp only [Bool.false_eq_true, if_false, List.append_nil]
   refine ⟨h1, fun x => ?_⟩
   rw [h2]
   constructor
   ·rintro ⟨j, hj, rfl⟩; exact ⟨j, by omega, rfl⟩
   ·rintro ⟨j, hj, rfl⟩
    by_cases e : j = m
    ·subst e
     exact ⟨j - 1, by omega, by
      rcases Decidable.em (d[j]! = d[j - 1]!) with h | h
      ·exact h.symm
      ·exact absurd (Or.inr h) hk⟩
    ·exact ⟨j, by omega, rfl⟩
theorem ltC' (x y : S41) : Go.Proofs.ltOf cmpC x y = lessC x y := by rw [ltC]; rfl
theorem compactC_sorted (l : List S41) : (Go.Lib.compact (l.mergeSort fun x y => !(Go.Proofs.ltOf cmpC) y x)).Pairwise (fun a b => lessC a b = true) ∧ ∀ x, x ∈ Go.Lib.compact (l.mergeSort fun x y => !(Go.Proofs.ltOf cmpC) y x) ↔ x ∈ l := by
 have hp := List.pairwise_mergeSort (le := fun x y : S41 => !(Go.Proofs.ltOf cmpC) y x) (fun a b c h1 h2 => by
  simp only [ltC', Bool.not_eq_true', ← Bool.not_eq_true, lessC_iff] at *; omega) (fun a b => by
  simp only [ltC', Bool.or_eq_true, Bool.not_eq_true', ← Bool.not_eq_true, lessC_iff]; omega) l
 have hm := fun x => List.mem_mergeSort (le := fun x y : S41 => !(Go.Proofs.ltOf cmpC) y x) (a := x) (l := l)
 generalize (l.mergeSort fun x y => !(Go.Proofs.ltOf cmpC) y x) = s at hp hm
 have hd : ∀ i j, i ≤ j → j < s.toArray.size → ¬ lessC s.toArray[j]! s.toArray[i]! = true := by
  intro i j hij hj
  have hj' : j < s.length := by simpa using hj
  rw [getElem!_pos s.toArray i (by simp; omega), getElem!_pos s.toArray j hj]
  simp only [List.getElem_toArray]
  rcases Nat.lt_or_eq_of_le hij with h | h
  ·have := List.pairwise_iff_getElem.1 hp i j (by omega) hj' h
   rw [ltC'] at this
   simpa using this
  ·subst h; rw [lessC_iff]; omega
 obtain ⟨h1, h2⟩ := compact_uptoC s.toArray hd s.length (by simp)
 refine ⟨h1, fun x => ?_⟩
 unfold Go.Lib.compact
 rw [h2, ← hm, List.mem_iff_getElem]
 constructor
 ·rintro ⟨j, hj, rfl⟩
  exact ⟨j, hj, by rw [getElem!_pos s.toArray j (by simpa using hj)]; simp⟩
 ·rintro ⟨j, hj, rfl⟩
  exact ⟨j, hj, by rw [getElem!_pos s.toArray j (by simpa using hj)]; simp⟩
theorem ordered_f (l : List S41) (hl : (l.length : Int) ≤ 1000) : impl_ordered.f l = some (l.foldl insD []) := by
 unfold impl_ordered.f impl_Chord_79.f impl_Chord_81.f
 rw [if_pos (by omega)]
 simp only [Option.bind_some]
 rw [if_pos (by simp; omega)]
 simp only [Option.bind_some]
 congr 1
 obtain ⟨h1, h2⟩ := compactC_sorted l
 obtain ⟨h3, h4, _⟩ := foldD l [] List.Pairwise.nil
 refine ascC_ext h1 h3 fun x => ?_
 rw [h2, h4]; simp
theorem putC_j2 (l : List S41) (a b : Int) (hl : (l.length : Int) ≤ 1000) {i : Nat} (hi : i ≤ l.length) (k : Nat) (hk : 0 < k) : spec_srPut.j2 k l (i : Int) false a b = some (l.take i ++ (⟨a, b⟩ : S41) :: l.drop i) := by
 obtain ⟨k, rfl⟩ : ∃ m, k = m + 1 := ⟨k - 1, by omega⟩
 have ht : (l.take i).length ≤ l.length := by rw [List.length_take]; omega
 rw [spec_srPut.j2, if_neg (by decide)]
 simp only [Option.bind_some]
 rw [if_pos (by omega), if_pos (by omega)]
 simp only [Int.toNat_natCast, List.nil_append, List.length_nil, Nat.zero_add, List.length_append, List.length_cons]
 rw [if_pos (by omega), if_pos (by omega), List.length_drop, if_pos (by omega)]
 simp
theorem putC_l0 (l : List S41) (a b : Int) (hl : (l.length : Int) ≤ 1000) (d : Nat) : ∀ (k i : Nat), i + d = l.length → 2 * d + 3 < k →
  spec_srPut.l0 k l (i : Int) a b = some (l.take i ++ insD (l.drop i) ⟨a, b⟩) := by
 induction d with
 | zero =>
  intro k i hi hk
  obtain ⟨k, rfl⟩ : ∃ m, k = m + 1 + 1 := ⟨k - 2, by omega⟩
  have e : i = l.length := by omega
  rw [spec_srPut.l0, if_neg (by omega), spec_srPut.j1, if_neg (by decide), if_neg (by omega), putC_j2 l a b hl (by omega) k (by omega), e]
  simp [insD]
 | succ d ih =>
  intro k i hi hk
  obtain ⟨k, rfl⟩ : ∃ m, k = m + 1 + 1 := ⟨k - 2, by omega⟩
  have hlt : i < l.length := by omega
  have er : rd_T41 l (i : Int) = l[i] := by rw [rdC_get (by omega) (by omega)]; rfl
  have e1 : l.drop i = l[i] :: l.drop (i + 1) := List.drop_eq_getElem_cons hlt
  have e2 : l.take (i + 1) = l.take i ++ [l[i]] := List.take_succ_eq_append_getElem hlt
  have e3 : l.take i ++ l[i] :: l.drop (i + 1) = l := by rw [← e1, List.take_append_drop]
  have el : spec_srLess.f (rd_T41 l (i : Int)).f0 (rd_T41 l (i : Int)).f1 a b = some (lessC l[i] ⟨a, b⟩) := by rw [er]; rfl
  rw [spec_srPut.l0, if_pos (by omega), if_pos (by omega), el]
  simp only [Option.bind_some]
  rw [spec_srPut.j1]
  by_cases h : lessC l[i] ⟨a, b⟩ = true
  ·rw [if_pos h, wrap_id (x := (i : Int) + 1) (by omega) (by omega)]
   have h1 := ih k (i + 1) (by omega) (by omega)
   rw [show (((i + 1 : Nat)) : Int) = (i : Int) + 1 by simp] at h1
   rw [h1, e1, insD_cons, if_pos h, e2, List.append_assoc]
   rfl
  ·rw [if_neg h, if_pos (by omega), if_pos (by omega), er, e1, insD_cons, if_neg h]
   by_cases h2 : (l[i].f0 == a && (l[i].f1 == b)) = true
   ·obtain ⟨k, rfl⟩ : ∃ m, k = m + 1 := ⟨k - 1, by omega⟩
    rw [h2, if_pos rfl, spec_srPut.j2, if_pos rfl, e3]
   ·simp only [Bool.not_eq_true] at h2
    rw [h2, if_neg (by decide), putC_j2 l a b hl (by omega) k (by omega), e1]
theorem putC_f (l : List S41) (a b : Int) (hl : (l.length : Int) ≤ 1000) {k : Nat} (hk : 2 * l.length + 3 < k) : spec_srPut.f k l a b = some (insD l ⟨a, b⟩) := by
 unfold spec_srPut.f
 have h := putC_l0 l a b hl l.length k 0 (by omega) (by omega)
 simpa using h
/-- The chord of two points. -/
def chC (a b : Int) : S41 := ⟨mn a b, mx a b⟩
theorem srChord_eq (a b : Int) : spec_srChord.f a b = some (mn a b, mx a b) := by
 unfold spec_srChord.f spec_l1Least.f spec_l1Most.f mn mx
 by_cases h : a < b
 ·rw [if_pos h, if_neg (by omega)]
  simp only [Option.bind_some, Option.some.injEq, Prod.mk.injEq]
  constructor <;> split <;> omega
 ·by_cases h2 : b < a
  ·rw [if_neg h, if_pos (by omega)]
   simp only [Option.bind_some, Option.some.injEq, Prod.mk.injEq]
   constructor <;> split <;> omega
  ·rw [if_neg h, if_neg (by omega)]
   simp only [Option.bind_some, Option.some.injEq, Prod.mk.injEq]
   constructor <;> split <;> omega
/-- The chords along the lines of i, i + 1, .. (d of them). -/
def chL (r : List Int) (i : Int) : Nat → List S41
 | 0 => []
 | d + 1 => if i = rd r i then chL r (i + 1) d else chC i (rd r i) :: chL r (i + 1) d
theorem chL_len (r : List Int) : ∀ (d : Nat) (i : Int), (chL r i d).length ≤ d
 | 0, i => Nat.le_refl _
 | d + 1, i => by
  have := chL_len r d (i + 1)
  unfold chL
  split
  ·omega
  ·simp; omega
theorem taChords_l0 (r : List Int) (hr : (r.length : Int) ≤ 60) (d : Nat) : ∀ (k : Nat) (o : List S41) (i : Int), 0 ≤ i → i + d = r.length → d + 200 < k → (o.length : Int) ≤ i →
  spec_taChords.l0 k o r (r.length : Int) i = some ((chL r i d).foldl insD o) := by
 induction d with
 | zero =>
  intro k o i h0 hi hk ho
  obtain ⟨k, rfl⟩ : ∃ m, k = m + 1 := ⟨k - 1, by omega⟩
  rw [spec_taChords.l0, if_neg (by omega)]; rfl
 | succ d ih =>
  intro k o i h0 hi hk ho
  obtain ⟨k, rfl⟩ : ∃ m, k = m + 1 := ⟨k - 1, by omega⟩
  rw [spec_taChords.l0, if_pos (show i < (r.length : Int) by omega), if_pos h0, if_pos (show i < (r.length : Int) by omega), wrap_id (x := i + 1) (by omega) (by omega)]
  by_cases h : i = rd r i
  ·rw [if_pos h, ih k o (i + 1) (by omega) (by omega) (by omega) (by omega), chL, if_pos h]
  ·rw [if_neg h, srChord_eq]
   simp only [Option.bind_some]
   rw [putC_f _ _ _ (by omega) (by omega)]
   simp only [Option.bind_some]
   have hl := insD_len o ⟨mn i (rd r i), mx i (rd r i)⟩
   rw [ih k _ (i + 1) (by omega) (by omega) (by omega) (by omega), chL, if_neg h]
   rfl
theorem timesChords_l0 (r : List Int) (hr : (r.length : Int) ≤ 60) (d : Nat) : ∀ (k : Nat) (o : List S41) (i : Int), 0 ≤ i → i + d = r.length → d < k → (o.length : Int) ≤ i →
  impl_timesChords.l0 k o r (r.length : Int) i = some ((o ++ chL r i d).foldl insD []) := by
 induction d with
 | zero =>
  intro k o i h0 hi hk ho
  obtain ⟨k, rfl⟩ : ∃ m, k = m + 1 := ⟨k - 1, by omega⟩
  rw [impl_timesChords.l0, if_neg (by omega), ordered_f _ (by omega)]
  simp [chL]
 | succ d ih =>
  intro k o i h0 hi hk ho
  obtain ⟨k, rfl⟩ : ∃ m, k = m + 1 := ⟨k - 1, by omega⟩
  rw [impl_timesChords.l0, if_pos (show i < (r.length : Int) by omega), if_pos h0, if_pos (show i < (r.length : Int) by omega), wrap_id (x := i + 1) (by omega) (by omega)]
  by_cases h : i = rd r i
  ·rw [if_pos h, ih k o (i + 1) (by omega) (by omega) (by omega) (by omega), chL, if_pos h]
  ·rw [if_neg h]
   unfold impl_chord.f
   simp only [Option.bind_some]
   rw [if_pos (by omega), ih k _ (i + 1) (by omega) (by omega) (by omega) (by simp; omega), chL, if_neg h]
   simp [chC]
/-- The chords of a table. -/
def tabC (n f : Int) : List S41 := (chL (rowD n f 0 n.toNat) 0 n.toNat).foldl insD []
theorem tabC_len (n f : Int) : (tabC n f).length ≤ n.toNat := by
 have h1 := (foldD (chL (rowD n f 0 n.toNat) 0 n.toNat) [] List.Pairwise.nil).2.2
 have h2 := chL_len (rowD n f 0 n.toNat) n.toNat 0
 unfold tabC
 simp at h1; omega
theorem taChords_f (n f : Int) (h : tabOk n f = true) {k : Nat} (hk : 300 ≤ k) : spec_taChords.f k n f = some (tabC n f) := by
 have hb := tabOk_true.1 h
 have hl := rowD_len n f 0 n.toNat
 unfold spec_taChords.f
 rw [taRow_f n f h k (by omega)]
 simp only [Option.bind_some]
 rw [taChords_l0 (rowD n f 0 n.toNat) (by omega) n.toNat k [] 0 (by omega) (by omega) (by omega) (by simp)]
 rfl
theorem timesChords_f (n f : Int) (h : tabOk n f = true) {k : Nat} (hk : 300 ≤ k) : impl_timesChords.f k n f = some (tabC n f) := by
 have hb := tabOk_true.1 h
 have hl := rowD_len n f 0 n.toNat
 unfold impl_timesChords.f impl_timesRow.f
 rw [timesRow_l0 n f h n.toNat k [] 0 (by omega) (by omega) (by omega) (by simp; omega)]
 simp only [Option.bind_some, List.nil_append]
 rw [timesChords_l0 (rowD n f 0 n.toNat) (by omega) n.toNat k [] 0 (by omega) (by omega) (by omega) (by simp)]
 rfl
theorem cdTurn_l0 (n b : Int) (hn : 3 ≤ n) (hn2 : n ≤ 60) (l : List S41) (hl : (l.length : Int) ≤ 100) (d : Nat) : ∀ (k : Nat) (o : List S41) (i : Int), 0 ≤ i → i + d = l.length → d + 300 < k → (o.length : Int) ≤ i →
  spec_cdTurn.l0 k n b o l (l.length : Int) i = some (((l.drop i.toNat).map fun x => chC (Int.tmod (wrap64 (x.f0 + b)) n) (Int.tmod (wrap64 (x.f1 + b)) n)).foldl insD o) := by
 induction d with
 | zero =>
  intro k o i h0 hi hk ho
  obtain ⟨k, rfl⟩ : ∃ m, k = m + 1 := ⟨k - 1, by omega⟩
  rw [spec_cdTurn.l0, if_neg (by omega), List.drop_eq_nil_of_le (by omega)]; rfl
 | succ d ih =>
  intro k o i h0 hi hk ho
  obtain ⟨k, rfl⟩ : ∃ m, k = m + 1 := ⟨k - 1, by omega⟩
  rw [spec_cdTurn.l0, if_pos (show i < (l.length : Int) by omega), if_pos h0, if_pos (show i < (l.length : Int) by omega), if_neg (by omega), srChord_eq]
  simp only [Option.bind_some]
  rw [putC_f _ _ _ (by omega) (by omega)]
  simp only [Option.bind_some]
  have hl2 := insD_len o ⟨mn (Int.tmod (wrap64 ((rd_T41 l i).f0 + b)) n) (Int.tmod (wrap64 ((rd_T41 l i).f1 + b)) n), mx (Int.tmod (wrap64 ((rd_T41 l i).f0 + b)) n) (Int.tmod (wrap64 ((rd_T41 l i).f1 + b)) n)⟩
  rw [wrap_id (x := i + 1) (by omega) (by omega), ih k _ (i + 1) (by omega) (by omega) (by omega) (by omega), List.drop_eq_getElem_cons (show i.toNat < l.length by omega), ← rdC_get h0 (by omega), show i.toNat + 1 = (i + 1).toNat by omega]
  rfl
theorem turned_l0 (n b : Int) (hn : 3 ≤ n) (hn2 : n ≤ 60) (l : List S41) (hl : (l.length : Int) ≤ 100) (d : Nat) : ∀ (k : Nat) (o : List S41) (i : Int), 0 ≤ i → i + d = l.length → d < k → (o.length : Int) ≤ i →
  impl_turned.l0 k n b o l (l.length : Int) i = some ((o ++ (l.drop i.toNat).map fun x => chC (Int.tmod (wrap64 (x.f0 + b)) n) (Int.tmod (wrap64 (x.f1 + b)) n)).foldl insD []) := by
 induction d with
 | zero =>
  intro k o i h0 hi hk ho
  obtain ⟨k, rfl⟩ : ∃ m, k = m + 1 := ⟨k - 1, by omega⟩
  rw [impl_turned.l0, if_neg (by omega), List.drop_eq_nil_of_le (by omega), ordered_f _ (by omega)]; simp
 | succ d ih =>
  intro k o i h0 hi hk ho
  obtain ⟨k, rfl⟩ : ∃ m, k = m + 1 := ⟨k - 1, by omega⟩
  rw [impl_turned.l0, if_pos (show i < (l.length : Int) by omega), if_pos h0, if_pos (show i < (l.length : Int) by omega), if_neg (by omega)]
  unfold impl_chord.f
  simp only [Option.bind_some]
  rw [if_pos (by omega), wrap_id (x := i + 1) (by omega) (by omega), ih k _ (i + 1) (by omega) (by omega) (by omega) (by simp; omega), List.drop_eq_getElem_cons (show i.toNat < l.length by omega), ← rdC_get h0 (by omega), show i.toNat + 1 = (i + 1).toNat by omega]
  simp [chC]
theorem turn_both (n b : Int) (hn : 3 ≤ n) (hn2 : n ≤ 60) (l : List S41) (hl : (l.length : Int) ≤ 60) {k : Nat} (hk : 400 ≤ k) : ∃ r : List S41, (r.length : Int) ≤ 60 ∧ spec_cdTurn.f k n l b = some r ∧ impl_turned.f k n l b = some r := by
 unfold spec_cdTurn.f impl_turned.f
 refine ⟨_, ?_, cdTurn_l0 n b hn hn2 l (by omega) l.length k [] 0 (by omega) (by omega) (by omega) (by simp), ?_⟩
 ·have := (foldD ((l.drop (0 : Int).toNat).map fun x => chC (Int.tmod (wrap64 (x.f0 + b)) n) (Int.tmod (wrap64 (x.f1 + b)) n)) [] List.Pairwise.nil).2.2
  simp only [List.length_map, List.length_drop, List.length_nil] at this
  omega
 ·rw [turned_l0 n b hn hn2 l (by omega) l.length k [] 0 (by omega) (by omega) (by omega) (by simp)]
  rfl
theorem same_l0 (a b : List S41) (ha : (a.length : Int) ≤ 1000) (hab : a.length = b.length) (d : Nat) : ∀ (k : Nat) (i : Int), 0 ≤ i → i + d = a.length → d < k →
  ∃ q : Bool, spec_taSame.l0 k a b (a.length : Int) i = some q ∧ impl_Chord_43.l0 k a b (a.length : Int) i = some q := by
 induction d with
 | zero =>
  intro k i h0 hi hk
  obtain ⟨k, rfl⟩ : ∃ m, k = m + 1 := ⟨k - 1, by omega⟩
  rw [spec_taSame.l0, impl_Chord_43.l0, if_neg (by omega), if_neg (by omega)]
  exact ⟨true, rfl, rfl⟩
 | succ d ih =>
  intro k i h0 hi hk
  obtain ⟨k, rfl⟩ : ∃ m, k = m + 1 := ⟨k - 1, by omega⟩
  obtain ⟨q, h1, h2⟩ := ih k (i + 1) (by omega) (by omega) (by omega)
  rw [spec_taSame.l0, impl_Chord_43.l0]
  simp only [if_pos (show i < (a.length : Int) by omega), if_pos (show i < (b.length : Int) by omega), if_pos h0]
  rw [wrap_id (x := i + 1) (by omega) (by omega), h1, h2]
  split
  ·exact ⟨false, rfl, rfl⟩
  ·exact ⟨q, rfl, rfl⟩
theorem same_f (a b : List S41) (ha : (a.length : Int) ≤ 1000) {k : Nat} (hk : a.length < k) : ∃ q : Bool, spec_taSame.f k a b = some q ∧ impl_Chord_43.f k a b = some q := by
 unfold spec_taSame.f impl_Chord_43.f
 by_cases h : (a.length : Int) = b.length
 ·rw [if_pos h, if_pos h]
  exact same_l0 a b ha (by omega) a.length k 0 (by omega) (by omega) hk
 ·rw [if_neg h, if_neg h]
  exact ⟨false, rfl, rfl⟩
theorem least_l0 (n : Int) (hn : 3 ≤ n) (hn2 : n ≤ 60) (l : List S41) (hl : (l.length : Int) ≤ 60) (d : Nat) : ∀ (k : Nat) (i : Int), 0 ≤ i → i + d = n → d + 400 < k →
  ∃ r : Int × Bool, spec_LeastTurnOfTable.l0 k n l i = some r ∧ impl_LeastTurnOfTable.l0 k n l i = some r := by
 induction d with
 | zero =>
  intro k i h0 hi hk
  obtain ⟨k, rfl⟩ : ∃ m, k = m + 1 := ⟨k - 1, by omega⟩
  obtain rfl : i = n := by omega
  rw [spec_LeastTurnOfTable.l0, impl_LeastTurnOfTable.l0, if_neg (by omega), if_neg (by omega)]
  exact ⟨(i, true), rfl, rfl⟩
 | succ d ih =>
  intro k i h0 hi hk
  obtain ⟨k, rfl⟩ : ∃ m, k = m + 1 := ⟨k - 1, by omega⟩
  obtain ⟨r, hr, h1, h2⟩ := turn_both n i hn hn2 l hl (k := k) (by omega)
  obtain ⟨q, h3, h4⟩ := same_f r l (by omega) (k := k) (by omega)
  rw [spec_LeastTurnOfTable.l0, impl_LeastTurnOfTable.l0]
  simp only [if_pos (show i < n by omega)]
  rw [h1, h2]
  simp only [Option.bind_some]
  rw [h3, h4]
  simp only [Option.bind_some]
  split
  ·exact ⟨(i, true), rfl, rfl⟩
  ·rw [wrap_id (x := i + 1) (by omega) (by omega)]
   exact ih k (i + 1) (by omega) (by omega) (by omega)
/-- A chord turned. -/
def tnC (n b : Int) (x : S41) : S41 := chC ((x.f0 + b) % n) ((x.f1 + b) % n)
def okC (n : Int) (x : S41) : Prop := 0 ≤ x.f0 ∧ x.f0 < x.f1 ∧ x.f1 < n
theorem chC_comm (a b : Int) : chC a b = chC b a := by
 unfold chC mn mx
 simp only [S41.mk.injEq]
 constructor <;> (repeat' split) <;> omega
theorem tn_tn (n a b : Int) (x : S41) : tnC n a (tnC n b x) = tnC n (a + b) x := by
 have e : ∀ u : Int, ((u + b) % n + a) % n = (u + (a + b)) % n := fun u => by rw [Int.emod_add_emod]; congr 1; omega
 unfold tnC
 by_cases h : (x.f0 + b) % n ≤ (x.f1 + b) % n
 ·have h1 : chC ((x.f0 + b) % n) ((x.f1 + b) % n) = (⟨(x.f0 + b) % n, (x.f1 + b) % n⟩ : S41) := by
   unfold chC mn mx
   simp only [S41.mk.injEq]
   constructor <;> split <;> omega
  rw [h1]
  simp only [e]
 ·have h1 : chC ((x.f0 + b) % n) ((x.f1 + b) % n) = (⟨(x.f1 + b) % n, (x.f0 + b) % n⟩ : S41) := by
   unfold chC mn mx
   simp only [S41.mk.injEq]
   constructor <;> split <;> omega
  rw [h1]
  simp only [e]
  exact chC_comm _ _
theorem tn_id {n b : Int} {x : S41} (hx : okC n x) (hb : b = 0 ∨ b = n) : tnC n b x = x := by
 obtain ⟨h0, h1, h2⟩ := hx
 have e : ∀ u : Int, 0 ≤ u → u < n → (u + b) % n = u := fun u h3 h4 => by
  rcases hb with rfl | rfl
  ·rw [Int.add_zero, Int.emod_eq_of_lt h3 h4]
  ·rw [Int.add_emod_right, Int.emod_eq_of_lt h3 h4]
 unfold tnC
 rw [e _ h0 (by omega), e _ (by omega) h2]
 unfold chC mn mx
 cases x
 simp only [S41.mk.injEq]
 simp only at h1
 constructor <;> split <;> omega
/-- A list of chords that a turn leads onto itself. -/
def FxC (n : Int) (l : List S41) (b : Int) : Prop := ∀ z, z ∈ l ↔ ∃ x ∈ l, tnC n b x = z
theorem fx_mul {n : Int} {l : List S41} {t : Int} (h : FxC n l t) (hv : ∀ x ∈ l, okC n x) : ∀ q : Nat, FxC n l (q * t)
 | 0 => fun z => by
  constructor
  ·intro hz; exact ⟨z, hz, tn_id (hv z hz) (Or.inl (by omega))⟩
  ·rintro ⟨x, hx, rfl⟩
   rw [tn_id (hv x hx) (Or.inl (by omega))]; exact hx
 | q + 1 => fun z => by
  have ih := fx_mul h hv q
  have e : ∀ x, tnC n (((q + 1 : Nat) : Int) * t) x = tnC n t (tnC n ((q : Int) * t) x) := fun x => by
   rw [tn_tn]; congr 1; rw [Int.natCast_add, Int.add_mul]; simp; omega
  constructor
  ·intro hz
   obtain ⟨y, hy, rfl⟩ := (h z).1 hz
   obtain ⟨x, hx, rfl⟩ := (ih y).1 hy
   exact ⟨x, hx, e x⟩
  ·rintro ⟨x, hx, rfl⟩
   rw [e]
   exact (h _).2 ⟨_, (ih _).2 ⟨x, hx, rfl⟩, rfl⟩
theorem fx_rest {n : Int} {l : List S41} {t r : Int} (h : FxC n l t) (hv : ∀ x ∈ l, okC n x) (q : Nat) (hr : n = q * t + r) : FxC n l r := by
 have hm := fx_mul h hv q
 have e : ∀ x, tnC n n x = tnC n r (tnC n ((q : Int) * t) x) := fun x => by rw [tn_tn]; congr 1; omega
 intro z
 constructor
 ·intro hz
  refine ⟨tnC n ((q : Int) * t) z, (hm _).2 ⟨z, hz, rfl⟩, ?_⟩
  rw [← e, tn_id (hv z hz) (Or.inr rfl)]
 ·rintro ⟨x, hx, rfl⟩
  obtain ⟨y, hy, rfl⟩ := (hm x).1 hx
  rw [← e, tn_id (hv y hy) (Or.inr rfl)]
  exact hy
theorem fx_iff {n : Int} {l : List S41} (hs : l.Pairwise (fun a b => lessC a b = true)) (b : Int) : (l.map (tnC n b)).foldl insD [] = l ↔ FxC n l b := by
 obtain ⟨h1, h2, _⟩ := foldD (l.map (tnC n b)) [] List.Pairwise.nil
 constructor
 ·intro e z
  have := h2 z
  rw [e] at this
  rw [this, List.mem_map]
  simp
 ·intro h
  refine ascC_ext h1 hs fun z => ?_
  rw [h2, h z, List.mem_map]
  simp
theorem turn_eq {n b : Int} {l : List S41} (hv : ∀ x ∈ l, okC n x) (hn : 3 ≤ n) (hn2 : n ≤ 60) (h0 : 0 ≤ b) (h1 : b ≤ 60) : (l.map fun x => chC (Int.tmod (wrap64 (x.f0 + b)) n) (Int.tmod (wrap64 (x.f1 + b)) n)) = l.map (tnC n b) := by
 refine List.map_congr_left fun x hx => ?_
 obtain ⟨q0, q1, q2⟩ := hv x hx
 rw [wrap_id (x := x.f0 + b) (by omega) (by omega), wrap_id (x := x.f1 + b) (by omega) (by omega), Int.tmod_eq_emod_of_nonneg (by omega), Int.tmod_eq_emod_of_nonneg (by omega)]
 rfl
theorem turned_is {n b : Int} {l : List S41} (hv : ∀ x ∈ l, okC n x) (hn : 3 ≤ n) (hn2 : n ≤ 60) (h0 : 0 ≤ b) (h1 : b ≤ 60) (hl : (l.length : Int) ≤ 60) {k : Nat} (hk : 400 ≤ k) : spec_cdTurn.f k n l b = some ((l.map (tnC n b)).foldl insD []) ∧ impl_turned.f k n l b = some ((l.map (tnC n b)).foldl insD []) := by
 rw [← turn_eq hv hn hn2 h0 h1]
 unfold spec_cdTurn.f impl_turned.f
 refine ⟨cdTurn_l0 n b hn hn2 l (by omega) l.length k [] 0 (by omega) (by omega) (by omega) (by simp), ?_⟩
 rw [turned_l0 n b hn hn2 l (by omega) l.length k [] 0 (by omega) (by omega) (by omega) (by simp)]
 rfl
theorem equalC_l0 (a b : List S41) (ha : (a.length : Int) ≤ 1000) (hab : a.length = b.length) (d : Nat) : ∀ (k : Nat) (i : Int), 0 ≤ i → i + d = a.length → d < k →
  impl_Chord_43.l0 k a b (a.length : Int) i = some (decide (a.drop i.toNat = b.drop i.toNat)) := by
 induction d with
 | zero =>
  intro k i h0 hi hk
  obtain ⟨k, rfl⟩ : ∃ m, k = m + 1 := ⟨k - 1, by omega⟩
  rw [impl_Chord_43.l0, if_neg (by omega), List.drop_eq_nil_of_le (by omega), List.drop_eq_nil_of_le (by omega)]
  simp
 | succ d ih =>
  intro k i h0 hi hk
  obtain ⟨k, rfl⟩ : ∃ m, k = m + 1 := ⟨k - 1, by omega⟩
  have ea : a.drop i.toNat = rd_T41 a i :: a.drop (i + 1).toNat := by
   rw [List.drop_eq_getElem_cons (show i.toNat < a.length by omega), ← rdC_get h0 (by omega), show i.toNat + 1 = (i + 1).toNat by omega]
  have eb : b.drop i.toNat = rd_T41 b i :: b.drop (i + 1).toNat := by
   rw [List.drop_eq_getElem_cons (show i.toNat < b.length by omega), ← rdC_get h0 (by omega), show i.toNat + 1 = (i + 1).toNat by omega]
  rw [impl_Chord_43.l0, ea, eb]
  simp only [if_pos (show i < (a.length : Int) by omega), if_pos (show i < (b.length : Int) by omega), if_pos h0]
  generalize rd_T41 a i = x
  generalize rd_T41 b i = y
  rw [wrap_id (x := i + 1) (by omega) (by omega), ih k (i + 1) (by omega) (by omega) (by omega)]
  cases x; cases y
  simp only [List.cons.injEq, S41.mk.injEq]
  split
  ·rename_i hq
   congr 1
   rw [eq_comm, decide_eq_false_iff_not]
   rintro ⟨⟨e1, e2⟩, _⟩
   subst e1 e2
   simp at hq
  ·rename_i hq
   congr 1
   rw [decide_eq_decide]
   simp at hq
   constructor
   ·intro e; exact ⟨hq, e⟩
   ·rintro ⟨_, e⟩; exact e
theorem equalC_f (a b : List S41) (ha : (a.length : Int) ≤ 1000) {k : Nat} (hk : a.length < k) : impl_Chord_43.f k a b = some (decide (a = b)) := by
 unfold impl_Chord_43.f
 by_cases h : (a.length : Int) = b.length
 ·rw [if_pos h, equalC_l0 a b ha (by omega) a.length k 0 (by omega) (by omega) hk]
  simp
 ·rw [if_neg h]
  congr 1
  rw [eq_comm, decide_eq_false_iff_not]
  intro e; subst e; exact h rfl
theorem same_both (a b : List S41) (ha : (a.length : Int) ≤ 1000) {k : Nat} (hk : a.length < k) : spec_taSame.f k a b = some (decide (a = b)) := by
 obtain ⟨q, h1, h2⟩ := same_f a b ha hk
 rw [equalC_f a b ha hk] at h2
 rw [h1, h2]
/-- The least turn. -/
theorem least_told (n : Int) (hn : 3 ≤ n) (hn2 : n ≤ 60) (l : List S41) (hl : (l.length : Int) ≤ 60) (hv : ∀ x ∈ l, okC n x) (hs : l.Pairwise (fun a b => lessC a b = true)) (d : Nat) : ∀ (k : Nat) (i : Int), 1 ≤ i → i + d = n → d + 500 < k →
  ∃ t : Int, spec_LeastTurnOfTable.l0 k n l i = some (t, true) ∧ impl_LeastTurnOfTable.l0 k n l i = some (t, true) ∧ i ≤ t ∧ t ≤ n ∧ (t < n → FxC n l t) ∧ ∀ j, i ≤ j → j < t → ¬ FxC n l j := by
 induction d with
 | zero =>
  intro k i h0 hi hk
  obtain ⟨k, rfl⟩ : ∃ m, k = m + 1 := ⟨k - 1, by omega⟩
  obtain rfl : i = n := by omega
  rw [spec_LeastTurnOfTable.l0, impl_LeastTurnOfTable.l0, if_neg (by omega), if_neg (by omega)]
  exact ⟨i, rfl, rfl, by omega, by omega, by omega, by omega⟩
 | succ d ih =>
  intro k i h0 hi hk
  obtain ⟨k, rfl⟩ : ∃ m, k = m + 1 := ⟨k - 1, by omega⟩
  obtain ⟨e1, e2⟩ := turned_is hv hn hn2 (show 0 ≤ i by omega) (show i ≤ 60 by omega) hl (k := k) (by omega)
  have hlen := (foldD (l.map (tnC n i)) [] List.Pairwise.nil).2.2
  simp only [List.length_map, List.length_nil] at hlen
  rw [spec_LeastTurnOfTable.l0, impl_LeastTurnOfTable.l0]
  simp only [if_pos (show i < n by omega)]
  rw [e1, e2]
  simp only [Option.bind_some]
  rw [same_both _ _ (by omega) (by omega), equalC_f _ _ (by omega) (by omega)]
  simp only [Option.bind_some, decide_eq_true_eq]
  by_cases h : (l.map (tnC n i)).foldl insD [] = l
  ·simp only [if_pos h]
   exact ⟨i, rfl, rfl, by omega, by omega, fun _ => (fx_iff hs i).1 h, fun j h1 h2 => by omega⟩
  ·simp only [if_neg h]
   obtain ⟨t, t1, t2, t3, t4, t5, t6⟩ := ih k (i + 1) (by omega) (by omega) (by omega)
   rw [wrap_id (x := i + 1) (by omega) (by omega)]
   refine ⟨t, t1, t2, by omega, t4, t5, fun j h1 h2 => ?_⟩
   by_cases ej : j = i
   ·subst ej; exact fun e => h ((fx_iff hs j).2 e)
   ·exact t6 j (by omega) h2
theorem least_div {n t : Int} (hn : 3 ≤ n) {l : List S41} (hv : ∀ x ∈ l, okC n x) (h1 : 1 ≤ t) (h2 : t ≤ n) (h3 : t < n → FxC n l t) (h4 : ∀ j, 1 ≤ j → j < t → ¬ FxC n l j) : n % t = 0 := by
 rcases Int.lt_or_eq_of_le h2 with h5 | h5
 ·have hr0 := Int.emod_nonneg n (show t ≠ 0 by omega)
  have hr1 := Int.emod_lt_of_pos n (show 0 < t by omega)
  have hd := Int.emod_add_mul_ediv n t
  have hq0 : 0 ≤ n / t := Int.ediv_nonneg (by omega) (by omega)
  rcases Int.lt_or_eq_of_le hr0 with h6 | h6
  ·exfalso
   refine h4 (n % t) (by omega) hr1 (fx_rest (h3 h5) hv (n / t).toNat ?_)
   rw [Int.toNat_of_nonneg hq0, Int.mul_comm]; omega
  ·exact h6.symm
 ·rw [h5]; exact Int.emod_self
/-- Two chords cross. -/
def crB (a b c d : Int) : Bool := decide (a < c ∧ c < b ∧ b < d ∨ c < a ∧ a < d ∧ d < b)
theorem cross_i (a b c d : Int) : impl_crossing.f a b c d = some (crB a b c d) := rfl
theorem cross_s {a b c d : Int} (h1 : a < b) (h2 : c < d) : spec_srCross.f a b c d = some (crB a b c d) := by
 unfold spec_srCross.f crB
 congr 1
 rw [Bool.eq_iff_iff]
 simp only [Bool.and_eq_true, bne_iff_ne, ne_eq, decide_eq_decide, Bool.not_eq_true', decide_eq_false_iff_not, decide_eq_true_eq]
 omega
def crC (x y : S41) : Bool := crB x.f0 x.f1 y.f0 y.f1
theorem crC_comm (x y : S41) : crC x y = crC y x := by
 unfold crC crB
 rw [decide_eq_decide]
 omega
/-- How many pairs cross. -/
def prs : List S41 → Nat
 | [] => 0
 | c :: r => r.countP (crC c) + prs r
theorem prs_snoc (c : S41) : ∀ l : List S41, prs (l ++ [c]) = prs l + l.countP (crC c)
 | [] => by simp [prs]
 | x :: r => by
  rw [List.cons_append, prs, prs_snoc c r, prs, List.countP_append]
  simp only [List.countP_cons, List.countP_nil]
  rw [crC_comm c x]
  omega
theorem prs_bd : ∀ l : List S41, prs l ≤ l.length * l.length
 | [] => Nat.le_refl _
 | c :: r => by
  have h1 := prs_bd r
  have h2 := List.countP_le_length (p := crC c) (l := r)
  rw [prs, List.length_cons, Nat.mul_add, Nat.add_mul]
  omega
theorem count_l1 (l : List S41) (X8 : List S41) (n i : Int) (y : List S41) (c : S41) (hc : c.f0 < c.f1) (hy : ∀ x ∈ y, x.f0 < x.f1) (hl : (y.length : Int) ≤ 100) (d : Nat) : ∀ (k : Nat) (x3 : Int) (j : Int), 0 ≤ j → j + d = y.length → 0 ≤ x3 → x3 ≤ 100000 + j →
  spec_srCount.l1 (k + d + 1) l x3 X8 n i y (y.length : Int) j c.f0 c.f1 = spec_srCount.l0 k l (x3 + ((y.drop j.toNat).countP (crC c) : Nat)) X8 n (wrap64 (i + 1)) := by
 induction d with
 | zero =>
  intro k x3 j h0 hj hx hx2
  rw [spec_srCount.l1, if_neg (by omega), List.drop_eq_nil_of_le (by omega)]
  simp
 | succ d ih =>
  intro k x3 j h0 hj hx hx2
  have e : y.drop j.toNat = rd_T41 y j :: y.drop (j + 1).toNat := by
   rw [List.drop_eq_getElem_cons (show j.toNat < y.length by omega), ← rdC_get h0 (by omega), show j.toNat + 1 = (j + 1).toNat by omega]
  have hm : rd_T41 y j ∈ y := by rw [rdC_get h0 (by omega)]; exact List.getElem_mem _
  rw [show k + (d + 1) + 1 = (k + d + 1) + 1 by omega, spec_srCount.l1, if_pos (show j < (y.length : Int) by omega), if_pos h0, if_pos (show j < (y.length : Int) by omega), cross_s hc (hy _ hm), wrap_id (x := j + 1) (by omega) (by omega), wrap_id (x := x3 + 1) (by omega) (by omega)]
  simp only [Option.bind_some]
  rw [e, List.countP_cons]
  have e2 : crB c.f0 c.f1 (rd_T41 y j).f0 (rd_T41 y j).f1 = crC c (rd_T41 y j) := rfl
  rw [e2]
  by_cases h : crC c (rd_T41 y j) = true
  ·rw [if_pos h, if_pos h, ih k (x3 + 1) (j + 1) (by omega) (by omega) (by omega) (by omega)]
   congr 1
   omega
  ·rw [if_neg h, if_neg h, ih k x3 (j + 1) (by omega) (by omega) (by omega) (by omega)]
   congr 1
theorem count_l0 (l : List S41) (hy : ∀ x ∈ l, x.f0 < x.f1) (hl : (l.length : Int) ≤ 60) (d : Nat) : ∀ (k : Nat) (x3 : Int) (i : Int), 0 ≤ i → i + d = l.length → 0 ≤ x3 → x3 + 60 * d ≤ 3600 → 70 * d + 100 ≤ k →
  spec_srCount.l0 k l x3 l (l.length : Int) i = some (x3 + (prs (l.drop i.toNat) : Nat)) := by
 induction d with
 | zero =>
  intro k x3 i h0 hi hx hx2 hk
  obtain ⟨k, rfl⟩ : ∃ m, k = m + 1 := ⟨k - 1, by omega⟩
  rw [spec_srCount.l0, if_neg (by omega), List.drop_eq_nil_of_le (by omega)]
  simp [prs]
 | succ d ih =>
  intro k x3 i h0 hi hx hx2 hk
  obtain ⟨k, rfl⟩ : ∃ m, k = m + 1 := ⟨k - 1, by omega⟩
  have e : l.drop i.toNat = rd_T41 l i :: l.drop (i + 1).toNat := by
   rw [List.drop_eq_getElem_cons (show i.toNat < l.length by omega), ← rdC_get h0 (by omega), show i.toNat + 1 = (i + 1).toNat by omega]
  have hm : rd_T41 l i ∈ l := by rw [rdC_get h0 (by omega)]; exact List.getElem_mem _
  rw [spec_srCount.l0, if_pos (show i < (l.length : Int) by omega), if_pos h0, if_pos (show i < (l.length : Int) by omega), wrap_id (x := i + 1) (by omega) (by omega), if_pos (by omega), if_pos (by omega)]
  simp only [Option.bind_some]
  have hd : (l.drop (i + 1).toNat).length = d := by rw [List.length_drop]; omega
  have hcp := List.countP_le_length (p := crC (rd_T41 l i)) (l := l.drop (i + 1).toNat)
  have h1 := count_l1 l l (l.length : Int) i (l.drop (i + 1).toNat) (rd_T41 l i) (hy _ hm) (fun x hx => hy x (List.mem_of_mem_drop hx)) (by omega) (l.drop (i + 1).toNat).length (k - (l.drop (i + 1).toNat).length - 1) x3 0 (by omega) (by omega) hx (by omega)
  rw [show k - (l.drop (i + 1).toNat).length - 1 + (l.drop (i + 1).toNat).length + 1 = k by omega] at h1
  rw [h1, wrap_id (x := i + 1) (by omega) (by omega), Int.toNat_zero, List.drop_zero, ih _ _ (i + 1) (by omega) (by omega) (by omega) (by omega) (by omega), e, prs]
  congr 1
  omega
theorem crossed_l0 (c : S41) (l : List S41) (hl : (l.length : Int) ≤ 100) (d : Nat) : ∀ (k : Nat) (x : Int) (i : Int), 0 ≤ i → i + d = l.length → d < k → 0 ≤ x → x ≤ i →
  impl_crossed.l0 k x l (l.length : Int) i c.f0 c.f1 = some (x + ((l.drop i.toNat).countP (crC c) : Nat)) := by
 induction d with
 | zero =>
  intro k x i h0 hi hk hx hx2
  obtain ⟨k, rfl⟩ : ∃ m, k = m + 1 := ⟨k - 1, by omega⟩
  rw [impl_crossed.l0, if_neg (by omega), List.drop_eq_nil_of_le (by omega)]
  simp
 | succ d ih =>
  intro k x i h0 hi hk hx hx2
  obtain ⟨k, rfl⟩ : ∃ m, k = m + 1 := ⟨k - 1, by omega⟩
  have e : l.drop i.toNat = rd_T41 l i :: l.drop (i + 1).toNat := by
   rw [List.drop_eq_getElem_cons (show i.toNat < l.length by omega), ← rdC_get h0 (by omega), show i.toNat + 1 = (i + 1).toNat by omega]
  have e2 : crB c.f0 c.f1 (rd_T41 l i).f0 (rd_T41 l i).f1 = crC c (rd_T41 l i) := rfl
  rw [impl_crossed.l0, if_pos (show i < (l.length : Int) by omega), if_pos h0, if_pos (show i < (l.length : Int) by omega), cross_i, wrap_id (x := i + 1) (by omega) (by omega), wrap_id (x := x + 1) (by omega) (by omega)]
  simp only [Option.bind_some]
  rw [e, List.countP_cons, e2]
  by_cases h : crC c (rd_T41 l i) = true
  ·rw [if_pos h, if_pos h, ih k (x + 1) (i + 1) (by omega) (by omega) (by omega) (by omega) (by omega)]
   congr 1
   omega
  ·rw [if_neg h, if_neg h, ih k x (i + 1) (by omega) (by omega) (by omega) (by omega) (by omega)]
   congr 1
theorem crossings_l0 (l : List S41) (hl : (l.length : Int) ≤ 60) (d : Nat) : ∀ (k : Nat) (i : Int), 0 ≤ i → i + d = l.length → d + 100 < k →
  impl_crossings.l0 k l (prs (l.take i.toNat) : Nat) l (l.length : Int) i = some ((prs l : Nat) : Int) := by
 induction d with
 | zero =>
  intro k i h0 hi hk
  obtain ⟨k, rfl⟩ : ∃ m, k = m + 1 := ⟨k - 1, by omega⟩
  rw [impl_crossings.l0, if_neg (by omega), List.take_of_length_le (by omega)]
 | succ d ih =>
  intro k i h0 hi hk
  obtain ⟨k, rfl⟩ : ∃ m, k = m + 1 := ⟨k - 1, by omega⟩
  have e2 : l.take (i + 1).toNat = l.take i.toNat ++ [rd_T41 l i] := by
   rw [show (i + 1).toNat = i.toNat + 1 by omega, List.take_succ_eq_append_getElem (show i.toNat < l.length by omega), ← rdC_get h0 (by omega)]
  have ht : (l.take i.toNat).length ≤ 60 := by rw [List.length_take]; omega
  have hp := prs_bd (l.take i.toNat)
  have hp2 : (l.take i.toNat).length * (l.take i.toNat).length ≤ 60 * 60 := Nat.mul_le_mul ht ht
  have hcp := List.countP_le_length (p := crC (rd_T41 l i)) (l := l.take i.toNat)
  rw [impl_crossings.l0, if_pos (show i < (l.length : Int) by omega), if_pos h0, if_pos (show i < (l.length : Int) by omega), if_pos (by omega)]
  unfold impl_crossed.f
  rw [crossed_l0 (rd_T41 l i) (l.take i.toNat) (by omega) (l.take i.toNat).length k 0 0 (by omega) (by omega) (by omega) (by omega) (by omega)]
  simp only [Option.bind_some, Int.toNat_zero, List.drop_zero, Int.zero_add]
  rw [wrap_id (x := i + 1) (by omega) (by omega), wrap_id (by omega) (by omega)]
  have h1 := ih k (i + 1) (by omega) (by omega) (by omega)
  rw [e2, prs_snoc] at h1
  rw [← h1]
  congr 1
theorem chL_lt (r : List Int) : ∀ (d : Nat) (i : Int), ∀ x ∈ chL r i d, x.f0 < x.f1
 | 0, i, x, hx => by simp [chL] at hx
 | d + 1, i, x, hx => by
  unfold chL at hx
  split at hx
  ·exact chL_lt r d (i + 1) x hx
  ·rename_i h
   rcases List.mem_cons.1 hx with rfl | hx
   ·unfold chC mn mx
    simp only
    split <;> split <;> omega
   ·exact chL_lt r d (i + 1) x hx
theorem rd_get {l : List Int} {i : Int} (h0 : 0 ≤ i) (h1 : i < (l.length : Int)) : rd l i = l[i.toNat]'(by omega) := by
 simp [rd, List.getD_eq_getElem?_getD, List.getElem?_eq_getElem (show i.toNat < l.length by omega)]
theorem gSame_l0 (l : List Int) (hl : (l.length : Int) ≤ 1000000) (d : Nat) : ∀ (k : Nat) (i : Int), 0 ≤ i → i + d = l.length → d < k → laws_gSame.l0 k l l (l.length : Int) i = some true := by
 induction d with
 | zero =>
  intro k i h0 hi hk
  obtain ⟨k, rfl⟩ : ∃ m, k = m + 1 := ⟨k - 1, by omega⟩
  rw [laws_gSame.l0, if_neg (by omega)]
 | succ d ih =>
  intro k i h0 hi hk
  obtain ⟨k, rfl⟩ : ∃ m, k = m + 1 := ⟨k - 1, by omega⟩
  rw [laws_gSame.l0, if_pos (show i < (l.length : Int) by omega), if_pos h0, if_pos (show i < (l.length : Int) by omega), if_pos (show i < (l.length : Int) by omega), if_pos rfl, wrap_id (by omega) (by omega)]
  exact ih k (i + 1) (by omega) (by omega) (by omega)
theorem gSame_self {l : List Int} (hl : (l.length : Int) ≤ 1000000) {k : Nat} (hk : l.length < k) : laws_gSame.f k l l = some true := by
 unfold laws_gSame.f
 rw [if_pos rfl]
 exact gSame_l0 l hl l.length k 0 (by omega) (by omega) hk
theorem gHas_l0 (l : List Int) (a : Int) (hl : (l.length : Int) ≤ 1000000) (d : Nat) : ∀ (k : Nat) (i : Int), 0 ≤ i → i + d = l.length → d < k → laws_gHas.l0 k a l (l.length : Int) i = some ((l.drop i.toNat).any fun x => x == a) := by
 induction d with
 | zero =>
  intro k i h0 hi hk
  obtain ⟨k, rfl⟩ : ∃ m, k = m + 1 := ⟨k - 1, by omega⟩
  rw [laws_gHas.l0, if_neg (by omega), List.drop_eq_nil_of_le (by omega)]; rfl
 | succ d ih =>
  intro k i h0 hi hk
  obtain ⟨k, rfl⟩ : ∃ m, k = m + 1 := ⟨k - 1, by omega⟩
  rw [laws_gHas.l0, if_pos (show i < (l.length : Int) by omega), if_pos h0, if_pos (show i < (l.length : Int) by omega), wrap_id (x := i + 1) (by omega) (by omega), List.drop_eq_getElem_cons (by omega), List.any_cons, ← rd_get h0 (by omega), show i.toNat + 1 = (i + 1).toNat by omega]
  by_cases h : rd l i = a
  ·rw [if_pos h, show (rd l i == a) = true by simpa using h]; rfl
  ·rw [if_neg h, ih k (i + 1) (by omega) (by omega) (by omega), show (rd l i == a) = false by simpa using h]; rfl
theorem gHas_f {l : List Int} (a : Int) (hl : (l.length : Int) ≤ 1000000) {k : Nat} (hk : l.length < k) : laws_gHas.f k l a = some (l.any fun x => x == a) := by
 unfold laws_gHas.f
 rw [gHas_l0 l a hl l.length k 0 (by omega) (by omega) hk]; simp
theorem gRises_l0 (l : List Int) (hl : (l.length : Int) ≤ 1000000) (hp : l.Pairwise (· < ·)) (d : Nat) : ∀ (k : Nat) (i : Int), 1 ≤ i → (l.length : Int) ≤ i + d → d < k → laws_gRises.l0 k l i = some true := by
 induction d with
 | zero =>
  intro k i h0 hi hk
  obtain ⟨k, rfl⟩ : ∃ m, k = m + 1 := ⟨k - 1, by omega⟩
  rw [laws_gRises.l0, if_neg (by omega)]
 | succ d ih =>
  intro k i h0 hi hk
  obtain ⟨k, rfl⟩ : ∃ m, k = m + 1 := ⟨k - 1, by omega⟩
  by_cases h : i < (l.length : Int)
  ·have := (List.pairwise_iff_getElem.1 hp) (i - 1).toNat i.toNat (by omega) (by omega) (by omega)
   rw [laws_gRises.l0, if_pos h, wrap_id (x := i - 1) (by omega) (by omega), if_pos (by omega), if_pos (by omega), if_pos (by omega), wrap_id (by omega) (by omega), rd_get (i := i - 1) (by omega) (by omega), rd_get (i := i) (by omega) (by omega), if_neg (by omega)]
   exact ih k (i + 1) (by omega) (by omega) (by omega)
  ·rw [laws_gRises.l0, if_neg h]
theorem gRises_f {l : List Int} (hl : (l.length : Int) ≤ 1000000) (hp : l.Pairwise (· < ·)) {k : Nat} (hk : l.length < k) : laws_gRises.f k l = some true := by
 unfold laws_gRises.f
 exact gRises_l0 l hl hp l.length k 1 (by omega) (by omega) hk
/-- The greatest number of lines that lead from one of i, i + 1, .. (d of them) to a cycle, and m. -/
def depD (n f : Int) (m i : Int) : Nat → Int
 | 0 => m
 | d + 1 => depD n f (mx m (wayI n f i)) (i + 1) d
theorem depD_ge (n f : Int) : ∀ (d : Nat) (m i : Int), m ≤ depD n f m i d ∧ ∀ p, i ≤ p → p < i + d → (wayI n f p : Int) ≤ depD n f m i d
 | 0, m, i => ⟨Int.le_refl _, fun p h1 h2 => by omega⟩
 | d + 1, m, i => by
  obtain ⟨h1, h2⟩ := depD_ge n f d (mx m (wayI n f i)) (i + 1)
  have h3 : m ≤ mx m (wayI n f i) ∧ (wayI n f i : Int) ≤ mx m (wayI n f i) := by unfold mx; split <;> omega
  unfold depD
  refine ⟨by omega, fun p h4 h5 => ?_⟩
  by_cases e : p = i
  ·subst e; omega
  ·exact h2 p (by omega) (by omega)
theorem depD_zero (n f : Int) : ∀ (d : Nat) (i : Int), (∀ p, i ≤ p → p < i + d → wayI n f p = 0) → depD n f 0 i d = 0
 | 0, i, _ => rfl
 | d + 1, i, h => by
  unfold depD
  rw [h i (by omega) (by omega)]
  exact depD_zero n f d (i + 1) (fun p h1 h2 => h p (by omega) (by omega))
theorem depth_none {n f : Int} (h : tabOk n f = true) : depD n f 0 0 n.toNat = 0 ↔ ∀ p, 0 ≤ p → p < n → wayI n f p = 0 := by
 constructor
 ·intro e p h0 h1
  have := (depD_ge n f n.toNat 0 0).2 p h0 (by omega)
  omega
 ·exact fun hall => depD_zero n f _ 0 (fun p h1 h2 => hall p h1 (by omega))
theorem depth_way {n f : Int} (h : tabOk n f = true) (d : Nat) : ∀ (k : Nat) (m i : Int), 0 ≤ i → i + d = n → d + 130 < k →
  impl_DepthOfTable.l0 k n f m n i = some (depD n f m i d, true) := by
 have hb := tabOk_true.1 h
 induction d with
 | zero =>
  intro k m i hi hd hk
  obtain ⟨k, rfl⟩ : ∃ m, k = m + 1 := ⟨k - 1, by omega⟩
  rw [impl_DepthOfTable.l0, if_neg (by omega)]
  rfl
 | succ d ih =>
  intro k m i hi hd hk
  obtain ⟨k, rfl⟩ : ∃ m, k = m + 1 := ⟨k - 1, by omega⟩
  obtain ⟨path, _, hp⟩ := way_f h hi (show i < n by omega)
  rw [impl_DepthOfTable.l0, if_pos (by omega), hp k (by omega)]
  simp only [Option.bind_some]
  rw [wrap_id (x := i + 1) (by omega) (by omega)]
  exact ih k _ (i + 1) (by omega) (by omega) (by omega)
theorem u64w (x : Int) : 0 ≤ IntKind.u64.wrap x ∧ IntKind.u64.wrap x ≤ 18446744073709551615 := by
 have e : IntKind.u64.wrap x = x % 18446744073709551616 := rfl
 rw [e]; omega
theorem byte_and {x : Int} (h0 : 0 ≤ x) (h1 : x ≤ 18446744073709551615) : 0 ≤ Go.bits .and .u64 x 255 ∧ Go.bits .and .u64 x 255 ≤ 255 := by
 have h := Go.bits_and_u64_nat x.toNat 255 (by omega) (by omega)
 rw [Int.toNat_of_nonneg h0] at h
 have h2 : x.toNat &&& 255 ≤ 255 := Nat.and_le_right
 have h3 : Go.bits .and .u64 x 255 = ((x.toNat &&& 255 : Nat) : Int) := h
 rw [h3]; omega
/-- Bytes. -/
def Bytes (s : List Int) : Prop := (s.length : Int) ≤ 1048576 ∧ ∀ x ∈ s, 0 ≤ x ∧ x ≤ 255
theorem Bytes.at {s : List Int} (h : Bytes s) {i : Int} (h0 : 0 ≤ i) (h1 : i < s.length) : 0 ≤ rd s i ∧ rd s i ≤ 255 := by
 have : rd s i = s[i.toNat]'(by omega) := by
  simp [rd, List.getD_eq_getElem?_getD, List.getElem?_eq_getElem (show i.toNat < s.length by omega)]
 rw [this]; exact h.2 _ (List.getElem_mem _)
theorem Bytes.of {s : List Int} (hl : (s.length : Int) ≤ 1048576) (h : ∀ x ∈ s, (Lit.int .u8 x).wf = true) : Bytes s := by
 refine ⟨hl, fun x hx => ?_⟩
 have := h x hx
 have e0 : IntKind.u8.min = 0 := rfl
 have e1 : IntKind.u8.max = 255 := rfl
 simp [Lit.wf] at this
 omega
theorem next_tot {s : List Int} (hs : Bytes s) {a sd : Int} (h0 : 0 ≤ a) (h1 : a ≤ 1000000) : ∃ b sd', spec_l1Cur_next.f s a sd = some (b, a + 1, sd') ∧ 0 ≤ b ∧ b ≤ 255 := by
 unfold spec_l1Cur_next.f
 rw [wrap_id (x := a + 1) (by omega) (by omega)]
 by_cases h : a < (s.length : Int)
 ·have hr := hs.at h0 h
  rw [if_pos h, if_pos h0, if_pos (by omega), wrap_id (x := rd s a) (by omega) (by omega)]
  exact ⟨_, _, rfl, hr⟩
 ·rw [if_neg h, if_neg (by omega)]
  refine ⟨_, _, rfl, ?_⟩
  have hu := u64w (IntKind.u64.wrap (IntKind.u64.wrap (sd * 6364136223846793005)) + 1442695040888963407)
  have hb := byte_and (x := IntKind.u64.wrap (IntKind.u64.wrap (IntKind.u64.wrap (sd * 6364136223846793005)) + 1442695040888963407) / 1099511627776) (by omega) (by omega)
  rw [wrap_id (by omega) (by omega)]
  exact hb
theorem pick_tot {s : List Int} (hs : Bytes s) {a sd : Int} (n : Int) (h0 : 0 ≤ a) (h1 : a ≤ 900000) : ∃ v a' sd', spec_l1Cur_pick.f s a sd n = some (v, a', sd') ∧ a ≤ a' ∧ a' ≤ a + 2 ∧ 0 ≤ v ∧ (1 ≤ n → v < n) ∧ (n ≤ 1 → v = 0) := by
 unfold spec_l1Cur_pick.f
 by_cases h : n ≤ 1
 ·rw [if_pos h]; exact ⟨0, a, sd, rfl, by omega, by omega, by omega, by omega, fun _ => rfl⟩
 ·rw [if_neg h]
  obtain ⟨b, sd1, e1, b0, b1⟩ := next_tot hs (sd := sd) h0 (by omega)
  rw [e1]
  simp only [Option.bind_some]
  by_cases h2 : n > 200
  ·rw [if_pos h2]
   obtain ⟨c, sd2, e2, c0, c1⟩ := next_tot hs (a := a + 1) (sd := sd1) (by omega) (by omega)
   rw [e2]
   simp only [Option.bind_some]
   rw [if_neg (by omega), wrap_id (x := b * 256) (by omega) (by omega), wrap_id (x := b * 256 + c) (by omega) (by omega), Int.tmod_eq_emod_of_nonneg (by omega)]
   exact ⟨_, _, _, rfl, by omega, by omega, Int.emod_nonneg _ (by omega), fun _ => Int.emod_lt_of_pos _ (by omega), by omega⟩
  ·rw [if_neg h2, if_neg (by omega), Int.tmod_eq_emod_of_nonneg (by omega)]
   exact ⟨_, _, _, rfl, by omega, by omega, Int.emod_nonneg _ (by omega), fun _ => Int.emod_lt_of_pos _ (by omega), by omega⟩
theorem one_tot {s : List Int} (hs : Bytes s) {a sd : Int} (n : Int) (h0 : 0 ≤ a) (h1 : a ≤ 900000) : ∃ v a' sd', spec_l1Cur_one.f s a sd n = some (v, a', sd') ∧ a ≤ a' ∧ a' ≤ a + 2 := by
 unfold spec_l1Cur_one.f
 obtain ⟨v, a', sd', e, q1, q2, _⟩ := pick_tot hs (sd := sd) n h0 h1
 rw [e]
 exact ⟨_, _, _, rfl, q1, q2⟩
theorem among_tot {s : List Int} (hs : Bytes s) {a sd : Int} (l : List Int) (hl : 1 ≤ (l.length : Int)) (h0 : 0 ≤ a) (h1 : a ≤ 900000) : ∃ v a' sd', spec_l1Cur_among.f s a sd l = some (v, a', sd') ∧ a ≤ a' ∧ a' ≤ a + 2 := by
 unfold spec_l1Cur_among.f
 obtain ⟨v, a', sd', e, q1, q2, q3, q4, _⟩ := pick_tot hs (sd := sd) (l.length : Int) h0 h1
 rw [e]
 simp only [Option.bind_some]
 rw [if_pos q3, if_pos (q4 hl)]
 exact ⟨_, _, _, rfl, q1, q2⟩
theorem table_tot {s : List Int} (hs : Bytes s) {a sd : Int} (h0 : 0 ≤ a) (h1 : a ≤ 800000) : ∃ n m a' sd', spec_l1Cur_table.f s a sd = some (n, m, a', sd') ∧ a ≤ a' ∧ a' ≤ a + 6 := by
 unfold spec_l1Cur_table.f
 obtain ⟨v, a1, sd1, e, q1, q2⟩ := one_tot hs (sd := sd) 12 h0 (by omega)
 rw [e]
 simp only [Option.bind_some]
 by_cases h : v = true
 ·rw [if_pos h]
  obtain ⟨x, a2, sd2, e2, q3, q4⟩ := among_tot hs (a := a1) (sd := sd1) [(-1), 2, 3, 60, 61, 4611686018427387904] (by simp) (by omega) (by omega)
  rw [e2]
  simp only [Option.bind_some]
  obtain ⟨y, a3, sd3, e3, q5, q6⟩ := among_tot hs (a := a2) (sd := sd2) [(-1), 0, 1, 2, 3, 59, 60, 4611686018427387904] (by simp) (by omega) (by omega)
  rw [e3]
  exact ⟨_, _, a3, _, rfl, by omega, by omega⟩
 ·rw [if_neg h]
  obtain ⟨x, a2, sd2, e2, q3, q4, _⟩ := pick_tot hs (a := a1) (sd := sd1) 28 (by omega) (by omega)
  rw [e2]
  simp only [Option.bind_some]
  obtain ⟨y, a3, sd3, e3, q5, q6, _⟩ := pick_tot hs (a := a2) (sd := sd2) (wrap64 (3 + x)) (by omega) (by omega)
  rw [e3]
  exact ⟨_, _, a3, _, rfl, by omega, by omega⟩
theorem drawUndo {s : List Int} (hs : Bytes s) : ∃ n m, spec_DrawUndoFactor.f s = some (n, m) := by
 obtain ⟨n, m, a, sd, e, _⟩ := table_tot hs (a := 0) (sd := 0) (by omega) (by omega)
 exact ⟨n, m, by unfold spec_DrawUndoFactor.f spec_DrawTimesRow.f spec_DrawTimesRow_w.f; rw [e]; rfl⟩
theorem drawFactors {s : List Int} (hs : Bytes s) : ∃ n m, spec_DrawFactorsWith.f s = some (n, m) := by
 obtain ⟨n, m, a, sd, e, q1, q2⟩ := table_tot hs (a := 0) (sd := 0) (by omega) (by omega)
 obtain ⟨v, a1, sd1, e1, _⟩ := among_tot hs (a := a) (sd := sd) [1, 1, 1, 2, 2, 3, 4, 6, 0, 60, 61, (-1)] (by simp) (by omega) (by omega)
 exact ⟨n, v, by unfold spec_DrawFactorsWith.f spec_DrawFactorsWith_w.f; rw [e]; simp only [Option.bind_some]; rw [e1]; rfl⟩
theorem gChords_l0 (l : List S41) (hl : (l.length : Int) ≤ 1000000) (d : Nat) : ∀ (k : Nat) (i : Int), 0 ≤ i → i + d = l.length → d < k → laws_gChords.l0 k l l (l.length : Int) i = some true := by
 induction d with
 | zero =>
  intro k i h0 hi hk
  obtain ⟨k, rfl⟩ : ∃ m, k = m + 1 := ⟨k - 1, by omega⟩
  rw [laws_gChords.l0, if_neg (by omega)]
 | succ d ih =>
  intro k i h0 hi hk
  obtain ⟨k, rfl⟩ : ∃ m, k = m + 1 := ⟨k - 1, by omega⟩
  rw [laws_gChords.l0]
  simp only [if_pos (show i < (l.length : Int) by omega), if_pos h0]
  rw [if_neg (by simp), wrap_id (by omega) (by omega)]
  exact ih k (i + 1) (by omega) (by omega) (by omega)
theorem gChords_self {l : List S41} (hl : (l.length : Int) ≤ 1000000) {k : Nat} (hk : l.length < k) : laws_gChords.f k l l = some true := by
 unfold laws_gChords.f
 rw [if_pos rfl]
 exact gChords_l0 l hl l.length k 0 (by omega) (by omega) hk
theorem numsD_mem {p : Int → Bool} {a : Int} : ∀ {d : Nat} {i : Int}, a ∈ numsD p i d ↔ i ≤ a ∧ a < i + d ∧ p a = true
 | 0, i => by simp [numsD]; omega
 | d + 1, i => by
  simp only [numsD]
  split
  ·rename_i h
   rw [List.mem_cons, numsD_mem (d := d) (i := i + 1)]
   constructor
   ·rintro (rfl | ⟨h1, h2, h3⟩)
    ·exact ⟨by omega, by omega, h⟩
    ·exact ⟨by omega, by omega, h3⟩
   ·rintro ⟨h1, h2, h3⟩
    rcases Int.lt_or_eq_of_le h1 with h4 | h4
    ·exact Or.inr ⟨by omega, by omega, h3⟩
    ·exact Or.inl h4.symm
  ·rename_i h
   rw [numsD_mem (d := d) (i := i + 1)]
   constructor
   ·rintro ⟨h1, h2, h3⟩; exact ⟨by omega, by omega, h3⟩
   ·rintro ⟨h1, h2, h3⟩
    rcases Int.lt_or_eq_of_le h1 with h4 | h4
    ·exact ⟨by omega, by omega, h3⟩
    ·subst h4; exact absurd h3 h
theorem numsD_rises (p : Int → Bool) : ∀ (d : Nat) (i : Int), (numsD p i d).Pairwise (· < ·)
 | 0, i => by simp [numsD]
 | d + 1, i => by
  simp only [numsD]
  split
  ·rw [List.pairwise_cons]
   exact ⟨fun a ha => by have := (numsD_mem.1 ha).1; omega, numsD_rises p d (i + 1)⟩
  ·exact numsD_rises p d (i + 1)
theorem numsW_mem {p : Int → Bool} {lo hi a : Int} (h : lo ≤ hi + 1) : a ∈ numsW p lo hi ↔ lo ≤ a ∧ a ≤ hi ∧ p a = true := by
 rw [numsW_numsD, numsD_mem]
 constructor
 ·rintro ⟨h1, h2, h3⟩; exact ⟨h1, by omega, h3⟩
 ·rintro ⟨h1, h2, h3⟩; exact ⟨h1, by omega, h3⟩
/-- Two ascending lists with the same members are one. -/
theorem asc_ext : ∀ {l m : List Int}, l.Pairwise (· < ·) → m.Pairwise (· < ·) → (∀ x, x ∈ l ↔ x ∈ m) → l = m
 | [], [], _, _, _ => rfl
 | [], y :: m, _, _, h => absurd ((h y).2 List.mem_cons_self) (by simp)
 | x :: l, [], _, _, h => absurd ((h x).1 List.mem_cons_self) (by simp)
 | x :: l, y :: m, hl, hm, h => by
  obtain ⟨hl1, hl2⟩ := List.pairwise_cons.1 hl
  obtain ⟨hm1, hm2⟩ := List.pairwise_cons.1 hm
  have e : x = y := by
   have h1 := (h x).1 List.mem_cons_self
   have h2 := (h y).2 List.mem_cons_self
   rcases List.mem_cons.1 h1 with h1 | h1
   ·exact h1
   ·rcases List.mem_cons.1 h2 with h2 | h2
    ·exact h2.symm
    ·have := hm1 x h1; have := hl1 y h2; omega
  subst e
  congr 1
  refine asc_ext hl2 hm2 fun z => ?_
  constructor
  ·intro hz
   rcases List.mem_cons.1 ((h z).1 (List.mem_cons_of_mem _ hz)) with e | e
   ·have := hl1 z hz; omega
   ·exact e
  ·intro hz
   rcases List.mem_cons.1 ((h z).2 (List.mem_cons_of_mem _ hz)) with e | e
   ·have := hm1 z hz; omega
   ·exact e
theorem rowI {n f : Int} (h : tabOk n f = true) {k : Nat} (hk : 61 ≤ k) : impl_TimesRow.f k n f = some (rowD n f 0 n.toNat, true) := by
 have hb := tabOk_true.1 h
 unfold impl_TimesRow.f impl_timesRow.f
 rw [isTable_nil, h]
 simp only [Option.bind_some, if_true]
 rw [timesRow_l0 n f h n.toNat k [] 0 (by omega) (by omega) (by omega) (by simp; omega)]
 simp
theorem depthI {n f : Int} (h : tabOk n f = true) {k : Nat} (hk : 200 ≤ k) : impl_DepthOfTable.f k n f = some (depD n f 0 0 n.toNat, true) := by
 have hb := tabOk_true.1 h
 unfold impl_DepthOfTable.f
 rw [isTable_nil, h]
 simp only [Option.bind_some, if_true]
 exact depth_way h n.toNat k 0 0 (by omega) (by omega) (by omega)
theorem afterI {n f p : Int} (h : tabOk n f = true) (h0 : 0 ≤ p) (h1 : p < n) (t : Nat) (ht : t ≤ 1000000) {k : Nat} (hk : t + 2 ≤ k) : impl_TimesAfter.f k n f p t = some (p * f ^ t % n, true) := by
 have hb := tabOk_true.1 h
 obtain ⟨k, rfl⟩ : ∃ m, k = m + 1 := ⟨k - 1, by omega⟩
 have hp : inR p 0 (n - 1) = true := inR_true.2 (by omega)
 have hti : inR (t : Int) 0 1000000 = true := inR_true.2 (by omega)
 unfold impl_TimesAfter.f
 rw [isTable_one, h, hp]
 simp only [Option.bind_some, Bool.and_self, if_true, within_eq, hti, Bool.not_true]
 rw [impl_TimesAfter.j0, if_neg (by decide)]
 rw [show (0 : Int) = ((0 : Nat) : Int) from rfl, after_i n f p t h (by omega) t k 0 p (by omega) (by omega) (by omega) (by rw [Int.pow_zero, Int.mul_one, Int.emod_eq_of_lt (by omega) (by omega)])]
theorem pointI {n f p : Int} (h : tabOk n f = true) (h0 : 0 ≤ p) (h1 : p < n) {k : Nat} (hk : 3 ≤ k) : impl_TimesPoint.f k n f p = some (p * f % n, true) := by
 have h2 := afterI h h0 h1 1 (by omega) (k := k) (by omega)
 unfold impl_TimesPoint.f
 rw [show (1 : Int) = ((1 : Nat) : Int) from rfl, h2]
 simp only [Option.bind_some]
 rw [Int.pow_succ, Int.pow_zero, Int.one_mul]
theorem fixedI {n f : Int} (h : tabOk n f = true) : impl_FixedPoints.f n f = some (numsW (fixB n f) 0 (n - 1), true) := by
 unfold impl_FixedPoints.f
 rw [isTable_nil, h]
 simp only [Option.bind_some, if_true, fixed_i n f h]
theorem factorsI (n x : Int) : impl_FactorsWith.f n x = some (if (inR n 3 60 && inR x 0 60) = true then (numsW (fun f => ((numsW (fixB n f) 0 (n - 1)).length : Int) == x) 0 (n - 1), true) else ([], false)) := by
 unfold impl_FactorsWith.f
 split <;> rfl
theorem factorsS (n x : Int) {k : Nat} (hk : 200 ≤ k) : spec_FactorsWith.f k n x = impl_FactorsWith.f n x := by
 obtain ⟨k, rfl⟩ : ∃ m, k = m + 1 := ⟨k - 1, by omega⟩
 rw [factorsI]
 unfold spec_FactorsWith.f
 rw [srPoints_eq]
 simp only [Option.bind_some]
 by_cases h1 : inR n 3 60 = true
 ·have hb := inR_true.1 h1
  rw [if_pos h1, l1In_eq, h1, Bool.true_and]
  simp only [Option.bind_some]
  by_cases h2 : inR x 0 60 = true
  ·rw [h2, Bool.not_true, spec_FactorsWith.j0, if_neg (by decide), factors_l0 n x hb.1 hb.2 n.toNat k [] 0 (by omega) (by omega) (by omega) (by simp; omega), numsW_numsD _ 0 (n - 1)]
   simp
  ·simp only [Bool.not_eq_true] at h2
   rw [h2, Bool.not_false, spec_FactorsWith.j0, if_pos rfl]
   rfl
 ·simp only [Bool.not_eq_true] at h1
  rw [h1, if_neg (by decide), spec_FactorsWith.j0, if_pos rfl]
  rfl
theorem und_l2 (n x : Int) (h0 : 3 ≤ n) (h1 : n ≤ 60) (l : List Int) (hl : (l.length : Int) ≤ 100) (hm : ∀ f ∈ l, 0 ≤ f ∧ f < n ∧ ((numsW (fixB n f) 0 (n - 1)).length : Int) = x) (d : Nat) : ∀ (k : Nat) (i : Int), 0 ≤ i → i + d = l.length → d < k →
  laws_FnTablesUndone.l2 k n x l (l.length : Int) i = some true := by
 induction d with
 | zero =>
  intro k i hi hd hk
  obtain ⟨k, rfl⟩ : ∃ m, k = m + 1 := ⟨k - 1, by omega⟩
  rw [laws_FnTablesUndone.l2, if_neg (by omega)]
 | succ d ih =>
  intro k i hi hd hk
  obtain ⟨k, rfl⟩ : ∃ m, k = m + 1 := ⟨k - 1, by omega⟩
  have hmem := hm (rd l i) (by rw [rd_get hi (by omega)]; exact List.getElem_mem _)
  have h : tabOk n (rd l i) = true := tabOk_true.2 (by omega)
  rw [laws_FnTablesUndone.l2, if_pos (show i < (l.length : Int) by omega), if_pos hi, if_pos (show i < (l.length : Int) by omega), fixedI h]
  simp only [Option.bind_some, if_true]
  rw [if_pos hmem.2.2, wrap_id (by omega) (by omega)]
  exact ih k (i + 1) (by omega) (by omega) (by omega)
theorem und_j4 {s : List Int} (hs : Bytes s) : ∀ k, 500 ≤ k → laws_FnTablesUndone.j4 k s = some true := by
 intro k hk
 obtain ⟨k, rfl⟩ : ∃ m, k = m + 1 := ⟨k - 1, by omega⟩
 obtain ⟨n, x, e⟩ := drawFactors hs
 rw [laws_FnTablesUndone.j4, e]
 simp only [Option.bind_some]
 rw [factorsS n x (by omega), factorsI]
 simp only [Option.bind_some]
 by_cases hq : (inR n 3 60 && inR x 0 60) = true
 ·have hb := hq
  simp only [Bool.and_eq_true, inR_true] at hb
  rw [if_pos hq]
  simp only [bne_self_eq_false, Bool.false_eq_true, if_false, if_true]
  have hl := numsW_len (fun f => ((numsW (fixB n f) 0 (n - 1)).length : Int) == x) 0 (n - 1)
  have hmem : ∀ f, f ∈ numsW (fun f => ((numsW (fixB n f) 0 (n - 1)).length : Int) == x) 0 (n - 1) ↔ 0 ≤ f ∧ f ≤ n - 1 ∧ ((numsW (fixB n f) 0 (n - 1)).length : Int) = x := fun f => by
   rw [numsW_mem (by omega), beq_iff_eq]
  have hris : (numsW (fun f => ((numsW (fixB n f) 0 (n - 1)).length : Int) == x) 0 (n - 1)).Pairwise (· < ·) := by rw [numsW_numsD]; exact numsD_rises _ _ _
  generalize numsW (fun f => ((numsW (fixB n f) 0 (n - 1)).length : Int) == x) 0 (n - 1) = L at hl hmem hris
  have hl2 : ∀ k, 200 ≤ k → laws_FnTablesUndone.l2 k n x L (L.length : Int) 0 = some true := fun k hk => und_l2 n x (by omega) (by omega) L (by omega) (fun f hf => by have := (hmem f).1 hf; omega) L.length k 0 (by omega) (by omega) (by omega)
  rw [gSame_self (by omega) (by omega)]
  simp only [Option.bind_some, if_true]
  rw [gRises_f (by omega) hris (by omega)]
  simp only [Option.bind_some, if_true]
  have hno : (x = 0 ∨ ¬ Int.tmod n x = 0) → L = [] := by
   intro hx
   refine List.eq_nil_iff_forall_not_mem.2 fun f hf => ?_
   have hf2 := (hmem f).1 hf
   obtain ⟨c, c1, c2, c3, c4, _⟩ := fix_num (n := n) (f := f) (tabOk_true.2 (by omega))
   have ex : x = c := by rw [← hf2.2.2, c1]
   rcases hx with hx | hx
   ·omega
   ·rw [ex, Int.tmod_eq_emod_of_nonneg (by omega)] at hx
    exact hx c4
  have hj5 : ∀ b k, b = false → 300 ≤ k → laws_FnTablesUndone.j5 k n x L b = some true := fun b k hb hk => by
   obtain ⟨k, rfl⟩ : ∃ m, k = m + 1 := ⟨k - 1, by omega⟩
   subst hb
   rw [laws_FnTablesUndone.j5, if_neg (by decide)]
   exact hl2 k (by omega)
  have hz : (x = 0 ∨ ¬ Int.tmod n x = 0) → ((L.length : Int) != 0) = false := fun hx => by rw [hno hx]; rfl
  have hfin : (if x = 0 then laws_FnTablesUndone.j5 k n x L ((L.length : Int) != 0) else if Int.tmod n x = 0 then laws_FnTablesUndone.j5 k n x L false else laws_FnTablesUndone.j5 k n x L ((L.length : Int) != 0)) = some true := by
   by_cases h0 : x = 0
   ·rw [if_pos h0]; exact hj5 _ _ (hz (Or.inl h0)) (by omega)
   ·rw [if_neg h0]
    by_cases h1 : Int.tmod n x = 0
    ·rw [if_pos h1]; exact hj5 _ _ rfl (by omega)
    ·rw [if_neg h1]; exact hj5 _ _ (hz (Or.inr h1)) (by omega)
  by_cases hx : x = n
  ·have hL : L = [1] := by
    refine asc_ext hris (by simp) fun f => ?_
    rw [hmem, List.mem_singleton]
    constructor
    ·intro hf
     obtain ⟨c, c1, c2, c3, c4, c5⟩ := fix_num (n := n) (f := f) (tabOk_true.2 (by omega))
     exact c5.1 (by omega)
    ·rintro rfl
     obtain ⟨c, c1, c2, c3, c4, c5⟩ := fix_num (n := n) (f := 1) (tabOk_true.2 (by omega))
     have := c5.2 rfl
     exact ⟨by omega, by omega, by omega⟩
   rw [if_pos hx]
   have e1 : (L.length : Int) = 1 := by rw [hL]; rfl
   have e2 : rd L 0 = 1 := by rw [hL]; rfl
   rw [if_pos e1, if_pos (by omega), if_pos e2]
   exact hfin
  ·rw [if_neg hx]
   exact hfin
 ·rw [if_neg hq]
  simp only [bne_self_eq_false, Bool.false_eq_true, if_false]
  rw [gSame_self (by simp) (by simp; omega)]
  simp
theorem und_l1 {n f u : Int} (h : tabOk n f = true) (hu0 : 0 ≤ u) (hu1 : u < n) (hu : u * f % n = 1) {R : Nat} (hR : f ^ R % n = 1) (hRb : R ≤ 63) {s L : List Int} {M : Int} (d : Nat) : ∀ (k : Nat) (p : Int), 0 ≤ p → p + d = n → (∀ k', k ≤ k' + d + 1 → k' ≤ k →
   (if (k' : Nat) = 0 then none else (impl_TimesAfter.f k' n f 1 (wrap64 ((R : Int) - 1))).bind fun bt => if bt.2 = true then (if (R : Int) > 1 then (if bt.1 = 1 then none else (laws_gHas.f k' L f).bind fun t => if (t != ((R : Int) == M)) = true then none else laws_FnTablesUndone.j4 k' s) else (laws_gHas.f k' L f).bind fun t => if (t != ((R : Int) == M)) = true then none else laws_FnTablesUndone.j4 k' s) else none) = some true) → d + 100 < k →
  laws_FnTablesUndone.l1 k s n f u (R : Int) L M p = some true := by
 have hb := tabOk_true.1 h
 have hut : tabOk n u = true := tabOk_true.2 (by omega)
 induction d with
 | zero =>
  intro k p hp hd hfin hk
  obtain ⟨k, rfl⟩ : ∃ m, k = m + 1 := ⟨k - 1, by omega⟩
  have := hfin k (by omega) (by omega)
  rw [if_neg (by omega)] at this
  rw [laws_FnTablesUndone.l1, if_neg (by omega)]
  exact this
 | succ d ih =>
  intro k p hp hd hfin hk
  obtain ⟨k, rfl⟩ : ∃ m, k = m + 1 := ⟨k - 1, by omega⟩
  have hb2 := step_bd (p := p) h
  have e1 : p * f % n * u % n = p := by
   rw [Int.mul_emod, Int.emod_emod_of_dvd _ (Int.dvd_refl n), ← Int.mul_emod, Int.mul_assoc, Int.mul_comm f u, Int.mul_emod, hu, Int.mul_one, Int.emod_emod_of_dvd _ (Int.dvd_refl n), Int.emod_eq_of_lt hp (by omega)]
  have e2 : p * f ^ R % n = p := pow_point hp (by omega) (by omega) hR
  rw [laws_FnTablesUndone.l1, if_pos (by omega), pointI h hp (by omega) (by omega)]
  simp only [Option.bind_some]
  rw [pointI hut hb2.1 hb2.2 (by omega)]
  simp only [Option.bind_some]
  rw [afterI h hp (by omega) R (by omega) (by omega)]
  simp only [Option.bind_some, if_true]
  rw [e1, if_pos rfl, e2, if_pos rfl, wrap_id (by omega) (by omega)]
  exact ih k (p + 1) (by omega) (by omega) (fun k' h1 h2 => hfin k' (by omega) (by omega)) (by omega)
theorem und_j2 {s : List Int} (hs : Bytes s) {n f u M o : Int} {L : List Int} {b : Bool} (h : b = true → tabOk n f = true ∧ gcdGo n f = 1 ∧ 1 ≤ u ∧ u < n ∧ u * f % n = 1 ∧ o = ordV n f ∧ o ≤ M ∧ (L.length : Int) ≤ 100 ∧ (L.any fun x => x == f) = (o == M)) : ∀ k, 2000 ≤ k → laws_FnTablesUndone.j2 k s n f u b o L M = some true := by
 intro k hk
 obtain ⟨k, rfl⟩ : ∃ m, k = m + 1 := ⟨k - 1, by omega⟩
 rw [laws_FnTablesUndone.j2]
 by_cases hb : b = true
 ·obtain ⟨ht, hg, u0, u1, hu, rfl, hM, hL, hhas⟩ := h hb
  have hbt := tabOk_true.1 ht
  obtain ⟨R, eR, R1, R2, R3, R4⟩ := ordV_first ht hg
  rw [eR] at hM hhas ⊢
  rw [if_pos hb, if_neg (by omega), if_neg (by omega), if_neg (by omega), if_neg (by omega)]
  refine und_l1 ht (by omega) u1 hu R3 R2 n.toNat k 0 (by omega) (by omega) ?_ (by omega)
  intro k' h1 h2
  have hgh : laws_gHas.f k' L f = some ((R : Int) == M) := by rw [gHas_f f (by omega) (by omega), hhas]
  have hj4 := und_j4 hs k' (by omega)
  rw [if_neg (by omega), wrap_id (by omega) (by omega), show ((R : Int) - 1) = ((R - 1 : Nat) : Int) by omega, afterI ht (by omega) (by omega) (R - 1) (by omega) (by omega)]
  simp only [Option.bind_some, if_true]
  by_cases hR : (R : Int) > 1
  ·rw [if_pos hR, if_neg (by rw [Int.one_mul]; exact R4 (R - 1) (by omega) (by omega)), hgh]
   simp only [Option.bind_some]
   rw [if_neg (by simp)]
   exact hj4
  ·rw [if_neg hR, hgh]
   simp only [Option.bind_some]
   rw [if_neg (by simp)]
   exact hj4
 ·rw [if_neg hb]
  exact und_j4 hs k (by omega)
theorem chL_mem (r : List Int) {x : S41} : ∀ (d : Nat) (i : Int), x ∈ chL r i d → ∃ j, i ≤ j ∧ j < i + d ∧ ¬ j = rd r j ∧ x = chC j (rd r j)
 | 0, i, h => by simp [chL] at h
 | d + 1, i, h => by
  unfold chL at h
  split at h
  ·obtain ⟨j, h1, h2, h3⟩ := chL_mem r d (i + 1) h
   exact ⟨j, by omega, by omega, h3⟩
  ·rename_i hq
   rcases List.mem_cons.1 h with rfl | h
   ·exact ⟨i, by omega, by omega, hq, rfl⟩
   ·obtain ⟨j, h1, h2, h3⟩ := chL_mem r d (i + 1) h
    exact ⟨j, by omega, by omega, h3⟩
theorem tabC_ok {n f : Int} (h : tabOk n f = true) : ∀ x ∈ tabC n f, okC n x ∧ (x.f0 * f % n = x.f1 ∨ x.f1 * f % n = x.f0) := by
 have hb := tabOk_true.1 h
 intro x hx
 have h1 := ((foldD (chL (rowD n f 0 n.toNat) 0 n.toNat) [] List.Pairwise.nil).2.1 x).1 hx
 rcases h1 with h1 | h1
 ·simp at h1
 ·obtain ⟨j, j0, j1, j2, rfl⟩ := chL_mem _ _ _ h1
  have er := rd_row n f j j0 (by omega)
  have hb2 := step_bd (p := j) h
  rw [er] at j2 ⊢
  unfold okC chC mn mx
  simp only
  by_cases hq : j ≤ j * f % n
  ·have e1 : (if j ≤ j * f % n then j else j * f % n) = j := if_pos hq
   constructor
   ·refine ⟨?_, ?_, ?_⟩ <;> (repeat' split) <;> omega
   ·left; (repeat' split) <;> first | rfl | omega
  ·constructor
   ·refine ⟨?_, ?_, ?_⟩ <;> (repeat' split) <;> omega
   ·right; (repeat' split) <;> first | rfl | omega
theorem tabC_asc (n f : Int) : (tabC n f).Pairwise (fun a b => lessC a b = true) := (foldD _ [] List.Pairwise.nil).1
theorem cmpC_neg (x y : S41) (h : lessC x y = true) : cmpC x y < 0 := by
 rw [lessC_iff] at h
 unfold cmpC
 repeat' split
 all_goals omega
theorem areC_l0 {n : Int} {l : List S41} (hl : (l.length : Int) ≤ 1000) (hv : ∀ x ∈ l, okC n x) (hs : l.Pairwise (fun a b => lessC a b = true)) (d : Nat) : ∀ (k : Nat) (i : Int), 0 ≤ i → i + d = l.length → d < k →
  impl_AreChords.l0 k n l l (l.length : Int) i = some (decide ((l.length : Int) ≤ 40)) := by
 induction d with
 | zero =>
  intro k i h0 hi hk
  obtain ⟨k, rfl⟩ : ∃ m, k = m + 1 := ⟨k - 1, by omega⟩
  rw [impl_AreChords.l0, if_neg (by omega)]
 | succ d ih =>
  intro k i h0 hi hk
  obtain ⟨k, rfl⟩ : ∃ m, k = m + 1 := ⟨k - 1, by omega⟩
  have hm : rd_T41 l i ∈ l := by rw [rdC_get h0 (by omega)]; exact List.getElem_mem _
  obtain ⟨q0, q1, q2⟩ := hv _ hm
  have hch : impl_isChord.f n (rd_T41 l i).f0 (rd_T41 l i).f1 = some true := by
   unfold impl_isChord.f
   rw [decide_eq_true ⟨q0, q1, q2⟩]
  rw [impl_AreChords.l0, if_pos (show i < (l.length : Int) by omega), if_pos h0, if_pos (show i < (l.length : Int) by omega), hch]
  simp only [Option.bind_some, if_true]
  rw [wrap_id (x := i + 1) (by omega) (by omega), ih k (i + 1) (by omega) (by omega) (by omega)]
  by_cases hi0 : i > 0
  ·rw [if_pos hi0, wrap_id (x := i - 1) (by omega) (by omega), if_pos (by omega), if_pos (by omega)]
   unfold impl_compareChords.f
   simp only [Option.bind_some]
   have hlt := List.pairwise_iff_getElem.1 hs (i - 1).toNat i.toNat (by omega) (by omega) (by omega)
   rw [← rdC_get (i := i - 1) (by omega) (by omega), ← rdC_get (i := i) (by omega) (by omega)] at hlt
   have := cmpC_neg _ _ hlt
   rw [if_neg (by exact Int.not_le.2 this)]
  ·rw [if_neg hi0]
theorem isSetI {n : Int} (hn : 3 ≤ n) (hn2 : n ≤ 60) {l : List S41} (hl : (l.length : Int) ≤ 40) (hv : ∀ x ∈ l, okC n x) (hs : l.Pairwise (fun a b => lessC a b = true)) {k : Nat} (hk : 100 ≤ k) : impl_isSet.f k n l = some true := by
 have hin : inR n 3 60 = true := inR_true.2 (by omega)
 unfold impl_isSet.f impl_AreChords.f
 rw [isCircle_eq, within_eq, hin]
 simp only [Option.bind_some, if_true]
 rw [areC_l0 (by omega) hv hs l.length k 0 (by omega) (by omega) (by omega), decide_eq_true hl]
 rfl
theorem crossI {l : List S41} (hl : (l.length : Int) ≤ 60) {k : Nat} (hk : 200 ≤ k) : impl_crossings.f k l = some ((prs l : Nat) : Int) := by
 have h1 := crossings_l0 l hl l.length k 0 (by omega) (by omega) (by omega)
 simp only [Int.toNat_zero, List.take_zero, prs] at h1
 exact h1
/-- What is told of a table's chords. -/
structure ChTold (n f t : Int) : Prop where
 one : 1 ≤ t
 le : t ≤ n
 fx : t < n → FxC n (tabC n f) t
 least : ∀ j, 1 ≤ j → j < t → ¬ FxC n (tabC n f) j
theorem turnI {n f t : Int} (h : tabOk n f = true) (ht : ChTold n f t) (hl : ((tabC n f).length : Int) ≤ 40) {k : Nat} (hk : 500 ≤ k) : impl_TurnChords.f k n (tabC n f) (Int.tmod t n) = some (tabC n f, true) := by
 have hb := tabOk_true.1 h
 have hv : ∀ x ∈ tabC n f, okC n x := fun x hx => (tabC_ok h x hx).1
 have hs := tabC_asc n f
 have h1 := ht.one
 have h2 := ht.le
 obtain ⟨b, hbe, hb0, hb1, hbx⟩ : ∃ b, Int.tmod t n = b ∧ 0 ≤ b ∧ b < n ∧ FxC n (tabC n f) b := by
  rw [Int.tmod_eq_emod_of_nonneg (by omega)]
  rcases Int.lt_or_eq_of_le h2 with h3 | h3
  ·rw [Int.emod_eq_of_lt (by omega) h3]
   exact ⟨t, rfl, by omega, h3, ht.fx h3⟩
  ·rw [h3, Int.emod_self]
   refine ⟨0, rfl, by omega, by omega, fun z => ⟨fun hz => ⟨z, hz, tn_id (hv z hz) (Or.inl rfl)⟩, ?_⟩⟩
   rintro ⟨x, hx, rfl⟩
   rw [tn_id (hv x hx) (Or.inl rfl)]; exact hx
 rw [hbe]
 have hw : inR b 0 (n - 1) = true := inR_true.2 (by omega)
 unfold impl_TurnChords.f
 rw [isSetI (by omega) (by omega) hl hv hs (by omega), wrap_id (x := n - 1) (by omega) (by omega), within_eq, hw]
 simp only [Option.bind_some, if_true]
 rw [(turned_is hv (by omega) (by omega) hb0 (by omega) (by omega) (by omega)).2, (fx_iff hs b).2 hbx]
 rfl
theorem und_l0 {s : List Int} (hs : Bytes s) {n f u M o t : Int} {L : List Int} {b : Bool} (ht : tabOk n f = true) (hc : ChTold n f t) (h : b = true → tabOk n f = true ∧ gcdGo n f = 1 ∧ 1 ≤ u ∧ u < n ∧ u * f % n = 1 ∧ o = ordV n f ∧ o ≤ M ∧ (L.length : Int) ≤ 100 ∧ (L.any fun x => x == f) = (o == M)) (d : Nat) : ∀ (k : Nat) (i : Int), 0 ≤ i → i + d = (tabC n f).length → d + 3000 < k →
  laws_FnTablesUndone.l0 k s n f u b o (tabC n f) t ((prs (tabC n f) : Nat) : Int) L M (rowD n f 0 n.toNat) (tabC n f) ((tabC n f).length : Int) i = some true := by
 have hb := tabOk_true.1 ht
 have hlen := tabC_len n f
 have hrow := rowD_len n f 0 n.toNat
 induction d with
 | zero =>
  intro k i h0 hi hk
  obtain ⟨k, rfl⟩ : ∃ m, k = m + 1 := ⟨k - 1, by omega⟩
  have hj2 := und_j2 hs h k (by omega)
  rw [laws_FnTablesUndone.l0, if_neg (by omega)]
  by_cases hl : ((tabC n f).length : Int) ≤ 40
  ·have hv : ∀ x ∈ tabC n f, okC n x := fun x hx => (tabC_ok ht x hx).1
   rw [if_pos hl, if_neg (by omega), turnI ht hc hl (by omega)]
   unfold impl_CountPairsCrossing.f
   rw [isSetI (by omega) (by omega) hl hv (tabC_asc n f) (by omega)]
   simp only [Option.bind_some, if_true]
   rw [crossI (by omega) (by omega)]
   simp only [Option.bind_some, if_true]
   rw [gChords_self (by omega) (by omega)]
   simp only [Option.bind_some, if_true]
   exact hj2
  ·rw [if_neg hl]; exact hj2
 | succ d ih =>
  intro k i h0 hi hk
  obtain ⟨k, rfl⟩ : ∃ m, k = m + 1 := ⟨k - 1, by omega⟩
  have hm : rd_T41 (tabC n f) i ∈ tabC n f := by rw [rdC_get h0 (by omega)]; exact List.getElem_mem _
  obtain ⟨⟨q0, q1, q2⟩, q3⟩ := tabC_ok ht _ hm
  have hnext := ih k (i + 1) (by omega) (by omega) (by omega)
  rw [laws_FnTablesUndone.l0, if_pos (show i < ((tabC n f).length : Int) by omega), if_pos h0, if_pos (show i < ((tabC n f).length : Int) by omega), wrap_id (x := i + 1) (by omega) (by omega), hnext]
  generalize rd_T41 (tabC n f) i = c at q0 q1 q2 q3
  rw [if_neg (by omega), if_pos q0, if_pos (by omega), rd_row n f c.f0 q0 (by omega)]
  by_cases hq : c.f0 * f % n = c.f1
  ·rw [if_pos hq]
  ·rw [if_neg hq, if_pos (by omega), if_pos (by omega), rd_row n f c.f1 (by omega) q2, if_pos (by
    rcases q3 with q3 | q3
    ·exact absurd q3 hq
    ·exact q3)]
theorem longIS (n : Int) {k : Nat} (hk : 300 ≤ k) : ∃ (L : List Int) (M : Int) (b : Bool), spec_LongFactors.f k n = some (L, M, b) ∧ impl_LongFactors.f k n = some (L, M, b) ∧ (L.length : Int) ≤ 100 ∧ (inR n 3 60 = true → b = true ∧ L = numsD (lfP n M) 1 (n - 1).toNat ∧ M = lfM n n.toNat 0 0) := by
 by_cases hq : inR n 3 60 = true
 ·obtain ⟨h0, h1⟩ := inR_true.1 hq
  have hT : ∀ x, 0 ≤ x → x < n → tabOk n x = true := fun x h2 h3 => tabOk_true.2 (by omega)
  obtain ⟨M, hM⟩ : ∃ M, M = lfM n (n - 1).toNat 1 0 := ⟨_, rfl⟩
  have hz : lfM n n.toNat 0 0 = M := by
   rw [hM, show n.toNat = (n - 1).toNat + 1 by omega]
   show lfM n (n - 1).toNat (0 + 1) (mx 0 (ordV n 0)) = _
   rw [ordV_no (hT 0 (by omega) (by omega)) (gcdGo_zero n h0)]
   rfl
  have hM1 : 1 ≤ M := by
   have hy := ordV_yes (hT 1 (by omega) (by omega)) (gcdGo_one n h0)
   have := lfM_in n (n - 1).toNat 1 0 1 (by omega) (by omega)
   omega
  have hs : spec_LongFactors.f k n = some (numsD (lfP n M) 1 (n - 1).toNat, M, true) := by
   unfold spec_LongFactors.f
   rw [srPoints_eq, hq]
   simp only [Option.bind_some, if_true]
   rw [long_l0 h0 h1 (n - 1).toNat k 0 [] 1 (by omega) (by omega) (by omega) (by omega) (by simp; omega), ← hM, if_pos (by omega)]
  have hi : impl_LongFactors.f k n = some (numsD (lfP n M) 1 (n - 1).toNat, M, true) := by
   unfold impl_LongFactors.f
   rw [if_pos hq, lfMost_eq h0 h1 (by omega) n.toNat 0 0 (by omega) (by omega), hz]
   simp only [Option.bind_some]
   congr 2
   rw [numsW_numsD, show (n - 1 + 1 - 0).toNat = (n - 1).toNat + 1 by omega]
   have e0 : (impl_orderOf.f k n 0 == some M) = false := by
    rw [ordV_i (hT 0 (by omega) (by omega)) (by omega), ordV_no (hT 0 (by omega) (by omega)) (gcdGo_zero n h0)]
    simp; omega
   simp only [numsD, e0, Bool.false_eq_true, if_false]
   refine numsD_congr fun x hx hx2 => ?_
   rw [ordV_i (hT x (by omega) (by omega)) (by omega)]
   unfold lfP
   by_cases hg : gcdGo n x = 1
   ·rw [decide_eq_true hg, Bool.true_and, Bool.eq_iff_iff]
    simp
   ·rw [decide_eq_false hg, Bool.false_and, ordV_no (hT x (by omega) (by omega)) hg]
    simp; omega
  have hl := numsD_len (lfP n M) 1 (n - 1).toNat
  exact ⟨_, M, true, hs, hi, by omega, fun _ => ⟨rfl, rfl, hz.symm⟩⟩
 ·refine ⟨[], 0, false, ?_, ?_, by simp, fun h => absurd h hq⟩
  ·unfold spec_LongFactors.f
   rw [srPoints_eq]
   simp only [Option.bind_some]
   rw [if_neg hq]
  ·unfold impl_LongFactors.f
   rw [if_neg hq]
theorem canIS (n f : Int) : impl_CanBeUndone.f n f = some (if tabOk n f = true then (gcdGo n f == 1, true) else (false, false)) ∧ spec_CanBeUndone.f n f = some (if tabOk n f = true then (gcdGo n f == 1, true) else (false, false)) := by
 unfold spec_CanBeUndone.f impl_CanBeUndone.f spec_taUndone.f spec_srCommon.f impl_divisor.f
 rw [taGood_eq, isTable_nil]
 cases tabOk n f <;> exact ⟨rfl, rfl⟩
theorem ordIS {n f : Int} (h : tabOk n f = true) {k : Nat} (hk : 62 ≤ k) : impl_OrderOfFactor.f k n f = some (ordV n f, gcdGo n f == 1) ∧ spec_OrderOfFactor.f k n f = some (ordV n f, gcdGo n f == 1) := by
 unfold spec_OrderOfFactor.f impl_OrderOfFactor.f spec_taUndone.f spec_srCommon.f
 rw [taGood_eq, isTable_nil, h]
 simp only [Option.bind_some, if_true]
 rw [ordV_i h hk]
 simp only [Option.bind_some]
 by_cases hg : gcdGo n f = 1
 ·have hy := ordV_yes h hg
  rw [show (gcdGo n f == 1) = true by rw [hg]; rfl, if_pos rfl, ordV_s h hg hk, decide_eq_true (show ordV n f > 0 by omega)]
  exact ⟨rfl, rfl⟩
 ·rw [show (gcdGo n f == 1) = false from beq_eq_false_iff_ne.mpr hg, if_neg (by decide), ordV_no h hg]
  exact ⟨rfl, rfl⟩
theorem und_j0 {s : List Int} (hs : Bytes s) {n f u M o t : Int} {L : List Int} {b : Bool} (ht : tabOk n f = true) (hc : ChTold n f t) (h : b = true → tabOk n f = true ∧ gcdGo n f = 1 ∧ 1 ≤ u ∧ u < n ∧ u * f % n = 1 ∧ o = ordV n f ∧ o ≤ M ∧ (L.length : Int) ≤ 100 ∧ (L.any fun x => x == f) = (o == M)) : ∀ k, 4000 ≤ k →
  laws_FnTablesUndone.j0 k s n f u b (gcdGo n f == 1) true o (tabC n f) t ((prs (tabC n f) : Nat) : Int) L M false = some true := by
 intro k hk
 obtain ⟨k, rfl⟩ : ∃ m, k = m + 1 := ⟨k - 1, by omega⟩
 have hb := tabOk_true.1 ht
 have hlen := tabC_len n f
 have h1 := hc.one
 have h2 := hc.le
 have hdiv := least_div (show 3 ≤ n by omega) (fun x hx => (tabC_ok ht x hx).1) h1 h2 hc.fx hc.least
 rw [laws_FnTablesUndone.j0, if_neg (by decide), if_pos rfl, rowI ht (by omega)]
 simp only [Option.bind_some]
 rw [depthI ht (by omega)]
 simp only [Option.bind_some, if_true]
 have he : ((gcdGo n f == 1) != (depD n f 0 0 n.toNat == 0)) = false := by
  rw [bne_eq_false_iff_eq, Bool.eq_iff_iff, beq_iff_eq, beq_iff_eq, depth_none ht, can_depth ht]
 rw [if_neg (by omega), if_neg (by omega), if_neg (by omega), if_neg (by omega), if_neg (by omega), if_pos (by rw [Int.tmod_eq_emod_of_nonneg (by omega)]; exact hdiv), he, if_neg (by decide)]
 exact und_l0 hs ht hc h (tabC n f).length k 0 (by omega) (by omega) (by omega)
theorem FnTablesUndone : laws_FnTablesUndone.Pure := by
 intro l0 l1 _ _ hw0 _ _ hw1
 refine ⟨6000, ?_⟩
 unfold laws_FnTablesUndone.f laws_big.f
 by_cases hl0 : (l0.length : Int) > 1048576
 ·rw [if_pos hl0]; rfl
 rw [if_neg hl0, wrap_id (by omega) (by omega)]
 simp only [Option.bind_some]
 by_cases hl1 : (l1.length : Int) > 1048576 - l0.length
 ·rw [decide_eq_true hl1]; rfl
 rw [decide_eq_false hl1]
 have hs0 := Bytes.of (by omega) hw0
 have hs1 := Bytes.of (by omega) hw1
 obtain ⟨n, f, e0⟩ := drawUndo hs0
 simp only [Bool.false_eq_true, if_false]
 rw [e0]
 simp only [Option.bind_some]
 obtain ⟨L, M, bl, l1', l2', l3', l4'⟩ := longIS n (k := 6000) (by omega)
 obtain ⟨c1, c2⟩ := canIS n f
 by_cases h : tabOk n f = true
 ·have hb := tabOk_true.1 h
  have hin : inR n 3 60 = true := inR_true.2 (by omega)
  obtain ⟨rfl, hL, hM⟩ := l4' hin
  rw [if_pos h] at c1 c2
  obtain ⟨o1, o2⟩ := ordIS h (k := 6000) (by omega)
  obtain ⟨r, r1, r2, r3, r4⟩ := undo_told n f h n.toNat 6000 0 (by omega) (by omega) (by omega)
  have u1 : impl_UndoFactor.f 6000 n f = some r := by
   unfold impl_UndoFactor.f
   rw [isTable_nil, h]; exact r2
  have u2 : spec_UndoFactor.f 6000 n f = some r := by
   unfold spec_UndoFactor.f
   rw [taGood_eq, h]; exact r1
  have hlen := tabC_len n f
  have t1 : impl_TimesChords.f 6000 n f = some (tabC n f, true) := by
   unfold impl_TimesChords.f
   rw [isTable_nil, h]
   simp only [Option.bind_some, if_true]
   rw [timesChords_f n f h (by omega)]; rfl
  have t2 : spec_TimesChords.f 6000 n f = some (tabC n f, true) := by
   unfold spec_TimesChords.f
   rw [taGood_eq, h]
   simp only [Option.bind_some, if_true]
   rw [taChords_f n f h (by omega)]; rfl
  obtain ⟨t, a1, a2, a3, a4, a5, a6⟩ := least_told n (by omega) (by omega) (tabC n f) (by omega) (fun x hx => (tabC_ok h x hx).1) (tabC_asc n f) (n - 1).toNat 6000 1 (by omega) (by omega) (by omega)
  have g1 : impl_LeastTurnOfTable.f 6000 n f = some (t, true) := by
   unfold impl_LeastTurnOfTable.f
   rw [isTable_nil, h]
   simp only [Option.bind_some, if_true]
   rw [timesChords_f n f h (by omega)]
   exact a2
  have g2 : spec_LeastTurnOfTable.f 6000 n f = some (t, true) := by
   unfold spec_LeastTurnOfTable.f
   rw [taGood_eq, h]
   simp only [Option.bind_some, if_true]
   rw [taChords_f n f h (by omega)]
   exact a1
  have x1 : impl_TableCrossings.f 6000 n f = some (((prs (tabC n f) : Nat) : Int), true) := by
   unfold impl_TableCrossings.f
   rw [isTable_nil, h]
   simp only [Option.bind_some, if_true]
   rw [timesChords_f n f h (by omega)]
   simp only [Option.bind_some]
   rw [crossI (by omega) (by omega)]; rfl
  have x2 : spec_TableCrossings.f 6000 n f = some (((prs (tabC n f) : Nat) : Int), true) := by
   unfold spec_TableCrossings.f
   rw [taGood_eq, h]
   simp only [Option.bind_some, if_true]
   rw [taChords_f n f h (by omega)]
   unfold spec_srCount.f
   simp only [Option.bind_some]
   rw [count_l0 (tabC n f) (fun x hx => (tabC_ok h x hx).1.2.1) (by omega) (tabC n f).length 6000 0 0 (by omega) (by omega) (by omega) (by omega) (by omega)]
   simp
  have hr : r.2 = (gcdGo n f == 1) := by
   rw [Bool.eq_iff_iff, beq_iff_eq]
   constructor
   ·intro e; exact inv_gcd h (r3 e).2.2
   ·intro e
    obtain ⟨u, v0, v1, v2⟩ := undo_can h e
    rcases Bool.eq_false_or_eq_true r.2 with e2 | e2
    ·exact e2
    ·exact absurd v2 (r4 e2 u v0 v1)
  have hj := und_j0 hs1 (u := r.1) (M := M) (o := ordV n f) (L := L) (b := r.2) h ⟨a3, a4, a5, a6⟩ (by
   intro e
   obtain ⟨q0, q1, q2⟩ := r3 e
   have hg : gcdGo n f = 1 := by rw [hr, beq_iff_eq] at e; exact e
   have hu0 : 1 ≤ r.1 := by
    rcases Int.lt_or_eq_of_le q0 with e2 | e2
    ·omega
    ·rw [← e2, Int.zero_mul, Int.zero_emod] at q2; omega
   have hf1 : 1 ≤ f := by
    rcases Int.lt_or_eq_of_le (show 0 ≤ f by omega) with e2 | e2
    ·omega
    ·rw [← e2, Int.mul_zero, Int.zero_emod] at q2; omega
   refine ⟨h, hg, hu0, q1, q2, rfl, ?_, l3', ?_⟩
   ·rw [hM]; exact lfM_in n n.toNat 0 0 f (by omega) (by omega)
   ·rw [hL, Bool.eq_iff_iff, List.any_eq_true, beq_iff_eq]
    constructor
    ·rintro ⟨x, hx, hxf⟩
     rw [beq_iff_eq] at hxf
     subst hxf
     have := (numsD_mem.1 hx).2.2
     unfold lfP at this
     simp only [Bool.and_eq_true, decide_eq_true_eq] at this
     exact this.2
    ·intro e2
     refine ⟨f, numsD_mem.2 ⟨hf1, by omega, ?_⟩, by simp⟩
     unfold lfP
     rw [decide_eq_true hg, decide_eq_true e2]; rfl) 6000 (by omega)
  rw [u1]
  simp only [Option.bind_some]
  rw [u2]
  simp only [Option.bind_some]
  rw [c1, c2]
  simp only [Option.bind_some]
  rw [o1]
  simp only [Option.bind_some]
  rw [o2]
  simp only [Option.bind_some]
  rw [t1]
  simp only [Option.bind_some]
  rw [t2]
  simp only [Option.bind_some]
  rw [g1]
  simp only [Option.bind_some]
  rw [g2]
  simp only [Option.bind_some]
  rw [x1]
  simp only [Option.bind_some]
  rw [x2]
  simp only [Option.bind_some]
  rw [l2']
  simp only [Option.bind_some]
  rw [l1']
  simp only [Option.bind_some, bne_self_eq_false, Bool.false_eq_true, if_false, if_true]
  rw [gChords_self (by omega) (by omega)]
  simp only [Option.bind_some, if_true]
  rw [gSame_self (by omega) (by omega)]
  simp only [Option.bind_some, if_true, hr, bne_self_eq_false, Bool.false_eq_true, if_false, Bool.not_true]
  rw [hr] at hj
  exact hj
 ·have u1 : impl_UndoFactor.f 6000 n f = some (0, false) := by
   unfold impl_UndoFactor.f
   rw [isTable_nil]; simp [h]
  have u2 : spec_UndoFactor.f 6000 n f = some (0, false) := by
   unfold spec_UndoFactor.f
   rw [taGood_eq]; simp [h]
  have o1 : impl_OrderOfFactor.f 6000 n f = some (0, false) := by
   unfold impl_OrderOfFactor.f
   rw [isTable_nil]; simp [h]
  have o2 : spec_OrderOfFactor.f 6000 n f = some (0, false) := by
   unfold spec_OrderOfFactor.f
   rw [taGood_eq]; simp [h]
  have t1 : impl_TimesChords.f 6000 n f = some ([], false) := by
   unfold impl_TimesChords.f
   rw [isTable_nil]; simp [h]
  have t2 : spec_TimesChords.f 6000 n f = some ([], false) := by
   unfold spec_TimesChords.f
   rw [taGood_eq]; simp [h]
  have g1 : impl_LeastTurnOfTable.f 6000 n f = some (0, false) := by
   unfold impl_LeastTurnOfTable.f
   rw [isTable_nil]; simp [h]
  have g2 : spec_LeastTurnOfTable.f 6000 n f = some (0, false) := by
   unfold spec_LeastTurnOfTable.f
   rw [taGood_eq]; simp [h]
  have x1 : impl_TableCrossings.f 6000 n f = some (0, false) := by
   unfold impl_TableCrossings.f
   rw [isTable_nil]; simp [h]
  have x2 : spec_TableCrossings.f 6000 n f = some (0, false) := by
   unfold spec_TableCrossings.f
   rw [taGood_eq]; simp [h]
  rw [if_neg h] at c1 c2
  have hj2 := und_j2 hs1 (n := n) (f := f) (u := 0) (M := M) (o := 0) (L := L) (b := false) (fun e => by cases e) 5999 (by omega)
  rw [u1]
  simp only [Option.bind_some]
  rw [u2]
  simp only [Option.bind_some]
  rw [c1, c2]
  simp only [Option.bind_some]
  rw [o1]
  simp only [Option.bind_some]
  rw [o2]
  simp only [Option.bind_some]
  rw [t1]
  simp only [Option.bind_some]
  rw [t2]
  simp only [Option.bind_some]
  rw [g1]
  simp only [Option.bind_some]
  rw [g2]
  simp only [Option.bind_some]
  rw [x1]
  simp only [Option.bind_some]
  rw [x2]
  simp only [Option.bind_some]
  rw [l2']
  simp only [Option.bind_some]
  rw [l1']
  simp only [Option.bind_some, bne_self_eq_false, Bool.false_eq_true, if_false, if_true]
  rw [gChords_self (by simp) (by simp)]
  simp only [Option.bind_some, if_true]
  rw [gSame_self (by omega) (by omega)]
  simp only [Option.bind_some, if_true]
  rw [laws_FnTablesUndone.j0, if_neg (by decide), if_neg (by decide)]
  exact hj2

end Go.Proofs.YteihhjieihgojaaGreat.Pure
