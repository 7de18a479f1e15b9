/- What is proved: the pure statement of the law FnExactTimesAfter, about numbers and lists alone; no condition. -/
import Derived.Test.YtghcelpmkffbhaaPx2
namespace Go.Proofs.Ytghcelpmkffbhaa.Pure
open Go.RowKit Go.Proofs.Ytghcelpmkffbhaa.P Go.Proofs.YtghcelpmkffbhaaW.PrintWords Go.Proofs.YtghcelpmkffbhaaW.PrintLast
set_option linter.unusedVariables false
set_option linter.unusedSimpArgs false

theorem l1In_eq (n lo hi : Int) : spec_l1In.f n lo hi = some (inR n lo hi) := by
  unfold spec_l1In.f inR
  by_cases h : n ≥ lo
  · rw [if_pos h]; congr 1; simp only [decide_eq_decide]; omega
  · rw [if_neg h]; congr 1; exact (decide_eq_false (by omega)).symm
theorem wrap_one {n lo hi : Int} (h : inR n lo hi = true) (h1 : -1000000 ≤ lo) (h2 : hi ≤ 1000000) : wrap64 (n - 1) = n - 1 := by
  have := inR_true.1 h
  unfold wrap64
  omega
theorem wrap_id {x : Int} (h : -9000000000000000000 ≤ x) (h2 : x ≤ 9000000000000000000) : wrap64 x = x := by unfold wrap64; omega
/-- A table. -/
def tabOk (n f : Int) : Bool := inR n 3 60 && inR f 0 (n - 1)
theorem tabOk_true {n f : Int} : tabOk n f = true ↔ 3 ≤ n ∧ n ≤ 60 ∧ 0 ≤ f ∧ f ≤ n - 1 := by
  simp only [tabOk, Bool.and_eq_true, inR_true]
  omega
theorem srPoints_eq (n : Int) : spec_srPoints.f n = some (inR n 3 60) := by
  unfold spec_srPoints.f; rw [l1In_eq]; rfl
theorem taGood_eq (n f : Int) : spec_taGood.f n f = some (tabOk n f) := by
  unfold spec_taGood.f tabOk
  rw [srPoints_eq]
  simp only [Option.bind_some]
  by_cases h : inR n 3 60 = true
  · rw [if_pos h, wrap_one h (by omega) (by omega), l1In_eq, h]; rfl
  · rw [if_neg h]; simp only [Bool.not_eq_true] at h; rw [h]; rfl
theorem isTable_nil (n f : Int) : impl_isTable.f n f [] = some (tabOk n f) := by
  simp [impl_isTable.f, tabOk]
theorem isTable_one (n f p : Int) : impl_isTable.f n f [p] = some (tabOk n f && inR p 0 (n - 1)) := by
  simp [impl_isTable.f, tabOk]
theorem step_eq {n f p : Int} (h : tabOk n f = true) (h0 : 0 ≤ p) (h1 : p ≤ 60) : Int.tmod (wrap64 (p * f)) n = p * f % n := by
  have hb := tabOk_true.1 h
  have hm : 0 ≤ p * f := Int.mul_nonneg h0 (by omega)
  have hm2 : p * f ≤ 60 * 60 := by
    have := Int.mul_le_mul h1 (show f ≤ 60 by omega) (by omega) (by omega)
    omega
  rw [wrap_id (by omega) (by omega), Int.tmod_eq_emod_of_nonneg hm]
theorem step_bd {n f p : Int} (h : tabOk n f = true) : 0 ≤ p * f % n ∧ p * f % n < n := by
  have hb := tabOk_true.1 h
  exact ⟨Int.emod_nonneg _ (by omega), Int.emod_lt_of_pos _ (by omega)⟩
theorem taAsked_eq (n f p : Int) : spec_taAsked.f n f p = some (tabOk n f && inR p 0 (n - 1)) := by
  unfold spec_taAsked.f
  rw [taGood_eq]
  simp only [Option.bind_some]
  by_cases h : tabOk n f = true
  · have hb := tabOk_true.1 h
    rw [if_pos h, wrap_id (by omega) (by omega), l1In_eq, h]; rfl
  · rw [if_neg h]; simp only [Bool.not_eq_true] at h; rw [h]; rfl
theorem emod_pow (a n : Int) (m : Nat) : (a % n) ^ m % n = a ^ m % n := by
  induction m with
  | zero => simp
  | succ m ih => rw [Int.pow_succ, Int.pow_succ, Int.mul_emod, ih, Int.emod_emod_of_dvd _ (Int.dvd_refl n), ← Int.mul_emod]
theorem after_i (n f p : Int) (t : Nat) (h : tabOk n f = true) (hp : 0 ≤ p ∧ p < n) (d : Nat) : ∀ (k i : Nat) (q : Int), i + d = t → t ≤ 1000000 → d < k → q = p * f ^ i % n →
    impl_TimesAfter.l0 k n f q t i = some (p * f ^ t % n, true) := by
  have hb := tabOk_true.1 h
  induction d with
  | zero =>
    intro k i q hi ht hk hq
    obtain ⟨k, rfl⟩ : ∃ m, k = m + 1 := ⟨k - 1, by omega⟩
    rw [impl_TimesAfter.l0, if_neg (by omega), hq, show i = t by omega]
  | succ d ih =>
    intro k i q hi ht hk hq
    obtain ⟨k, rfl⟩ : ∃ m, k = m + 1 := ⟨k - 1, by omega⟩
    have h0 : 0 ≤ q := by rw [hq]; exact Int.emod_nonneg _ (by omega)
    have h1 : q < n := by rw [hq]; exact Int.emod_lt_of_pos _ (by omega)
    rw [impl_TimesAfter.l0, if_pos (by omega), if_neg (by omega), step_eq h h0 (by omega), wrap_id (x := (i : Int) + 1) (by omega) (by omega)]
    refine ih k (i + 1) _ (by omega) ht (by omega) ?_
    rw [hq, Int.pow_succ, ← Int.mul_assoc, Int.mul_emod, Int.emod_emod_of_dvd _ (Int.dvd_refl n), ← Int.mul_emod]
theorem after_s (n : Int) (hn : 3 ≤ n) (hn2 : n ≤ 60) (t : Nat) : ∀ (k : Nat) (q b : Int), t ≤ 1000000 → t < k → 0 ≤ q → q < n → 0 ≤ b → b < n →
    spec_TimesAfter.l0 k n q t b = some (q * b ^ t % n, true) := by
  induction t using Nat.strongRecOn with
  | _ t ih =>
    intro k q b ht hk h0 h1 h2 h3
    obtain ⟨k, rfl⟩ : ∃ m, k = m + 1 := ⟨k - 1, by omega⟩
    have hbb : 0 ≤ b * b := Int.mul_nonneg h2 h2
    have hbb2 : b * b ≤ 60 * 60 := Int.mul_le_mul (by omega) (by omega) h2 (by omega)
    have hqb : 0 ≤ q * b := Int.mul_nonneg h0 h2
    have hqb2 : q * b ≤ 60 * 60 := Int.mul_le_mul (by omega) (by omega) h2 (by omega)
    rw [spec_TimesAfter.l0]
    by_cases h : (t : Int) > 0
    · have e1 : Int.tmod (t : Int) 2 = ((t % 2 : Nat) : Int) := rfl
      have e2 : Int.tdiv (t : Int) 2 = ((t / 2 : Nat) : Int) := rfl
      have s1 : Int.tmod (wrap64 (b * b)) n = b * b % n := by rw [wrap_id (by omega) (by omega), Int.tmod_eq_emod_of_nonneg hbb]
      have s2 : Int.tmod (wrap64 (q * b)) n = q * b % n := by rw [wrap_id (by omega) (by omega), Int.tmod_eq_emod_of_nonneg hqb]
      have sq : b * b = b ^ 2 := by rw [Int.pow_succ, Int.pow_succ, Int.pow_zero, Int.one_mul]
      rw [if_pos h, e1, e2, s1, s2, wrap_id (x := ((t / 2 : Nat) : Int)) (by omega) (by omega)]
      have r1 : 0 ≤ b * b % n := Int.emod_nonneg _ (by omega)
      have r2 : b * b % n < n := Int.emod_lt_of_pos _ (by omega)
      have r3 : 0 ≤ q * b % n := Int.emod_nonneg _ (by omega)
      have r4 : q * b % n < n := Int.emod_lt_of_pos _ (by omega)
      by_cases ho : ((t % 2 : Nat) : Int) = 1
      · rw [if_pos ho, if_neg (by omega), ih (t / 2) (by omega) k _ _ (by omega) (by omega) r3 r4 r1 r2]
        have e : t = 2 * (t / 2) + 1 := by omega
        congr 2
        rw [Int.mul_emod, emod_pow, Int.emod_emod_of_dvd _ (Int.dvd_refl n), ← Int.mul_emod, sq, ← Int.pow_mul, Int.mul_assoc]
        conv => rhs; rw [e, Int.pow_succ, Int.mul_comm (b ^ (2 * (t / 2))) b]
      · rw [if_neg ho, if_neg (by omega), ih (t / 2) (by omega) k _ _ (by omega) (by omega) h0 h1 r1 r2]
        have e : t = 2 * (t / 2) := by omega
        congr 2
        rw [Int.mul_emod, emod_pow, ← Int.mul_emod, sq, ← Int.pow_mul]
        conv => rhs; rw [e]
    · have e : t = 0 := by omega
      subst e
      rw [if_neg h, Int.pow_zero, Int.mul_one, Int.emod_eq_of_lt h0 h1]
theorem FnExactTimesAfter : laws_FnExactTimesAfter.Pure := by
  intro n f p t _ _ _ _
  refine ⟨1000010 + 1, ?_⟩
  unfold laws_FnExactTimesAfter.f spec_TimesAfter.f impl_TimesAfter.f
  rw [taAsked_eq, isTable_one]
  by_cases h : (tabOk n f && inR p 0 (n - 1)) = true
  · have hb := h
    rw [Bool.and_eq_true] at hb
    obtain ⟨h1, h2⟩ := hb
    have hb := tabOk_true.1 h1
    have hp := inR_true.1 h2
    simp only [h, Option.bind_some, if_true, within_eq, l1In_eq]
    by_cases ht : inR t 0 1000000 = true
    · have hb2 := inR_true.1 ht
      obtain ⟨t, rfl⟩ := Int.eq_ofNat_of_zero_le hb2.1
      rw [ht]
      simp only [Bool.not_true]
      rw [spec_TimesAfter.j0, impl_TimesAfter.j0, if_neg (by decide), if_neg (by decide)]
      rw [after_s n (by omega) (by omega) t _ p f (by omega) (by omega) (by omega) (by omega) (by omega) (by omega)]
      rw [show (0 : Int) = ((0 : Nat) : Int) from rfl, after_i n f p t h1 (by omega) t _ 0 p (by omega) (by omega) (by omega) (by rw [Int.pow_zero, Int.mul_one, Int.emod_eq_of_lt (by omega) (by omega)])]
      simp
    · simp only [Bool.not_eq_true] at ht
      rw [ht]
      simp only [Bool.not_false]
      rw [spec_TimesAfter.j0, impl_TimesAfter.j0, if_pos rfl, if_pos rfl]
      simp
  · simp only [h, Option.bind_some, if_false, Bool.false_eq_true]
    rw [spec_TimesAfter.j0, impl_TimesAfter.j0, if_pos rfl, if_pos rfl]
    simp

end Go.Proofs.Ytghcelpmkffbhaa.Pure
