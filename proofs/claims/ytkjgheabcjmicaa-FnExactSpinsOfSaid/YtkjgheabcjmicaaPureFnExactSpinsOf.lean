/- What is proved: the pure statement of the law FnExactSpinsOf, about numbers and lists alone; no condition. -/
import Derived.Test.YtkjgheabcjmicaaPx3
namespace Go.Proofs.Ytkjgheabcjmicaa.Pure
open Go.RowKit Go.Proofs.Ytkjgheabcjmicaa.P Go.Proofs.YtkjgheabcjmicaaW.PrintWords Go.Proofs.YtkjgheabcjmicaaW.PrintLast
set_option linter.unusedVariables false
set_option linter.unusedSimpArgs false

theorem l1In_eq (n lo hi : Int) : spec_l1In.f n lo hi = some (inR n lo hi) := by
  unfold spec_l1In.f inR
  by_cases h : n ≥ lo
  · rw [if_pos h]; congr 1; simp only [decide_eq_decide]; omega
  · rw [if_neg h]; congr 1; exact (decide_eq_false (by omega)).symm
theorem wrap_one {n lo hi : Int} (h : inR n lo hi = true) (h1 : -1000000 ≤ lo) (h2 : hi ≤ 1000000) : wrap64 (n - 1) = n - 1 := by
  have := inR_true.1 h
  unfold wrap64
  omega
/-- A ring and a wheel. -/
def gearOk (a b : Int) : Bool := inR a 3 300 && inR b 1 (a - 1)
theorem gearOk_true {a b : Int} : gearOk a b = true ↔ 3 ≤ a ∧ a ≤ 300 ∧ 1 ≤ b ∧ b ≤ a - 1 := by
  simp only [gearOk, Bool.and_eq_true, inR_true]
  omega
theorem geGood_eq (a b : Int) : spec_geGood.f a b = some (gearOk a b) := by
  unfold spec_geGood.f gearOk
  rw [l1In_eq]
  simp only [Option.bind_some]
  by_cases h : inR a 3 300 = true
  · rw [if_pos h, wrap_one h (by omega) (by omega), l1In_eq, h]; rfl
  · rw [if_neg h]; simp only [Bool.not_eq_true] at h; rw [h]; rfl
theorem areGears_one (a b : Int) : impl_areGears.f a [b] = some (gearOk a b) := by
  simp [impl_areGears.f, gearOk]
theorem petals_s (a b : Int) : spec_PetalsOf.f a b = some (if gearOk a b = true then (a / gcdGo a b, true) else (0, false)) := by
  unfold spec_PetalsOf.f spec_srCommon.f
  rw [geGood_eq]
  simp only [Option.bind_some]
  by_cases h : gearOk a b = true
  · have hb := gearOk_true.1 h
    have hg := gcdGo_bd (a := a) (b := b) (by omega) (by omega)
    rw [if_pos h, if_pos h, if_neg (by omega), Int.tdiv_eq_ediv_of_nonneg (by omega)]
    have : a / gcdGo a b ≤ a := Int.ediv_le_self _ (by omega)
    have h0 : 0 ≤ a / gcdGo a b := Int.ediv_nonneg (by omega) (by omega)
    rw [show wrap64 (a / gcdGo a b) = a / gcdGo a b by unfold wrap64; omega]
  · rw [if_neg h, if_neg h]
theorem petals_i (a b : Int) : impl_PetalsOf.f a b = some (if gearOk a b = true then (a / gcdGo a b, true) else (0, false)) := by
  unfold impl_PetalsOf.f impl_divisor.f
  rw [areGears_one]
  simp only [Option.bind_some]
  by_cases h : gearOk a b = true
  · have hb := gearOk_true.1 h
    have hg := gcdGo_bd (a := a) (b := b) (by omega) (by omega)
    rw [if_pos h, if_pos h, if_neg (by omega), Int.tdiv_eq_ediv_of_nonneg (by omega)]
    have : a / gcdGo a b ≤ a := Int.ediv_le_self _ (by omega)
    have h0 : 0 ≤ a / gcdGo a b := Int.ediv_nonneg (by omega) (by omega)
    rw [show wrap64 (a / gcdGo a b) = a / gcdGo a b by unfold wrap64; omega]
  · rw [if_neg h, if_neg h]
theorem rounds_s (a b : Int) : spec_RoundsOf.f a b = some (if gearOk a b = true then (b / gcdGo a b, true) else (0, false)) := by
  unfold spec_RoundsOf.f spec_srCommon.f
  rw [geGood_eq]
  simp only [Option.bind_some]
  by_cases h : gearOk a b = true
  · have hb := gearOk_true.1 h
    have hg := gcdGo_bd (a := a) (b := b) (by omega) (by omega)
    rw [if_pos h, if_pos h, if_neg (by omega), Int.tdiv_eq_ediv_of_nonneg (by omega)]
    have : b / gcdGo a b ≤ b := Int.ediv_le_self _ (by omega)
    have h0 : 0 ≤ b / gcdGo a b := Int.ediv_nonneg (by omega) (by omega)
    rw [show wrap64 (b / gcdGo a b) = b / gcdGo a b by unfold wrap64; omega]
  · rw [if_neg h, if_neg h]
theorem rounds_i (a b : Int) : impl_RoundsOf.f a b = some (if gearOk a b = true then (b / gcdGo a b, true) else (0, false)) := by
  unfold impl_RoundsOf.f impl_divisor.f
  rw [areGears_one]
  simp only [Option.bind_some]
  by_cases h : gearOk a b = true
  · have hb := gearOk_true.1 h
    have hg := gcdGo_bd (a := a) (b := b) (by omega) (by omega)
    rw [if_pos h, if_pos h, if_neg (by omega), Int.tdiv_eq_ediv_of_nonneg (by omega)]
    have : b / gcdGo a b ≤ b := Int.ediv_le_self _ (by omega)
    have h0 : 0 ≤ b / gcdGo a b := Int.ediv_nonneg (by omega) (by omega)
    rw [show wrap64 (b / gcdGo a b) = b / gcdGo a b by unfold wrap64; omega]
  · rw [if_neg h, if_neg h]
theorem gcdGo_dvd {a b : Int} (ha : 0 ≤ a) (hb : 0 ≤ b) : gcdGo a b ∣ a ∧ gcdGo a b ∣ b := by
  rw [gcdGo_of ha hb]
  have h1 : ((Nat.gcd a.toNat b.toNat : Nat) : Int) ∣ ((a.toNat : Nat) : Int) := Int.natCast_dvd_natCast.2 (Nat.gcd_dvd_left _ _)
  have h2 : ((Nat.gcd a.toNat b.toNat : Nat) : Int) ∣ ((b.toNat : Nat) : Int) := Int.natCast_dvd_natCast.2 (Nat.gcd_dvd_right _ _)
  rw [Int.toNat_of_nonneg ha] at h1
  rw [Int.toNat_of_nonneg hb] at h2
  exact ⟨h1, h2⟩
theorem spins_same (a b : Int) (c : Bool) : ∃ r, spec_SpinsOf.f a b c = some r ∧ impl_SpinsOf.f a b c = some r := by
  unfold spec_SpinsOf.f impl_SpinsOf.f spec_srCommon.f
  rw [geGood_eq, petals_i, rounds_i]
  simp only [Option.bind_some]
  by_cases h : gearOk a b = true
  · have hb := gearOk_true.1 h
    have hg := gcdGo_bd (a := a) (b := b) (by omega) (by omega)
    obtain ⟨d1, d2⟩ := gcdGo_dvd (a := a) (b := b) (by omega) (by omega)
    obtain ⟨p, hp⟩ := d1
    obtain ⟨q, hq⟩ := d2
    generalize gcdGo a b = g at *
    have e1 : a / g = p := by rw [hp]; exact Int.mul_ediv_cancel_left _ (by omega)
    have e2 : b / g = q := by rw [hq]; exact Int.mul_ediv_cancel_left _ (by omega)
    have hp0 : 0 ≤ a / g := Int.ediv_nonneg (by omega) (by omega)
    have hq0 : 0 ≤ b / g := Int.ediv_nonneg (by omega) (by omega)
    have hpa : a / g ≤ a := Int.ediv_le_self _ (by omega)
    have hqb : b / g ≤ b := Int.ediv_le_self _ (by omega)
    have w1 : wrap64 (a - b) = g * (p - q) := by rw [Int.mul_sub, ← hp, ← hq]; unfold wrap64; omega
    have w2 : wrap64 (a + b) = g * (p + q) := by rw [Int.mul_add, ← hp, ← hq]; unfold wrap64; omega
    simp only [h, if_true, e1, e2, w1, w2]
    rw [if_neg (show ¬ g = 0 by omega), if_neg (show ¬ g = 0 by omega)]
    rw [Int.mul_tdiv_cancel_left _ (show g ≠ 0 by omega), Int.mul_tdiv_cancel_left _ (show g ≠ 0 by omega)]
    cases c <;> exact ⟨_, rfl, rfl⟩
  · simp only [h, if_false, Bool.false_eq_true]
    exact ⟨_, rfl, rfl⟩
theorem FnExactSpinsOf : laws_FnExactSpinsOf.Pure := by
  intro a b c _ _
  obtain ⟨r, h1, h2⟩ := spins_same a b c
  unfold laws_FnExactSpinsOf.f
  rw [h1, h2]
  simp

end Go.Proofs.Ytkjgheabcjmicaa.Pure
