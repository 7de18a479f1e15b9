/- What is proved: the pure statement of the law FnExactStarOfGears, about numbers and lists alone; no condition. -/
import Derived.Test.YtkjgheabcjmicaaPx4
namespace Go.Proofs.Ytkjgheabcjmicaa.Pure
open Go.RowKit Go.Proofs.Ytkjgheabcjmicaa.P Go.Proofs.YtkjgheabcjmicaaW.PrintWords Go.Proofs.YtkjgheabcjmicaaW.PrintLast
set_option linter.unusedVariables false
set_option linter.unusedSimpArgs false

theorem l1In_eq (n lo hi : Int) : spec_l1In.f n lo hi = some (inR n lo hi) := by
  unfold spec_l1In.f inR
  by_cases h : n ≥ lo
  · rw [if_pos h]; congr 1; simp only [decide_eq_decide]; omega
  · rw [if_neg h]; congr 1; exact (decide_eq_false (by omega)).symm
theorem wrap_one {n lo hi : Int} (h : inR n lo hi = true) (h1 : -1000000 ≤ lo) (h2 : hi ≤ 1000000) : wrap64 (n - 1) = n - 1 := by
  have := inR_true.1 h
  unfold wrap64
  omega
/-- A ring and a wheel. -/
def gearOk (a b : Int) : Bool := inR a 3 300 && inR b 1 (a - 1)
theorem gearOk_true {a b : Int} : gearOk a b = true ↔ 3 ≤ a ∧ a ≤ 300 ∧ 1 ≤ b ∧ b ≤ a - 1 := by
  simp only [gearOk, Bool.and_eq_true, inR_true]
  omega
theorem geGood_eq (a b : Int) : spec_geGood.f a b = some (gearOk a b) := by
  unfold spec_geGood.f gearOk
  rw [l1In_eq]
  simp only [Option.bind_some]
  by_cases h : inR a 3 300 = true
  · rw [if_pos h, wrap_one h (by omega) (by omega), l1In_eq, h]; rfl
  · rw [if_neg h]; simp only [Bool.not_eq_true] at h; rw [h]; rfl
theorem areGears_one (a b : Int) : impl_areGears.f a [b] = some (gearOk a b) := by
  simp [impl_areGears.f, gearOk]
theorem petals_s (a b : Int) : spec_PetalsOf.f a b = some (if gearOk a b = true then (a / gcdGo a b, true) else (0, false)) := by
  unfold spec_PetalsOf.f spec_srCommon.f
  rw [geGood_eq]
  simp only [Option.bind_some]
  by_cases h : gearOk a b = true
  · have hb := gearOk_true.1 h
    have hg := gcdGo_bd (a := a) (b := b) (by omega) (by omega)
    rw [if_pos h, if_pos h, if_neg (by omega), Int.tdiv_eq_ediv_of_nonneg (by omega)]
    have : a / gcdGo a b ≤ a := Int.ediv_le_self _ (by omega)
    have h0 : 0 ≤ a / gcdGo a b := Int.ediv_nonneg (by omega) (by omega)
    rw [show wrap64 (a / gcdGo a b) = a / gcdGo a b by unfold wrap64; omega]
  · rw [if_neg h, if_neg h]
theorem petals_i (a b : Int) : impl_PetalsOf.f a b = some (if gearOk a b = true then (a / gcdGo a b, true) else (0, false)) := by
  unfold impl_PetalsOf.f impl_divisor.f
  rw [areGears_one]
  simp only [Option.bind_some]
  by_cases h : gearOk a b = true
  · have hb := gearOk_true.1 h
    have hg := gcdGo_bd (a := a) (b := b) (by omega) (by omega)
    rw [if_pos h, if_pos h, if_neg (by omega), Int.tdiv_eq_ediv_of_nonneg (by omega)]
    have : a / gcdGo a b ≤ a := Int.ediv_le_self _ (by omega)
    have h0 : 0 ≤ a / gcdGo a b := Int.ediv_nonneg (by omega) (by omega)
    rw [show wrap64 (a / gcdGo a b) = a / gcdGo a b by unfold wrap64; omega]
  · rw [if_neg h, if_neg h]
theorem rounds_s (a b : Int) : spec_RoundsOf.f a b = some (if gearOk a b = true then (b / gcdGo a b, true) else (0, false)) := by
  unfold spec_RoundsOf.f spec_srCommon.f
  rw [geGood_eq]
  simp only [Option.bind_some]
  by_cases h : gearOk a b = true
  · have hb := gearOk_true.1 h
    have hg := gcdGo_bd (a := a) (b := b) (by omega) (by omega)
    rw [if_pos h, if_pos h, if_neg (by omega), Int.tdiv_eq_ediv_of_nonneg (by omega)]
    have : b / gcdGo a b ≤ b := Int.ediv_le_self _ (by omega)
    have h0 : 0 ≤ b / gcdGo a b := Int.ediv_nonneg (by omega) (by omega)
    rw [show wrap64 (b / gcdGo a b) = b / gcdGo a b by unfold wrap64; omega]
  · rw [if_neg h, if_neg h]
theorem rounds_i (a b : Int) : impl_RoundsOf.f a b = some (if gearOk a b = true then (b / gcdGo a b, true) else (0, false)) := by
  unfold impl_RoundsOf.f impl_divisor.f
  rw [areGears_one]
  simp only [Option.bind_some]
  by_cases h : gearOk a b = true
  · have hb := gearOk_true.1 h
    have hg := gcdGo_bd (a := a) (b := b) (by omega) (by omega)
    rw [if_pos h, if_pos h, if_neg (by omega), Int.tdiv_eq_ediv_of_nonneg (by omega)]
    have : b / gcdGo a b ≤ b := Int.ediv_le_self _ (by omega)
    have h0 : 0 ≤ b / gcdGo a b := Int.ediv_nonneg (by omega) (by omega)
    rw [show wrap64 (b / gcdGo a b) = b / gcdGo a b by unfold wrap64; omega]
  · rw [if_neg h, if_neg h]
theorem srGood_eq (p q : Int) (hq : -1000 ≤ q ∧ q ≤ 1000) : spec_srGood.f p q = some (inR p 3 60 && inR q 1 (p - 1)) := by
  unfold spec_srGood.f spec_srPoints.f
  rw [l1In_eq]
  simp only [Option.bind_some]
  by_cases h : inR p 3 60 = true
  · rw [if_pos h, wrap_one h (by omega) (by omega), l1In_eq, h]; rfl
  · rw [if_neg h]; simp only [Bool.not_eq_true] at h; rw [h]; rfl
theorem isStar_eq (p q : Int) : impl_IsStar.f p q = some (inR p 3 60 && inR q 1 (p - 1)) := by
  unfold impl_IsStar.f impl_isCircle.f
  rw [within_eq]
  simp only [Option.bind_some]
  by_cases h : inR p 3 60 = true
  · rw [if_pos h, wrap_one h (by omega) (by omega), within_eq, h]; rfl
  · rw [if_neg h]; simp only [Bool.not_eq_true] at h; rw [h]; rfl
theorem star_same (a b : Int) : ∃ r, spec_StarOfGears.f a b = some r ∧ impl_StarOfGears.f a b = some r := by
  unfold spec_StarOfGears.f impl_StarOfGears.f spec_srCommon.f
  rw [geGood_eq, petals_i, rounds_i]
  simp only [Option.bind_some]
  by_cases h : gearOk a b = true
  · have hb := gearOk_true.1 h
    have hg := gcdGo_bd (a := a) (b := b) (by omega) (by omega)
    have h1 : a / gcdGo a b ≤ a := Int.ediv_le_self _ (by omega)
    have h2 : 0 ≤ a / gcdGo a b := Int.ediv_nonneg (by omega) (by omega)
    have h3 : b / gcdGo a b ≤ b := Int.ediv_le_self _ (by omega)
    have h4 : 0 ≤ b / gcdGo a b := Int.ediv_nonneg (by omega) (by omega)
    simp only [h, if_true]
    rw [if_neg (by omega), Int.tdiv_eq_ediv_of_nonneg (by omega), Int.tdiv_eq_ediv_of_nonneg (by omega), show wrap64 (a / gcdGo a b) = a / gcdGo a b by unfold wrap64; omega, show wrap64 (b / gcdGo a b) = b / gcdGo a b by unfold wrap64; omega,
      srGood_eq _ _ (by omega), isStar_eq]
    simp only [Option.bind_some]
    cases (inR (a / gcdGo a b) 3 60 && inR (b / gcdGo a b) 1 (a / gcdGo a b - 1)) <;> exact ⟨_, rfl, rfl⟩
  · simp only [h, if_false, Bool.false_eq_true]
    exact ⟨_, rfl, rfl⟩
theorem FnExactStarOfGears : laws_FnExactStarOfGears.Pure := by
  intro a b _ _
  obtain ⟨r, h1, h2⟩ := star_same a b
  unfold laws_FnExactStarOfGears.f laws_eqStar.f
  rw [h1, h2]
  simp

end Go.Proofs.Ytkjgheabcjmicaa.Pure
