/- What is proved: the pure statement of the law FnExactTeethAt, about numbers and lists alone; no condition. -/
import Derived.Test.YtkjgheabcjmicaaPx1
namespace Go.Proofs.Ytkjgheabcjmicaa.Pure
open Go.RowKit Go.Proofs.Ytkjgheabcjmicaa.P Go.Proofs.YtkjgheabcjmicaaW.PrintWords Go.Proofs.YtkjgheabcjmicaaW.PrintLast

theorem l1In_eq (n lo hi : Int) : spec_l1In.f n lo hi = some (inR n lo hi) := by
  unfold spec_l1In.f inR
  by_cases h : n ≥ lo
  · rw [if_pos h]; congr 1; simp only [decide_eq_decide]; omega
  · rw [if_neg h]; congr 1; exact (decide_eq_false (by omega)).symm
theorem wrap_one {n lo hi : Int} (h : inR n lo hi = true) (h1 : -1000000 ≤ lo) (h2 : hi ≤ 1000000) : wrap64 (n - 1) = n - 1 := by
  have := inR_true.1 h
  unfold wrap64
  omega
/-- A ring and a wheel. -/
def gearOk (a b : Int) : Bool := inR a 3 300 && inR b 1 (a - 1)
theorem gearOk_true {a b : Int} : gearOk a b = true ↔ 3 ≤ a ∧ a ≤ 300 ∧ 1 ≤ b ∧ b ≤ a - 1 := by
  simp only [gearOk, Bool.and_eq_true, inR_true]
  omega
theorem geGood_eq (a b : Int) : spec_geGood.f a b = some (gearOk a b) := by
  unfold spec_geGood.f gearOk
  rw [l1In_eq]
  simp only [Option.bind_some]
  by_cases h : inR a 3 300 = true
  · rw [if_pos h, wrap_one h (by omega) (by omega), l1In_eq, h]; rfl
  · rw [if_neg h]; simp only [Bool.not_eq_true] at h; rw [h]; rfl
theorem areGears_one (a b : Int) : impl_areGears.f a [b] = some (gearOk a b) := by
  simp [impl_areGears.f, gearOk]
theorem isSteps_eq (n : Int) : impl_isSteps.f n = some (inR n 0 1000000) := by
  unfold impl_isSteps.f; rw [within_eq]; rfl
theorem teeth_same (a b c : Int) : ∃ r, spec_TeethAt.f a b c = some r ∧ impl_TeethAt.f a b c = some r := by
  unfold spec_TeethAt.f impl_TeethAt.f
  simp only [geGood_eq, areGears_one, isSteps_eq, l1In_eq, Option.bind_some]
  by_cases h : gearOk a b = true
  · have hb := gearOk_true.1 h
    rw [if_pos h]
    by_cases h2 : inR c 0 1000000 = true
    · rw [if_pos h2, if_neg (by omega), if_neg (by omega)]; exact ⟨_, rfl, rfl⟩
    · rw [if_neg h2]; exact ⟨_, rfl, rfl⟩
  · rw [if_neg h]; exact ⟨_, rfl, rfl⟩
theorem FnExactTeethAt : laws_FnExactTeethAt.Pure := by
  intro a b c _ _ _
  obtain ⟨r, h1, h2⟩ := teeth_same a b c
  unfold laws_FnExactTeethAt.f
  rw [h1, h2]
  simp

end Go.Proofs.Ytkjgheabcjmicaa.Pure
