/- What is proved: the pure statement of the law FnExactCanBeUndone, about numbers and lists alone; no condition. -/
import Derived.Test.YtghcelpmkffbhaaPx2
namespace Go.Proofs.Ytghcelpmkffbhaa.Pure
open Go.RowKit Go.Proofs.Ytghcelpmkffbhaa.P Go.Proofs.YtghcelpmkffbhaaW.PrintWords Go.Proofs.YtghcelpmkffbhaaW.PrintLast
set_option linter.unusedVariables false
set_option linter.unusedSimpArgs false

theorem l1In_eq (n lo hi : Int) : spec_l1In.f n lo hi = some (inR n lo hi) := by
  unfold spec_l1In.f inR
  by_cases h : n ≥ lo
  · rw [if_pos h]; congr 1; simp only [decide_eq_decide]; omega
  · rw [if_neg h]; congr 1; exact (decide_eq_false (by omega)).symm
theorem wrap_one {n lo hi : Int} (h : inR n lo hi = true) (h1 : -1000000 ≤ lo) (h2 : hi ≤ 1000000) : wrap64 (n - 1) = n - 1 := by
  have := inR_true.1 h
  unfold wrap64
  omega
theorem wrap_id {x : Int} (h : -9000000000000000000 ≤ x) (h2 : x ≤ 9000000000000000000) : wrap64 x = x := by unfold wrap64; omega
/-- A table. -/
def tabOk (n f : Int) : Bool := inR n 3 60 && inR f 0 (n - 1)
theorem tabOk_true {n f : Int} : tabOk n f = true ↔ 3 ≤ n ∧ n ≤ 60 ∧ 0 ≤ f ∧ f ≤ n - 1 := by
  simp only [tabOk, Bool.and_eq_true, inR_true]
  omega
theorem srPoints_eq (n : Int) : spec_srPoints.f n = some (inR n 3 60) := by
  unfold spec_srPoints.f; rw [l1In_eq]; rfl
theorem taGood_eq (n f : Int) : spec_taGood.f n f = some (tabOk n f) := by
  unfold spec_taGood.f tabOk
  rw [srPoints_eq]
  simp only [Option.bind_some]
  by_cases h : inR n 3 60 = true
  · rw [if_pos h, wrap_one h (by omega) (by omega), l1In_eq, h]; rfl
  · rw [if_neg h]; simp only [Bool.not_eq_true] at h; rw [h]; rfl
theorem isTable_nil (n f : Int) : impl_isTable.f n f [] = some (tabOk n f) := by
  simp [impl_isTable.f, tabOk]
theorem isTable_one (n f p : Int) : impl_isTable.f n f [p] = some (tabOk n f && inR p 0 (n - 1)) := by
  simp [impl_isTable.f, tabOk]
theorem step_eq {n f p : Int} (h : tabOk n f = true) (h0 : 0 ≤ p) (h1 : p ≤ 60) : Int.tmod (wrap64 (p * f)) n = p * f % n := by
  have hb := tabOk_true.1 h
  have hm : 0 ≤ p * f := Int.mul_nonneg h0 (by omega)
  have hm2 : p * f ≤ 60 * 60 := by
    have := Int.mul_le_mul h1 (show f ≤ 60 by omega) (by omega) (by omega)
    omega
  rw [wrap_id (by omega) (by omega), Int.tmod_eq_emod_of_nonneg hm]
theorem step_bd {n f p : Int} (h : tabOk n f = true) : 0 ≤ p * f % n ∧ p * f % n < n := by
  have hb := tabOk_true.1 h
  exact ⟨Int.emod_nonneg _ (by omega), Int.emod_lt_of_pos _ (by omega)⟩
theorem FnExactCanBeUndone : laws_FnExactCanBeUndone.Pure := by
  intro n f _ _
  unfold laws_FnExactCanBeUndone.f spec_CanBeUndone.f impl_CanBeUndone.f spec_taUndone.f spec_srCommon.f impl_divisor.f
  rw [taGood_eq, isTable_nil]
  cases tabOk n f <;> simp

end Go.Proofs.Ytghcelpmkffbhaa.Pure
