/- What is proved: the pure statement of the law FnExactUndoFactor, about numbers and lists alone; no condition. -/
import Derived.Test.YtghcelpmkffbhaaPx2
namespace Go.Proofs.Ytghcelpmkffbhaa.Pure
open Go.RowKit Go.Proofs.Ytghcelpmkffbhaa.P Go.Proofs.YtghcelpmkffbhaaW.PrintWords Go.Proofs.YtghcelpmkffbhaaW.PrintLast
set_option linter.unusedVariables false
set_option linter.unusedSimpArgs false

theorem l1In_eq (n lo hi : Int) : spec_l1In.f n lo hi = some (inR n lo hi) := by
  unfold spec_l1In.f inR
  by_cases h : n ≥ lo
  · rw [if_pos h]; congr 1; simp only [decide_eq_decide]; omega
  · rw [if_neg h]; congr 1; exact (decide_eq_false (by omega)).symm
theorem wrap_one {n lo hi : Int} (h : inR n lo hi = true) (h1 : -1000000 ≤ lo) (h2 : hi ≤ 1000000) : wrap64 (n - 1) = n - 1 := by
  have := inR_true.1 h
  unfold wrap64
  omega
theorem wrap_id {x : Int} (h : -9000000000000000000 ≤ x) (h2 : x ≤ 9000000000000000000) : wrap64 x = x := by unfold wrap64; omega
/-- A table. -/
def tabOk (n f : Int) : Bool := inR n 3 60 && inR f 0 (n - 1)
theorem tabOk_true {n f : Int} : tabOk n f = true ↔ 3 ≤ n ∧ n ≤ 60 ∧ 0 ≤ f ∧ f ≤ n - 1 := by
  simp only [tabOk, Bool.and_eq_true, inR_true]
  omega
theorem srPoints_eq (n : Int) : spec_srPoints.f n = some (inR n 3 60) := by
  unfold spec_srPoints.f; rw [l1In_eq]; rfl
theorem taGood_eq (n f : Int) : spec_taGood.f n f = some (tabOk n f) := by
  unfold spec_taGood.f tabOk
  rw [srPoints_eq]
  simp only [Option.bind_some]
  by_cases h : inR n 3 60 = true
  · rw [if_pos h, wrap_one h (by omega) (by omega), l1In_eq, h]; rfl
  · rw [if_neg h]; simp only [Bool.not_eq_true] at h; rw [h]; rfl
theorem isTable_nil (n f : Int) : impl_isTable.f n f [] = some (tabOk n f) := by
  simp [impl_isTable.f, tabOk]
theorem isTable_one (n f p : Int) : impl_isTable.f n f [p] = some (tabOk n f && inR p 0 (n - 1)) := by
  simp [impl_isTable.f, tabOk]
theorem step_eq {n f p : Int} (h : tabOk n f = true) (h0 : 0 ≤ p) (h1 : p ≤ 60) : Int.tmod (wrap64 (p * f)) n = p * f % n := by
  have hb := tabOk_true.1 h
  have hm : 0 ≤ p * f := Int.mul_nonneg h0 (by omega)
  have hm2 : p * f ≤ 60 * 60 := by
    have := Int.mul_le_mul h1 (show f ≤ 60 by omega) (by omega) (by omega)
    omega
  rw [wrap_id (by omega) (by omega), Int.tmod_eq_emod_of_nonneg hm]
theorem step_bd {n f p : Int} (h : tabOk n f = true) : 0 ≤ p * f % n ∧ p * f % n < n := by
  have hb := tabOk_true.1 h
  exact ⟨Int.emod_nonneg _ (by omega), Int.emod_lt_of_pos _ (by omega)⟩
theorem undo_l0 (n f : Int) (h : tabOk n f = true) (d : Nat) : ∀ (k : Nat) (i : Int), 0 ≤ i → i + d = n → d < k →
    ∃ r, spec_UndoFactor.l0 k n f i = some r ∧ impl_UndoFactor.l0 k n f n i = some r := by
  have hb := tabOk_true.1 h
  induction d with
  | zero =>
    intro k i hi hd hk
    obtain ⟨k, rfl⟩ : ∃ m, k = m + 1 := ⟨k - 1, by omega⟩
    rw [spec_UndoFactor.l0, if_neg (by omega), impl_UndoFactor.l0, if_neg (by omega)]
    exact ⟨_, rfl, rfl⟩
  | succ d ih =>
    intro k i hi hd hk
    obtain ⟨k, rfl⟩ : ∃ m, k = m + 1 := ⟨k - 1, by omega⟩
    by_cases hq : Int.tmod (wrap64 (i * f)) n = 1
    · rw [spec_UndoFactor.l0, if_pos (by omega), if_neg (by omega), if_pos hq, impl_UndoFactor.l0, if_pos (by omega), if_neg (by omega), if_pos hq]; exact ⟨_, rfl, rfl⟩
    · rw [spec_UndoFactor.l0, if_pos (by omega), if_neg (by omega), if_neg hq, impl_UndoFactor.l0, if_pos (by omega), if_neg (by omega), if_neg hq, wrap_id (x := i + 1) (by omega) (by omega)]
      exact ih k (i + 1) (by omega) (by omega) (by omega)
theorem FnExactUndoFactor : laws_FnExactUndoFactor.Pure := by
  intro n f _ _
  refine ⟨100, ?_⟩
  unfold laws_FnExactUndoFactor.f spec_UndoFactor.f impl_UndoFactor.f
  rw [taGood_eq, isTable_nil]
  by_cases h : tabOk n f = true
  · have hb := tabOk_true.1 h
    obtain ⟨r, h1, h2⟩ := undo_l0 n f h n.toNat 100 0 (by omega) (by omega) (by omega)
    simp only [h, Option.bind_some, if_true, h1, h2]
    simp
  · simp [h]

end Go.Proofs.Ytghcelpmkffbhaa.Pure
