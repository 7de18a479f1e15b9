/- What is proved: the pure statement of the law FnExactDoThreadsMeet, about numbers and lists alone; no condition. -/
import Derived.Test.YteielocamgkabaaPx2
namespace Go.Proofs.Yteielocamgkabaa.Pure
open Go.RowKit Go.Proofs.Yteielocamgkabaa.P Go.Proofs.YteielocamgkabaaW.PrintWords Go.Proofs.YteielocamgkabaaW.PrintLast
set_option linter.unusedVariables false
set_option linter.unusedSimpArgs false

/-- A number from lo to hi. -/
def rg (n lo hi : Int) : Bool := decide (lo ≤ n ∧ n ≤ hi)
theorem rg_true {n lo hi : Int} : rg n lo hi = true ↔ lo ≤ n ∧ n ≤ hi := by simp [rg]
theorem l1In_rg (n lo hi : Int) : spec_l1In.f n lo hi = some (rg n lo hi) := by
  unfold spec_l1In.f rg
  by_cases h : n ≥ lo
  · rw [if_pos h]; congr 1; simp only [decide_eq_decide]; omega
  · rw [if_neg h]; congr 1; exact (decide_eq_false (by omega)).symm
theorem within_rg (n lo hi : Int) : impl_within.f n lo hi = some (rg n lo hi) := by
  unfold impl_within.f rg
  by_cases h : n ≥ lo
  · rw [if_pos h]; congr 1; simp only [decide_eq_decide]; omega
  · rw [if_neg h]; congr 1; exact (decide_eq_false (by omega)).symm
/-- A thread. -/
def thrOk (a b : Int) : Bool := rg a 1 100 && rg b 1 100
theorem thrOk_true {a b : Int} : thrOk a b = true ↔ 1 ≤ a ∧ a ≤ 100 ∧ 1 ≤ b ∧ b ≤ 100 := by
  simp only [thrOk, Bool.and_eq_true, rg_true]; omega
theorem sgThread_eq (a b : Int) : spec_sgThread.f a b = some (thrOk a b) := by
  unfold spec_sgThread.f thrOk
  rw [l1In_rg, l1In_rg]
  cases rg a 1 100 <;> rfl
theorem isThread_eq (a b : Int) : impl_isThread.f a b = some (thrOk a b) := by
  unfold impl_isThread.f thrOk
  rw [within_rg, within_rg]
  cases rg a 1 100 <;> rfl
/-- Threads that cross. -/
def crossB (a b c d : Int) : Bool := decide (a > c ∧ b < d ∨ a < c ∧ b > d)
theorem sgMeet_eq (a b c d : Int) : spec_sgMeet.f a b c d = some (crossB a b c d) := by
  unfold spec_sgMeet.f crossB
  repeat' split
  all_goals (congr 1; first | (rw [eq_comm, decide_eq_true_iff]; omega) | (rw [eq_comm, decide_eq_false_iff_not]; omega) | (rw [decide_eq_decide]; omega))
theorem doMeetT_eq (a b c d : Int) : impl_doThreadsMeet.f a b c d = some (crossB a b c d) := by
  unfold impl_doThreadsMeet.f crossB
  repeat' split
  all_goals (congr 1; first | (rw [eq_comm, decide_eq_true_iff]; omega) | (rw [eq_comm, decide_eq_false_iff_not]; omega) | (rw [decide_eq_decide]; omega))
theorem FnExactDoThreadsMeet : ∀ (a0_0 : Int) (a0_1 : Int) (a1_0 : Int) (a1_1 : Int), (Lit.int .i64 a0_0).wf = true → (Lit.int .i64 a0_1).wf = true → (Lit.int .i64 a1_0).wf = true → (Lit.int .i64 a1_1).wf = true → laws_FnExactDoThreadsMeet.f a0_0 a0_1 a1_0 a1_1 = some true := by
  intro a b c d _ _ _ _
  unfold laws_FnExactDoThreadsMeet.f laws_toThread.f spec_DoThreadsMeet.f impl_DoThreadsMeet.f
  simp only [Option.bind_some]
  rw [sgThread_eq, isThread_eq]
  simp only [Option.bind_some]
  cases thrOk a b
  · simp
  · simp only [if_true]
    rw [sgThread_eq, isThread_eq]
    simp only [Option.bind_some]
    cases thrOk c d
    · simp
    · simp only [if_true]
      rw [sgMeet_eq, doMeetT_eq]
      simp

end Go.Proofs.Yteielocamgkabaa.Pure
