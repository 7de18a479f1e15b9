/- What is proved: the pure statement of the law FnExactHeightOf, about numbers and lists alone; no condition. -/
import Derived.Test.YteielocamgkabaaPx3
namespace Go.Proofs.Yteielocamgkabaa.Pure
open Go.RowKit Go.Proofs.Yteielocamgkabaa.P Go.Proofs.YteielocamgkabaaW.PrintWords Go.Proofs.YteielocamgkabaaW.PrintLast
set_option linter.unusedVariables false
set_option linter.unusedSimpArgs false

/-- A number from lo to hi. -/
def rg (n lo hi : Int) : Bool := decide (lo ≤ n ∧ n ≤ hi)
theorem rg_true {n lo hi : Int} : rg n lo hi = true ↔ lo ≤ n ∧ n ≤ hi := by simp [rg]
theorem l1In_rg (n lo hi : Int) : spec_l1In.f n lo hi = some (rg n lo hi) := by
  unfold spec_l1In.f rg
  by_cases h : n ≥ lo
  · rw [if_pos h]; congr 1; simp only [decide_eq_decide]; omega
  · rw [if_neg h]; congr 1; exact (decide_eq_false (by omega)).symm
theorem within_rg (n lo hi : Int) : impl_within.f n lo hi = some (rg n lo hi) := by
  unfold impl_within.f rg
  by_cases h : n ≥ lo
  · rw [if_pos h]; congr 1; simp only [decide_eq_decide]; omega
  · rw [if_neg h]; congr 1; exact (decide_eq_false (by omega)).symm
/-- A thread. -/
def thrOk (a b : Int) : Bool := rg a 1 100 && rg b 1 100
theorem thrOk_true {a b : Int} : thrOk a b = true ↔ 1 ≤ a ∧ a ≤ 100 ∧ 1 ≤ b ∧ b ≤ 100 := by
  simp only [thrOk, Bool.and_eq_true, rg_true]; omega
theorem sgThread_eq (a b : Int) : spec_sgThread.f a b = some (thrOk a b) := by
  unfold spec_sgThread.f thrOk
  rw [l1In_rg, l1In_rg]
  cases rg a 1 100 <;> rfl
theorem isThread_eq (a b : Int) : impl_isThread.f a b = some (thrOk a b) := by
  unfold impl_isThread.f thrOk
  rw [within_rg, within_rg]
  cases rg a 1 100 <;> rfl
theorem wrap_id {x : Int} (h : -9000000000000000000 ≤ x) (h2 : x ≤ 9000000000000000000) : wrap64 x = x := by unfold wrap64; omega
theorem gcdGo_pos {a b : Int} (ha : 0 ≤ a) (hb : 0 < b) : 1 ≤ gcdGo a b ∧ gcdGo a b ≤ b := by
  rw [gcdGo_of ha (by omega)]
  have h1 : 0 < Nat.gcd a.toNat b.toNat := Nat.gcd_pos_of_pos_right _ (by omega)
  have h2 : Nat.gcd a.toNat b.toNat ≤ b.toNat := Nat.le_of_dvd (by omega) (Nat.gcd_dvd_right _ _)
  omega
/-- A fraction in lowest terms, as both sides tell it. -/
def lowOf (n d : Int) : Int × Int := (wrap64 (Int.tdiv n (gcdGo n d)), wrap64 (Int.tdiv d (gcdGo n d)))
theorem sgLow_eq {n d : Int} (hn : 0 ≤ n) (hd : 0 < d) : spec_sgLow.f n d = some (lowOf n d) := by
  have := gcdGo_pos hn hd
  unfold spec_sgLow.f spec_srCommon.f
  simp only [Option.bind_some]
  rw [if_neg (by omega)]; rfl
theorem lowest_pos {n d : Int} (hn : 0 ≤ n) (hd : 0 < d) : impl_lowest.f n d = some (lowOf n d) := by
  have := gcdGo_pos hn hd
  unfold impl_lowest.f impl_divisor.f
  simp only [Option.bind_some]
  rw [if_neg (by omega), if_neg (by omega)]; rfl
theorem lowest_neg {n d : Int} (hn : 0 ≤ -n) (hd : 0 < -d) (hn2 : -n ≤ 1000000000) (hd2 : -d ≤ 1000000000) : impl_lowest.f n d = some (lowOf (-n) (-d)) := by
  have := gcdGo_pos hn hd
  unfold impl_lowest.f impl_divisor.f
  rw [wrap_id (x := -n) (by omega) (by omega), wrap_id (x := -d) (by omega) (by omega)]
  simp only [Option.bind_some]
  rw [if_pos (by omega), if_neg (by omega)]; rfl
theorem mul_bd {a b A B : Int} (ha : 0 ≤ a) (haA : a ≤ A) (hb : 0 ≤ b) (hbB : b ≤ B) : 0 ≤ a * b ∧ a * b ≤ A * B :=
  ⟨Int.mul_nonneg ha hb, Int.mul_le_mul haA hbB hb (by omega)⟩
theorem height_s {a b x : Int} (h : thrOk a b = true) (h0 : 0 ≤ x) (h1 : x ≤ a) : spec_sgHeight.f a b x = some (lowOf (b * (a - x)) a) := by
  have hb := thrOk_true.1 h
  have hm := mul_bd (a := b) (b := a - x) (A := 100) (B := 100) (by omega) (by omega) (by omega) (by omega)
  unfold spec_sgHeight.f
  rw [wrap_id (x := a - x) (by omega) (by omega), wrap_id (by omega) (by omega), sgLow_eq hm.1 (by omega)]
  rfl
theorem height_i {a b : Int} (x : Int) (h : thrOk a b = true) : impl_HeightOf.f a b x = some (if rg x 0 100 = true ∧ x ≤ a then ((lowOf (b * (a - x)) a).1, (lowOf (b * (a - x)) a).2, true) else (0, 0, false)) := by
  have hb := thrOk_true.1 h
  unfold impl_HeightOf.f impl_isNail.f
  rw [isThread_eq, within_rg, h]
  simp only [Option.bind_some, if_true]
  by_cases hq : rg x 0 100 = true
  · have hx := rg_true.1 hq
    rw [if_pos hq]
    by_cases hg : x ≤ a
    · have hm := mul_bd (a := b) (b := a - x) (A := 100) (B := 100) (by omega) (by omega) (by omega) (by omega)
      rw [if_neg (show ¬ x > a by omega), if_pos (show rg x 0 100 = true ∧ x ≤ a from ⟨hq, hg⟩), wrap_id (x := a - x) (by omega) (by omega), wrap_id (by omega) (by omega), lowest_pos hm.1 (by omega)]
      rfl
    · rw [if_pos (show x > a by omega), if_neg (show ¬ (rg x 0 100 = true ∧ x ≤ a) from fun h => hg h.2)]
  · rw [if_neg hq, if_neg (show ¬ (rg x 0 100 = true ∧ x ≤ a) from fun h => hq h.1)]
theorem height_all (a b x : Int) : ∃ r, spec_HeightOf.f a b x = some r ∧ impl_HeightOf.f a b x = some r := by
  by_cases h : thrOk a b = true
  · rw [height_i x h]
    refine ⟨_, ?_, rfl⟩
    have hb := thrOk_true.1 h
    unfold spec_HeightOf.f
    rw [sgThread_eq, h, l1In_rg]
    simp only [Option.bind_some, if_true]
    by_cases hq : rg x 0 100 = true
    · have hx := rg_true.1 hq
      rw [if_pos hq]
      by_cases hg : x ≤ a
      · rw [if_neg (show ¬ x > a by omega), if_pos (show rg x 0 100 = true ∧ x ≤ a from ⟨hq, hg⟩), height_s h (by omega) hg]; rfl
      · rw [if_pos (show x > a by omega), if_neg (show ¬ (rg x 0 100 = true ∧ x ≤ a) from fun h => hg h.2)]
    · rw [if_neg hq, if_neg (show ¬ (rg x 0 100 = true ∧ x ≤ a) from fun h => hq h.1)]
  · refine ⟨(0, 0, false), ?_, ?_⟩
    · unfold spec_HeightOf.f
      rw [sgThread_eq]; simp only [Option.bind_some]; rw [if_neg h]
    · unfold impl_HeightOf.f
      rw [isThread_eq]; simp only [Option.bind_some]; rw [if_neg h]
theorem FnExactHeightOf : ∀ (a0_0 : Int) (a0_1 : Int) (a1 : Int), (Lit.int .i64 a0_0).wf = true → (Lit.int .i64 a0_1).wf = true → (Lit.int .i64 a1).wf = true → laws_FnExactHeightOf.f a0_0 a0_1 a1 = some true := by
  intro a b x _ _ _
  obtain ⟨r, h1, h2⟩ := height_all a b x
  unfold laws_FnExactHeightOf.f laws_toThread.f
  simp only [Option.bind_some]
  rw [h1, h2]
  simp

end Go.Proofs.Yteielocamgkabaa.Pure
