/- What is proved: the pure statement of the law FnExactOrderOfFactor, about numbers and lists alone; no condition. -/
import Derived.Test.YtghcelpmkffbhaaPx3
namespace Go.Proofs.Ytghcelpmkffbhaa.Pure
open Go.RowKit Go.Proofs.Ytghcelpmkffbhaa.P Go.Proofs.YtghcelpmkffbhaaW.PrintWords Go.Proofs.YtghcelpmkffbhaaW.PrintLast
set_option linter.unusedVariables false
set_option linter.unusedSimpArgs false

theorem l1In_eq (n lo hi : Int) : spec_l1In.f n lo hi = some (inR n lo hi) := by
  unfold spec_l1In.f inR
  by_cases h : n ≥ lo
  · rw [if_pos h]; congr 1; simp only [decide_eq_decide]; omega
  · rw [if_neg h]; congr 1; exact (decide_eq_false (by omega)).symm
theorem wrap_one {n lo hi : Int} (h : inR n lo hi = true) (h1 : -1000000 ≤ lo) (h2 : hi ≤ 1000000) : wrap64 (n - 1) = n - 1 := by
  have := inR_true.1 h
  unfold wrap64
  omega
theorem wrap_id {x : Int} (h : -9000000000000000000 ≤ x) (h2 : x ≤ 9000000000000000000) : wrap64 x = x := by unfold wrap64; omega
/-- A table. -/
def tabOk (n f : Int) : Bool := inR n 3 60 && inR f 0 (n - 1)
theorem tabOk_true {n f : Int} : tabOk n f = true ↔ 3 ≤ n ∧ n ≤ 60 ∧ 0 ≤ f ∧ f ≤ n - 1 := by
  simp only [tabOk, Bool.and_eq_true, inR_true]
  omega
theorem srPoints_eq (n : Int) : spec_srPoints.f n = some (inR n 3 60) := by
  unfold spec_srPoints.f; rw [l1In_eq]; rfl
theorem taGood_eq (n f : Int) : spec_taGood.f n f = some (tabOk n f) := by
  unfold spec_taGood.f tabOk
  rw [srPoints_eq]
  simp only [Option.bind_some]
  by_cases h : inR n 3 60 = true
  · rw [if_pos h, wrap_one h (by omega) (by omega), l1In_eq, h]; rfl
  · rw [if_neg h]; simp only [Bool.not_eq_true] at h; rw [h]; rfl
theorem isTable_nil (n f : Int) : impl_isTable.f n f [] = some (tabOk n f) := by
  simp [impl_isTable.f, tabOk]
theorem isTable_one (n f p : Int) : impl_isTable.f n f [p] = some (tabOk n f && inR p 0 (n - 1)) := by
  simp [impl_isTable.f, tabOk]
theorem step_eq {n f p : Int} (h : tabOk n f = true) (h0 : 0 ≤ p) (h1 : p ≤ 60) : Int.tmod (wrap64 (p * f)) n = p * f % n := by
  have hb := tabOk_true.1 h
  have hm : 0 ≤ p * f := Int.mul_nonneg h0 (by omega)
  have hm2 : p * f ≤ 60 * 60 := by
    have := Int.mul_le_mul h1 (show f ≤ 60 by omega) (by omega) (by omega)
    omega
  rw [wrap_id (by omega) (by omega), Int.tmod_eq_emod_of_nonneg hm]
theorem step_bd {n f p : Int} (h : tabOk n f = true) : 0 ≤ p * f % n ∧ p * f % n < n := by
  have hb := tabOk_true.1 h
  exact ⟨Int.emod_nonneg _ (by omega), Int.emod_lt_of_pos _ (by omega)⟩
/-- The loop of the order, on whole numbers from 0: the rounds that are left where it stops. -/
def ordN (n f : Nat) : Nat → Nat → Option Nat
  | 0, _ => none
  | k + 1, x => if x = 1 then some k else ordN n f k (x * f % n)
theorem ordN_lt (n f : Nat) : ∀ (k x j : Nat), ordN n f k x = some j → j < k
  | 0, _, _, h => by simp [ordN] at h
  | k + 1, x, j, h => by
    rw [ordN] at h
    by_cases hx : x = 1
    · rw [if_pos hx] at h; injection h with h; omega
    · rw [if_neg hx] at h; have := ordN_lt n f k _ j h; omega
/-- Every factor that has no common divisor with the number of points comes to 1: by trying all. -/
theorem ordN_stops : ∀ n ∈ List.range 61, ∀ f ∈ List.range n, 3 ≤ n → Nat.gcd n f = 1 → (ordN n f 62 f).isSome = true := by decide +kernel
theorem ord_l0 (n f : Nat) (hn : 3 ≤ n) (hn2 : n ≤ 60) (hf : f < n) : ∀ (k x j o : Nat) (m : Nat), ordN n f k x = some j → o + k ≤ 1000000 → x < n →
    spec_taOrder.l0 (k + m) (n : Int) (f : Int) (o : Int) (x : Int) = some ((o + (k - 1 - j) : Nat) : Int) ∧ impl_orderOf.l0 (k + m) (n : Int) (f : Int) (o : Int) (x : Int) = some ((o + (k - 1 - j) : Nat) : Int)
  | 0, _, _, _, _, h, _, _ => by simp [ordN] at h
  | k + 1, x, j, o, m, h, hk, hxn => by
    rw [show k + 1 + m = (k + m) + 1 by omega]
    rw [ordN] at h
    by_cases hx : x = 1
    · rw [if_pos hx] at h
      injection h with h
      subst h
      rw [spec_taOrder.l0, if_pos (by omega), impl_orderOf.l0, if_pos (by omega)]
      constructor <;> (congr 2; omega)
    · rw [if_neg hx] at h
      have hlt := ordN_lt n f k _ j h
      have hm : x * f ≤ 60 * 60 := Nat.mul_le_mul (by omega) (by omega)
      have e : Int.tmod (wrap64 ((x : Int) * (f : Int))) (n : Int) = ((x * f % n : Nat) : Int) := by
        rw [show (x : Int) * (f : Int) = ((x * f : Nat) : Int) by simp, wrap_id (by omega) (by omega)]
        rfl
      rw [spec_taOrder.l0, if_neg (by omega), if_neg (by omega), impl_orderOf.l0, if_neg (by omega), if_neg (by omega), e, wrap_id (x := (o : Int) + 1) (by omega) (by omega)]
      have := ord_l0 n f hn hn2 hf k (x * f % n) j (o + 1) m h (by omega) (Nat.mod_lt _ (by omega))
      rw [show (((o + 1 : Nat)) : Int) = (o : Int) + 1 by simp] at this
      rw [this.1, this.2]
      constructor <;> (congr 2; omega)
theorem ord_f (n f : Int) (h : tabOk n f = true) (hg : gcdGo n f = 1) (k : Nat) (hk : 62 ≤ k) : ∃ r : Int, spec_taOrder.f k n f = some r ∧ impl_orderOf.f k n f = some r ∧ 1 ≤ r := by
  have hb := tabOk_true.1 h
  obtain ⟨n, rfl⟩ := Int.eq_ofNat_of_zero_le (show 0 ≤ n by omega)
  obtain ⟨f, rfl⟩ := Int.eq_ofNat_of_zero_le (show 0 ≤ f by omega)
  rw [gcdGo_nat] at hg
  have hs := ordN_stops n (List.mem_range.2 (by omega)) f (List.mem_range.2 (by omega)) (by omega) (by omega)
  obtain ⟨j, hj⟩ := Option.isSome_iff_exists.1 hs
  have := ord_l0 n f (by omega) (by omega) (by omega) 62 f j 1 (k - 62) hj (by omega) (by omega)
  rw [show 62 + (k - 62) = k by omega] at this
  refine ⟨((1 + (62 - 1 - j) : Nat) : Int), ?_, ?_, by omega⟩
  · unfold spec_taOrder.f
    exact this.1
  · unfold impl_orderOf.f impl_divisor.f
    rw [gcdGo_nat, hg]
    simp only [Option.bind_some]
    rw [if_neg (by decide)]
    exact this.2
theorem ord_no (n f : Int) (h : tabOk n f = true) (hg : ¬ gcdGo n f = 1) (k : Nat) : impl_orderOf.f k n f = some 0 := by
  have hb := tabOk_true.1 h
  have hg2 := gcdGo_bd (a := n) (b := f) (by omega) (by omega)
  unfold impl_orderOf.f impl_divisor.f
  simp only [Option.bind_some]
  rw [if_pos (by omega)]
theorem FnExactOrderOfFactor : laws_FnExactOrderOfFactor.Pure := by
  intro n f _ _
  refine ⟨62, ?_⟩
  unfold laws_FnExactOrderOfFactor.f spec_OrderOfFactor.f impl_OrderOfFactor.f spec_taUndone.f spec_srCommon.f
  rw [taGood_eq, isTable_nil]
  by_cases h : tabOk n f = true
  · simp only [h, Option.bind_some, if_true]
    by_cases hg : gcdGo n f = 1
    · obtain ⟨r, h1, h2, h3⟩ := ord_f n f h hg 62 (by omega)
      have h4 : (gcdGo n f == 1) = true := by rw [hg]; rfl
      have h5 : decide (r > 0) = true := decide_eq_true (by omega)
      simp only [h4, if_true, h1, h2, Option.bind_some, h5]
      simp
    · have h4 : (gcdGo n f == 1) = false := beq_eq_false_iff_ne.mpr hg
      simp only [h4, ord_no n f h hg, Option.bind_some, Bool.false_eq_true, if_false]
      simp
  · simp [h]

end Go.Proofs.Ytghcelpmkffbhaa.Pure
