/- What is proved: the pure statement of the law FnExactFirstMeeting, about numbers and lists alone; no condition. -/
import Derived.Test.YtkjgheabcjmicaaPx3
namespace Go.Proofs.Ytkjgheabcjmicaa.Pure
open Go.RowKit Go.Proofs.Ytkjgheabcjmicaa.P Go.Proofs.YtkjgheabcjmicaaW.PrintWords Go.Proofs.YtkjgheabcjmicaaW.PrintLast
set_option linter.unusedVariables false
set_option linter.unusedSimpArgs false

theorem l1In_eq (n lo hi : Int) : spec_l1In.f n lo hi = some (inR n lo hi) := by
  unfold spec_l1In.f inR
  by_cases h : n ≥ lo
  · rw [if_pos h]; congr 1; simp only [decide_eq_decide]; omega
  · rw [if_neg h]; congr 1; exact (decide_eq_false (by omega)).symm
theorem wrap_one {n lo hi : Int} (h : inR n lo hi = true) (h1 : -1000000 ≤ lo) (h2 : hi ≤ 1000000) : wrap64 (n - 1) = n - 1 := by
  have := inR_true.1 h
  unfold wrap64
  omega
/-- A ring and a wheel. -/
def gearOk (a b : Int) : Bool := inR a 3 300 && inR b 1 (a - 1)
theorem gearOk_true {a b : Int} : gearOk a b = true ↔ 3 ≤ a ∧ a ≤ 300 ∧ 1 ≤ b ∧ b ≤ a - 1 := by
  simp only [gearOk, Bool.and_eq_true, inR_true]
  omega
theorem geGood_eq (a b : Int) : spec_geGood.f a b = some (gearOk a b) := by
  unfold spec_geGood.f gearOk
  rw [l1In_eq]
  simp only [Option.bind_some]
  by_cases h : inR a 3 300 = true
  · rw [if_pos h, wrap_one h (by omega) (by omega), l1In_eq, h]; rfl
  · rw [if_neg h]; simp only [Bool.not_eq_true] at h; rw [h]; rfl
theorem areGears_one (a b : Int) : impl_areGears.f a [b] = some (gearOk a b) := by
  simp [impl_areGears.f, gearOk]
theorem petals_s (a b : Int) : spec_PetalsOf.f a b = some (if gearOk a b = true then (a / gcdGo a b, true) else (0, false)) := by
  unfold spec_PetalsOf.f spec_srCommon.f
  rw [geGood_eq]
  simp only [Option.bind_some]
  by_cases h : gearOk a b = true
  · have hb := gearOk_true.1 h
    have hg := gcdGo_bd (a := a) (b := b) (by omega) (by omega)
    rw [if_pos h, if_pos h, if_neg (by omega), Int.tdiv_eq_ediv_of_nonneg (by omega)]
    have : a / gcdGo a b ≤ a := Int.ediv_le_self _ (by omega)
    have h0 : 0 ≤ a / gcdGo a b := Int.ediv_nonneg (by omega) (by omega)
    rw [show wrap64 (a / gcdGo a b) = a / gcdGo a b by unfold wrap64; omega]
  · rw [if_neg h, if_neg h]
theorem petals_i (a b : Int) : impl_PetalsOf.f a b = some (if gearOk a b = true then (a / gcdGo a b, true) else (0, false)) := by
  unfold impl_PetalsOf.f impl_divisor.f
  rw [areGears_one]
  simp only [Option.bind_some]
  by_cases h : gearOk a b = true
  · have hb := gearOk_true.1 h
    have hg := gcdGo_bd (a := a) (b := b) (by omega) (by omega)
    rw [if_pos h, if_pos h, if_neg (by omega), Int.tdiv_eq_ediv_of_nonneg (by omega)]
    have : a / gcdGo a b ≤ a := Int.ediv_le_self _ (by omega)
    have h0 : 0 ≤ a / gcdGo a b := Int.ediv_nonneg (by omega) (by omega)
    rw [show wrap64 (a / gcdGo a b) = a / gcdGo a b by unfold wrap64; omega]
  · rw [if_neg h, if_neg h]
theorem gcdF_bez : ∀ (k : Nat) (a b : Int), ∃ x y : Int, gcdF k a b = a * x + b * y
  | 0, a, b => ⟨1, 0, by simp [gcdF]⟩
  | k + 1, a, b => by
    unfold gcdF
    by_cases h : b > 0
    · rw [if_pos h]
      obtain ⟨x, y, hxy⟩ := gcdF_bez k b (Int.tmod a b)
      rw [Int.tmod_def] at hxy
      exact ⟨y, x - Int.tdiv a b * y, by rw [Int.tmod_def, hxy]; grind⟩
    · rw [if_neg h]; exact ⟨1, 0, by omega⟩
theorem gcdGo_bez (a b : Int) : ∃ x y : Int, gcdGo a b = a * x + b * y := gcdF_bez _ _ _
theorem gcdGo_l {a b : Int} (ha : 0 ≤ a) (hb : 0 ≤ b) : ∃ p, a = gcdGo a b * p := by
  rw [gcdGo_of ha hb]
  obtain ⟨p, hp⟩ := Nat.gcd_dvd_left a.toNat b.toNat
  refine ⟨p, ?_⟩
  rw [← Int.natCast_mul, ← hp]; omega
theorem gcdGo_r {a b : Int} (ha : 0 ≤ a) (hb : 0 ≤ b) : ∃ p, b = gcdGo a b * p := by
  rw [gcdGo_of ha hb]
  obtain ⟨p, hp⟩ := Nat.gcd_dvd_right a.toNat b.toNat
  refine ⟨p, ?_⟩
  rw [← Int.natCast_mul, ← hp]; omega
theorem geTeeth_eq (a b c d : Int) : spec_geTeeth.f a b c d = some (gearOk a b && inR c 0 (a - 1) && inR d 0 (b - 1)) := by
  unfold spec_geTeeth.f
  rw [geGood_eq]
  simp only [Option.bind_some]
  by_cases h : gearOk a b = true
  · have hb := gearOk_true.1 h
    rw [if_pos h, h, show wrap64 (a - 1) = a - 1 by unfold wrap64; omega, show wrap64 (b - 1) = b - 1 by unfold wrap64; omega, l1In_eq, l1In_eq]
    cases inR c 0 (a - 1) <;> rfl
  · rw [if_neg h]; simp only [Bool.not_eq_true] at h; rw [h]; rfl
/-- Teeth a and b meet when the ring has gone around j times. -/
def meetAt (n m a b j : Int) : Prop := (a + j * n) % m = b
theorem meet_ex {n m a b : Int} (hn : 0 < n) (hm : 0 < m) (ha : 0 ≤ a) (hb : 0 ≤ b) (hbm : b < m) : Int.tmod (a - b) (gcdGo n m) = 0 ↔ ∃ j, 0 ≤ j ∧ j < m ∧ meetAt n m a b j := by
  obtain ⟨x, y, hxy⟩ := gcdGo_bez n m
  obtain ⟨p, hp⟩ := gcdGo_l (a := n) (b := m) (by omega) (by omega)
  obtain ⟨q, hq⟩ := gcdGo_r (a := n) (b := m) (by omega) (by omega)
  rw [← Int.dvd_iff_tmod_eq_zero]
  constructor
  · rintro ⟨t, ht⟩
    refine ⟨(-x * t) % m, Int.emod_nonneg _ (by omega), Int.emod_lt_of_pos _ hm, ?_⟩
    unfold meetAt
    have e : a + (-x * t) % m * n = b + m * (t * y - (-x * t) / m * n) := by
      have := Int.emod_add_mul_ediv (-x * t) m
      have h2 : (-x * t) % m = -x * t - m * ((-x * t) / m) := by omega
      rw [h2, show a = b + gcdGo n m * t by omega, hxy]
      grind
    rw [e, Int.add_mul_emod_self_left, Int.emod_eq_of_lt hb hbm]
  · rintro ⟨j, _, _, hj⟩
    unfold meetAt at hj
    have := Int.emod_add_mul_ediv (a + j * n) m
    rw [hj] at this
    generalize (a + j * n) / m = s at this
    generalize gcdGo n m = g at *
    exact ⟨q * s - j * p, by rw [Int.mul_sub]; grind⟩
theorem meet_no {n m a b : Int} (hn0 : 3 ≤ n) (hn : n ≤ 300) (hm0 : 1 ≤ m) (hm : m ≤ 300) (ha : 0 ≤ a) (han : a < n) : ∀ (d k : Nat) (i : Int), 0 ≤ i → i + d = m → d < k → (∀ j, i ≤ j → j < m → ¬ meetAt n m a b j) → spec_geMeet.l0 k n m b (a + i * n) = some (-1)
  | 0, k + 1, i, hi, hd, hk, h => by
    have e : i = m := by omega
    subst e
    have h1 : i * n ≤ 300 * 300 := Int.mul_le_mul hm hn (by omega) (by omega)
    have h0 : 0 ≤ i * n := Int.mul_nonneg (by omega) (by omega)
    rw [spec_geMeet.l0, show wrap64 (n * i) = i * n by rw [Int.mul_comm]; unfold wrap64; omega, if_neg (by omega)]
  | d + 1, k + 1, i, hi, hd, hk, h => by
    have h1 : m * n ≤ 300 * 300 := Int.mul_le_mul hm hn (by omega) (by omega)
    have h0 : 0 ≤ i * n := Int.mul_nonneg (by omega) (by omega)
    have h2 : (i + 1) * n ≤ m * n := Int.mul_le_mul_of_nonneg_right (by omega) (by omega)
    have h3 : (i + 1) * n = i * n + n := by rw [Int.add_mul]; omega
    have h4 := h i (by omega) (by omega)
    unfold meetAt at h4
    rw [spec_geMeet.l0, show wrap64 (n * m) = m * n by rw [Int.mul_comm]; unfold wrap64; omega, if_pos (by omega), if_neg (by omega), Int.tmod_eq_emod_of_nonneg (by omega), if_neg h4,
      show wrap64 (a + i * n + n) = a + (i + 1) * n by unfold wrap64; omega]
    exact meet_no hn0 hn hm0 hm ha han d k (i + 1) (by omega) (by omega) (by omega) (fun j hj hjm => h j (by omega) hjm)
theorem meet_yes {n m a b : Int} (hn0 : 3 ≤ n) (hn : n ≤ 300) (hm0 : 1 ≤ m) (hm : m ≤ 300) (ha : 0 ≤ a) (han : a < n) : ∀ (d : Nat) (i : Int), 0 ≤ i → i + d = m → (∃ j, i ≤ j ∧ j < m ∧ meetAt n m a b j) → ∃ r, 0 ≤ r ∧ ∀ k : Nat, d < k → spec_geMeet.l0 k n m b (a + i * n) = some r
  | 0, i, hi, hd, h => by obtain ⟨j, _, _, _⟩ := h; omega
  | d + 1, i, hi, hd, h => by
    have h1 : m * n ≤ 300 * 300 := Int.mul_le_mul hm hn (by omega) (by omega)
    have h0 : 0 ≤ i * n := Int.mul_nonneg (by omega) (by omega)
    have h2 : (i + 1) * n ≤ m * n := Int.mul_le_mul_of_nonneg_right (by omega) (by omega)
    have h3 : (i + 1) * n = i * n + n := by rw [Int.add_mul]; omega
    by_cases h4 : meetAt n m a b i
    · refine ⟨a + i * n, by omega, ?_⟩
      intro k hk
      obtain ⟨k, rfl⟩ : ∃ q, k = q + 1 := ⟨k - 1, by omega⟩
      unfold meetAt at h4
      rw [spec_geMeet.l0, show wrap64 (n * m) = m * n by rw [Int.mul_comm]; unfold wrap64; omega, if_pos (by omega), if_neg (by omega), Int.tmod_eq_emod_of_nonneg (by omega), if_pos h4]
    · obtain ⟨r, hr, hk⟩ := meet_yes hn0 hn hm0 hm ha han d (i + 1) (by omega) (by omega) (by
        obtain ⟨j, h5, h6, h7⟩ := h
        rcases Int.lt_or_eq_of_le h5 with h8 | h8
        · exact ⟨j, by omega, h6, h7⟩
        · subst h8; exact absurd h7 h4)
      refine ⟨r, hr, ?_⟩
      intro k hd
      obtain ⟨k, rfl⟩ : ∃ q, k = q + 1 := ⟨k - 1, by omega⟩
      unfold meetAt at h4
      rw [spec_geMeet.l0, show wrap64 (n * m) = m * n by rw [Int.mul_comm]; unfold wrap64; omega, if_pos (by omega), if_neg (by omega), Int.tmod_eq_emod_of_nonneg (by omega), if_neg h4,
        show wrap64 (a + i * n + n) = a + (i + 1) * n by unfold wrap64; omega]
      exact hk k (by omega)
/-- What the reference's search for a meeting tells. -/
theorem meet_f {n m a b : Int} (hn0 : 3 ≤ n) (hn : n ≤ 300) (hm0 : 1 ≤ m) (hm : m ≤ 300) (ha : 0 ≤ a) (han : a < n) (hb : 0 ≤ b) (hbm : b < m) :
    ∃ r, (decide (r ≥ 0) = (Int.tmod (a - b) (gcdGo n m) == 0)) ∧ (r < 0 → r = -1) ∧ ∀ k : Nat, 301 < k → spec_geMeet.f k n m a b = some r := by
  have hx := meet_ex (n := n) (m := m) (a := a) (b := b) (by omega) (by omega) ha hb hbm
  by_cases h : ∃ j, 0 ≤ j ∧ j < m ∧ meetAt n m a b j
  · obtain ⟨r, h0, hk⟩ := meet_yes hn0 hn hm0 hm ha han m.toNat 0 (by omega) (by omega) h
    refine ⟨r, ?_, by omega, ?_⟩
    · rw [hx.2 h]; simp; omega
    · intro k h1
      have := hk k (by omega)
      simpa [spec_geMeet.f] using this
  · refine ⟨-1, ?_, by omega, ?_⟩
    · have : ¬ Int.tmod (a - b) (gcdGo n m) = 0 := fun e => h (hx.1 e)
      simp [this]
    · intro k h1
      have := meet_no (b := b) hn0 hn hm0 hm ha han m.toNat k 0 (by omega) (by omega) (by omega) (fun j h2 h3 h4 => h ⟨j, h2, h3, h4⟩)
      simpa [spec_geMeet.f] using this
theorem teeth_eq (a b c d : Int) : impl_areTeeth.f a b c d = some (gearOk a b && inR c 0 (a - 1) && inR d 0 (b - 1)) := by
  unfold impl_areTeeth.f
  rw [areGears_one]
  simp only [Option.bind_some]
  by_cases h : gearOk a b = true
  · have hb := gearOk_true.1 h
    rw [if_pos h, h, show wrap64 (a - 1) = a - 1 by unfold wrap64; omega, show wrap64 (b - 1) = b - 1 by unfold wrap64; omega, within_eq, within_eq]
    cases inR c 0 (a - 1) <;> rfl
  · rw [if_neg h]
    simp only [Bool.not_eq_true] at h
    rw [h]; rfl
theorem meets_eq (a b c d : Int) (h0 : 3 ≤ a) (h1 : a ≤ 300) (h2 : 1 ≤ b) (h3 : b ≤ a) (hc : 0 ≤ c ∧ c ≤ 300) (hd : 0 ≤ d ∧ d ≤ 300) : impl_doMeet.f a b c d = some (Int.tmod (c - d) (gcdGo a b) == 0) := by
  unfold impl_doMeet.f impl_divisor.f
  have := gcdGo_bd (a := a) (b := b) (by omega) (by omega)
  simp only [Option.bind_some]
  rw [if_neg (by omega), show wrap64 (c - d) = c - d by unfold wrap64; omega]
theorem first_yes {n m a b : Int} (hn0 : 3 ≤ n) (hn : n ≤ 300) (hm0 : 1 ≤ m) (hm : m ≤ 300) (ha : 0 ≤ a) (han : a < n) : ∀ (d : Nat) (i : Int), 0 ≤ i → i + d = m → (∃ j, i ≤ j ∧ j < m ∧ meetAt n m a b j) →
    ∃ r, 0 ≤ r ∧ ∀ k : Nat, d < k → spec_geMeet.l0 k n m b (a + i * n) = some r ∧ impl_FirstMeeting.l0 k n m b (a + i * n) = some (r, true)
  | 0, i, hi, hd, h => by obtain ⟨j, _, _, _⟩ := h; omega
  | d + 1, i, hi, hd, h => by
    have h1 : m * n ≤ 300 * 300 := Int.mul_le_mul hm hn (by omega) (by omega)
    have h0 : 0 ≤ i * n := Int.mul_nonneg (by omega) (by omega)
    have h2 : (i + 1) * n ≤ m * n := Int.mul_le_mul_of_nonneg_right (by omega) (by omega)
    have h3 : (i + 1) * n = i * n + n := by rw [Int.add_mul]; omega
    by_cases h4 : meetAt n m a b i
    · refine ⟨a + i * n, by omega, ?_⟩
      intro k hk
      obtain ⟨k, rfl⟩ : ∃ q, k = q + 1 := ⟨k - 1, by omega⟩
      unfold meetAt at h4
      rw [spec_geMeet.l0, impl_FirstMeeting.l0, show wrap64 (n * m) = m * n by rw [Int.mul_comm]; unfold wrap64; omega, if_pos (by omega), if_neg (by omega), Int.tmod_eq_emod_of_nonneg (by omega), if_pos h4]
      exact ⟨rfl, by rw [if_neg (by omega), if_pos h4]⟩
    · obtain ⟨r, hr, hk⟩ := first_yes hn0 hn hm0 hm ha han d (i + 1) (by omega) (by omega) (by
        obtain ⟨j, h5, h6, h7⟩ := h
        rcases Int.lt_or_eq_of_le h5 with h8 | h8
        · exact ⟨j, by omega, h6, h7⟩
        · subst h8; exact absurd h7 h4)
      refine ⟨r, hr, ?_⟩
      intro k hd
      obtain ⟨k, rfl⟩ : ∃ q, k = q + 1 := ⟨k - 1, by omega⟩
      unfold meetAt at h4
      rw [spec_geMeet.l0, impl_FirstMeeting.l0, show wrap64 (n * m) = m * n by rw [Int.mul_comm]; unfold wrap64; omega, if_pos (by omega), if_neg (by omega), Int.tmod_eq_emod_of_nonneg (by omega), if_neg h4,
        show wrap64 (a + i * n + n) = a + (i + 1) * n by unfold wrap64; omega, if_neg (by omega), if_neg h4]
      exact hk k (by omega)
theorem FnExactFirstMeeting : laws_FnExactFirstMeeting.Pure := by
  intro n m a b _ _ _ _
  by_cases hq : (gearOk n m && inR a 0 (n - 1) && inR b 0 (m - 1)) = true
  · have hb := hq
    simp only [Bool.and_eq_true, inR_true, gearOk_true] at hb
    have hx := meet_ex (n := n) (m := m) (a := a) (b := b) (by omega) (by omega) (by omega) (by omega) (by omega)
    by_cases h : ∃ j, 0 ≤ j ∧ j < m ∧ meetAt n m a b j
    · obtain ⟨r, h0, hk⟩ := first_yes (n := n) (m := m) (a := a) (b := b) (by omega) (by omega) (by omega) (by omega) (by omega) (by omega) m.toNat 0 (by omega) (by omega) h
      refine ⟨400, ?_⟩
      unfold laws_FnExactFirstMeeting.f spec_FirstMeeting.f impl_FirstMeeting.f
      rw [geTeeth_eq, teeth_eq, hq, meets_eq _ _ _ _ (by omega) (by omega) (by omega) (by omega) (by omega) (by omega), hx.2 h]
      have h1 := hk 400 (by omega)
      have h2 := hk 399 (by omega)
      rw [Int.zero_mul, Int.add_zero] at h1 h2
      simp [spec_geMeet.f, h1.1, impl_FirstMeeting.j0, h2.2, show ¬ r < 0 by omega]
    · have hn := meet_no (n := n) (m := m) (a := a) (b := b) (by omega) (by omega) (by omega) (by omega) (by omega) (by omega) m.toNat 400 0 (by omega) (by omega) (by omega) (fun j h2 h3 h4 => h ⟨j, h2, h3, h4⟩)
      rw [Int.zero_mul, Int.add_zero] at hn
      have hd : ¬ Int.tmod (a - b) (gcdGo n m) = 0 := fun e => h (hx.1 e)
      refine ⟨400, ?_⟩
      unfold laws_FnExactFirstMeeting.f spec_FirstMeeting.f impl_FirstMeeting.f
      rw [geTeeth_eq, teeth_eq, hq, meets_eq _ _ _ _ (by omega) (by omega) (by omega) (by omega) (by omega) (by omega)]
      simp [spec_geMeet.f, hn, impl_FirstMeeting.j0, hd]
  · simp only [Bool.not_eq_true] at hq
    refine ⟨400, ?_⟩
    unfold laws_FnExactFirstMeeting.f spec_FirstMeeting.f impl_FirstMeeting.f
    rw [geTeeth_eq, teeth_eq, hq]
    simp [impl_FirstMeeting.j0]

end Go.Proofs.Ytkjgheabcjmicaa.Pure
