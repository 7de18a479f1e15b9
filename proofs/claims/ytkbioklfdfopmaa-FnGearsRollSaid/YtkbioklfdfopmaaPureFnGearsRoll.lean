/- What is proved: the pure statement of the law FnGearsRoll, about numbers and lists alone; no condition. -/
import Derived.Test.YtkbioklfdfopmaaPx4
import Derived.WalkSmall
namespace Go.Proofs.Ytkbioklfdfopmaa.Pure
open Go.RowKit Go.Proofs.Ytkbioklfdfopmaa.P Go.Proofs.YtkbioklfdfopmaaW.PrintWords Go.Proofs.YtkbioklfdfopmaaW.PrintLast
set_option linter.unusedVariables false
set_option linter.unusedSimpArgs false

theorem wrap_id {x : Int} (h : -9000000000000000000 ≤ x) (h2 : x ≤ 9000000000000000000) : wrap64 x = x := by unfold wrap64; omega
theorem u64w (x : Int) : 0 ≤ IntKind.u64.wrap x ∧ IntKind.u64.wrap x ≤ 18446744073709551615 := by
  have e : IntKind.u64.wrap x = x % 18446744073709551616 := rfl
  rw [e]; omega
theorem byte_and {x : Int} (h0 : 0 ≤ x) (h1 : x ≤ 18446744073709551615) : 0 ≤ Go.bits .and .u64 x 255 ∧ Go.bits .and .u64 x 255 ≤ 255 := by
  have h := Go.bits_and_u64_nat x.toNat 255 (by omega) (by omega)
  rw [Int.toNat_of_nonneg h0] at h
  have h2 : x.toNat &&& 255 ≤ 255 := Nat.and_le_right
  have h3 : Go.bits .and .u64 x 255 = ((x.toNat &&& 255 : Nat) : Int) := h
  rw [h3]; omega
/-- Bytes. -/
def Bytes (s : List Int) : Prop := (s.length : Int) ≤ 1048576 ∧ ∀ x ∈ s, 0 ≤ x ∧ x ≤ 255
theorem Bytes.at {s : List Int} (h : Bytes s) {i : Int} (h0 : 0 ≤ i) (h1 : i < s.length) : 0 ≤ rd s i ∧ rd s i ≤ 255 := by
  have : rd s i = s[i.toNat]'(by omega) := by
    simp [rd, List.getD_eq_getElem?_getD, List.getElem?_eq_getElem (show i.toNat < s.length by omega)]
  rw [this]; exact h.2 _ (List.getElem_mem _)
theorem Bytes.of {s : List Int} (hl : (s.length : Int) ≤ 1048576) (h : ∀ x ∈ s, (Lit.int .u8 x).wf = true) : Bytes s := by
  refine ⟨hl, fun x hx => ?_⟩
  have := h x hx
  have e0 : IntKind.u8.min = 0 := rfl
  have e1 : IntKind.u8.max = 255 := rfl
  simp [Lit.wf] at this
  omega
theorem next_tot {s : List Int} (hs : Bytes s) {a sd : Int} (h0 : 0 ≤ a) (h1 : a ≤ 1000000) : ∃ b sd', spec_l1Cur_next.f s a sd = some (b, a + 1, sd') ∧ 0 ≤ b ∧ b ≤ 255 := by
  unfold spec_l1Cur_next.f
  rw [wrap_id (x := a + 1) (by omega) (by omega)]
  by_cases h : a < (s.length : Int)
  · have hr := hs.at h0 h
    rw [if_pos h, if_pos h0, if_pos (by omega), wrap_id (x := rd s a) (by omega) (by omega)]
    exact ⟨_, _, rfl, hr⟩
  · rw [if_neg h, if_neg (by omega)]
    refine ⟨_, _, rfl, ?_⟩
    have hu := u64w (IntKind.u64.wrap (IntKind.u64.wrap (sd * 6364136223846793005)) + 1442695040888963407)
    have hb := byte_and (x := IntKind.u64.wrap (IntKind.u64.wrap (IntKind.u64.wrap (sd * 6364136223846793005)) + 1442695040888963407) / 1099511627776) (by omega) (by omega)
    rw [wrap_id (by omega) (by omega)]
    exact hb
theorem pick_tot {s : List Int} (hs : Bytes s) {a sd : Int} (n : Int) (h0 : 0 ≤ a) (h1 : a ≤ 900000) : ∃ v a' sd', spec_l1Cur_pick.f s a sd n = some (v, a', sd') ∧ a ≤ a' ∧ a' ≤ a + 2 ∧ 0 ≤ v ∧ (1 ≤ n → v < n) ∧ (n ≤ 1 → v = 0) := by
  unfold spec_l1Cur_pick.f
  by_cases h : n ≤ 1
  · rw [if_pos h]; exact ⟨0, a, sd, rfl, by omega, by omega, by omega, by omega, fun _ => rfl⟩
  · rw [if_neg h]
    obtain ⟨b, sd1, e1, b0, b1⟩ := next_tot hs (sd := sd) h0 (by omega)
    rw [e1]
    simp only [Option.bind_some]
    by_cases h2 : n > 200
    · rw [if_pos h2]
      obtain ⟨c, sd2, e2, c0, c1⟩ := next_tot hs (a := a + 1) (sd := sd1) (by omega) (by omega)
      rw [e2]
      simp only [Option.bind_some]
      rw [if_neg (by omega), wrap_id (x := b * 256) (by omega) (by omega), wrap_id (x := b * 256 + c) (by omega) (by omega), Int.tmod_eq_emod_of_nonneg (by omega)]
      exact ⟨_, _, _, rfl, by omega, by omega, Int.emod_nonneg _ (by omega), fun _ => Int.emod_lt_of_pos _ (by omega), by omega⟩
    · rw [if_neg h2, if_neg (by omega), Int.tmod_eq_emod_of_nonneg (by omega)]
      exact ⟨_, _, _, rfl, by omega, by omega, Int.emod_nonneg _ (by omega), fun _ => Int.emod_lt_of_pos _ (by omega), by omega⟩
theorem one_tot {s : List Int} (hs : Bytes s) {a sd : Int} (n : Int) (h0 : 0 ≤ a) (h1 : a ≤ 900000) : ∃ v a' sd', spec_l1Cur_one.f s a sd n = some (v, a', sd') ∧ a ≤ a' ∧ a' ≤ a + 2 := by
  unfold spec_l1Cur_one.f
  obtain ⟨v, a', sd', e, q1, q2, _⟩ := pick_tot hs (sd := sd) n h0 h1
  rw [e]
  exact ⟨_, _, _, rfl, q1, q2⟩
theorem among_tot {s : List Int} (hs : Bytes s) {a sd : Int} (l : List Int) (hl : 1 ≤ (l.length : Int)) (h0 : 0 ≤ a) (h1 : a ≤ 900000) : ∃ v a' sd', spec_l1Cur_among.f s a sd l = some (v, a', sd') ∧ a ≤ a' ∧ a' ≤ a + 2 := by
  unfold spec_l1Cur_among.f
  obtain ⟨v, a', sd', e, q1, q2, q3, q4, _⟩ := pick_tot hs (sd := sd) (l.length : Int) h0 h1
  rw [e]
  simp only [Option.bind_some]
  rw [if_pos q3, if_pos (q4 hl)]
  exact ⟨_, _, _, rfl, q1, q2⟩
theorem gears_tot {s : List Int} (hs : Bytes s) {a sd : Int} (h0 : 0 ≤ a) (h1 : a ≤ 800000) : ∃ n m a' sd', spec_l1Cur_gears.f s a sd = some (n, m, a', sd') ∧ a ≤ a' ∧ a' ≤ a + 6 := by
  unfold spec_l1Cur_gears.f
  obtain ⟨v, a1, sd1, e, q1, q2⟩ := one_tot hs (sd := sd) 12 h0 (by omega)
  rw [e]
  simp only [Option.bind_some]
  by_cases h : v = true
  · rw [if_pos h]
    obtain ⟨x, a2, sd2, e2, q3, q4⟩ := among_tot hs (a := a1) (sd := sd1) [0, 2, 3, 300, 301, (-1), 4611686018427387904] (by simp) (by omega) (by omega)
    rw [e2]
    simp only [Option.bind_some]
    obtain ⟨y, a3, sd3, e3, q5, q6⟩ := among_tot hs (a := a2) (sd := sd2) [0, 1, 2, 60, 299, 300, (-1)] (by simp) (by omega) (by omega)
    rw [e3]
    exact ⟨_, _, a3, _, rfl, by omega, by omega⟩
  · rw [if_neg h]
    obtain ⟨x, a2, sd2, e2, q3, q4, _⟩ := pick_tot hs (a := a1) (sd := sd1) 22 (by omega) (by omega)
    rw [e2]
    simp only [Option.bind_some]
    obtain ⟨y, a3, sd3, e3, q5, q6, _⟩ := pick_tot hs (a := a2) (sd := sd2) (wrap64 (wrap64 (3 + x) - 1)) (by omega) (by omega)
    rw [e3]
    exact ⟨_, _, a3, _, rfl, by omega, by omega⟩
theorem l1In_eq (n lo hi : Int) : spec_l1In.f n lo hi = some (inR n lo hi) := by
  unfold spec_l1In.f inR
  by_cases h : n ≥ lo
  · rw [if_pos h]; congr 1; simp only [decide_eq_decide]; omega
  · rw [if_neg h]; congr 1; exact (decide_eq_false (by omega)).symm
theorem wrap_one {n lo hi : Int} (h : inR n lo hi = true) (h1 : -1000000 ≤ lo) (h2 : hi ≤ 1000000) : wrap64 (n - 1) = n - 1 := by
  have := inR_true.1 h
  unfold wrap64
  omega
/-- A ring and a wheel. -/
def gearOk (a b : Int) : Bool := inR a 3 300 && inR b 1 (a - 1)
theorem gearOk_true {a b : Int} : gearOk a b = true ↔ 3 ≤ a ∧ a ≤ 300 ∧ 1 ≤ b ∧ b ≤ a - 1 := by
  simp only [gearOk, Bool.and_eq_true, inR_true]
  omega
theorem geGood_eq (a b : Int) : spec_geGood.f a b = some (gearOk a b) := by
  unfold spec_geGood.f gearOk
  rw [l1In_eq]
  simp only [Option.bind_some]
  by_cases h : inR a 3 300 = true
  · rw [if_pos h, wrap_one h (by omega) (by omega), l1In_eq, h]; rfl
  · rw [if_neg h]; simp only [Bool.not_eq_true] at h; rw [h]; rfl
theorem areGears_one (a b : Int) : impl_areGears.f a [b] = some (gearOk a b) := by
  simp [impl_areGears.f, gearOk]
theorem drawCusps {s : List Int} (hs : Bytes s) : ∃ n m, spec_DrawCuspsOf.f s = some (n, m) := by
  obtain ⟨n, m, a, sd, e, _⟩ := gears_tot hs (a := 0) (sd := 0) (by omega) (by omega)
  exact ⟨n, m, by unfold spec_DrawCuspsOf.f spec_DrawPetalsOf.f spec_DrawPetalsOf_w.f; rw [e]; rfl⟩
theorem drawSpins {s : List Int} (hs : Bytes s) : ∃ n m b, spec_DrawSpinsOf.f s = some (n, m, b) := by
  obtain ⟨n, m, a, sd, e, q1, q2⟩ := gears_tot hs (a := 0) (sd := 0) (by omega) (by omega)
  obtain ⟨v, a1, sd1, e1, _⟩ := one_tot hs (a := a) (sd := sd) 2 (by omega) (by omega)
  exact ⟨n, m, v, by unfold spec_DrawSpinsOf.f spec_DrawSpinsOf_w.f; rw [e]; simp only [Option.bind_some]; rw [e1]; rfl⟩
theorem drawTeethAt {s : List Int} (hs : Bytes s) : ∃ n m b, spec_DrawTeethAt.f s = some (n, m, b) := by
  obtain ⟨n, m, a, sd, e, q1, q2⟩ := gears_tot hs (a := 0) (sd := 0) (by omega) (by omega)
  obtain ⟨v, a1, sd1, e1, _⟩ := among_tot hs (a := a) (sd := sd) [0, 1, 7, 30, 100, 1000000, 1000001, (-1)] (by simp) (by omega) (by omega)
  exact ⟨n, m, v, by unfold spec_DrawTeethAt.f spec_DrawTeethAt_w.f; rw [e]; simp only [Option.bind_some]; rw [e1]; rfl⟩
theorem drawWheels {s : List Int} (hs : Bytes s) : ∃ n m, spec_DrawWheelsFor.f s = some (n, m) := by
  obtain ⟨n, m, a, sd, e, q1, q2⟩ := gears_tot hs (a := 0) (sd := 0) (by omega) (by omega)
  obtain ⟨v, a1, sd1, e1, _⟩ := among_tot hs (a := a) (sd := sd) [1, 2, 3, 4, 5, 6, 12, 300, 301, 0, (-1)] (by simp) (by omega) (by omega)
  exact ⟨n, v, by unfold spec_DrawWheelsFor.f spec_DrawWheelsFor_w.f; rw [e]; simp only [Option.bind_some]; rw [e1]; rfl⟩
theorem drawSame {s : List Int} (hs : Bytes s) : ∃ n m b, spec_DrawSameCusps.f s = some (n, m, b) := by
  obtain ⟨n, m, a, sd, e, q1, q2⟩ := gears_tot hs (a := 0) (sd := 0) (by omega) (by omega)
  unfold spec_DrawSameCusps.f spec_DrawSameCusps_w.f
  rw [e]
  simp only [Option.bind_some]
  rw [geGood_eq]
  simp only [Option.bind_some]
  by_cases h : gearOk n m = true
  · rw [if_pos h]
    obtain ⟨v, a1, sd1, e1, q3, q4⟩ := one_tot hs (a := a) (sd := sd) 3 (by omega) (by omega)
    rw [e1]
    simp only [Option.bind_some]
    by_cases h2 : v = true
    · rw [if_pos h2]; exact ⟨_, _, _, rfl⟩
    · rw [if_neg h2]
      obtain ⟨x, a2, sd2, e2, _⟩ := pick_tot hs (a := a1) (sd := sd1) 24 (by omega) (by omega)
      rw [e2]; exact ⟨_, _, _, rfl⟩
  · rw [if_neg h]
    obtain ⟨x, a2, sd2, e2, _⟩ := pick_tot hs (a := a) (sd := sd) 24 (by omega) (by omega)
    rw [e2]; exact ⟨_, _, _, rfl⟩
theorem gcdF_bez : ∀ (k : Nat) (a b : Int), ∃ x y : Int, gcdF k a b = a * x + b * y
  | 0, a, b => ⟨1, 0, by simp [gcdF]⟩
  | k + 1, a, b => by
    unfold gcdF
    by_cases h : b > 0
    · rw [if_pos h]
      obtain ⟨x, y, hxy⟩ := gcdF_bez k b (Int.tmod a b)
      rw [Int.tmod_def] at hxy
      exact ⟨y, x - Int.tdiv a b * y, by rw [Int.tmod_def, hxy]; grind⟩
    · rw [if_neg h]; exact ⟨1, 0, by omega⟩
theorem gcdGo_bez (a b : Int) : ∃ x y : Int, gcdGo a b = a * x + b * y := gcdF_bez _ _ _
theorem gcdGo_l {a b : Int} (ha : 0 ≤ a) (hb : 0 ≤ b) : ∃ p, a = gcdGo a b * p := by
  rw [gcdGo_of ha hb]
  obtain ⟨p, hp⟩ := Nat.gcd_dvd_left a.toNat b.toNat
  refine ⟨p, ?_⟩
  rw [← Int.natCast_mul, ← hp]; omega
theorem gcdGo_r {a b : Int} (ha : 0 ≤ a) (hb : 0 ≤ b) : ∃ p, b = gcdGo a b * p := by
  rw [gcdGo_of ha hb]
  obtain ⟨p, hp⟩ := Nat.gcd_dvd_right a.toNat b.toNat
  refine ⟨p, ?_⟩
  rw [← Int.natCast_mul, ← hp]; omega
theorem gear_num {n m : Int} (h : gearOk n m = true) : ∃ g p q x y : Int, gcdGo n m = g ∧ n = g * p ∧ m = g * q ∧ 1 ≤ g ∧ 1 ≤ q ∧ q < p ∧ p ≤ n ∧ n / g = p ∧ m / g = q ∧ p * x + q * y = 1 ∧ 3 ≤ n ∧ n ≤ 300 ∧ 1 ≤ m ∧ m < n := by
  have hb := gearOk_true.1 h
  have hg := gcdGo_bd (a := n) (b := m) (by omega) (by omega)
  obtain ⟨x, y, hxy⟩ := gcdGo_bez n m
  obtain ⟨p, hp⟩ := gcdGo_l (a := n) (b := m) (by omega) (by omega)
  obtain ⟨q, hq⟩ := gcdGo_r (a := n) (b := m) (by omega) (by omega)
  generalize gcdGo n m = g at *
  have ep : n / g = p := by rw [hp]; exact Int.mul_ediv_cancel_left _ (by omega)
  have eq : m / g = q := by rw [hq]; exact Int.mul_ediv_cancel_left _ (by omega)
  have h1 : p * x + q * y = 1 := by
    have : g * (p * x + q * y) = g * 1 := by grind
    exact Int.eq_of_mul_eq_mul_left (by omega) this
  have hq0 : 1 ≤ q := by
    rcases Int.lt_or_le q 1 with h | h
    · have : g * q ≤ g * 0 := Int.mul_le_mul_of_nonneg_left (by omega) (by omega)
      omega
    · exact h
  have hqp : q < p := by
    rcases Int.lt_or_le q p with h | h
    · exact h
    · have : g * p ≤ g * q := Int.mul_le_mul_of_nonneg_left h (by omega)
      omega
  have hpn : p ≤ n := by
    have : 1 * p ≤ g * p := Int.mul_le_mul_of_nonneg_right (by omega) (by omega)
    omega
  exact ⟨g, p, q, x, y, rfl, hp, hq, by omega, hq0, hqp, hpn, ep, eq, h1, by omega, by omega, by omega, by omega⟩
/-- Cusps i, i + 1, .. of the next d. -/
def cuspsL (n m i : Int) : Nat → List Int
  | 0 => []
  | d + 1 => (i * m) % n :: cuspsL n m (i + 1) d
theorem cuspsL_len (n m : Int) : ∀ (d : Nat) (i : Int), (cuspsL n m i d).length = d
  | 0, _ => rfl
  | d + 1, i => by simp [cuspsL, cuspsL_len n m d]
theorem cusp_mul {n m i : Int} (h0 : 3 ≤ n) (h1 : n ≤ 300) (h2 : 1 ≤ m) (h3 : m < n) (h4 : 0 ≤ i) (h5 : i ≤ 300) : 0 ≤ i * m ∧ i * m ≤ 90000 := by
  have a := Int.mul_le_mul h5 (show m ≤ 300 by omega) (by omega) (by omega)
  have b : 0 ≤ i * m := Int.mul_nonneg h4 (by omega)
  omega
theorem cusps_i (n m p : Int) (h0 : 3 ≤ n) (h1 : n ≤ 300) (h2 : 1 ≤ m) (h3 : m < n) (hp : p ≤ 300) : ∀ (d k : Nat) (l : List Int) (i : Int), 0 ≤ i → i + d = p → d < k → (l.length : Int) + d ≤ 1000 → impl_CuspsOf.l0 k n m l p i = some (l ++ cuspsL n m i d, true) := by
  intro d; induction d with
  | zero =>
    intro k l i hi hd hk hl
    obtain ⟨k, rfl⟩ : ∃ m, k = m + 1 := ⟨k - 1, by omega⟩
    rw [impl_CuspsOf.l0, if_neg (by omega)]; simp [cuspsL]
  | succ d ih =>
    intro k l i hi hd hk hl
    obtain ⟨k, rfl⟩ : ∃ m, k = m + 1 := ⟨k - 1, by omega⟩
    have hm := cusp_mul h0 h1 h2 h3 hi (by omega)
    rw [impl_CuspsOf.l0, if_pos (by omega), if_neg (by omega), if_pos (by omega), wrap_id (by omega) (by omega), wrap_id (by omega) (by omega), Int.tmod_eq_emod_of_nonneg (by omega),
      ih k _ (i + 1) (by omega) (by omega) (by omega) (by simp; omega)]
    simp [cuspsL]
theorem cusps_s (n m p : Int) (h0 : 3 ≤ n) (h1 : n ≤ 300) (h2 : 1 ≤ m) (h3 : m < n) (hp : p ≤ 300) (hz : (p * m) % n = 0) (hn : ∀ k, 1 ≤ k → k < p → (k * m) % n ≠ 0) : ∀ (d k : Nat) (l : List Int) (i : Int), 1 ≤ i → i + d = p → d < k → (l.length : Int) + d ≤ 1000 → spec_geCusps.l0 k n m l ((i * m) % n) = some (l ++ cuspsL n m i d) := by
  intro d; induction d with
  | zero =>
    intro k l i hi hd hk hl
    obtain ⟨k, rfl⟩ : ∃ m, k = m + 1 := ⟨k - 1, by omega⟩
    rw [spec_geCusps.l0, show i = p by omega, hz, if_pos rfl]; simp [cuspsL]
  | succ d ih =>
    intro k l i hi hd hk hl
    obtain ⟨k, rfl⟩ : ∃ m, k = m + 1 := ⟨k - 1, by omega⟩
    have hm := cusp_mul h0 h1 h2 h3 (show 0 ≤ i by omega) (by omega)
    have hb : 0 ≤ (i * m) % n := Int.emod_nonneg _ (by omega)
    have hc : (i * m) % n < n := Int.emod_lt_of_pos _ (by omega)
    have e : ((i * m) % n + m) % n = ((i + 1) * m) % n := by
      rw [Int.emod_add_emod, Int.add_mul, Int.one_mul]
    rw [spec_geCusps.l0, if_neg (hn i hi (by omega)), if_pos (by omega), if_neg (by omega), wrap_id (by omega) (by omega), Int.tmod_eq_emod_of_nonneg (by omega), e,
      ih k _ (i + 1) (by omega) (by omega) (by omega) (by simp; omega)]
    simp [cuspsL]
theorem petals_i (a b : Int) : impl_PetalsOf.f a b = some (if gearOk a b = true then (a / gcdGo a b, true) else (0, false)) := by
  unfold impl_PetalsOf.f impl_divisor.f
  rw [areGears_one]
  simp only [Option.bind_some]
  by_cases h : gearOk a b = true
  · have hb := gearOk_true.1 h
    have hg := gcdGo_bd (a := a) (b := b) (by omega) (by omega)
    rw [if_pos h, if_pos h, if_neg (by omega), Int.tdiv_eq_ediv_of_nonneg (by omega)]
    have : a / gcdGo a b ≤ a := Int.ediv_le_self _ (by omega)
    have h0 : 0 ≤ a / gcdGo a b := Int.ediv_nonneg (by omega) (by omega)
    rw [show wrap64 (a / gcdGo a b) = a / gcdGo a b by unfold wrap64; omega]
  · rw [if_neg h, if_neg h]
theorem petals_s (a b : Int) : spec_PetalsOf.f a b = some (if gearOk a b = true then (a / gcdGo a b, true) else (0, false)) := by
  unfold spec_PetalsOf.f spec_srCommon.f
  rw [geGood_eq]
  simp only [Option.bind_some]
  by_cases h : gearOk a b = true
  · have hb := gearOk_true.1 h
    have hg := gcdGo_bd (a := a) (b := b) (by omega) (by omega)
    rw [if_pos h, if_pos h, if_neg (by omega), Int.tdiv_eq_ediv_of_nonneg (by omega)]
    have : a / gcdGo a b ≤ a := Int.ediv_le_self _ (by omega)
    have h0 : 0 ≤ a / gcdGo a b := Int.ediv_nonneg (by omega) (by omega)
    rw [show wrap64 (a / gcdGo a b) = a / gcdGo a b by unfold wrap64; omega]
  · rw [if_neg h, if_neg h]
theorem rounds_i (a b : Int) : impl_RoundsOf.f a b = some (if gearOk a b = true then (b / gcdGo a b, true) else (0, false)) := by
  unfold impl_RoundsOf.f impl_divisor.f
  rw [areGears_one]
  simp only [Option.bind_some]
  by_cases h : gearOk a b = true
  · have hb := gearOk_true.1 h
    have hg := gcdGo_bd (a := a) (b := b) (by omega) (by omega)
    rw [if_pos h, if_pos h, if_neg (by omega), Int.tdiv_eq_ediv_of_nonneg (by omega)]
    have : b / gcdGo a b ≤ b := Int.ediv_le_self _ (by omega)
    have h0 : 0 ≤ b / gcdGo a b := Int.ediv_nonneg (by omega) (by omega)
    rw [show wrap64 (b / gcdGo a b) = b / gcdGo a b by unfold wrap64; omega]
  · rw [if_neg h, if_neg h]
theorem rounds_s (a b : Int) : spec_RoundsOf.f a b = some (if gearOk a b = true then (b / gcdGo a b, true) else (0, false)) := by
  unfold spec_RoundsOf.f spec_srCommon.f
  rw [geGood_eq]
  simp only [Option.bind_some]
  by_cases h : gearOk a b = true
  · have hb := gearOk_true.1 h
    have hg := gcdGo_bd (a := a) (b := b) (by omega) (by omega)
    rw [if_pos h, if_pos h, if_neg (by omega), Int.tdiv_eq_ediv_of_nonneg (by omega)]
    have : b / gcdGo a b ≤ b := Int.ediv_le_self _ (by omega)
    have h0 : 0 ≤ b / gcdGo a b := Int.ediv_nonneg (by omega) (by omega)
    rw [show wrap64 (b / gcdGo a b) = b / gcdGo a b by unfold wrap64; omega]
  · rw [if_neg h, if_neg h]
theorem srGood_eq (p q : Int) (hq : -1000 ≤ q ∧ q ≤ 1000) : spec_srGood.f p q = some (inR p 3 60 && inR q 1 (p - 1)) := by
  unfold spec_srGood.f spec_srPoints.f
  rw [l1In_eq]
  simp only [Option.bind_some]
  by_cases h : inR p 3 60 = true
  · rw [if_pos h, wrap_one h (by omega) (by omega), l1In_eq, h]; rfl
  · rw [if_neg h]; simp only [Bool.not_eq_true] at h; rw [h]; rfl
theorem isStar_eq (p q : Int) : impl_IsStar.f p q = some (inR p 3 60 && inR q 1 (p - 1)) := by
  unfold impl_IsStar.f impl_isCircle.f
  rw [within_eq]
  simp only [Option.bind_some]
  by_cases h : inR p 3 60 = true
  · rw [if_pos h, wrap_one h (by omega) (by omega), within_eq, h]; rfl
  · rw [if_neg h]; simp only [Bool.not_eq_true] at h; rw [h]; rfl
theorem gcdGo_dvd {a b : Int} (ha : 0 ≤ a) (hb : 0 ≤ b) : gcdGo a b ∣ a ∧ gcdGo a b ∣ b := by
  rw [gcdGo_of ha hb]
  have h1 : ((Nat.gcd a.toNat b.toNat : Nat) : Int) ∣ ((a.toNat : Nat) : Int) := Int.natCast_dvd_natCast.2 (Nat.gcd_dvd_left _ _)
  have h2 : ((Nat.gcd a.toNat b.toNat : Nat) : Int) ∣ ((b.toNat : Nat) : Int) := Int.natCast_dvd_natCast.2 (Nat.gcd_dvd_right _ _)
  rw [Int.toNat_of_nonneg ha] at h1
  rw [Int.toNat_of_nonneg hb] at h2
  exact ⟨h1, h2⟩
theorem spins_same (a b : Int) (c : Bool) : ∃ r, spec_SpinsOf.f a b c = some r ∧ impl_SpinsOf.f a b c = some r := by
  unfold spec_SpinsOf.f impl_SpinsOf.f spec_srCommon.f
  rw [geGood_eq, petals_i, rounds_i]
  simp only [Option.bind_some]
  by_cases h : gearOk a b = true
  · have hb := gearOk_true.1 h
    have hg := gcdGo_bd (a := a) (b := b) (by omega) (by omega)
    obtain ⟨d1, d2⟩ := gcdGo_dvd (a := a) (b := b) (by omega) (by omega)
    obtain ⟨p, hp⟩ := d1
    obtain ⟨q, hq⟩ := d2
    generalize gcdGo a b = g at *
    have e1 : a / g = p := by rw [hp]; exact Int.mul_ediv_cancel_left _ (by omega)
    have e2 : b / g = q := by rw [hq]; exact Int.mul_ediv_cancel_left _ (by omega)
    have hp0 : 0 ≤ a / g := Int.ediv_nonneg (by omega) (by omega)
    have hq0 : 0 ≤ b / g := Int.ediv_nonneg (by omega) (by omega)
    have hpa : a / g ≤ a := Int.ediv_le_self _ (by omega)
    have hqb : b / g ≤ b := Int.ediv_le_self _ (by omega)
    have w1 : wrap64 (a - b) = g * (p - q) := by rw [Int.mul_sub, ← hp, ← hq]; unfold wrap64; omega
    have w2 : wrap64 (a + b) = g * (p + q) := by rw [Int.mul_add, ← hp, ← hq]; unfold wrap64; omega
    simp only [h, if_true, e1, e2, w1, w2]
    rw [if_neg (show ¬ g = 0 by omega), if_neg (show ¬ g = 0 by omega)]
    rw [Int.mul_tdiv_cancel_left _ (show g ≠ 0 by omega), Int.mul_tdiv_cancel_left _ (show g ≠ 0 by omega)]
    cases c <;> exact ⟨_, rfl, rfl⟩
  · simp only [h, if_false, Bool.false_eq_true]
    exact ⟨_, rfl, rfl⟩
theorem isSteps_eq (n : Int) : impl_isSteps.f n = some (inR n 0 1000000) := by
  unfold impl_isSteps.f; rw [within_eq]; rfl
theorem teeth_same (a b c : Int) : ∃ r, spec_TeethAt.f a b c = some r ∧ impl_TeethAt.f a b c = some r := by
  unfold spec_TeethAt.f impl_TeethAt.f
  simp only [geGood_eq, areGears_one, isSteps_eq, l1In_eq, Option.bind_some]
  by_cases h : gearOk a b = true
  · have hb := gearOk_true.1 h
    rw [if_pos h]
    by_cases h2 : inR c 0 1000000 = true
    · rw [if_pos h2, if_neg (by omega), if_neg (by omega)]; exact ⟨_, rfl, rfl⟩
    · rw [if_neg h2]; exact ⟨_, rfl, rfl⟩
  · rw [if_neg h]; exact ⟨_, rfl, rfl⟩
/-- The numbers i, i + 1, .. of the next d at which p holds. -/
def numsD (p : Int → Bool) (i : Int) : Nat → List Int
  | 0 => []
  | d + 1 => if p i = true then i :: numsD p (i + 1) d else numsD p (i + 1) d
theorem numsD_len (p : Int → Bool) (i : Int) (d : Nat) : (numsD p i d).length ≤ d := by
  induction d generalizing i with
  | zero => simp [numsD]
  | succ d ih =>
    have := ih (i + 1)
    simp only [numsD]
    split
    · simp; omega
    · omega
theorem numsD_congr {p q : Int → Bool} {i : Int} {d : Nat} (h : ∀ x, i ≤ x → x < i + d → p x = q x) : numsD p i d = numsD q i d := by
  induction d generalizing i with
  | zero => rfl
  | succ d ih =>
    have h0 := h i (by omega) (by omega)
    have h1 := ih (i := i + 1) (fun x hx hy => h x (by omega) (by omega))
    simp only [numsD, h0, h1]
theorem numsD_eq (p : Int → Bool) (i : Int) (d : Nat) : ((List.range d).map fun (j : Nat) => i + (j : Int)).filter p = numsD p i d := by
  induction d generalizing i with
  | zero => rfl
  | succ d ih =>
    rw [List.range_succ_eq_map, List.map_cons, List.map_map]
    have e : (fun (j : Nat) => i + (j : Int)) ∘ Nat.succ = fun (j : Nat) => (i + 1) + (j : Int) := by funext j; simp; omega
    rw [e, List.filter_cons, ih]
    simp [numsD]
theorem numsW_numsD (p : Int → Bool) (lo hi : Int) : numsW p lo hi = numsD p lo (hi + 1 - lo).toNat := numsD_eq p lo _
theorem numsW_len (p : Int → Bool) (lo hi : Int) : ((numsW p lo hi).length : Int) ≤ max 0 (hi + 1 - lo) := by
  rw [numsW_numsD]
  have := numsD_len p lo (hi + 1 - lo).toNat
  omega
theorem wheels_l0 (a b : Int) (h0 : 3 ≤ a) (h1 : a ≤ 300) (d : Nat) : ∀ (k : Nat) (l : List Int) (i : Int), 1 ≤ i → i + d = a → d < k → (l.length : Int) + d ≤ 1000 →
    spec_WheelsFor.l0 k a b l i = some (l ++ numsD (fun x => a / gcdGo a x == b) i d, true) := by
  induction d with
  | zero =>
    intro k l i hi hd hk _
    obtain ⟨k, rfl⟩ : ∃ m, k = m + 1 := ⟨k - 1, by omega⟩
    rw [spec_WheelsFor.l0, if_neg (by omega)]
    simp [numsD]
  | succ d ih =>
    intro k l i hi hd hk hl
    obtain ⟨k, rfl⟩ : ∃ m, k = m + 1 := ⟨k - 1, by omega⟩
    rw [spec_WheelsFor.l0]
    unfold spec_srCommon.f
    have hg := gcdGo_bd (a := a) (b := i) (by omega) (by omega)
    have h2 : a / gcdGo a i ≤ a := Int.ediv_le_self _ (by omega)
    have h3 : 0 ≤ a / gcdGo a i := Int.ediv_nonneg (by omega) (by omega)
    rw [if_pos (by omega)]
    simp only [Option.bind_some]
    rw [if_neg (by omega), Int.tdiv_eq_ediv_of_nonneg (by omega), show wrap64 (a / gcdGo a i) = a / gcdGo a i by unfold wrap64; omega, wrap_id (by omega) (by omega)]
    by_cases hq : a / gcdGo a i = b
    · rw [if_pos hq, if_pos (by omega), ih k (l ++ [i]) (i + 1) (by omega) (by omega) (by omega) (by simp; omega)]
      simp [numsD, hq]
    · rw [if_neg hq, ih k l (i + 1) (by omega) (by omega) (by omega) (by omega)]
      simp [numsD, hq]
theorem teeth_eq (a b c d : Int) : impl_areTeeth.f a b c d = some (gearOk a b && inR c 0 (a - 1) && inR d 0 (b - 1)) := by
  unfold impl_areTeeth.f
  rw [areGears_one]
  simp only [Option.bind_some]
  by_cases h : gearOk a b = true
  · have hb := gearOk_true.1 h
    rw [if_pos h, h, show wrap64 (a - 1) = a - 1 by unfold wrap64; omega, show wrap64 (b - 1) = b - 1 by unfold wrap64; omega, within_eq, within_eq]
    cases inR c 0 (a - 1) <;> rfl
  · rw [if_neg h]
    simp only [Bool.not_eq_true] at h
    rw [h]; rfl
theorem meets_eq (a b c d : Int) (h0 : 3 ≤ a) (h1 : a ≤ 300) (h2 : 1 ≤ b) (h3 : b ≤ a) (hc : 0 ≤ c ∧ c ≤ 300) (hd : 0 ≤ d ∧ d ≤ 300) : impl_doMeet.f a b c d = some (Int.tmod (c - d) (gcdGo a b) == 0) := by
  unfold impl_doMeet.f impl_divisor.f
  have := gcdGo_bd (a := a) (b := b) (by omega) (by omega)
  simp only [Option.bind_some]
  rw [if_neg (by omega), show wrap64 (c - d) = c - d by unfold wrap64; omega]
/-- What both sides tell of the cusps. -/
def cuspsR (n m : Int) : List Int × Bool := if gearOk n m = true then (cuspsL n m 0 (n / gcdGo n m).toNat, true) else ([], false)
theorem cusps_none {n m g p q x y : Int} (hp : n = g * p) (hq : m = g * q) (hg : 1 ≤ g) (h1 : p * x + q * y = 1) : ∀ k, 1 ≤ k → k < p → (k * m) % n ≠ 0 := by
  intro k hk hkp h
  obtain ⟨t, ht⟩ := Int.dvd_of_emod_eq_zero h
  have h2 : k * q = p * t := by
    have : g * (k * q) = g * (p * t) := by grind
    exact Int.eq_of_mul_eq_mul_left (by omega) this
  have h3 : p ∣ k := ⟨k * x + t * y, by grind⟩
  have := Int.le_of_dvd (by omega) h3
  omega
theorem cuspsS {n m : Int} {k : Nat} (hk : 400 ≤ k) : spec_CuspsOf.f k n m = some (cuspsR n m) := by
  unfold cuspsR spec_CuspsOf.f spec_geCusps.f
  rw [geGood_eq]
  simp only [Option.bind_some]
  by_cases h : gearOk n m = true
  · obtain ⟨g, p, q, x, y, e, hp, hq, hg, hq0, hqp, hpn, ep, eq, h1, b1, b2, b3, b4⟩ := gear_num h
    rw [if_pos h, if_pos h, e, ep]
    have hz : (p * m) % n = 0 := Int.emod_eq_zero_of_dvd ⟨q, by grind⟩
    have eL : cuspsL n m 0 p.toNat = 0 :: cuspsL n m 1 (p - 1).toNat := by
      obtain ⟨d, hd⟩ : ∃ d, p.toNat = d + 1 := ⟨p.toNat - 1, by omega⟩
      rw [hd, show (p - 1).toNat = d by omega]; simp [cuspsL]
    have := cusps_s n m p (by omega) (by omega) (by omega) (by omega) (by omega) hz (cusps_none hp hq hg h1) (p - 1).toNat k [0] 1 (by omega) (by omega) (by omega) (by simp; omega)
    rw [Int.one_mul, Int.emod_eq_of_lt (by omega) (by omega)] at this
    rw [this, eL]; rfl
  · rw [if_neg h, if_neg h]
theorem cuspsI {n m : Int} {k : Nat} (hk : 400 ≤ k) : impl_CuspsOf.f k n m = some (cuspsR n m) := by
  unfold cuspsR impl_CuspsOf.f
  rw [petals_i]
  simp only [Option.bind_some]
  by_cases h : gearOk n m = true
  · obtain ⟨g, p, q, x, y, e, hp, hq, hg, hq0, hqp, hpn, ep, eq, h1, b1, b2, b3, b4⟩ := gear_num h
    rw [if_pos h, if_pos h, e, ep]
    simp only [if_true]
    rw [cusps_i n m p (by omega) (by omega) (by omega) (by omega) (by omega) p.toNat k [] 0 (by omega) (by omega) (by omega) (by simp; omega)]
    rfl
  · rw [if_neg h, if_neg h]; rfl
theorem cuspsL_mem {n m t : Int} : ∀ {d : Nat} {i : Int}, t ∈ cuspsL n m i d ↔ ∃ j, i ≤ j ∧ j < i + d ∧ t = (j * m) % n
  | 0, i => by simp [cuspsL]; omega
  | d + 1, i => by
    simp only [cuspsL, List.mem_cons, cuspsL_mem (d := d) (i := i + 1)]
    constructor
    · rintro (h | ⟨j, h1, h2, h3⟩)
      · exact ⟨i, by omega, by omega, h⟩
      · exact ⟨j, by omega, by omega, h3⟩
    · rintro ⟨j, h1, h2, h3⟩
      rcases Int.lt_or_eq_of_le h1 with h | h
      · exact Or.inr ⟨j, by omega, by omega, h3⟩
      · subst h; exact Or.inl h3
theorem rd_cuspsL {n m : Int} : ∀ {d : Nat} {a i : Int}, 0 ≤ i → i < d → rd (cuspsL n m a d) i = ((a + i) * m) % n
  | 0, a, i, h0, h1 => by omega
  | d + 1, a, i, h0, h1 => by
    by_cases h : i = 0
    · subst h; simp [cuspsL, rd]
    · have := rd_cuspsL (n := n) (m := m) (d := d) (a := a + 1) (i := i - 1) (by omega) (by omega)
      obtain ⟨k, hk⟩ : ∃ k, i.toNat = k + 1 := ⟨i.toNat - 1, by omega⟩
      have e : rd (cuspsL n m a (d + 1)) i = rd (cuspsL n m (a + 1) d) (i - 1) := by
        simp only [rd, cuspsL, hk, show (i - 1).toNat = k by omega, List.getD_cons_succ]
      rw [e, this, show a + 1 + (i - 1) = a + i by omega]
/-- Cusps of two wheels are the same if and only if the divisors are. -/
theorem cusps_same {n m o : Int} (h : gearOk n m = true) (h' : gearOk n o = true) :
    (((cuspsR n m).1.length == (cuspsR n o).1.length) && (cuspsR n m).1.all fun t => (cuspsR n o).1.any fun x => x == t) = (gcdGo n m == gcdGo n o) := by
  unfold cuspsR
  rw [if_pos h, if_pos h']
  obtain ⟨g, p, q, x, y, e, hp, hq, hg, hq0, hqp, hpn, ep, eq, h1, b1, b2, b3, b4⟩ := gear_num h
  obtain ⟨g', p', q', x', y', e', hp', hq', hg', hq0', hqp', hpn', ep', eq', h1', _, _, b3', b4'⟩ := gear_num h'
  rw [e, e', ep, ep']
  simp only [cuspsL_len]
  by_cases hgg : g = g'
  · subst hgg
    have hpp : p = p' := by rw [← ep, ← ep']
    subst hpp
    rw [show (g == g) = true by simp, Bool.and_eq_true]
    refine ⟨by simp, ?_⟩
    rw [List.all_eq_true]
    intro t ht
    obtain ⟨i, hi0, hi1, rfl⟩ := cuspsL_mem.1 ht
    rw [List.any_eq_true]
    refine ⟨((i * q * y') % p * o) % n, cuspsL_mem.2 ⟨(i * q * y') % p, Int.emod_nonneg _ (by omega), by have := Int.emod_lt_of_pos (i * q * y') (show 0 < p by omega); omega, rfl⟩, ?_⟩
    rw [beq_iff_eq]
    have hs := Int.emod_add_mul_ediv (i * q * y') p
    generalize (i * q * y') / p = s at hs
    have hj : (i * q * y') % p = i * q * y' - p * s := by omega
    rw [hj]
    have : (i * q * y' - p * s) * o = i * m + n * (-(i * q * x') - s * q') := by
      have e3 : q' * y' = 1 - p * x' := by omega
      rw [hq, hq', hp]
      have : (i * q * y' - p * s) * (g * q') = g * i * q * (q' * y') - g * p * s * q' := by grind
      rw [this, e3]; grind
    rw [this, Int.add_mul_emod_self_left]
  · have hpp : p ≠ p' := by
      intro hpp
      subst hpp
      have : g * p = g' * p := by rw [← hp, ← hp']
      exact hgg (Int.eq_of_mul_eq_mul_right (by omega) this)
    rw [show (g == g') = false by simpa using hgg]
    have : (p.toNat == p'.toNat) = false := by rw [beq_eq_false_iff_ne]; omega
    rw [this]; rfl
theorem rd_get {l : List Int} {i : Int} (h0 : 0 ≤ i) (h1 : i < (l.length : Int)) : rd l i = l[i.toNat]'(by omega) := by
  simp [rd, List.getD_eq_getElem?_getD, List.getElem?_eq_getElem (show i.toNat < l.length by omega)]
theorem uSame_l0 (l : List Int) (hl : (l.length : Int) ≤ 1000000) (d : Nat) : ∀ (k : Nat) (i : Int), 0 ≤ i → i + d = l.length → d < k → laws_uSame.l0 k l l (l.length : Int) i = some true := by
  induction d with
  | zero =>
    intro k i h0 hi hk
    obtain ⟨k, rfl⟩ : ∃ m, k = m + 1 := ⟨k - 1, by omega⟩
    rw [laws_uSame.l0, if_neg (by omega)]
  | succ d ih =>
    intro k i h0 hi hk
    obtain ⟨k, rfl⟩ : ∃ m, k = m + 1 := ⟨k - 1, by omega⟩
    rw [laws_uSame.l0, if_pos (show i < (l.length : Int) by omega), if_pos h0, if_pos (show i < (l.length : Int) by omega), if_pos (show i < (l.length : Int) by omega), if_pos rfl, wrap_id (by omega) (by omega)]
    exact ih k (i + 1) (by omega) (by omega) (by omega)
theorem uSame_self {l : List Int} (hl : (l.length : Int) ≤ 1000000) {k : Nat} (hk : l.length < k) : laws_uSame.f k l l = some true := by
  unfold laws_uSame.f
  rw [if_pos rfl]
  exact uSame_l0 l hl l.length k 0 (by omega) (by omega) hk
theorem uHas_l0 (l : List Int) (a : Int) (hl : (l.length : Int) ≤ 1000000) (d : Nat) : ∀ (k : Nat) (i : Int), 0 ≤ i → i + d = l.length → d < k → laws_uHas.l0 k a l (l.length : Int) i = some ((l.drop i.toNat).any fun x => x == a) := by
  induction d with
  | zero =>
    intro k i h0 hi hk
    obtain ⟨k, rfl⟩ : ∃ m, k = m + 1 := ⟨k - 1, by omega⟩
    rw [laws_uHas.l0, if_neg (by omega), List.drop_eq_nil_of_le (by omega)]; rfl
  | succ d ih =>
    intro k i h0 hi hk
    obtain ⟨k, rfl⟩ : ∃ m, k = m + 1 := ⟨k - 1, by omega⟩
    rw [laws_uHas.l0, if_pos (show i < (l.length : Int) by omega), if_pos h0, if_pos (show i < (l.length : Int) by omega), wrap_id (x := i + 1) (by omega) (by omega), List.drop_eq_getElem_cons (by omega), List.any_cons, ← rd_get h0 (by omega), show i.toNat + 1 = (i + 1).toNat by omega]
    by_cases h : rd l i = a
    · rw [if_pos h, show (rd l i == a) = true by simpa using h]; rfl
    · rw [if_neg h, ih k (i + 1) (by omega) (by omega) (by omega), show (rd l i == a) = false by simpa using h]; rfl
theorem uHas_f {l : List Int} (a : Int) (hl : (l.length : Int) ≤ 1000000) {k : Nat} (hk : l.length < k) : laws_uHas.f k l a = some (l.any fun x => x == a) := by
  unfold laws_uHas.f
  rw [uHas_l0 l a hl l.length k 0 (by omega) (by omega) hk]; simp
theorem uRises_l0 (l : List Int) (hl : (l.length : Int) ≤ 1000000) (hp : l.Pairwise (· < ·)) (d : Nat) : ∀ (k : Nat) (i : Int), 1 ≤ i → (l.length : Int) ≤ i + d → d < k → laws_uRises.l0 k l i = some true := by
  induction d with
  | zero =>
    intro k i h0 hi hk
    obtain ⟨k, rfl⟩ : ∃ m, k = m + 1 := ⟨k - 1, by omega⟩
    rw [laws_uRises.l0, if_neg (by omega)]
  | succ d ih =>
    intro k i h0 hi hk
    obtain ⟨k, rfl⟩ : ∃ m, k = m + 1 := ⟨k - 1, by omega⟩
    by_cases h : i < (l.length : Int)
    · have := (List.pairwise_iff_getElem.1 hp) (i - 1).toNat i.toNat (by omega) (by omega) (by omega)
      rw [laws_uRises.l0, if_pos h, wrap_id (x := i - 1) (by omega) (by omega), if_pos (by omega), if_pos (by omega), if_pos (by omega), wrap_id (by omega) (by omega), rd_get (i := i - 1) (by omega) (by omega), rd_get (i := i) (by omega) (by omega), if_neg (by omega)]
      exact ih k (i + 1) (by omega) (by omega) (by omega)
    · rw [laws_uRises.l0, if_neg h]
theorem uRises_f {l : List Int} (hl : (l.length : Int) ≤ 1000000) (hp : l.Pairwise (· < ·)) {k : Nat} (hk : l.length < k) : laws_uRises.f k l = some true := by
  unfold laws_uRises.f
  exact uRises_l0 l hl hp l.length k 1 (by omega) (by omega) hk
theorem numsD_mem {p : Int → Bool} {a : Int} : ∀ {d : Nat} {i : Int}, a ∈ numsD p i d ↔ i ≤ a ∧ a < i + d ∧ p a = true
  | 0, i => by simp [numsD]; omega
  | d + 1, i => by
    simp only [numsD]
    split
    · rename_i h
      rw [List.mem_cons, numsD_mem (d := d) (i := i + 1)]
      constructor
      · rintro (rfl | ⟨h1, h2, h3⟩)
        · exact ⟨by omega, by omega, h⟩
        · exact ⟨by omega, by omega, h3⟩
      · rintro ⟨h1, h2, h3⟩
        rcases Int.lt_or_eq_of_le h1 with h4 | h4
        · exact Or.inr ⟨by omega, by omega, h3⟩
        · exact Or.inl h4.symm
    · rename_i h
      rw [numsD_mem (d := d) (i := i + 1)]
      constructor
      · rintro ⟨h1, h2, h3⟩; exact ⟨by omega, by omega, h3⟩
      · rintro ⟨h1, h2, h3⟩
        rcases Int.lt_or_eq_of_le h1 with h4 | h4
        · exact ⟨by omega, by omega, h3⟩
        · subst h4; exact absurd h3 h
theorem numsD_rises (p : Int → Bool) : ∀ (d : Nat) (i : Int), (numsD p i d).Pairwise (· < ·)
  | 0, i => by simp [numsD]
  | d + 1, i => by
    simp only [numsD]
    split
    · rw [List.pairwise_cons]
      exact ⟨fun a ha => by have := (numsD_mem.1 ha).1; omega, numsD_rises p d (i + 1)⟩
    · exact numsD_rises p d (i + 1)
theorem numsW_mem {p : Int → Bool} {lo hi a : Int} (h : lo ≤ hi + 1) : a ∈ numsW p lo hi ↔ lo ≤ a ∧ a ≤ hi ∧ p a = true := by
  rw [numsW_numsD, numsD_mem]
  constructor
  · rintro ⟨h1, h2, h3⟩; exact ⟨h1, by omega, h3⟩
  · rintro ⟨h1, h2, h3⟩; exact ⟨h1, by omega, h3⟩
theorem mul_bd {a b A B : Int} (ha : 0 ≤ a) (haA : a ≤ A) (hb : 0 ≤ b) (hbB : b ≤ B) : 0 ≤ a * b ∧ a * b ≤ A * B :=
  ⟨Int.mul_nonneg ha hb, Int.mul_le_mul haA hbB hb (by omega)⟩
theorem wheelsI (n m : Int) : impl_WheelsFor.f n m = some (if (inR n 3 300 && inR m 1 300) = true then (numsW (fun x => n / gcdGo n x == m) 1 (n - 1), true) else ([], false)) := rfl
theorem wheelsS (n m : Int) {k : Nat} (hk : 400 ≤ k) : spec_WheelsFor.f k n m = impl_WheelsFor.f n m := by
  rw [wheelsI]
  obtain ⟨k, rfl⟩ : ∃ m, k = m + 1 := ⟨k - 1, by omega⟩
  by_cases hq : (inR n 3 300 && inR m 1 300) = true
  · have hb := hq
    simp only [Bool.and_eq_true, inR_true] at hb
    rw [if_pos hq]
    simp only [Bool.and_eq_true] at hq
    unfold spec_WheelsFor.f
    rw [l1In_eq, hq.1]
    simp only [Option.bind_some, if_true]
    rw [l1In_eq, hq.2]
    simp only [Option.bind_some, Bool.not_true]
    rw [spec_WheelsFor.j0, if_neg (by decide), wheels_l0 n m (by omega) (by omega) (n - 1).toNat k [] 1 (by omega) (by omega) (by omega) (by simp; omega), numsW_numsD]
    simp
  · rw [if_neg hq]
    unfold spec_WheelsFor.f
    rw [l1In_eq]
    simp only [Option.bind_some]
    by_cases h1 : inR n 3 300 = true
    · rw [if_pos h1, l1In_eq]
      have h2 : inR m 1 300 = false := by
        rw [h1, Bool.true_and] at hq; simpa using hq
      simp only [Option.bind_some, h2, Bool.not_false]
      rw [spec_WheelsFor.j0, if_pos rfl]
    · rw [if_neg h1]
      rw [spec_WheelsFor.j0, if_pos rfl]
theorem roll_l2 (n m : Int) (hn : 3 ≤ n) (hn2 : n ≤ 300) (d : Nat) : ∀ (k : Nat) (i : Int), 1 ≤ i → i + d = n → d + 400 < k → laws_FnGearsRoll.l2 k n m (numsW (fun x => n / gcdGo n x == m) 1 (n - 1)) i = some true := by
  induction d with
  | zero =>
    intro k i h0 hi hk
    obtain ⟨k, rfl⟩ : ∃ m, k = m + 1 := ⟨k - 1, by omega⟩
    rw [laws_FnGearsRoll.l2, if_neg (by omega)]
  | succ d ih =>
    intro k i h0 hi hk
    obtain ⟨k, rfl⟩ : ∃ m, k = m + 1 := ⟨k - 1, by omega⟩
    have hg : gearOk n i = true := gearOk_true.2 (by omega)
    have hl := numsW_len (fun x => n / gcdGo n x == m) 1 (n - 1)
    rw [laws_FnGearsRoll.l2, if_pos (by omega), petals_i, if_pos hg]
    simp only [Option.bind_some, if_true]
    rw [uHas_f i (by omega) (by omega)]
    simp only [Option.bind_some]
    have e : ((numsW (fun x => n / gcdGo n x == m) 1 (n - 1)).any fun x => x == i) = (n / gcdGo n i == m) := by
      rw [Bool.eq_iff_iff, List.any_eq_true]
      constructor
      · rintro ⟨x, hx, hxi⟩
        rw [beq_iff_eq] at hxi
        subst hxi
        exact ((numsW_mem (by omega)).1 hx).2.2
      · intro h
        exact ⟨i, (numsW_mem (by omega)).2 ⟨by omega, by omega, h⟩, by simp⟩
    rw [e, if_neg (by simp), wrap_id (by omega) (by omega)]
    exact ih k (i + 1) (by omega) (by omega) (by omega)
theorem roll_j8 (n m : Int) (l : List Int) (b : Bool) (h : impl_WheelsFor.f n m = some (l, b)) : ∀ k, 1000 ≤ k → laws_FnGearsRoll.j4 k n m l b = some true := by
  intro k hk
  obtain ⟨k, rfl⟩ : ∃ m, k = m + 1 := ⟨k - 1, by omega⟩
  rw [wheelsI] at h
  by_cases hq : (inR n 3 300 && inR m 1 300) = true
  · have hb := hq
    simp only [Bool.and_eq_true, inR_true] at hb
    rw [if_pos hq] at h
    simp only [Option.some.injEq, Prod.mk.injEq] at h
    obtain ⟨rfl, rfl⟩ := h
    have hl := numsW_len (fun x => n / gcdGo n x == m) 1 (n - 1)
    rw [laws_FnGearsRoll.j4, if_pos rfl, uRises_f (by omega) (by rw [numsW_numsD]; exact numsD_rises _ _ _) (by omega)]
    simp only [Option.bind_some, if_true]
    exact roll_l2 n m (by omega) (by omega) (n - 1).toNat k 1 (by omega) (by omega) (by omega)
  · rw [if_neg hq] at h
    simp only [Option.some.injEq, Prod.mk.injEq] at h
    obtain ⟨rfl, rfl⟩ := h
    rw [laws_FnGearsRoll.j4, if_neg (by decide)]
theorem roll_l1 (n m : Int) (l : List Int) (b same : Bool) (h : impl_WheelsFor.f n m = some (l, b)) (u v : List Int) (hu : (u.length : Int) ≤ 1000) (hv : (v.length : Int) ≤ 1000) (d : Nat) : ∀ (k : Nat) (i : Int) (a : Bool), 0 ≤ i → i + d = u.length → d + 2000 < k →
    (a && (u.drop i.toNat).all fun t => v.any fun x => x == t) = same → laws_FnGearsRoll.l1 k same n m l b v a u (u.length : Int) i = some true := by
  induction d with
  | zero =>
    intro k i a h0 hi hk hs
    obtain ⟨k, rfl⟩ : ∃ m, k = m + 1 := ⟨k - 1, by omega⟩
    rw [List.drop_eq_nil_of_le (by omega), List.all_nil, Bool.and_true] at hs
    subst hs
    rw [laws_FnGearsRoll.l1, if_neg (by omega), if_neg (by simp)]
    exact roll_j8 n m l b h k (by omega)
  | succ d ih =>
    intro k i a h0 hi hk hs
    obtain ⟨k, rfl⟩ : ∃ m, k = m + 1 := ⟨k - 1, by omega⟩
    rw [List.drop_eq_getElem_cons (show i.toNat < u.length by omega), List.all_cons, ← rd_get h0 (by omega), show i.toNat + 1 = (i + 1).toNat by omega] at hs
    rw [laws_FnGearsRoll.l1, if_pos (show i < (u.length : Int) by omega), if_pos h0, if_pos (show i < (u.length : Int) by omega), wrap_id (x := i + 1) (by omega) (by omega)]
    cases a with
    | true =>
      rw [if_pos rfl, uHas_f _ (by omega) (by omega)]
      simp only [Option.bind_some]
      exact ih k (i + 1) _ (by omega) (by omega) (by omega) (by rw [← hs]; simp)
    | false =>
      rw [if_neg (by decide)]
      exact ih k (i + 1) false (by omega) (by omega) (by omega) (by rw [← hs]; simp)
theorem cuspsR_len (n m : Int) : ((cuspsR n m).1.length : Int) ≤ 300 := by
  unfold cuspsR
  by_cases h : gearOk n m = true
  · obtain ⟨g, p, q, x, y, e, hp, hq, hg, hq0, hqp, hpn, ep, eq, h1, b1, b2, b3, b4⟩ := gear_num h
    rw [if_pos h, e, ep]
    simp only [cuspsL_len]
    omega
  · rw [if_neg h]; simp
theorem same_i (a b c : Int) : impl_SameCusps.f a b c = some (if (gearOk a b && gearOk a c) = true then (gcdGo a b == gcdGo a c, true) else (false, false)) := by
  have hi : impl_areGears.f a [b, c] = some (gearOk a b && gearOk a c) := by
    unfold impl_areGears.f gearOk
    cases inR a 3 300 <;> simp
  unfold impl_SameCusps.f impl_divisor.f
  rw [hi]
  simp only [Option.bind_some]
  cases (gearOk a b && gearOk a c) <;> rfl
theorem same_s (a b c : Int) {k : Nat} (hk : 1 ≤ k) : spec_SameCusps.f k a b c = impl_SameCusps.f a b c := by
  obtain ⟨k, rfl⟩ : ∃ m, k = m + 1 := ⟨k - 1, by omega⟩
  rw [same_i]
  unfold spec_SameCusps.f
  rw [geGood_eq, geGood_eq]
  cases gearOk a b <;> cases gearOk a c <;> simp [spec_SameCusps.j0, spec_srCommon.f]
theorem roll_j4 {s : List Int} (hs : Bytes s) : ∀ k, 5000 ≤ k → laws_FnGearsRoll.j2 k s = some true := by
  intro k hk
  obtain ⟨k, rfl⟩ : ∃ m, k = m + 1 := ⟨k - 1, by omega⟩
  obtain ⟨n1, m1, b1, e1⟩ := drawSpins hs
  obtain ⟨n2, m2, b2, e2⟩ := drawTeethAt hs
  obtain ⟨n3, m3, o3, e3⟩ := drawSame hs
  obtain ⟨n4, m4, e4⟩ := drawWheels hs
  obtain ⟨r1, s1, i1⟩ := spins_same n1 m1 b1
  obtain ⟨r2, s2, i2⟩ := teeth_same n2 m2 b2
  have hw : ∃ l b, impl_WheelsFor.f n4 m4 = some (l, b) ∧ (l.length : Int) ≤ 300 := by
    rw [wheelsI]
    by_cases hq : (inR n4 3 300 && inR m4 1 300) = true
    · have hb := hq
      simp only [Bool.and_eq_true, inR_true] at hb
      have hl := numsW_len (fun x => n4 / gcdGo n4 x == m4) 1 (n4 - 1)
      rw [if_pos hq]; exact ⟨_, _, rfl, by omega⟩
    · rw [if_neg hq]; exact ⟨_, _, rfl, by simp⟩
  obtain ⟨l, b, hw, hwl⟩ := hw
  rw [laws_FnGearsRoll.j2, e1]
  simp only [Option.bind_some]
  rw [i1]
  simp only [Option.bind_some]
  rw [s1]
  simp only [Option.bind_some]
  rw [e2]
  simp only [Option.bind_some]
  rw [i2]
  simp only [Option.bind_some]
  rw [s2]
  simp only [Option.bind_some]
  rw [e3]
  simp only [Option.bind_some]
  rw [same_i]
  simp only [Option.bind_some]
  rw [same_s _ _ _ (by omega), same_i]
  simp only [Option.bind_some]
  rw [e4]
  simp only [Option.bind_some]
  rw [hw]
  simp only [Option.bind_some]
  rw [wheelsS _ _ (by omega), hw]
  simp only [Option.bind_some, bne_self_eq_false, Bool.false_eq_true, if_false, if_true]
  rw [uSame_self (by omega) (by omega)]
  simp only [Option.bind_some, if_true]
  by_cases hq : (gearOk n3 m3 && gearOk n3 o3) = true
  · rw [if_pos hq]
    simp only [if_true]
    rw [cuspsI (by omega)]
    simp only [Option.bind_some]
    rw [cuspsI (by omega)]
    simp only [Option.bind_some]
    simp only [Bool.and_eq_true] at hq
    have t1 : (cuspsR n3 m3).2 = true := by unfold cuspsR; rw [if_pos hq.1]
    have t2 : (cuspsR n3 o3).2 = true := by unfold cuspsR; rw [if_pos hq.2]
    have L1 := cuspsR_len n3 m3
    have L2 := cuspsR_len n3 o3
    have hcs := cusps_same hq.1 hq.2
    rw [t1, t2, if_pos rfl, if_pos rfl]
    refine roll_l1 n4 m4 l b _ hw _ _ (by omega) (by omega) (cuspsR n3 m3).1.length k 0 _ (by omega) (by omega) (by omega) ?_
    rw [← hcs]
    simp only [Int.toNat_zero, List.drop_zero]
    congr 1
    rw [Bool.eq_iff_iff, beq_iff_eq, beq_iff_eq]; omega
  · rw [if_neg hq]
    simp only [Bool.false_eq_true, if_false]
    exact roll_j8 n4 m4 l b hw _ (by omega)
theorem spins_i {a b g p q : Int} (c : Bool) (h : gearOk a b = true) (hp : a / gcdGo a b = p) (hq : b / gcdGo a b = q) : impl_SpinsOf.f a b c = some (if c = true then wrap64 (p - q) else wrap64 (p + q), true) := by
  unfold impl_SpinsOf.f
  rw [petals_i, rounds_i, if_pos h, if_pos h, hp, hq]
  cases c <;> rfl
theorem starR {n m p q : Int} (h : gearOk n m = true) (hp : n / gcdGo n m = p) (hq : m / gcdGo n m = q) (h1 : 1 ≤ q) (h2 : q < p) (h3 : p ≤ 300) : ∃ s0 s1, spec_StarOfGears.f n m = some (s0, s1, decide (3 ≤ p ∧ p ≤ 60)) ∧ impl_StarOfGears.f n m = some (s0, s1, decide (3 ≤ p ∧ p ≤ 60)) ∧ (3 ≤ p ∧ p ≤ 60 → s0 = p ∧ s1 = q) := by
  have hb := gearOk_true.1 h
  have hg := gcdGo_bd (a := n) (b := m) (by omega) (by omega)
  unfold spec_StarOfGears.f impl_StarOfGears.f spec_srCommon.f
  rw [geGood_eq, petals_i, rounds_i]
  simp only [Option.bind_some]
  simp only [h, if_true]
  rw [if_neg (by omega), Int.tdiv_eq_ediv_of_nonneg (by omega), Int.tdiv_eq_ediv_of_nonneg (by omega), hp, hq, wrap_id (x := p) (by omega) (by omega), wrap_id (x := q) (by omega) (by omega), srGood_eq _ _ (by omega), isStar_eq]
  simp only [Option.bind_some]
  by_cases hpp : 3 ≤ p ∧ p ≤ 60
  · have e : (inR p 3 60 && inR q 1 (p - 1)) = true := by rw [Bool.and_eq_true, inR_true, inR_true]; omega
    rw [e, decide_eq_true hpp]
    exact ⟨p, q, rfl, rfl, fun _ => ⟨rfl, rfl⟩⟩
  · have e : (inR p 3 60 && inR q 1 (p - 1)) = false := by
      rw [Bool.and_eq_false_iff]; left; exact inR_false.2 hpp
    rw [e, decide_eq_false hpp]
    exact ⟨0, 0, rfl, rfl, fun h => absurd h hpp⟩
theorem roll_l0 {s : List Int} (hs : Bytes s) {n m g p q : Int} (h : gearOk n m = true) (e : gcdGo n m = g) (hp : n = g * p) (hq : m = g * q) (hg : 1 ≤ g) (hq0 : 1 ≤ q) (hqp : q < p) (hn : n ≤ 300) (hpn : p ≤ n) (five : Bool) (s0 s1 : Int) (h5 : five = true → 3 ≤ p ∧ p ≤ 60 ∧ s0 = p ∧ s1 = q) (d : Nat) :
    ∀ (k : Nat) (i : Int), 0 ≤ i → i + d = p → 5000 + 2 * d < k → laws_FnGearsRoll.l0 k s n m five g (cuspsL n m 0 p.toNat) ((cuspsL n m 0 p.toNat).length : Int) i s0 s1 = some true := by
  have hb := gearOk_true.1 h
  induction d with
  | zero =>
    intro k i h0 hi hk
    obtain ⟨k, rfl⟩ : ∃ m, k = m + 1 := ⟨k - 1, by omega⟩
    rw [laws_FnGearsRoll.l0, cuspsL_len, if_neg (by omega)]
    exact roll_j4 hs k (by omega)
  | succ d ih =>
    intro k i h0 hi hk
    obtain ⟨k, rfl⟩ : ∃ m, k = m + 1 := ⟨k - 1, by omega⟩
    have hL : ((cuspsL n m 0 p.toNat).length : Int) = p := by rw [cuspsL_len]; omega
    have hm := cusp_mul (n := n) (m := m) (i := i) (by omega) (by omega) (by omega) (by omega) h0 (by omega)
    have hrd : rd (cuspsL n m 0 p.toNat) i = (i * m) % n := by rw [rd_cuspsL h0 (by omega), Int.zero_add]
    have hb0 : 0 ≤ (i * m) % n := Int.emod_nonneg _ (by omega)
    have hb1 : (i * m) % n < n := Int.emod_lt_of_pos _ (by omega)
    have hgt : (i * m) % n = g * ((i * q) % p) := by
      rw [hq, hp, show i * (g * q) = g * (i * q) by grind, Int.mul_emod_mul_of_pos _ _ (by omega)]
    have hT : impl_TeethAt.f n m (wrap64 (i * m)) = some ((i * m) % n, 0, true) := by
      unfold impl_TeethAt.f
      rw [wrap_id (by omega) (by omega), areGears_one, isSteps_eq, h]
      simp only [Option.bind_some, if_true]
      rw [if_pos (inR_true.2 (by omega)), if_neg (by omega), if_neg (by omega), Int.tmod_eq_emod_of_nonneg hm.1, Int.tmod_eq_emod_of_nonneg hm.1]
      rw [Int.mul_emod_left]
    have hz : Int.tmod ((i * m) % n) g = 0 := by
      rw [hgt]; exact Int.mul_tmod_right _ _
    have hD : impl_DoMeet.f n m ((i * m) % n) 0 = some (true, true) := by
      unfold impl_DoMeet.f
      rw [teeth_eq, h, show inR ((i * m) % n) 0 (n - 1) = true from inR_true.2 (by omega), show inR 0 0 (m - 1) = true from inR_true.2 (by omega)]
      simp only [Option.bind_some, Bool.and_self, if_true]
      rw [meets_eq _ _ _ _ (by omega) (by omega) (by omega) (by omega) (by omega) (by omega), e, Int.sub_zero, hz]
      rfl
    have hn := ih k (i + 1) (by omega) (by omega) (by omega)
    rw [laws_FnGearsRoll.l0, hL, if_pos (show i < p by omega), if_pos h0, if_pos (show i < p by omega), hrd, hT]
    simp only [Option.bind_some]
    rw [hD]
    simp only [Option.bind_some]
    rw [if_neg (show ¬ g = 0 by omega), if_pos hz]
    simp only [if_true]
    rw [wrap_id (x := i + 1) (by omega) (by omega)]
    rw [hL] at hn
    cases five with
    | false => rw [if_neg (by decide)]; exact hn
    | true =>
      obtain ⟨p3, p60, rfl, rfl⟩ := h5 rfl
      have hiq := mul_bd (a := i) (b := s1) (A := 300) (B := 300) (by omega) (by omega) (by omega) (by omega)
      have hP : impl_PointAfter.f s0 s1 0 i = some ((i * s1) % s0, true) := by
        unfold impl_PointAfter.f impl_isPoint.f
        rw [isStar_eq, within_eq, show inR s0 3 60 = true from inR_true.2 (by omega), show inR s1 1 (s0 - 1) = true from inR_true.2 (by omega), wrap_id (x := s0 - 1) (by omega) (by omega), show inR i 0 1000000 = true from inR_true.2 (by omega)]
        simp only [Option.bind_some, Bool.and_self, List.all_cons, List.all_nil, Bool.and_true, Bool.true_and]
        rw [if_pos (inR_true.2 (by omega))]
        simp only [if_true]
        rw [if_neg (by omega), wrap_id (x := i * s1) (by omega) (by omega), Int.zero_add, wrap_id (x := i * s1) (by omega) (by omega), Int.tmod_eq_emod_of_nonneg hiq.1]
      rw [if_pos rfl, hP]
      simp only [Option.bind_some, if_true]
      rw [Int.mul_comm, ← hgt, wrap_id (by omega) (by omega), if_pos rfl]
      exact hn
theorem roll_j0 {s : List Int} (hs : Bytes s) {n m : Int} (five : Bool) (s0 s1 : Int) (h5 : gearOk n m = true → five = true → 3 ≤ n / gcdGo n m ∧ n / gcdGo n m ≤ 60 ∧ s0 = n / gcdGo n m ∧ s1 = m / gcdGo n m) (P Q : Int) (hP : gearOk n m = true → P = n / gcdGo n m ∧ Q = m / gcdGo n m) :
    ∀ k, 7000 ≤ k → laws_FnGearsRoll.j0 k s n m (cuspsR n m).1 (cuspsR n m).2 P Q five false s0 s1 = some true := by
  intro k hk
  obtain ⟨k, rfl⟩ : ∃ m, k = m + 1 := ⟨k - 1, by omega⟩
  rw [laws_FnGearsRoll.j0, if_neg (by decide)]
  unfold cuspsR
  by_cases h : gearOk n m = true
  · obtain ⟨g, p, q, x, y, e, hp, hq, hg, hq0, hqp, hpn, ep, eq, h1, b1, b2, b3, b4⟩ := gear_num h
    have h5' := h5 h
    obtain ⟨rfl, rfl⟩ := hP h
    rw [e, ep, eq] at h5'
    rw [if_pos h, e, ep, eq]
    simp only [if_true]
    have ei := fun c => spins_i (g := g) (p := p) (q := q) c h (by rw [e]; exact ep) (by rw [e]; exact eq)
    rw [ei, ei]
    simp only [Option.bind_some, if_true, Bool.false_eq_true, if_false, bne_self_eq_false]
    rw [cuspsL_len, if_pos (by omega), if_pos (by congr 1; grind), if_neg (by omega)]
    have egp : wrap64 (Int.tdiv n p) = g := by
      have : n / p = g := by rw [hp]; exact Int.mul_ediv_cancel _ (by omega)
      rw [Int.tdiv_eq_ediv_of_nonneg (by omega), this]
      have : g * 1 ≤ g * p := Int.mul_le_mul_of_nonneg_left (by omega) (by omega)
      exact wrap_id (by omega) (by omega)
    rw [egp]
    have hl := roll_l0 hs h e hp hq hg hq0 hqp (by omega) hpn five s0 s1 h5' p.toNat k 0 (by omega) (by omega) (by omega)
    rw [cuspsL_len] at hl
    exact hl
  · rw [if_neg h]
    simp only [Bool.false_eq_true, if_false]
    exact roll_j4 hs _ (by omega)
theorem FnGearsRoll : laws_FnGearsRoll.Pure := by
  intro l0 l1 _ _ hw0 _ _ hw1
  refine ⟨9000, ?_⟩
  unfold laws_FnGearsRoll.f laws_big.f
  by_cases hl : (l0.length : Int) > 1048576
  · rw [if_pos hl]; rfl
  rw [if_neg hl, wrap_id (by omega) (by omega)]
  simp only [Option.bind_some]
  by_cases hl1 : (l1.length : Int) > 1048576 - l0.length
  · rw [decide_eq_true hl1]; rfl
  rw [decide_eq_false hl1]
  have hs0 := Bytes.of (by omega) hw0
  have hs1 := Bytes.of (by omega) hw1
  obtain ⟨n, m, e0⟩ := drawCusps hs0
  have hlen := cuspsR_len n m
  simp only [Bool.false_eq_true, if_false]
  rw [e0]
  simp only [Option.bind_some]
  rw [cuspsI (by omega)]
  simp only [Option.bind_some]
  rw [cuspsS (by omega)]
  simp only [Option.bind_some]
  rw [petals_i, petals_s, rounds_i, rounds_s]
  simp only [Option.bind_some]
  by_cases h : gearOk n m = true
  · obtain ⟨g, p, q, x, y, e, hp, hq, hg, hq0, hqp, hpn, ep, eq, h1, b1, b2, b3, b4⟩ := gear_num h
    obtain ⟨s0, s1, t1, t2, t3⟩ := starR h (by rw [e]; exact ep) (by rw [e]; exact eq) hq0 hqp (by omega)
    have hc2 : (cuspsR n m).2 = true := by unfold cuspsR; rw [if_pos h]
    rw [t1, t2]
    simp only [Option.bind_some, h, if_true, bne_self_eq_false, Bool.false_eq_true, if_false]
    rw [uSame_self (by omega) (by omega)]
    simp only [Option.bind_some, if_true, beq_self_eq_true, Bool.not_true, Bool.or_self, Bool.false_eq_true, if_false, hc2, bne_self_eq_false]
    rw [e, ep, eq]
    have hfin := roll_j0 hs1 (n := n) (m := m) (decide (3 ≤ p ∧ p ≤ 60)) s0 s1 (by
      intro _ hd
      have hd := of_decide_eq_true hd
      rw [e, ep, eq]
      exact ⟨hd.1, hd.2, t3 hd⟩) p q (by intro _; rw [e, ep, eq]; exact ⟨rfl, rfl⟩) 9000 (by omega)
    rw [hc2] at hfin
    by_cases hp3 : p ≥ 3
    · rw [if_pos hp3]
      have : (decide (3 ≤ p ∧ p ≤ 60) != decide (p ≤ 60)) = false := by
        rw [show decide (3 ≤ p ∧ p ≤ 60) = decide (p ≤ 60) by rw [decide_eq_decide]; omega]; simp
      rw [this]; exact hfin
    · rw [if_neg hp3]
      have : (decide (3 ≤ p ∧ p ≤ 60) != false) = false := by
        rw [decide_eq_false (by omega)]; rfl
      rw [this]; exact hfin
  · have hs : ∃ s0 s1, spec_StarOfGears.f n m = some (s0, s1, false) ∧ impl_StarOfGears.f n m = some (s0, s1, false) := by
      unfold spec_StarOfGears.f impl_StarOfGears.f
      rw [geGood_eq, petals_i, rounds_i]
      simp only [Option.bind_some, h, Bool.false_eq_true, if_false]
      exact ⟨_, _, rfl, rfl⟩
    obtain ⟨s0, s1, t1, t2⟩ := hs
    have hc2 : (cuspsR n m).2 = false := by unfold cuspsR; rw [if_neg h]
    rw [t1, t2]
    simp only [Option.bind_some, h, if_false, bne_self_eq_false, Bool.false_eq_true]
    rw [uSame_self (by omega) (by omega)]
    simp only [Option.bind_some, if_true, beq_self_eq_true, Bool.not_true, Bool.or_self, Bool.false_eq_true, if_false, hc2, bne_self_eq_false]
    have hfin := roll_j0 hs1 (n := n) (m := m) false s0 s1 (fun h' => absurd h' h) 0 0 (fun h' => absurd h' h) 9000 (by omega)
    rw [hc2] at hfin
    exact hfin

end Go.Proofs.Ytkbioklfdfopmaa.Pure
