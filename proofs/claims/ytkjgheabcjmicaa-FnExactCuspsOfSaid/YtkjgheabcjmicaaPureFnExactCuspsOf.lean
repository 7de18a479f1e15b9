/- What is proved: the pure statement of the law FnExactCuspsOf, about numbers and lists alone; no condition. -/
import Derived.Test.YtkjgheabcjmicaaPx6
namespace Go.Proofs.Ytkjgheabcjmicaa.Pure
open Go.RowKit Go.Proofs.Ytkjgheabcjmicaa.P Go.Proofs.YtkjgheabcjmicaaW.PrintWords Go.Proofs.YtkjgheabcjmicaaW.PrintLast
set_option linter.unusedVariables false
set_option linter.unusedSimpArgs false

theorem l1In_eq (n lo hi : Int) : spec_l1In.f n lo hi = some (inR n lo hi) := by
  unfold spec_l1In.f inR
  by_cases h : n ≥ lo
  · rw [if_pos h]; congr 1; simp only [decide_eq_decide]; omega
  · rw [if_neg h]; congr 1; exact (decide_eq_false (by omega)).symm
theorem wrap_one {n lo hi : Int} (h : inR n lo hi = true) (h1 : -1000000 ≤ lo) (h2 : hi ≤ 1000000) : wrap64 (n - 1) = n - 1 := by
  have := inR_true.1 h
  unfold wrap64
  omega
/-- A ring and a wheel. -/
def gearOk (a b : Int) : Bool := inR a 3 300 && inR b 1 (a - 1)
theorem gearOk_true {a b : Int} : gearOk a b = true ↔ 3 ≤ a ∧ a ≤ 300 ∧ 1 ≤ b ∧ b ≤ a - 1 := by
  simp only [gearOk, Bool.and_eq_true, inR_true]
  omega
theorem geGood_eq (a b : Int) : spec_geGood.f a b = some (gearOk a b) := by
  unfold spec_geGood.f gearOk
  rw [l1In_eq]
  simp only [Option.bind_some]
  by_cases h : inR a 3 300 = true
  · rw [if_pos h, wrap_one h (by omega) (by omega), l1In_eq, h]; rfl
  · rw [if_neg h]; simp only [Bool.not_eq_true] at h; rw [h]; rfl
theorem areGears_one (a b : Int) : impl_areGears.f a [b] = some (gearOk a b) := by
  simp [impl_areGears.f, gearOk]
theorem petals_s (a b : Int) : spec_PetalsOf.f a b = some (if gearOk a b = true then (a / gcdGo a b, true) else (0, false)) := by
  unfold spec_PetalsOf.f spec_srCommon.f
  rw [geGood_eq]
  simp only [Option.bind_some]
  by_cases h : gearOk a b = true
  · have hb := gearOk_true.1 h
    have hg := gcdGo_bd (a := a) (b := b) (by omega) (by omega)
    rw [if_pos h, if_pos h, if_neg (by omega), Int.tdiv_eq_ediv_of_nonneg (by omega)]
    have : a / gcdGo a b ≤ a := Int.ediv_le_self _ (by omega)
    have h0 : 0 ≤ a / gcdGo a b := Int.ediv_nonneg (by omega) (by omega)
    rw [show wrap64 (a / gcdGo a b) = a / gcdGo a b by unfold wrap64; omega]
  · rw [if_neg h, if_neg h]
theorem petals_i (a b : Int) : impl_PetalsOf.f a b = some (if gearOk a b = true then (a / gcdGo a b, true) else (0, false)) := by
  unfold impl_PetalsOf.f impl_divisor.f
  rw [areGears_one]
  simp only [Option.bind_some]
  by_cases h : gearOk a b = true
  · have hb := gearOk_true.1 h
    have hg := gcdGo_bd (a := a) (b := b) (by omega) (by omega)
    rw [if_pos h, if_pos h, if_neg (by omega), Int.tdiv_eq_ediv_of_nonneg (by omega)]
    have : a / gcdGo a b ≤ a := Int.ediv_le_self _ (by omega)
    have h0 : 0 ≤ a / gcdGo a b := Int.ediv_nonneg (by omega) (by omega)
    rw [show wrap64 (a / gcdGo a b) = a / gcdGo a b by unfold wrap64; omega]
  · rw [if_neg h, if_neg h]
theorem gcdF_bez : ∀ (k : Nat) (a b : Int), ∃ x y : Int, gcdF k a b = a * x + b * y
  | 0, a, b => ⟨1, 0, by simp [gcdF]⟩
  | k + 1, a, b => by
    unfold gcdF
    by_cases h : b > 0
    · rw [if_pos h]
      obtain ⟨x, y, hxy⟩ := gcdF_bez k b (Int.tmod a b)
      rw [Int.tmod_def] at hxy
      exact ⟨y, x - Int.tdiv a b * y, by rw [Int.tmod_def, hxy]; grind⟩
    · rw [if_neg h]; exact ⟨1, 0, by omega⟩
theorem gcdGo_bez (a b : Int) : ∃ x y : Int, gcdGo a b = a * x + b * y := gcdF_bez _ _ _
theorem gcdGo_l {a b : Int} (ha : 0 ≤ a) (hb : 0 ≤ b) : ∃ p, a = gcdGo a b * p := by
  rw [gcdGo_of ha hb]
  obtain ⟨p, hp⟩ := Nat.gcd_dvd_left a.toNat b.toNat
  refine ⟨p, ?_⟩
  rw [← Int.natCast_mul, ← hp]; omega
theorem gcdGo_r {a b : Int} (ha : 0 ≤ a) (hb : 0 ≤ b) : ∃ p, b = gcdGo a b * p := by
  rw [gcdGo_of ha hb]
  obtain ⟨p, hp⟩ := Nat.gcd_dvd_right a.toNat b.toNat
  refine ⟨p, ?_⟩
  rw [← Int.natCast_mul, ← hp]; omega
theorem wrap_id {x : Int} (h : -9000000000000000000 ≤ x) (h2 : x ≤ 9000000000000000000) : wrap64 x = x := by unfold wrap64; omega
/-- a, a + 1, .. -/
def marks (a : Int) : Nat → List Int
  | 0 => []
  | n + 1 => a :: marks (a + 1) n
theorem marks_len (a : Int) (n : Nat) : (marks a n).length = n := by
  induction n generalizing a with
  | zero => rfl
  | succ n ih => simp [marks, ih]

theorem rd_drop {l : List Int} {i : Int} {x : Int} {r : List Int} (h0 : 0 ≤ i) (h : l.drop i.toNat = x :: r) : rd l i = x ∧ l.drop (i + 1).toNat = r ∧ i.toNat < l.length := by
  have hl : i.toNat < l.length := by
    rcases Nat.lt_or_ge i.toNat l.length with h1 | h1
    · exact h1
    · rw [List.drop_eq_nil_of_le h1] at h; cases h
  have h3 := List.drop_eq_getElem_cons hl
  rw [h3] at h
  injection h with h4 h5
  refine ⟨by simp [rd, List.getD_eq_getElem?_getD, List.getElem?_eq_getElem hl, h4], ?_, hl⟩
  rw [show (i + 1).toNat = i.toNat + 1 by omega]; exact h5
theorem eqIntS_l0 (l : List Int) (hl : (l.length : Int) ≤ 1000000000000) : ∀ (d k : Nat) (i : Int), 0 ≤ i → i + d = l.length → d < k → laws_eqIntS.l0 k l l i = some true
  | 0, k + 1, i, h0, hi, _ => by
    unfold laws_eqIntS.l0
    rw [if_neg (by omega)]
  | d + 1, k + 1, i, h0, hi, hk => by
    unfold laws_eqIntS.l0
    rw [if_pos (by omega), if_pos h0, if_pos (by omega), if_pos rfl, wrap_id (by omega) (by omega)]
    exact eqIntS_l0 l hl d k (i + 1) (by omega) (by omega) (by omega)
theorem eqIntS_self {l : List Int} (hl : (l.length : Int) ≤ 1000000000000) {k : Nat} (hk : l.length < k) : laws_eqIntS.f k l l = some true := by
  unfold laws_eqIntS.f
  rw [if_pos rfl]
  exact eqIntS_l0 l hl l.length k 0 (by omega) (by omega) hk
theorem markIntS_l0 : ∀ (d k : Nat) (l : List Int) (a i : Int), 0 ≤ i → i + d = l.length → d < k → (l.length : Int) ≤ 1000000000000 → -1000000000000 ≤ a → a + d ≤ 3000000000000 → laws_markIntS.l0 k l a i = some (a + d, l.take i.toNat ++ marks a d)
  | 0, k + 1, l, a, i, h0, hi, _, hl, ha, hb => by
    unfold laws_markIntS.l0
    rw [if_neg (by omega), List.take_of_length_le (by omega)]
    simp [marks]
  | d + 1, k + 1, l, a, i, h0, hi, hk, hl, ha, hb => by
    unfold laws_markIntS.l0
    rw [if_pos (by omega), if_pos h0, wrap_id (by omega) (by omega), wrap_id (by omega) (by omega)]
    rw [markIntS_l0 d k (l.set i.toNat a) (a + 1) (i + 1) (by omega) (by rw [List.length_set]; omega) (by omega) (by rw [List.length_set]; omega) (by omega) (by omega)]
    have e : (l.set i.toNat a).take (i + 1).toNat = l.take i.toNat ++ [a] := by
      rw [show (i + 1).toNat = i.toNat + 1 by omega, List.take_succ_eq_append_getElem (by rw [List.length_set]; omega), List.take_set_of_le (Nat.le_refl _)]
      simp
    rw [e]
    simp only [marks, List.append_assoc, List.singleton_append]
    congr 2
    omega
theorem markIntS_f {l : List Int} (hl : (l.length : Int) ≤ 1000000000000) {k : Nat} (hk : l.length < k) {a : Int} (ha : -1000000000000 ≤ a) (hb : a ≤ 2000000000000) : laws_markIntS.f k l a = some (a + l.length, marks a l.length) := by
  unfold laws_markIntS.f
  rw [markIntS_l0 l.length k l a 0 (by omega) (by omega) hk hl ha (by omega)]
  simp
theorem heldIntS_l0 : ∀ (d k : Nat) (l : List Int) (a i : Int), 0 ≤ i → i + d = l.length → l.drop i.toNat = marks a d → d < k → (l.length : Int) ≤ 1000000000000 → -1000000000000 ≤ a → a + d ≤ 3000000000000 → laws_heldIntS.l0 k l a i = some (a + d)
  | 0, k + 1, l, a, i, h0, hi, _, _, hl, ha, hb => by
    unfold laws_heldIntS.l0
    rw [if_neg (by omega)]
    simp
  | d + 1, k + 1, l, a, i, h0, hi, hd, hk, hl, ha, hb => by
    obtain ⟨e1, e2, e3⟩ := rd_drop h0 (show l.drop i.toNat = a :: marks (a + 1) d from hd)
    unfold laws_heldIntS.l0
    rw [if_pos (by omega), if_pos h0, if_pos e1, wrap_id (by omega) (by omega), wrap_id (by omega) (by omega)]
    rw [heldIntS_l0 d k l (a + 1) (i + 1) (by omega) (by omega) e2 (by omega) hl (by omega) (by omega)]
    congr 1
    omega
theorem heldIntS_f {n k : Nat} (hn : (n : Int) ≤ 1000000000000) (hk : n < k) {a : Int} (ha : -1000000000000 ≤ a) (hb : a ≤ 2000000000000) : laws_heldIntS.f k (marks a n) a = some (a + n) := by
  unfold laws_heldIntS.f
  exact heldIntS_l0 n k (marks a n) a 0 (by omega) (by rw [marks_len]; omega) (by simp) hk (by rw [marks_len]; exact hn) ha (by omega)
theorem close_CuspsOf (a : Int) (b : Int) (r : List Int) (ok : Bool) (K : Nat) (hl : (r.length : Int) ≤ 1000000) (hs : ∀ k, K ≤ k → spec_CuspsOf.f k a b = some (r, ok)) (hi : ∀ k, K ≤ k → impl_CuspsOf.f k a b = some (r, ok)) : ∃ k, laws_FnExactCuspsOf.f k a b = some true := by
  obtain ⟨k, hk⟩ : ∃ k, k = K + r.length + 3 := ⟨_, rfl⟩
  refine ⟨k + 1 + 1, ?_⟩
  unfold laws_FnExactCuspsOf.f
  rw [hs _ (by omega), hi _ (by omega)]
  simp only [Option.bind_some]
  rw [eqIntS_self (by omega) (by omega)]
  simp only [Option.bind_some, if_true, bne_self_eq_false]
  rw [laws_FnExactCuspsOf.j0, if_neg (by decide), markIntS_f (by omega) (by omega) (by omega) (by omega)]
  simp only [Option.bind_some]
  rw [heldIntS_f (by omega) (by omega) (by omega) (by omega)]
  simp only [Option.bind_some]
  rw [if_neg (by omega)]
  simp only [if_true]
  rw [hi _ (by omega)]
  simp only [Option.bind_some]
  rw [eqIntS_self (by omega) (by omega)]
  simp only [Option.bind_some, if_true, bne_self_eq_false]
  rw [laws_FnExactCuspsOf.j1, if_neg (by decide), heldIntS_f (by omega) (by omega) (by omega) (by omega)]
  simp only [Option.bind_some]
  rw [if_neg (by omega)]
  simp only [if_true]
/-- Cusps i, i + 1, .. of the next d. -/
def cuspsL (n m i : Int) : Nat → List Int
  | 0 => []
  | d + 1 => (i * m) % n :: cuspsL n m (i + 1) d
theorem cuspsL_len (n m : Int) : ∀ (d : Nat) (i : Int), (cuspsL n m i d).length = d
  | 0, _ => rfl
  | d + 1, i => by simp [cuspsL, cuspsL_len n m d]
theorem cusp_mul {n m i : Int} (h0 : 3 ≤ n) (h1 : n ≤ 300) (h2 : 1 ≤ m) (h3 : m < n) (h4 : 0 ≤ i) (h5 : i ≤ 300) : 0 ≤ i * m ∧ i * m ≤ 90000 := by
  have a := Int.mul_le_mul h5 (show m ≤ 300 by omega) (by omega) (by omega)
  have b : 0 ≤ i * m := Int.mul_nonneg h4 (by omega)
  omega
theorem cusps_i (n m p : Int) (h0 : 3 ≤ n) (h1 : n ≤ 300) (h2 : 1 ≤ m) (h3 : m < n) (hp : p ≤ 300) : ∀ (d k : Nat) (l : List Int) (i : Int), 0 ≤ i → i + d = p → d < k → (l.length : Int) + d ≤ 1000 → impl_CuspsOf.l0 k n m l p i = some (l ++ cuspsL n m i d, true) := by
  intro d; induction d with
  | zero =>
    intro k l i hi hd hk hl
    obtain ⟨k, rfl⟩ : ∃ m, k = m + 1 := ⟨k - 1, by omega⟩
    rw [impl_CuspsOf.l0, if_neg (by omega)]; simp [cuspsL]
  | succ d ih =>
    intro k l i hi hd hk hl
    obtain ⟨k, rfl⟩ : ∃ m, k = m + 1 := ⟨k - 1, by omega⟩
    have hm := cusp_mul h0 h1 h2 h3 hi (by omega)
    rw [impl_CuspsOf.l0, if_pos (by omega), if_neg (by omega), if_pos (by omega), wrap_id (by omega) (by omega), wrap_id (by omega) (by omega), Int.tmod_eq_emod_of_nonneg (by omega),
      ih k _ (i + 1) (by omega) (by omega) (by omega) (by simp; omega)]
    simp [cuspsL]
theorem cusps_s (n m p : Int) (h0 : 3 ≤ n) (h1 : n ≤ 300) (h2 : 1 ≤ m) (h3 : m < n) (hp : p ≤ 300) (hz : (p * m) % n = 0) (hn : ∀ k, 1 ≤ k → k < p → (k * m) % n ≠ 0) : ∀ (d k : Nat) (l : List Int) (i : Int), 1 ≤ i → i + d = p → d < k → (l.length : Int) + d ≤ 1000 → spec_geCusps.l0 k n m l ((i * m) % n) = some (l ++ cuspsL n m i d) := by
  intro d; induction d with
  | zero =>
    intro k l i hi hd hk hl
    obtain ⟨k, rfl⟩ : ∃ m, k = m + 1 := ⟨k - 1, by omega⟩
    rw [spec_geCusps.l0, show i = p by omega, hz, if_pos rfl]; simp [cuspsL]
  | succ d ih =>
    intro k l i hi hd hk hl
    obtain ⟨k, rfl⟩ : ∃ m, k = m + 1 := ⟨k - 1, by omega⟩
    have hm := cusp_mul h0 h1 h2 h3 (show 0 ≤ i by omega) (by omega)
    have hb : 0 ≤ (i * m) % n := Int.emod_nonneg _ (by omega)
    have hc : (i * m) % n < n := Int.emod_lt_of_pos _ (by omega)
    have e : ((i * m) % n + m) % n = ((i + 1) * m) % n := by
      rw [Int.emod_add_emod, Int.add_mul, Int.one_mul]
    rw [spec_geCusps.l0, if_neg (hn i hi (by omega)), if_pos (by omega), if_neg (by omega), wrap_id (by omega) (by omega), Int.tmod_eq_emod_of_nonneg (by omega), e,
      ih k _ (i + 1) (by omega) (by omega) (by omega) (by simp; omega)]
    simp [cuspsL]
theorem FnExactCuspsOf : laws_FnExactCuspsOf.Pure := by
  intro n m _ _
  by_cases hq : gearOk n m = true
  · have hb := gearOk_true.1 hq
    have hg := gcdGo_bd (a := n) (b := m) (by omega) (by omega)
    obtain ⟨x, y, hxy⟩ := gcdGo_bez n m
    obtain ⟨p, hp⟩ := gcdGo_l (a := n) (b := m) (by omega) (by omega)
    obtain ⟨q, hqq⟩ := gcdGo_r (a := n) (b := m) (by omega) (by omega)
    have ep : n / gcdGo n m = p := by
      have : gcdGo n m * p / gcdGo n m = p := Int.mul_ediv_cancel_left _ (by omega)
      rw [← hp] at this; exact this
    have hpet : (if gearOk n m = true then (n / gcdGo n m, true) else ((0 : Int), false)) = (p, true) := by rw [if_pos hq, ep]
    have hp0 : 1 ≤ p := by
      rcases Int.lt_or_le p 1 with h | h
      · have : gcdGo n m * p ≤ gcdGo n m * 0 := Int.mul_le_mul_of_nonneg_left (by omega) (by omega)
        omega
      · exact h
    have hp1 : p ≤ n := by
      have : 1 * p ≤ gcdGo n m * p := Int.mul_le_mul_of_nonneg_right (by omega) (by omega)
      omega
    have hz : (p * m) % n = 0 := Int.emod_eq_zero_of_dvd ⟨q, by grind⟩
    have h1g : p * x + q * y = 1 := by
      have : gcdGo n m * (p * x + q * y) = gcdGo n m * 1 := by grind
      exact Int.eq_of_mul_eq_mul_left (by omega) this
    have hn : ∀ k, 1 ≤ k → k < p → (k * m) % n ≠ 0 := by
      intro k hk hkp h
      obtain ⟨t, ht⟩ := Int.dvd_of_emod_eq_zero h
      have h2 : k * q = p * t := by
        have : gcdGo n m * (k * q) = gcdGo n m * (p * t) := by grind
        exact Int.eq_of_mul_eq_mul_left (by omega) this
      have h3 : p ∣ k := ⟨k * x + t * y, by grind⟩
      have := Int.le_of_dvd (by omega) h3
      omega
    have eL : cuspsL n m 0 p.toNat = 0 :: cuspsL n m 1 (p - 1).toNat := by
      obtain ⟨d, hd⟩ : ∃ d, p.toNat = d + 1 := ⟨p.toNat - 1, by omega⟩
      rw [hd, show (p - 1).toNat = d by omega]; simp [cuspsL]
    refine close_CuspsOf n m (cuspsL n m 0 p.toNat) true 400 (by rw [cuspsL_len]; omega) ?_ ?_
    · intro k hk
      unfold spec_CuspsOf.f spec_geCusps.f
      rw [geGood_eq, hq]
      simp only [Option.bind_some, if_true]
      have := cusps_s n m p (by omega) (by omega) (by omega) (by omega) (by omega) hz hn (p - 1).toNat k [0] 1 (by omega) (by omega) (by omega) (by simp; omega)
      rw [Int.one_mul, Int.emod_eq_of_lt (by omega) (by omega)] at this
      rw [this, eL]; rfl
    · intro k hk
      unfold impl_CuspsOf.f
      rw [petals_i, hpet]
      simp only [Option.bind_some, if_true]
      rw [cusps_i n m p (by omega) (by omega) (by omega) (by omega) (by omega) p.toNat k [] 0 (by omega) (by omega) (by omega) (by simp; omega)]
      rfl
  · refine close_CuspsOf n m [] false 2 (by simp) ?_ ?_
    · intro k hk
      unfold spec_CuspsOf.f
      rw [geGood_eq]
      simp only [Option.bind_some]
      rw [if_neg hq]
    · intro k hk
      unfold impl_CuspsOf.f
      rw [petals_i, if_neg hq]
      rfl

end Go.Proofs.Ytkjgheabcjmicaa.Pure
