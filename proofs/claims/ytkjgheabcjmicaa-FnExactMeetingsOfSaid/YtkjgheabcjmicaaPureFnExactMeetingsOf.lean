/- What is proved: the pure statement of the law FnExactMeetingsOf, about numbers and lists alone; no condition. -/
import Derived.Test.YtkjgheabcjmicaaPx7
namespace Go.Proofs.Ytkjgheabcjmicaa.Pure
open Go.RowKit Go.Proofs.Ytkjgheabcjmicaa.P Go.Proofs.YtkjgheabcjmicaaW.PrintWords Go.Proofs.YtkjgheabcjmicaaW.PrintLast
set_option linter.unusedVariables false
set_option linter.unusedSimpArgs false

theorem l1In_eq (n lo hi : Int) : spec_l1In.f n lo hi = some (inR n lo hi) := by
  unfold spec_l1In.f inR
  by_cases h : n ≥ lo
  · rw [if_pos h]; congr 1; simp only [decide_eq_decide]; omega
  · rw [if_neg h]; congr 1; exact (decide_eq_false (by omega)).symm
theorem wrap_one {n lo hi : Int} (h : inR n lo hi = true) (h1 : -1000000 ≤ lo) (h2 : hi ≤ 1000000) : wrap64 (n - 1) = n - 1 := by
  have := inR_true.1 h
  unfold wrap64
  omega
/-- A ring and a wheel. -/
def gearOk (a b : Int) : Bool := inR a 3 300 && inR b 1 (a - 1)
theorem gearOk_true {a b : Int} : gearOk a b = true ↔ 3 ≤ a ∧ a ≤ 300 ∧ 1 ≤ b ∧ b ≤ a - 1 := by
  simp only [gearOk, Bool.and_eq_true, inR_true]
  omega
theorem geGood_eq (a b : Int) : spec_geGood.f a b = some (gearOk a b) := by
  unfold spec_geGood.f gearOk
  rw [l1In_eq]
  simp only [Option.bind_some]
  by_cases h : inR a 3 300 = true
  · rw [if_pos h, wrap_one h (by omega) (by omega), l1In_eq, h]; rfl
  · rw [if_neg h]; simp only [Bool.not_eq_true] at h; rw [h]; rfl
theorem areGears_one (a b : Int) : impl_areGears.f a [b] = some (gearOk a b) := by
  simp [impl_areGears.f, gearOk]
theorem petals_s (a b : Int) : spec_PetalsOf.f a b = some (if gearOk a b = true then (a / gcdGo a b, true) else (0, false)) := by
  unfold spec_PetalsOf.f spec_srCommon.f
  rw [geGood_eq]
  simp only [Option.bind_some]
  by_cases h : gearOk a b = true
  · have hb := gearOk_true.1 h
    have hg := gcdGo_bd (a := a) (b := b) (by omega) (by omega)
    rw [if_pos h, if_pos h, if_neg (by omega), Int.tdiv_eq_ediv_of_nonneg (by omega)]
    have : a / gcdGo a b ≤ a := Int.ediv_le_self _ (by omega)
    have h0 : 0 ≤ a / gcdGo a b := Int.ediv_nonneg (by omega) (by omega)
    rw [show wrap64 (a / gcdGo a b) = a / gcdGo a b by unfold wrap64; omega]
  · rw [if_neg h, if_neg h]
theorem petals_i (a b : Int) : impl_PetalsOf.f a b = some (if gearOk a b = true then (a / gcdGo a b, true) else (0, false)) := by
  unfold impl_PetalsOf.f impl_divisor.f
  rw [areGears_one]
  simp only [Option.bind_some]
  by_cases h : gearOk a b = true
  · have hb := gearOk_true.1 h
    have hg := gcdGo_bd (a := a) (b := b) (by omega) (by omega)
    rw [if_pos h, if_pos h, if_neg (by omega), Int.tdiv_eq_ediv_of_nonneg (by omega)]
    have : a / gcdGo a b ≤ a := Int.ediv_le_self _ (by omega)
    have h0 : 0 ≤ a / gcdGo a b := Int.ediv_nonneg (by omega) (by omega)
    rw [show wrap64 (a / gcdGo a b) = a / gcdGo a b by unfold wrap64; omega]
  · rw [if_neg h, if_neg h]
theorem gcdF_bez : ∀ (k : Nat) (a b : Int), ∃ x y : Int, gcdF k a b = a * x + b * y
  | 0, a, b => ⟨1, 0, by simp [gcdF]⟩
  | k + 1, a, b => by
    unfold gcdF
    by_cases h : b > 0
    · rw [if_pos h]
      obtain ⟨x, y, hxy⟩ := gcdF_bez k b (Int.tmod a b)
      rw [Int.tmod_def] at hxy
      exact ⟨y, x - Int.tdiv a b * y, by rw [Int.tmod_def, hxy]; grind⟩
    · rw [if_neg h]; exact ⟨1, 0, by omega⟩
theorem gcdGo_bez (a b : Int) : ∃ x y : Int, gcdGo a b = a * x + b * y := gcdF_bez _ _ _
theorem gcdGo_l {a b : Int} (ha : 0 ≤ a) (hb : 0 ≤ b) : ∃ p, a = gcdGo a b * p := by
  rw [gcdGo_of ha hb]
  obtain ⟨p, hp⟩ := Nat.gcd_dvd_left a.toNat b.toNat
  refine ⟨p, ?_⟩
  rw [← Int.natCast_mul, ← hp]; omega
theorem gcdGo_r {a b : Int} (ha : 0 ≤ a) (hb : 0 ≤ b) : ∃ p, b = gcdGo a b * p := by
  rw [gcdGo_of ha hb]
  obtain ⟨p, hp⟩ := Nat.gcd_dvd_right a.toNat b.toNat
  refine ⟨p, ?_⟩
  rw [← Int.natCast_mul, ← hp]; omega
theorem geTeeth_eq (a b c d : Int) : spec_geTeeth.f a b c d = some (gearOk a b && inR c 0 (a - 1) && inR d 0 (b - 1)) := by
  unfold spec_geTeeth.f
  rw [geGood_eq]
  simp only [Option.bind_some]
  by_cases h : gearOk a b = true
  · have hb := gearOk_true.1 h
    rw [if_pos h, h, show wrap64 (a - 1) = a - 1 by unfold wrap64; omega, show wrap64 (b - 1) = b - 1 by unfold wrap64; omega, l1In_eq, l1In_eq]
    cases inR c 0 (a - 1) <;> rfl
  · rw [if_neg h]; simp only [Bool.not_eq_true] at h; rw [h]; rfl
/-- Teeth a and b meet when the ring has gone around j times. -/
def meetAt (n m a b j : Int) : Prop := (a + j * n) % m = b
theorem meet_ex {n m a b : Int} (hn : 0 < n) (hm : 0 < m) (ha : 0 ≤ a) (hb : 0 ≤ b) (hbm : b < m) : Int.tmod (a - b) (gcdGo n m) = 0 ↔ ∃ j, 0 ≤ j ∧ j < m ∧ meetAt n m a b j := by
  obtain ⟨x, y, hxy⟩ := gcdGo_bez n m
  obtain ⟨p, hp⟩ := gcdGo_l (a := n) (b := m) (by omega) (by omega)
  obtain ⟨q, hq⟩ := gcdGo_r (a := n) (b := m) (by omega) (by omega)
  rw [← Int.dvd_iff_tmod_eq_zero]
  constructor
  · rintro ⟨t, ht⟩
    refine ⟨(-x * t) % m, Int.emod_nonneg _ (by omega), Int.emod_lt_of_pos _ hm, ?_⟩
    unfold meetAt
    have e : a + (-x * t) % m * n = b + m * (t * y - (-x * t) / m * n) := by
      have := Int.emod_add_mul_ediv (-x * t) m
      have h2 : (-x * t) % m = -x * t - m * ((-x * t) / m) := by omega
      rw [h2, show a = b + gcdGo n m * t by omega, hxy]
      grind
    rw [e, Int.add_mul_emod_self_left, Int.emod_eq_of_lt hb hbm]
  · rintro ⟨j, _, _, hj⟩
    unfold meetAt at hj
    have := Int.emod_add_mul_ediv (a + j * n) m
    rw [hj] at this
    generalize (a + j * n) / m = s at this
    generalize gcdGo n m = g at *
    exact ⟨q * s - j * p, by rw [Int.mul_sub]; grind⟩
theorem meet_no {n m a b : Int} (hn0 : 3 ≤ n) (hn : n ≤ 300) (hm0 : 1 ≤ m) (hm : m ≤ 300) (ha : 0 ≤ a) (han : a < n) : ∀ (d k : Nat) (i : Int), 0 ≤ i → i + d = m → d < k → (∀ j, i ≤ j → j < m → ¬ meetAt n m a b j) → spec_geMeet.l0 k n m b (a + i * n) = some (-1)
  | 0, k + 1, i, hi, hd, hk, h => by
    have e : i = m := by omega
    subst e
    have h1 : i * n ≤ 300 * 300 := Int.mul_le_mul hm hn (by omega) (by omega)
    have h0 : 0 ≤ i * n := Int.mul_nonneg (by omega) (by omega)
    rw [spec_geMeet.l0, show wrap64 (n * i) = i * n by rw [Int.mul_comm]; unfold wrap64; omega, if_neg (by omega)]
  | d + 1, k + 1, i, hi, hd, hk, h => by
    have h1 : m * n ≤ 300 * 300 := Int.mul_le_mul hm hn (by omega) (by omega)
    have h0 : 0 ≤ i * n := Int.mul_nonneg (by omega) (by omega)
    have h2 : (i + 1) * n ≤ m * n := Int.mul_le_mul_of_nonneg_right (by omega) (by omega)
    have h3 : (i + 1) * n = i * n + n := by rw [Int.add_mul]; omega
    have h4 := h i (by omega) (by omega)
    unfold meetAt at h4
    rw [spec_geMeet.l0, show wrap64 (n * m) = m * n by rw [Int.mul_comm]; unfold wrap64; omega, if_pos (by omega), if_neg (by omega), Int.tmod_eq_emod_of_nonneg (by omega), if_neg h4,
      show wrap64 (a + i * n + n) = a + (i + 1) * n by unfold wrap64; omega]
    exact meet_no hn0 hn hm0 hm ha han d k (i + 1) (by omega) (by omega) (by omega) (fun j hj hjm => h j (by omega) hjm)
theorem meet_yes {n m a b : Int} (hn0 : 3 ≤ n) (hn : n ≤ 300) (hm0 : 1 ≤ m) (hm : m ≤ 300) (ha : 0 ≤ a) (han : a < n) : ∀ (d : Nat) (i : Int), 0 ≤ i → i + d = m → (∃ j, i ≤ j ∧ j < m ∧ meetAt n m a b j) → ∃ r, 0 ≤ r ∧ ∀ k : Nat, d < k → spec_geMeet.l0 k n m b (a + i * n) = some r
  | 0, i, hi, hd, h => by obtain ⟨j, _, _, _⟩ := h; omega
  | d + 1, i, hi, hd, h => by
    have h1 : m * n ≤ 300 * 300 := Int.mul_le_mul hm hn (by omega) (by omega)
    have h0 : 0 ≤ i * n := Int.mul_nonneg (by omega) (by omega)
    have h2 : (i + 1) * n ≤ m * n := Int.mul_le_mul_of_nonneg_right (by omega) (by omega)
    have h3 : (i + 1) * n = i * n + n := by rw [Int.add_mul]; omega
    by_cases h4 : meetAt n m a b i
    · refine ⟨a + i * n, by omega, ?_⟩
      intro k hk
      obtain ⟨k, rfl⟩ : ∃ q, k = q + 1 := ⟨k - 1, by omega⟩
      unfold meetAt at h4
      rw [spec_geMeet.l0, show wrap64 (n * m) = m * n by rw [Int.mul_comm]; unfold wrap64; omega, if_pos (by omega), if_neg (by omega), Int.tmod_eq_emod_of_nonneg (by omega), if_pos h4]
    · obtain ⟨r, hr, hk⟩ := meet_yes hn0 hn hm0 hm ha han d (i + 1) (by omega) (by omega) (by
        obtain ⟨j, h5, h6, h7⟩ := h
        rcases Int.lt_or_eq_of_le h5 with h8 | h8
        · exact ⟨j, by omega, h6, h7⟩
        · subst h8; exact absurd h7 h4)
      refine ⟨r, hr, ?_⟩
      intro k hd
      obtain ⟨k, rfl⟩ : ∃ q, k = q + 1 := ⟨k - 1, by omega⟩
      unfold meetAt at h4
      rw [spec_geMeet.l0, show wrap64 (n * m) = m * n by rw [Int.mul_comm]; unfold wrap64; omega, if_pos (by omega), if_neg (by omega), Int.tmod_eq_emod_of_nonneg (by omega), if_neg h4,
        show wrap64 (a + i * n + n) = a + (i + 1) * n by unfold wrap64; omega]
      exact hk k (by omega)
/-- What the reference's search for a meeting tells. -/
theorem meet_f {n m a b : Int} (hn0 : 3 ≤ n) (hn : n ≤ 300) (hm0 : 1 ≤ m) (hm : m ≤ 300) (ha : 0 ≤ a) (han : a < n) (hb : 0 ≤ b) (hbm : b < m) :
    ∃ r, (decide (r ≥ 0) = (Int.tmod (a - b) (gcdGo n m) == 0)) ∧ (r < 0 → r = -1) ∧ ∀ k : Nat, 301 < k → spec_geMeet.f k n m a b = some r := by
  have hx := meet_ex (n := n) (m := m) (a := a) (b := b) (by omega) (by omega) ha hb hbm
  by_cases h : ∃ j, 0 ≤ j ∧ j < m ∧ meetAt n m a b j
  · obtain ⟨r, h0, hk⟩ := meet_yes hn0 hn hm0 hm ha han m.toNat 0 (by omega) (by omega) h
    refine ⟨r, ?_, by omega, ?_⟩
    · rw [hx.2 h]; simp; omega
    · intro k h1
      have := hk k (by omega)
      simpa [spec_geMeet.f] using this
  · refine ⟨-1, ?_, by omega, ?_⟩
    · have : ¬ Int.tmod (a - b) (gcdGo n m) = 0 := fun e => h (hx.1 e)
      simp [this]
    · intro k h1
      have := meet_no (b := b) hn0 hn hm0 hm ha han m.toNat k 0 (by omega) (by omega) (by omega) (fun j h2 h3 h4 => h ⟨j, h2, h3, h4⟩)
      simpa [spec_geMeet.f] using this
/-- The numbers i, i + 1, .. of the next d at which p holds. -/
def numsD (p : Int → Bool) (i : Int) : Nat → List Int
  | 0 => []
  | d + 1 => if p i = true then i :: numsD p (i + 1) d else numsD p (i + 1) d
theorem numsD_len (p : Int → Bool) (i : Int) (d : Nat) : (numsD p i d).length ≤ d := by
  induction d generalizing i with
  | zero => simp [numsD]
  | succ d ih =>
    have := ih (i + 1)
    simp only [numsD]
    split
    · simp; omega
    · omega
theorem numsD_congr {p q : Int → Bool} {i : Int} {d : Nat} (h : ∀ x, i ≤ x → x < i + d → p x = q x) : numsD p i d = numsD q i d := by
  induction d generalizing i with
  | zero => rfl
  | succ d ih =>
    have h0 := h i (by omega) (by omega)
    have h1 := ih (i := i + 1) (fun x hx hy => h x (by omega) (by omega))
    simp only [numsD, h0, h1]
theorem numsD_eq (p : Int → Bool) (i : Int) (d : Nat) : ((List.range d).map fun (j : Nat) => i + (j : Int)).filter p = numsD p i d := by
  induction d generalizing i with
  | zero => rfl
  | succ d ih =>
    rw [List.range_succ_eq_map, List.map_cons, List.map_map]
    have e : (fun (j : Nat) => i + (j : Int)) ∘ Nat.succ = fun (j : Nat) => (i + 1) + (j : Int) := by funext j; simp; omega
    rw [e, List.filter_cons, ih]
    simp [numsD]
theorem numsW_numsD (p : Int → Bool) (lo hi : Int) : numsW p lo hi = numsD p lo (hi + 1 - lo).toNat := numsD_eq p lo _
theorem numsW_len (p : Int → Bool) (lo hi : Int) : ((numsW p lo hi).length : Int) ≤ max 0 (hi + 1 - lo) := by
  rw [numsW_numsD]
  have := numsD_len p lo (hi + 1 - lo).toNat
  omega
theorem wrap_id {x : Int} (h : -9000000000000000000 ≤ x) (h2 : x ≤ 9000000000000000000) : wrap64 x = x := by unfold wrap64; omega
/-- a, a + 1, .. -/
def marks (a : Int) : Nat → List Int
  | 0 => []
  | n + 1 => a :: marks (a + 1) n
theorem marks_len (a : Int) (n : Nat) : (marks a n).length = n := by
  induction n generalizing a with
  | zero => rfl
  | succ n ih => simp [marks, ih]

theorem rd_drop {l : List Int} {i : Int} {x : Int} {r : List Int} (h0 : 0 ≤ i) (h : l.drop i.toNat = x :: r) : rd l i = x ∧ l.drop (i + 1).toNat = r ∧ i.toNat < l.length := by
  have hl : i.toNat < l.length := by
    rcases Nat.lt_or_ge i.toNat l.length with h1 | h1
    · exact h1
    · rw [List.drop_eq_nil_of_le h1] at h; cases h
  have h3 := List.drop_eq_getElem_cons hl
  rw [h3] at h
  injection h with h4 h5
  refine ⟨by simp [rd, List.getD_eq_getElem?_getD, List.getElem?_eq_getElem hl, h4], ?_, hl⟩
  rw [show (i + 1).toNat = i.toNat + 1 by omega]; exact h5
theorem eqIntS_l0 (l : List Int) (hl : (l.length : Int) ≤ 1000000000000) : ∀ (d k : Nat) (i : Int), 0 ≤ i → i + d = l.length → d < k → laws_eqIntS.l0 k l l i = some true
  | 0, k + 1, i, h0, hi, _ => by
    unfold laws_eqIntS.l0
    rw [if_neg (by omega)]
  | d + 1, k + 1, i, h0, hi, hk => by
    unfold laws_eqIntS.l0
    rw [if_pos (by omega), if_pos h0, if_pos (by omega), if_pos rfl, wrap_id (by omega) (by omega)]
    exact eqIntS_l0 l hl d k (i + 1) (by omega) (by omega) (by omega)
theorem eqIntS_self {l : List Int} (hl : (l.length : Int) ≤ 1000000000000) {k : Nat} (hk : l.length < k) : laws_eqIntS.f k l l = some true := by
  unfold laws_eqIntS.f
  rw [if_pos rfl]
  exact eqIntS_l0 l hl l.length k 0 (by omega) (by omega) hk
theorem markIntS_l0 : ∀ (d k : Nat) (l : List Int) (a i : Int), 0 ≤ i → i + d = l.length → d < k → (l.length : Int) ≤ 1000000000000 → -1000000000000 ≤ a → a + d ≤ 3000000000000 → laws_markIntS.l0 k l a i = some (a + d, l.take i.toNat ++ marks a d)
  | 0, k + 1, l, a, i, h0, hi, _, hl, ha, hb => by
    unfold laws_markIntS.l0
    rw [if_neg (by omega), List.take_of_length_le (by omega)]
    simp [marks]
  | d + 1, k + 1, l, a, i, h0, hi, hk, hl, ha, hb => by
    unfold laws_markIntS.l0
    rw [if_pos (by omega), if_pos h0, wrap_id (by omega) (by omega), wrap_id (by omega) (by omega)]
    rw [markIntS_l0 d k (l.set i.toNat a) (a + 1) (i + 1) (by omega) (by rw [List.length_set]; omega) (by omega) (by rw [List.length_set]; omega) (by omega) (by omega)]
    have e : (l.set i.toNat a).take (i + 1).toNat = l.take i.toNat ++ [a] := by
      rw [show (i + 1).toNat = i.toNat + 1 by omega, List.take_succ_eq_append_getElem (by rw [List.length_set]; omega), List.take_set_of_le (Nat.le_refl _)]
      simp
    rw [e]
    simp only [marks, List.append_assoc, List.singleton_append]
    congr 2
    omega
theorem markIntS_f {l : List Int} (hl : (l.length : Int) ≤ 1000000000000) {k : Nat} (hk : l.length < k) {a : Int} (ha : -1000000000000 ≤ a) (hb : a ≤ 2000000000000) : laws_markIntS.f k l a = some (a + l.length, marks a l.length) := by
  unfold laws_markIntS.f
  rw [markIntS_l0 l.length k l a 0 (by omega) (by omega) hk hl ha (by omega)]
  simp
theorem heldIntS_l0 : ∀ (d k : Nat) (l : List Int) (a i : Int), 0 ≤ i → i + d = l.length → l.drop i.toNat = marks a d → d < k → (l.length : Int) ≤ 1000000000000 → -1000000000000 ≤ a → a + d ≤ 3000000000000 → laws_heldIntS.l0 k l a i = some (a + d)
  | 0, k + 1, l, a, i, h0, hi, _, _, hl, ha, hb => by
    unfold laws_heldIntS.l0
    rw [if_neg (by omega)]
    simp
  | d + 1, k + 1, l, a, i, h0, hi, hd, hk, hl, ha, hb => by
    obtain ⟨e1, e2, e3⟩ := rd_drop h0 (show l.drop i.toNat = a :: marks (a + 1) d from hd)
    unfold laws_heldIntS.l0
    rw [if_pos (by omega), if_pos h0, if_pos e1, wrap_id (by omega) (by omega), wrap_id (by omega) (by omega)]
    rw [heldIntS_l0 d k l (a + 1) (i + 1) (by omega) (by omega) e2 (by omega) hl (by omega) (by omega)]
    congr 1
    omega
theorem heldIntS_f {n k : Nat} (hn : (n : Int) ≤ 1000000000000) (hk : n < k) {a : Int} (ha : -1000000000000 ≤ a) (hb : a ≤ 2000000000000) : laws_heldIntS.f k (marks a n) a = some (a + n) := by
  unfold laws_heldIntS.f
  exact heldIntS_l0 n k (marks a n) a 0 (by omega) (by rw [marks_len]; omega) (by simp) hk (by rw [marks_len]; exact hn) ha (by omega)
theorem close_MeetingsOf (a : Int) (b : Int) (c : Int) (r : List Int) (ok : Bool) (K : Nat) (hl : (r.length : Int) ≤ 1000000) (hs : ∀ k, K ≤ k → spec_MeetingsOf.f k a b c = some (r, ok)) (hi : impl_MeetingsOf.f a b c = some (r, ok)) : ∃ k, laws_FnExactMeetingsOf.f k a b c = some true := by
  obtain ⟨k, hk⟩ : ∃ k, k = K + r.length + 3 := ⟨_, rfl⟩
  refine ⟨k + 1 + 1, ?_⟩
  unfold laws_FnExactMeetingsOf.f
  rw [hs _ (by omega), hi]
  simp only [Option.bind_some]
  rw [eqIntS_self (by omega) (by omega)]
  simp only [Option.bind_some, if_true, bne_self_eq_false]
  rw [laws_FnExactMeetingsOf.j0, if_neg (by decide), markIntS_f (by omega) (by omega) (by omega) (by omega)]
  simp only [Option.bind_some]
  rw [heldIntS_f (by omega) (by omega) (by omega) (by omega)]
  simp only [Option.bind_some]
  rw [if_neg (by omega)]
  simp only [if_true]
  rw [hi]
  simp only [Option.bind_some]
  rw [eqIntS_self (by omega) (by omega)]
  simp only [Option.bind_some, if_true, bne_self_eq_false]
  rw [laws_FnExactMeetingsOf.j1, if_neg (by decide), heldIntS_f (by omega) (by omega) (by omega) (by omega)]
  simp only [Option.bind_some]
  rw [if_neg (by omega)]
  simp only [if_true]
theorem meetings_l0 (n m a : Int) (hn0 : 3 ≤ n) (hn : n ≤ 300) (hm0 : 1 ≤ m) (hm : m ≤ 300) (ha : 0 ≤ a) (han : a < n) (d : Nat) : ∀ (k : Nat) (l : List Int) (i : Int), 0 ≤ i → i + d = m → d + 302 < k → (l.length : Int) + d ≤ 1000 →
    spec_MeetingsOf.l0 k n m a l i = some (l ++ numsD (fun x => Int.tmod (a - x) (gcdGo n m) == 0) i d, true) := by
  induction d with
  | zero =>
    intro k l i hi hd hk _
    obtain ⟨k, rfl⟩ : ∃ m, k = m + 1 := ⟨k - 1, by omega⟩
    rw [spec_MeetingsOf.l0, if_neg (by omega)]
    simp [numsD]
  | succ d ih =>
    intro k l i hi hd hk hl
    obtain ⟨k, rfl⟩ : ∃ m, k = m + 1 := ⟨k - 1, by omega⟩
    obtain ⟨r, h1, h2, h3⟩ := meet_f (n := n) (m := m) (a := a) (b := i) (by omega) (by omega) (by omega) (by omega) (by omega) (by omega) (by omega) (by omega)
    rw [spec_MeetingsOf.l0, if_pos (by omega), h3 _ (by omega)]
    simp only [Option.bind_some]
    rw [wrap_id (by omega) (by omega)]
    by_cases hq : r ≥ 0
    · have h4 : (Int.tmod (a - i) (gcdGo n m) == 0) = true := by rw [← h1]; simp [hq]
      rw [if_pos hq, if_pos (by omega), ih k (l ++ [i]) (i + 1) (by omega) (by omega) (by omega) (by simp; omega)]
      simp only [numsD, h4]; simp
    · have h4 : (Int.tmod (a - i) (gcdGo n m) == 0) = false := by rw [← h1]; simp; omega
      rw [if_neg hq, ih k l (i + 1) (by omega) (by omega) (by omega) (by omega)]
      simp only [numsD, h4]; simp
theorem FnExactMeetingsOf : laws_FnExactMeetingsOf.Pure := by
  intro n m a _ _ _
  have e0 : (gearOk n m && inR a 0 (n - 1) && inR 0 0 (m - 1)) = (inR n 3 300 && inR m 1 (n - 1) && inR a 0 (n - 1)) := by
    unfold gearOk
    by_cases h : (inR n 3 300 && inR m 1 (n - 1) && inR a 0 (n - 1)) = true
    · have hb := h
      simp only [Bool.and_eq_true, inR_true] at hb
      rw [h, show inR 0 0 (m - 1) = true from inR_true.2 (by omega)]; rfl
    · simp only [Bool.not_eq_true] at h
      rw [h]; rfl
  by_cases hq : (inR n 3 300 && inR m 1 (n - 1) && inR a 0 (n - 1)) = true
  · have hb := hq
    simp only [Bool.and_eq_true, inR_true] at hb
    refine close_MeetingsOf n m a (numsW (fun x => Int.tmod (a - x) (gcdGo n m) == 0) 0 (m - 1)) true 700 ?_ ?_ ?_
    · have := numsW_len (fun x => Int.tmod (a - x) (gcdGo n m) == 0) 0 (m - 1); omega
    · intro k hk
      unfold spec_MeetingsOf.f
      rw [geTeeth_eq, e0, hq]
      simp only [Option.bind_some, if_true]
      rw [meetings_l0 n m a (by omega) (by omega) (by omega) (by omega) (by omega) (by omega) m.toNat k [] 0 (by omega) (by omega) (by omega) (by simp; omega), numsW_numsD]
      simp
    · unfold impl_MeetingsOf.f
      rw [if_pos hq]
  · refine close_MeetingsOf n m a [] false 2 (by simp) ?_ ?_
    · intro k hk
      unfold spec_MeetingsOf.f
      rw [geTeeth_eq, e0]
      simp only [Option.bind_some]
      rw [if_neg hq]
    · unfold impl_MeetingsOf.f
      rw [if_neg hq]

end Go.Proofs.Ytkjgheabcjmicaa.Pure
