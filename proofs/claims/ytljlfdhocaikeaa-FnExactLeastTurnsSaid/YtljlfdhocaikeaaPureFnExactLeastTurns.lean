/- What is proved: the pure statement of the law FnExactLeastTurns, about numbers and lists alone; no condition. -/
import Derived.Test.YtljlfdhocaikeaaPx5
namespace Go.Proofs.Ytljlfdhocaikeaa.Pure
open Go.RowKit Go.Proofs.Ytljlfdhocaikeaa.P Go.Proofs.YtljlfdhocaikeaaW.PrintWords Go.Proofs.YtljlfdhocaikeaaW.PrintLast
set_option linter.unusedVariables false
set_option linter.unusedSimpArgs false

theorem l1In_eq (n lo hi : Int) : spec_l1In.f n lo hi = some (inR n lo hi) := by
  unfold spec_l1In.f inR
  by_cases h : n ≥ lo
  · rw [if_pos h]; congr 1; simp only [decide_eq_decide]; omega
  · rw [if_neg h]; congr 1; exact (decide_eq_false (by omega)).symm
theorem wrap_one {n lo hi : Int} (h : inR n lo hi = true) (h1 : -1000000 ≤ lo) (h2 : hi ≤ 1000000) : wrap64 (n - 1) = n - 1 := by
  have := inR_true.1 h
  unfold wrap64
  omega
theorem wrap_id {x : Int} (h : -9000000000000000000 ≤ x) (h2 : x ≤ 9000000000000000000) : wrap64 x = x := by unfold wrap64; omega
theorem eqIntS_l0 (l : List Int) (hl : (l.length : Int) ≤ 1000000000000) : ∀ (d k : Nat) (i : Int), 0 ≤ i → i + d = l.length → d < k → laws_eqIntS.l0 k l l i = some true
  | 0, k + 1, i, h0, hi, _ => by
    unfold laws_eqIntS.l0
    rw [if_neg (by omega)]
  | d + 1, k + 1, i, h0, hi, hk => by
    unfold laws_eqIntS.l0
    rw [if_pos (by omega), if_pos h0, if_pos (by omega), if_pos rfl, wrap_id (by omega) (by omega)]
    exact eqIntS_l0 l hl d k (i + 1) (by omega) (by omega) (by omega)
theorem eqIntS_self {l : List Int} (hl : (l.length : Int) ≤ 1000000000000) {k : Nat} (hk : l.length < k) : laws_eqIntS.f k l l = some true := by
  unfold laws_eqIntS.f
  rw [if_pos rfl]
  exact eqIntS_l0 l hl l.length k 0 (by omega) (by omega) hk
theorem rd_get {l : List Int} {i : Int} (h0 : 0 ≤ i) (h1 : i < (l.length : Int)) : rd l i = l[i.toNat]'(by omega) := by
  simp [rd, List.getD_eq_getElem?_getD, List.getElem?_eq_getElem (show i.toNat < l.length by omega)]
theorem toIntS_l0 (l : List Int) (hl : (l.length : Int) ≤ 1000000000000) (d : Nat) : ∀ (k : Nat) (r : List Int) (i : Int), 0 ≤ i → i + d = l.length → r.length = l.length → r.take i.toNat = l.take i.toNat → d < k → laws_toIntS.l0 k l r i = some l := by
  induction d with
  | zero =>
    intro k r i h0 hi hr ht hk
    obtain ⟨k, rfl⟩ : ∃ m, k = m + 1 := ⟨k - 1, by omega⟩
    rw [laws_toIntS.l0, if_neg (by omega)]
    rw [List.take_of_length_le (by omega), List.take_of_length_le (by omega)] at ht
    rw [ht]
  | succ d ih =>
    intro k r i h0 hi hr ht hk
    obtain ⟨k, rfl⟩ : ∃ m, k = m + 1 := ⟨k - 1, by omega⟩
    rw [laws_toIntS.l0, if_pos (by omega), if_pos h0, if_pos (by omega), wrap_id (by omega) (by omega)]
    refine ih k _ (i + 1) (by omega) (by omega) (by rw [List.length_set]; exact hr) ?_ (by omega)
    rw [show (i + 1).toNat = i.toNat + 1 by omega, List.take_succ_eq_append_getElem (by rw [List.length_set]; omega), List.take_set_of_le (Nat.le_refl _), ht,
      List.take_succ_eq_append_getElem (show i.toNat < l.length by omega), rd_get h0 (by omega)]
    simp
theorem toIntS_f {l : List Int} {k : Nat} (hl : (l.length : Int) ≤ 1048576) (hk : 1048577 < k) : laws_toIntS.f k l = some l := by
  unfold laws_toIntS.f
  rw [if_pos (by omega), if_pos (by simp; omega)]
  exact toIntS_l0 l (by omega) l.length k _ 0 (by omega) (by omega) (by simp) (by simp) (by omega)
/-- A train. -/
def trainOk (l : List Int) : Bool := inR l.length 2 6 && l.all fun x => inR x 1 300
theorem trainOk_true {l : List Int} (h : trainOk l = true) : 2 ≤ (l.length : Int) ∧ (l.length : Int) ≤ 6 ∧ ∀ i : Int, 0 ≤ i → i < l.length → 1 ≤ rd l i ∧ rd l i ≤ 300 := by
  simp only [trainOk, Bool.and_eq_true, inR_true, List.all_eq_true] at h
  refine ⟨h.1.1, h.1.2, ?_⟩
  intro i h0 h1
  rw [rd_get h0 h1]
  exact h.2 _ (List.getElem_mem _)
theorem l1All_l0 (l : List Int) (lo hj : Int) (hl : (l.length : Int) ≤ 1000000000000) (d : Nat) : ∀ (k : Nat) (i : Int), 0 ≤ i → i + d = l.length → d < k → spec_l1All.l0 k lo hj l (l.length : Int) i = some ((l.drop i.toNat).all fun x => inR x lo hj) := by
  induction d with
  | zero =>
    intro k i h0 hi hk
    obtain ⟨k, rfl⟩ : ∃ m, k = m + 1 := ⟨k - 1, by omega⟩
    rw [spec_l1All.l0, if_neg (by omega), List.drop_eq_nil_of_le (by omega)]; rfl
  | succ d ih =>
    intro k i h0 hi hk
    obtain ⟨k, rfl⟩ : ∃ m, k = m + 1 := ⟨k - 1, by omega⟩
    rw [spec_l1All.l0, if_pos (by omega), if_pos h0, if_pos (by omega), l1In_eq, List.drop_eq_getElem_cons (by omega), List.all_cons, ← rd_get h0 (by omega)]
    simp only [Option.bind_some]
    by_cases hq : inR (rd l i) lo hj = true
    · rw [if_pos hq, wrap_id (by omega) (by omega), ih k (i + 1) (by omega) (by omega) (by omega), hq, show (i + 1).toNat = i.toNat + 1 by omega]; rfl
    · rw [if_neg hq]; simp only [Bool.not_eq_true] at hq; rw [hq]; rfl
theorem geTrain_eq {l : List Int} {k : Nat} (hl : (l.length : Int) ≤ 1048576) (hk : 1048577 < k) : spec_geTrain.f k l = some (trainOk l) := by
  unfold spec_geTrain.f spec_l1All.f trainOk
  rw [l1In_eq]
  simp only [Option.bind_some]
  by_cases h : inR l.length 2 6 = true
  · rw [if_pos h, l1All_l0 l 1 300 (by omega) l.length k 0 (by omega) (by omega) (by omega), h]; simp
  · rw [if_neg h]; simp only [Bool.not_eq_true] at h; rw [h]; rfl
theorem isTrain_eq (l : List Int) : impl_isTrain.f l = some (trainOk l) := rfl
theorem per_step {x t : Int} (hx : 1 ≤ x) (hx2 : x ≤ 10000000000000) (ht : 1 ≤ t) (ht2 : t ≤ 300) : gcdGo x t ≠ 0 ∧ ∃ y, x ≤ y ∧ y ≤ x * 300 ∧ wrap64 (wrap64 (Int.tdiv x (gcdGo x t)) * t) = y := by
  have hg := gcdGo_bd (a := x) (b := t) (by omega) (by omega)
  refine ⟨by omega, x / gcdGo x t * t, ?_, ?_, ?_⟩
  · have hp : ∃ p, x = gcdGo x t * p := by
      rw [gcdGo_of (by omega) (by omega)]
      obtain ⟨p, hp⟩ := Nat.gcd_dvd_left x.toNat t.toNat
      exact ⟨p, by rw [← Int.natCast_mul, ← hp]; omega⟩
    have hq : ∃ p, t = gcdGo x t * p := by
      rw [gcdGo_of (by omega) (by omega)]
      obtain ⟨p, hp⟩ := Nat.gcd_dvd_right x.toNat t.toNat
      exact ⟨p, by rw [← Int.natCast_mul, ← hp]; omega⟩
    obtain ⟨p, hp⟩ := hp
    obtain ⟨q, hq⟩ := hq
    generalize gcdGo x t = g at *
    have e : x / g = p := by rw [hp]; exact Int.mul_ediv_cancel_left _ (by omega)
    have hp0 : 0 ≤ p := by rw [← e]; exact Int.ediv_nonneg (by omega) (by omega)
    have hgt : g ≤ t := by
      have : 0 < q := by
        rcases Int.lt_or_le 0 q with h | h
        · exact h
        · have := Int.mul_le_mul_of_nonneg_left h (show 0 ≤ g by omega)
          omega
      have := Int.mul_le_mul_of_nonneg_left (show 1 ≤ q by omega) (show 0 ≤ g by omega)
      omega
    rw [e, hp]
    calc g * p = p * g := Int.mul_comm _ _
      _ ≤ p * t := Int.mul_le_mul_of_nonneg_left hgt hp0
  · have h1 : x / gcdGo x t ≤ x := Int.ediv_le_self _ (by omega)
    have h0 : 0 ≤ x / gcdGo x t := Int.ediv_nonneg (by omega) (by omega)
    exact Int.mul_le_mul h1 ht2 (by omega) (by omega)
  · have h1 : x / gcdGo x t ≤ x := Int.ediv_le_self _ (by omega)
    have h0 : 0 ≤ x / gcdGo x t := Int.ediv_nonneg (by omega) (by omega)
    have h2 : x / gcdGo x t * t ≤ x * 300 := Int.mul_le_mul h1 ht2 (by omega) (by omega)
    have h3 : 0 ≤ x / gcdGo x t * t := Int.mul_nonneg h0 (by omega)
    rw [Int.tdiv_eq_ediv_of_nonneg (by omega), show wrap64 (x / gcdGo x t) = x / gcdGo x t from wrap_id (by omega) (by omega), wrap_id (by omega) (by omega)]
theorem per_far (l : List Int) (hl : (l.length : Int) ≤ 6) (hr : ∀ i : Int, 0 ≤ i → i < l.length → 1 ≤ rd l i ∧ rd l i ≤ 300) (d : Nat) : ∀ (k : Nat) (x i : Int), 0 ≤ i → i + d = l.length → d < k → 1000000000000 < x → x * 300 ^ d ≤ 729000000000000 → impl_TrainPeriod.l0 k x l (l.length : Int) i = some (0, false) := by
  induction d with
  | zero =>
    intro k x i h0 hi hk hx hb
    obtain ⟨k, rfl⟩ : ∃ m, k = m + 1 := ⟨k - 1, by omega⟩
    rw [impl_TrainPeriod.l0, if_neg (by omega), if_pos (by omega)]
  | succ d ih =>
    intro k x i h0 hi hk hx hb
    obtain ⟨k, rfl⟩ : ∃ m, k = m + 1 := ⟨k - 1, by omega⟩
    have hr' := hr i h0 (by omega)
    have hp : (1 : Int) ≤ 300 ^ d := Int.pow_pos (by omega)
    have e : x * 300 ^ (d + 1) = x * 300 * 300 ^ d := by rw [Int.pow_succ]; grind
    have h3 : x * 300 * 1 ≤ x * 300 * 300 ^ d := Int.mul_le_mul_of_nonneg_left hp (by omega)
    obtain ⟨hg, y, h1, h2, h4⟩ := per_step (x := x) (t := rd l i) (by omega) (by omega) hr'.1 hr'.2
    rw [impl_TrainPeriod.l0, if_pos (by omega), if_pos h0, if_pos (by omega)]
    unfold impl_divisor.f
    simp only [Option.bind_some]
    rw [if_neg hg, h4, wrap_id (by omega) (by omega)]
    refine ih k y (i + 1) (by omega) (by omega) (by omega) (by omega) ?_
    have := Int.mul_le_mul_of_nonneg_right h2 (show (0 : Int) ≤ 300 ^ d by omega)
    omega
theorem per_both (l : List Int) (hl : (l.length : Int) ≤ 6) (hr : ∀ i : Int, 0 ≤ i → i < l.length → 1 ≤ rd l i ∧ rd l i ≤ 300) (d : Nat) : ∀ (x i : Int), 0 ≤ i → i + d = l.length → 1 ≤ x → x ≤ 1000000000000 → x * 300 ^ d ≤ 729000000000000 →
    ∃ r : Int × Bool, ∀ k : Nat, d < k → spec_gePeriod.l0 k x l (l.length : Int) i = some r ∧ impl_TrainPeriod.l0 k x l (l.length : Int) i = some r := by
  induction d with
  | zero =>
    intro x i h0 hi hx hx2 hb
    refine ⟨(x, true), ?_⟩
    intro k hk
    obtain ⟨k, rfl⟩ : ∃ m, k = m + 1 := ⟨k - 1, by omega⟩
    rw [spec_gePeriod.l0, impl_TrainPeriod.l0, if_neg (by omega), if_neg (by omega), if_neg (by omega)]
    exact ⟨rfl, rfl⟩
  | succ d ih =>
    intro x i h0 hi hx hx2 hb
    have hr' := hr i h0 (by omega)
    have hp : (1 : Int) ≤ 300 ^ d := Int.pow_pos (by omega)
    have e : x * 300 ^ (d + 1) = x * 300 * 300 ^ d := by rw [Int.pow_succ]; grind
    obtain ⟨hg, y, h1, h2, h4⟩ := per_step (x := x) (t := rd l i) (by omega) (by omega) hr'.1 hr'.2
    have h5 := Int.mul_le_mul_of_nonneg_right h2 (show (0 : Int) ≤ 300 ^ d by omega)
    by_cases hy : y > 1000000000000
    · refine ⟨(0, false), ?_⟩
      intro k hk
      obtain ⟨k, rfl⟩ : ∃ m, k = m + 1 := ⟨k - 1, by omega⟩
      rw [spec_gePeriod.l0, impl_TrainPeriod.l0, if_pos (by omega), if_pos h0, if_pos (by omega)]
      unfold impl_divisor.f spec_srCommon.f
      simp only [Option.bind_some]
      rw [if_neg hg, h4, wrap_id (by omega) (by omega), if_pos hy]
      refine ⟨rfl, ?_⟩
      rw [if_pos (by omega), if_pos h0, if_pos (by omega), if_neg hg]
      exact per_far l hl hr d k y (i + 1) (by omega) (by omega) (by omega) hy (by omega)
    · obtain ⟨r, hrr⟩ := ih y (i + 1) (by omega) (by omega) (by omega) (by omega) (by omega)
      refine ⟨r, ?_⟩
      intro k hk
      obtain ⟨k, rfl⟩ : ∃ m, k = m + 1 := ⟨k - 1, by omega⟩
      rw [spec_gePeriod.l0, impl_TrainPeriod.l0, if_pos (by omega), if_pos h0, if_pos (by omega)]
      unfold impl_divisor.f spec_srCommon.f
      simp only [Option.bind_some]
      rw [if_neg hg, h4, wrap_id (by omega) (by omega), if_neg hy, if_pos (by omega), if_pos h0, if_pos (by omega), if_neg hg]
      exact hrr k (by omega)
theorem period {l : List Int} (h : trainOk l = true) : ∃ r : Int × Bool, ∀ k : Nat, 1048577 < k → spec_gePeriod.f k l = some r ∧ impl_TrainPeriod.f k l = some r := by
  have hb := trainOk_true h
  have hd : (1 : Int) * 300 ^ l.length ≤ 729000000000000 := by
    obtain ⟨h1, h2, _⟩ := hb
    have h3 : l.length = 2 ∨ l.length = 3 ∨ l.length = 4 ∨ l.length = 5 ∨ l.length = 6 := by omega
    rcases h3 with e | e | e | e | e <;> rw [e] <;> decide
  obtain ⟨r, hr⟩ := per_both l (by omega) hb.2.2 l.length 1 0 (by omega) (by omega) (by omega) (by omega) hd
  refine ⟨r, ?_⟩
  intro k hk
  have := hr k (by omega)
  unfold spec_gePeriod.f impl_TrainPeriod.f
  rw [isTrain_eq, h]
  exact this
theorem close_LeastTurns {l : List Int} (hl : ¬ (l.length : Int) > 1048576) (r : Int × Bool) (hs : ∀ k, 1048577 < k → spec_LeastTurns.f k l = some r) (hi : ∀ k, 1048577 < k → impl_LeastTurns.f k l = some r) : ∃ k, laws_FnExactLeastTurns.f k l = some true := by
  refine ⟨1048579 + 1, ?_⟩
  unfold laws_FnExactLeastTurns.f
  rw [if_neg hl, toIntS_f (by omega) (by omega)]
  simp only [Option.bind_some]
  rw [hs _ (by omega), hi _ (by omega)]
  simp only [Option.bind_some, if_true, bne_self_eq_false]
  rw [laws_FnExactLeastTurns.j0, if_neg (by decide), toIntS_f (by omega) (by omega)]
  simp only [Option.bind_some]
  rw [eqIntS_self (by omega) (by omega)]
  rfl
theorem FnExactLeastTurns : laws_FnExactLeastTurns.Pure := by
  intro l _ _ _
  by_cases hl : (l.length : Int) > 1048576
  · refine ⟨0, ?_⟩
    unfold laws_FnExactLeastTurns.f
    rw [if_pos hl]
  by_cases h : trainOk l = true
  · obtain ⟨r, hr⟩ := period h
    have hb := trainOk_true h
    have h0 := hb.2.2 0 (by omega) (by omega)
    by_cases hq : r.2 = true
    · refine close_LeastTurns hl (wrap64 (Int.tdiv r.1 (rd l 0)), true) ?_ ?_
      · intro k hk
        unfold spec_LeastTurns.f
        rw [geTrain_eq (by omega) hk, h]
        simp only [Option.bind_some, if_true]
        rw [(hr k hk).1]
        simp only [Option.bind_some]
        rw [if_pos hq, if_pos (by omega), if_neg (by omega)]
      · intro k hk
        unfold impl_LeastTurns.f
        rw [(hr k hk).2]
        simp only [Option.bind_some]
        rw [if_pos hq, if_pos (by omega), if_neg (by omega)]
    · refine close_LeastTurns hl (0, false) ?_ ?_
      · intro k hk
        unfold spec_LeastTurns.f
        rw [geTrain_eq (by omega) hk, h]
        simp only [Option.bind_some, if_true]
        rw [(hr k hk).1]
        simp only [Option.bind_some]
        rw [if_neg hq]
      · intro k hk
        unfold impl_LeastTurns.f
        rw [(hr k hk).2]
        simp only [Option.bind_some]
        rw [if_neg hq]
  · refine close_LeastTurns hl (0, false) ?_ ?_
    · intro k hk
      unfold spec_LeastTurns.f
      rw [geTrain_eq (by omega) hk]
      simp only [Option.bind_some]
      rw [if_neg h]
    · intro k hk
      unfold impl_LeastTurns.f impl_TrainPeriod.f
      rw [isTrain_eq]
      simp only [Option.bind_some]
      rw [if_neg h]
      rfl

end Go.Proofs.Ytljlfdhocaikeaa.Pure
