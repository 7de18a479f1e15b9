/- What is proved: the pure statement of the law FnExactLongFactors, about numbers and lists alone; no condition. -/
import Derived.Test.YtejchneeheeldaaPx11
namespace Go.Proofs.Ytejchneeheeldaa.Pure
open Go.RowKit Go.Proofs.Ytejchneeheeldaa.P Go.Proofs.YtejchneeheeldaaW.PrintWords Go.Proofs.YtejchneeheeldaaW.PrintLast
set_option linter.unusedVariables false
set_option linter.unusedSimpArgs false

theorem l1In_eq (n lo hi : Int) : spec_l1In.f n lo hi = some (inR n lo hi) := by
  unfold spec_l1In.f inR
  by_cases h : n ≥ lo
  · rw [if_pos h]; congr 1; simp only [decide_eq_decide]; omega
  · rw [if_neg h]; congr 1; exact (decide_eq_false (by omega)).symm
theorem wrap_one {n lo hi : Int} (h : inR n lo hi = true) (h1 : -1000000 ≤ lo) (h2 : hi ≤ 1000000) : wrap64 (n - 1) = n - 1 := by
  have := inR_true.1 h
  unfold wrap64
  omega
theorem wrap_id {x : Int} (h : -9000000000000000000 ≤ x) (h2 : x ≤ 9000000000000000000) : wrap64 x = x := by unfold wrap64; omega
/-- A table. -/
def tabOk (n f : Int) : Bool := inR n 3 60 && inR f 0 (n - 1)
theorem tabOk_true {n f : Int} : tabOk n f = true ↔ 3 ≤ n ∧ n ≤ 60 ∧ 0 ≤ f ∧ f ≤ n - 1 := by
  simp only [tabOk, Bool.and_eq_true, inR_true]
  omega
theorem srPoints_eq (n : Int) : spec_srPoints.f n = some (inR n 3 60) := by
  unfold spec_srPoints.f; rw [l1In_eq]; rfl
theorem step_eq {n f p : Int} (h : tabOk n f = true) (h0 : 0 ≤ p) (h1 : p ≤ 60) : Int.tmod (wrap64 (p * f)) n = p * f % n := by
  have hb := tabOk_true.1 h
  have hm : 0 ≤ p * f := Int.mul_nonneg h0 (by omega)
  have hm2 : p * f ≤ 60 * 60 := by
    have := Int.mul_le_mul h1 (show f ≤ 60 by omega) (by omega) (by omega)
    omega
  rw [wrap_id (by omega) (by omega), Int.tmod_eq_emod_of_nonneg hm]
theorem step_bd {n f p : Int} (h : tabOk n f = true) : 0 ≤ p * f % n ∧ p * f % n < n := by
  have hb := tabOk_true.1 h
  exact ⟨Int.emod_nonneg _ (by omega), Int.emod_lt_of_pos _ (by omega)⟩
/-- The loop of the order, on whole numbers from 0: the rounds that are left where it stops. -/
def ordN (n f : Nat) : Nat → Nat → Option Nat
  | 0, _ => none
  | k + 1, x => if x = 1 then some k else ordN n f k (x * f % n)
theorem ordN_lt (n f : Nat) : ∀ (k x j : Nat), ordN n f k x = some j → j < k
  | 0, _, _, h => by simp [ordN] at h
  | k + 1, x, j, h => by
    rw [ordN] at h
    by_cases hx : x = 1
    · rw [if_pos hx] at h; injection h with h; omega
    · rw [if_neg hx] at h; have := ordN_lt n f k _ j h; omega
/-- Every factor that has no common divisor with the number of points comes to 1: by trying all. -/
theorem ordN_stops : ∀ n ∈ List.range 61, ∀ f ∈ List.range n, 3 ≤ n → Nat.gcd n f = 1 → (ordN n f 62 f).isSome = true := by decide +kernel
theorem ord_l0 (n f : Nat) (hn : 3 ≤ n) (hn2 : n ≤ 60) (hf : f < n) : ∀ (k x j o : Nat) (m : Nat), ordN n f k x = some j → o + k ≤ 1000000 → x < n →
    spec_taOrder.l0 (k + m) (n : Int) (f : Int) (o : Int) (x : Int) = some ((o + (k - 1 - j) : Nat) : Int) ∧ impl_orderOf.l0 (k + m) (n : Int) (f : Int) (o : Int) (x : Int) = some ((o + (k - 1 - j) : Nat) : Int)
  | 0, _, _, _, _, h, _, _ => by simp [ordN] at h
  | k + 1, x, j, o, m, h, hk, hxn => by
    rw [show k + 1 + m = (k + m) + 1 by omega]
    rw [ordN] at h
    by_cases hx : x = 1
    · rw [if_pos hx] at h
      injection h with h
      subst h
      rw [spec_taOrder.l0, if_pos (by omega), impl_orderOf.l0, if_pos (by omega)]
      constructor <;> (congr 2; omega)
    · rw [if_neg hx] at h
      have hlt := ordN_lt n f k _ j h
      have hm : x * f ≤ 60 * 60 := Nat.mul_le_mul (by omega) (by omega)
      have e : Int.tmod (wrap64 ((x : Int) * (f : Int))) (n : Int) = ((x * f % n : Nat) : Int) := by
        rw [show (x : Int) * (f : Int) = ((x * f : Nat) : Int) by simp, wrap_id (by omega) (by omega)]
        rfl
      rw [spec_taOrder.l0, if_neg (by omega), if_neg (by omega), impl_orderOf.l0, if_neg (by omega), if_neg (by omega), e, wrap_id (x := (o : Int) + 1) (by omega) (by omega)]
      have := ord_l0 n f hn hn2 hf k (x * f % n) j (o + 1) m h (by omega) (Nat.mod_lt _ (by omega))
      rw [show (((o + 1 : Nat)) : Int) = (o : Int) + 1 by simp] at this
      rw [this.1, this.2]
      constructor <;> (congr 2; omega)
theorem ord_f (n f : Int) (h : tabOk n f = true) (hg : gcdGo n f = 1) (k : Nat) (hk : 62 ≤ k) : ∃ r : Int, spec_taOrder.f k n f = some r ∧ impl_orderOf.f k n f = some r ∧ 1 ≤ r := by
  have hb := tabOk_true.1 h
  obtain ⟨n, rfl⟩ := Int.eq_ofNat_of_zero_le (show 0 ≤ n by omega)
  obtain ⟨f, rfl⟩ := Int.eq_ofNat_of_zero_le (show 0 ≤ f by omega)
  rw [gcdGo_nat] at hg
  have hs := ordN_stops n (List.mem_range.2 (by omega)) f (List.mem_range.2 (by omega)) (by omega) (by omega)
  obtain ⟨j, hj⟩ := Option.isSome_iff_exists.1 hs
  have := ord_l0 n f (by omega) (by omega) (by omega) 62 f j 1 (k - 62) hj (by omega) (by omega)
  rw [show 62 + (k - 62) = k by omega] at this
  refine ⟨((1 + (62 - 1 - j) : Nat) : Int), ?_, ?_, by omega⟩
  · unfold spec_taOrder.f
    exact this.1
  · unfold impl_orderOf.f impl_divisor.f
    rw [gcdGo_nat, hg]
    simp only [Option.bind_some]
    rw [if_neg (by decide)]
    exact this.2
theorem ord_no (n f : Int) (h : tabOk n f = true) (hg : ¬ gcdGo n f = 1) (k : Nat) : impl_orderOf.f k n f = some 0 := by
  have hb := tabOk_true.1 h
  have hg2 := gcdGo_bd (a := n) (b := f) (by omega) (by omega)
  unfold impl_orderOf.f impl_divisor.f
  simp only [Option.bind_some]
  rw [if_pos (by omega)]
theorem eqIntS_l0 (l : List Int) (hl : (l.length : Int) ≤ 1000000000000) : ∀ (d k : Nat) (i : Int), 0 ≤ i → i + d = l.length → d < k → laws_eqIntS.l0 k l l i = some true
  | 0, k + 1, i, h0, hi, _ => by
    unfold laws_eqIntS.l0
    rw [if_neg (by omega)]
  | d + 1, k + 1, i, h0, hi, hk => by
    unfold laws_eqIntS.l0
    rw [if_pos (by omega), if_pos h0, if_pos (by omega), if_pos rfl, wrap_id (by omega) (by omega)]
    exact eqIntS_l0 l hl d k (i + 1) (by omega) (by omega) (by omega)
theorem eqIntS_self {l : List Int} (hl : (l.length : Int) ≤ 1000000000000) {k : Nat} (hk : l.length < k) : laws_eqIntS.f k l l = some true := by
  unfold laws_eqIntS.f
  rw [if_pos rfl]
  exact eqIntS_l0 l hl l.length k 0 (by omega) (by omega) hk
/-- a, a + 1, .. -/
def marks (a : Int) : Nat → List Int
  | 0 => []
  | n + 1 => a :: marks (a + 1) n
theorem marks_len (a : Int) (n : Nat) : (marks a n).length = n := by
  induction n generalizing a with
  | zero => rfl
  | succ n ih => simp [marks, ih]

theorem rd_drop {l : List Int} {i : Int} {x : Int} {r : List Int} (h0 : 0 ≤ i) (h : l.drop i.toNat = x :: r) : rd l i = x ∧ l.drop (i + 1).toNat = r ∧ i.toNat < l.length := by
  have hl : i.toNat < l.length := by
    rcases Nat.lt_or_ge i.toNat l.length with h1 | h1
    · exact h1
    · rw [List.drop_eq_nil_of_le h1] at h; cases h
  have h3 := List.drop_eq_getElem_cons hl
  rw [h3] at h
  injection h with h4 h5
  refine ⟨by simp [rd, List.getD_eq_getElem?_getD, List.getElem?_eq_getElem hl, h4], ?_, hl⟩
  rw [show (i + 1).toNat = i.toNat + 1 by omega]; exact h5
theorem markIntS_l0 : ∀ (d k : Nat) (l : List Int) (a i : Int), 0 ≤ i → i + d = l.length → d < k → (l.length : Int) ≤ 1000000000000 → -1000000000000 ≤ a → a + d ≤ 3000000000000 → laws_markIntS.l0 k l a i = some (a + d, l.take i.toNat ++ marks a d)
  | 0, k + 1, l, a, i, h0, hi, _, hl, ha, hb => by
    unfold laws_markIntS.l0
    rw [if_neg (by omega), List.take_of_length_le (by omega)]
    simp [marks]
  | d + 1, k + 1, l, a, i, h0, hi, hk, hl, ha, hb => by
    unfold laws_markIntS.l0
    rw [if_pos (by omega), if_pos h0, wrap_id (by omega) (by omega), wrap_id (by omega) (by omega)]
    rw [markIntS_l0 d k (l.set i.toNat a) (a + 1) (i + 1) (by omega) (by rw [List.length_set]; omega) (by omega) (by rw [List.length_set]; omega) (by omega) (by omega)]
    have e : (l.set i.toNat a).take (i + 1).toNat = l.take i.toNat ++ [a] := by
      rw [show (i + 1).toNat = i.toNat + 1 by omega, List.take_succ_eq_append_getElem (by rw [List.length_set]; omega), List.take_set_of_le (Nat.le_refl _)]
      simp
    rw [e]
    simp only [marks, List.append_assoc, List.singleton_append]
    congr 2
    omega
theorem markIntS_f {l : List Int} (hl : (l.length : Int) ≤ 1000000000000) {k : Nat} (hk : l.length < k) {a : Int} (ha : -1000000000000 ≤ a) (hb : a ≤ 2000000000000) : laws_markIntS.f k l a = some (a + l.length, marks a l.length) := by
  unfold laws_markIntS.f
  rw [markIntS_l0 l.length k l a 0 (by omega) (by omega) hk hl ha (by omega)]
  simp
theorem heldIntS_l0 : ∀ (d k : Nat) (l : List Int) (a i : Int), 0 ≤ i → i + d = l.length → l.drop i.toNat = marks a d → d < k → (l.length : Int) ≤ 1000000000000 → -1000000000000 ≤ a → a + d ≤ 3000000000000 → laws_heldIntS.l0 k l a i = some (a + d)
  | 0, k + 1, l, a, i, h0, hi, _, _, hl, ha, hb => by
    unfold laws_heldIntS.l0
    rw [if_neg (by omega)]
    simp
  | d + 1, k + 1, l, a, i, h0, hi, hd, hk, hl, ha, hb => by
    obtain ⟨e1, e2, e3⟩ := rd_drop h0 (show l.drop i.toNat = a :: marks (a + 1) d from hd)
    unfold laws_heldIntS.l0
    rw [if_pos (by omega), if_pos h0, if_pos e1, wrap_id (by omega) (by omega), wrap_id (by omega) (by omega)]
    rw [heldIntS_l0 d k l (a + 1) (i + 1) (by omega) (by omega) e2 (by omega) hl (by omega) (by omega)]
    congr 1
    omega
theorem heldIntS_f {n k : Nat} (hn : (n : Int) ≤ 1000000000000) (hk : n < k) {a : Int} (ha : -1000000000000 ≤ a) (hb : a ≤ 2000000000000) : laws_heldIntS.f k (marks a n) a = some (a + n) := by
  unfold laws_heldIntS.f
  exact heldIntS_l0 n k (marks a n) a 0 (by omega) (by rw [marks_len]; omega) (by simp) hk (by rw [marks_len]; exact hn) ha (by omega)
/-- The numbers i, i + 1, .. of the next d at which p holds. -/
def numsD (p : Int → Bool) (i : Int) : Nat → List Int
  | 0 => []
  | d + 1 => if p i = true then i :: numsD p (i + 1) d else numsD p (i + 1) d
theorem numsD_len (p : Int → Bool) (i : Int) (d : Nat) : (numsD p i d).length ≤ d := by
  induction d generalizing i with
  | zero => simp [numsD]
  | succ d ih =>
    have := ih (i + 1)
    simp only [numsD]
    split
    · simp; omega
    · omega
theorem numsD_congr {p q : Int → Bool} {i : Int} {d : Nat} (h : ∀ x, i ≤ x → x < i + d → p x = q x) : numsD p i d = numsD q i d := by
  induction d generalizing i with
  | zero => rfl
  | succ d ih =>
    have h0 := h i (by omega) (by omega)
    have h1 := ih (i := i + 1) (fun x hx hy => h x (by omega) (by omega))
    simp only [numsD, h0, h1]
theorem numsD_eq (p : Int → Bool) (i : Int) (d : Nat) : ((List.range d).map fun (j : Nat) => i + (j : Int)).filter p = numsD p i d := by
  induction d generalizing i with
  | zero => rfl
  | succ d ih =>
    rw [List.range_succ_eq_map, List.map_cons, List.map_map]
    have e : (fun (j : Nat) => i + (j : Int)) ∘ Nat.succ = fun (j : Nat) => (i + 1) + (j : Int) := by funext j; simp; omega
    rw [e, List.filter_cons, ih]
    simp [numsD]
theorem numsW_numsD (p : Int → Bool) (lo hi : Int) : numsW p lo hi = numsD p lo (hi + 1 - lo).toNat := numsD_eq p lo _
theorem numsW_len (p : Int → Bool) (lo hi : Int) : ((numsW p lo hi).length : Int) ≤ max 0 (hi + 1 - lo) := by
  rw [numsW_numsD]
  have := numsD_len p lo (hi + 1 - lo).toNat
  omega
theorem up {α : Type} {f : Nat → Option α} (hm : ∀ k, LeO (f k) (f (k + 1))) {k0 : Nat} {r : α} (h : f k0 = some r) : ∀ k, k0 ≤ k → f k = some r := by
  intro k hk
  obtain ⟨d, rfl⟩ : ∃ d, k = k0 + d := ⟨k - k0, by omega⟩
  clear hk
  induction d with
  | zero => exact h
  | succ d ih => exact hm (k0 + d) _ ih
/-- The order that is told of a factor: 0 if its table cannot be undone. -/
def ordV (n x : Int) : Int := (impl_orderOf.f 62 n x).getD 0
theorem ordV_i {n x : Int} (h : tabOk n x = true) {k : Nat} (hk : 62 ≤ k) : impl_orderOf.f k n x = some (ordV n x) := by
  by_cases hg : gcdGo n x = 1
  · obtain ⟨r, _, h2, _⟩ := ord_f n x h hg 62 (by omega)
    have := up (fun k => impl_orderOf.mono n x k) h2 k hk
    unfold ordV
    rw [h2, this]; rfl
  · unfold ordV
    rw [ord_no n x h hg, ord_no n x h hg]; rfl
theorem ordV_s {n x : Int} (h : tabOk n x = true) (hg : gcdGo n x = 1) {k : Nat} (hk : 62 ≤ k) : spec_taOrder.f k n x = some (ordV n x) := by
  obtain ⟨r, h1, h2, _⟩ := ord_f n x h hg k hk
  rw [ordV_i h hk] at h2
  rw [h1, h2]
theorem ordV_yes {n x : Int} (h : tabOk n x = true) (hg : gcdGo n x = 1) : 1 ≤ ordV n x := by
  obtain ⟨r, _, h2, h3⟩ := ord_f n x h hg 62 (by omega)
  rw [ordV_i h (by omega)] at h2
  have := Option.some.inj h2
  omega
theorem ordV_no {n x : Int} (h : tabOk n x = true) (hg : ¬ gcdGo n x = 1) : ordV n x = 0 := by
  unfold ordV
  rw [ord_no n x h hg]; rfl
/-- The greatest of m and the orders of the next d factors. -/
def lfM (n : Int) : Nat → Int → Int → Int
  | 0, _, m => m
  | d + 1, i, m => lfM n d (i + 1) (mx m (ordV n i))
theorem lfM_ge (n : Int) : ∀ (d : Nat) (i m : Int), m ≤ lfM n d i m
  | 0, _, _ => Int.le_refl _
  | d + 1, i, m => by
    have := lfM_ge n d (i + 1) (mx m (ordV n i))
    show m ≤ lfM n d (i + 1) (mx m (ordV n i))
    unfold mx at this ⊢
    split at this <;> split <;> omega
theorem lfMost_eq {n : Int} (h0 : 3 ≤ n) (h1 : n ≤ 60) {k : Nat} (hk : 62 ≤ k) : ∀ (d : Nat) (i m : Int), 0 ≤ i → i + d ≤ n → lfMost k n d i m = some (lfM n d i m)
  | 0, _, _, _, _ => rfl
  | d + 1, i, m, h2, h3 => by
    show (impl_orderOf.f k n i).bind _ = _
    rw [ordV_i (tabOk_true.2 (by omega)) hk]
    exact lfMost_eq h0 h1 hk d (i + 1) _ (by omega) (by omega)
theorem gcdGo_one (n : Int) (h0 : 3 ≤ n) : gcdGo n 1 = 1 := by
  have h := gcdGo_bd (a := n) (b := 1) (by omega) (by omega)
  obtain ⟨n, rfl⟩ := Int.eq_ofNat_of_zero_le (show 0 ≤ n by omega)
  have e : (1 : Int) = ((1 : Nat) : Int) := rfl
  rw [e, gcdGo_nat]
  simp
theorem gcdGo_zero (n : Int) (h0 : 3 ≤ n) : ¬ gcdGo n 0 = 1 := by
  obtain ⟨n, rfl⟩ := Int.eq_ofNat_of_zero_le (show 0 ≤ n by omega)
  have e : (0 : Int) = ((0 : Nat) : Int) := rfl
  rw [e, gcdGo_nat]
  simp
  omega
/-- A factor whose order is m. -/
def lfP (n m : Int) (x : Int) : Bool := decide (gcdGo n x = 1) && decide (ordV n x = m)
theorem long_l0 {n : Int} (h0 : 3 ≤ n) (h1 : n ≤ 60) (d : Nat) : ∀ (k : Nat) (m : Int) (o : List Int) (i : Int), 0 ≤ m → 1 ≤ i → i + d = n → d + 62 < k → (o.length : Int) + d ≤ 1000 →
    spec_LongFactors.l0 k n m o i = some (if m < lfM n d i m then numsD (lfP n (lfM n d i m)) i d else o ++ numsD (lfP n m) i d, lfM n d i m, true) := by
  induction d with
  | zero =>
    intro k m o i hm hi hd hk _
    obtain ⟨k, rfl⟩ : ∃ m, k = m + 1 := ⟨k - 1, by omega⟩
    rw [spec_LongFactors.l0, if_neg (by omega)]
    simp [numsD, lfM]
  | succ d ih =>
    intro k m o i hm hi hd hk hl
    obtain ⟨k, rfl⟩ : ∃ m, k = m + 1 := ⟨k - 1, by omega⟩
    have h : tabOk n i = true := tabOk_true.2 (by omega)
    have e : lfM n (d + 1) i m = lfM n d (i + 1) (mx m (ordV n i)) := rfl
    rw [spec_LongFactors.l0, if_pos (by omega)]
    unfold spec_taUndone.f spec_srCommon.f
    simp only [Option.bind_some]
    by_cases hg : gcdGo n i = 1
    · rw [if_pos (by rw [hg]; rfl), ordV_s h hg (by omega)]
      simp only [Option.bind_some]
      have hy := ordV_yes h hg
      rw [wrap_id (x := i + 1) (by omega) (by omega)]
      by_cases h2 : ordV n i > m
      · have e2 : mx m (ordV n i) = ordV n i := by unfold mx; split <;> omega
        have hge := lfM_ge n d (i + 1) (ordV n i)
        rw [if_pos h2, if_pos (by simp), ih k (ordV n i) _ (i + 1) (by omega) (by omega) (by omega) (by omega) (by simp; omega), e, e2, if_pos (show m < lfM n d (i + 1) (ordV n i) by omega)]
        congr 2
        by_cases h3 : ordV n i < lfM n d (i + 1) (ordV n i)
        · have : lfP n (lfM n d (i + 1) (ordV n i)) i = false := by unfold lfP; rw [decide_eq_false (show ¬ ordV n i = lfM n d (i + 1) (ordV n i) by omega)]; simp
          rw [if_pos h3]
          simp [numsD, this]
        · have h4 : lfM n d (i + 1) (ordV n i) = ordV n i := by omega
          have : lfP n (ordV n i) i = true := by unfold lfP; rw [decide_eq_true hg, decide_eq_true rfl]; rfl
          rw [if_neg h3, h4]
          simp [numsD, this]
      · rw [if_neg h2]
        have e2 : mx m (ordV n i) = m := by unfold mx; split <;> omega
        have hge := lfM_ge n d (i + 1) m
        by_cases h3 : ordV n i = m
        · rw [if_pos h3, if_pos (by omega), ih k m _ (i + 1) (by omega) (by omega) (by omega) (by omega) (by simp; omega), e, e2]
          have : lfP n m i = true := by unfold lfP; rw [decide_eq_true hg, decide_eq_true h3]; rfl
          congr 2
          by_cases h4 : m < lfM n d (i + 1) m
          · have h5 : lfP n (lfM n d (i + 1) m) i = false := by unfold lfP; rw [decide_eq_false (show ¬ ordV n i = lfM n d (i + 1) m by omega)]; simp
            rw [if_pos h4, if_pos h4]
            simp [numsD, h5]
          · rw [if_neg h4, if_neg h4]
            simp [numsD, this]
        · rw [if_neg h3, ih k m _ (i + 1) (by omega) (by omega) (by omega) (by omega) (by omega), e, e2]
          have h5 : lfP n m i = false := by unfold lfP; rw [decide_eq_false h3]; simp
          have h6 : lfP n (lfM n d (i + 1) m) i = false := by unfold lfP; rw [decide_eq_false (show ¬ ordV n i = lfM n d (i + 1) m by omega)]; simp
          simp [numsD, h5, h6]
    · have h5 : ∀ M, lfP n M i = false := fun M => by unfold lfP; rw [decide_eq_false hg]; rfl
      have e2 : mx m (ordV n i) = m := by rw [ordV_no h hg]; unfold mx; split <;> omega
      rw [if_neg (by simp; exact hg), wrap_id (x := i + 1) (by omega) (by omega), ih k m _ (i + 1) (by omega) (by omega) (by omega) (by omega) (by omega), e, e2]
      simp [numsD, h5]
theorem FnExactLongFactors : laws_FnExactLongFactors.Pure := by
  intro n _
  by_cases hq : inR n 3 60 = true
  · obtain ⟨h0, h1⟩ := inR_true.1 hq
    have hT : ∀ x, 0 ≤ x → x < n → tabOk n x = true := fun x h2 h3 => tabOk_true.2 (by omega)
    obtain ⟨M, hM⟩ : ∃ M, M = lfM n (n - 1).toNat 1 0 := ⟨_, rfl⟩
    have hz : lfM n n.toNat 0 0 = M := by
      rw [hM, show n.toNat = (n - 1).toNat + 1 by omega]
      show lfM n (n - 1).toNat (0 + 1) (mx 0 (ordV n 0)) = _
      rw [ordV_no (hT 0 (by omega) (by omega)) (gcdGo_zero n h0)]
      rfl
    have hM1 : 1 ≤ M := by
      have hy := ordV_yes (hT 1 (by omega) (by omega)) (gcdGo_one n h0)
      rw [hM, show (n - 1).toNat = (n - 2).toNat + 1 by omega]
      have := lfM_ge n (n - 2).toNat (1 + 1) (mx 0 (ordV n 1))
      show 1 ≤ lfM n (n - 2).toNat (1 + 1) (mx 0 (ordV n 1))
      have h2 : mx 0 (ordV n 1) = ordV n 1 := by unfold mx; split <;> omega
      rw [h2] at this ⊢
      omega
    have hs : spec_LongFactors.f 300 n = some (numsD (lfP n M) 1 (n - 1).toNat, M, true) := by
      unfold spec_LongFactors.f
      rw [srPoints_eq, hq]
      simp only [Option.bind_some, if_true]
      rw [long_l0 h0 h1 (n - 1).toNat 300 0 [] 1 (by omega) (by omega) (by omega) (by omega) (by simp; omega), ← hM, if_pos (by omega)]
    have hi : impl_LongFactors.f 300 n = some (numsD (lfP n M) 1 (n - 1).toNat, M, true) := by
      unfold impl_LongFactors.f
      rw [if_pos hq, lfMost_eq h0 h1 (by omega) n.toNat 0 0 (by omega) (by omega), hz]
      simp only [Option.bind_some]
      congr 2
      rw [numsW_numsD, show (n - 1 + 1 - 0).toNat = (n - 1).toNat + 1 by omega]
      have e0 : (impl_orderOf.f 300 n 0 == some M) = false := by
        rw [ordV_i (hT 0 (by omega) (by omega)) (by omega), ordV_no (hT 0 (by omega) (by omega)) (gcdGo_zero n h0)]
        simp; omega
      simp only [numsD, e0, Bool.false_eq_true, if_false]
      refine numsD_congr fun x hx hx2 => ?_
      rw [ordV_i (hT x (by omega) (by omega)) (by omega)]
      unfold lfP
      by_cases hg : gcdGo n x = 1
      · rw [decide_eq_true hg, Bool.true_and, Bool.eq_iff_iff]
        simp
      · rw [decide_eq_false hg, Bool.false_and, ordV_no (hT x (by omega) (by omega)) hg]
        simp; omega
    have hl := numsD_len (lfP n M) 1 (n - 1).toNat
    refine ⟨300, ?_⟩
    unfold laws_FnExactLongFactors.f
    rw [hs, hi]
    simp only [Option.bind_some]
    rw [eqIntS_self (by omega) (by omega)]
    simp only [Option.bind_some, if_true, bne_self_eq_false, Bool.false_eq_true, if_false]
    rw [markIntS_f (by omega) (by omega) (by omega) (by omega)]
    simp only [Option.bind_some]
    rw [heldIntS_f (by omega) (by omega) (by omega) (by omega)]
    simp only [Option.bind_some, if_true]
    rw [if_neg (by omega), if_neg (by omega)]
  · have hs : spec_LongFactors.f 300 n = some ([], 0, false) := by
      unfold spec_LongFactors.f
      rw [srPoints_eq]
      simp only [Option.bind_some]
      rw [if_neg hq]
    have hi : impl_LongFactors.f 300 n = some ([], 0, false) := by
      unfold impl_LongFactors.f
      rw [if_neg hq]
    refine ⟨300, ?_⟩
    unfold laws_FnExactLongFactors.f
    rw [hs, hi]
    simp only [Option.bind_some]
    rw [eqIntS_self (by simp) (by simp)]
    simp only [Option.bind_some, if_true, bne_self_eq_false, Bool.false_eq_true, if_false]
    rw [markIntS_f (by simp) (by simp) (by omega) (by omega)]
    simp only [Option.bind_some]
    rw [heldIntS_f (by simp) (by simp) (by omega) (by omega)]
    simp

end Go.Proofs.Ytejchneeheeldaa.Pure
