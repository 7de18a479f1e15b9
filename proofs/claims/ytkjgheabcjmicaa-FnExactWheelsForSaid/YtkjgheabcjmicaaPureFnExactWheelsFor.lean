/- What is proved: the pure statement of the law FnExactWheelsFor, about numbers and lists alone; no condition. -/
import Derived.Test.YtkjgheabcjmicaaPx5
namespace Go.Proofs.Ytkjgheabcjmicaa.Pure
open Go.RowKit Go.Proofs.Ytkjgheabcjmicaa.P Go.Proofs.YtkjgheabcjmicaaW.PrintWords Go.Proofs.YtkjgheabcjmicaaW.PrintLast
set_option linter.unusedVariables false
set_option linter.unusedSimpArgs false

theorem l1In_eq (n lo hi : Int) : spec_l1In.f n lo hi = some (inR n lo hi) := by
  unfold spec_l1In.f inR
  by_cases h : n ≥ lo
  · rw [if_pos h]; congr 1; simp only [decide_eq_decide]; omega
  · rw [if_neg h]; congr 1; exact (decide_eq_false (by omega)).symm
theorem wrap_one {n lo hi : Int} (h : inR n lo hi = true) (h1 : -1000000 ≤ lo) (h2 : hi ≤ 1000000) : wrap64 (n - 1) = n - 1 := by
  have := inR_true.1 h
  unfold wrap64
  omega
theorem wrap_id {x : Int} (h : -9000000000000000000 ≤ x) (h2 : x ≤ 9000000000000000000) : wrap64 x = x := by unfold wrap64; omega
/-- a, a + 1, .. -/
def marks (a : Int) : Nat → List Int
  | 0 => []
  | n + 1 => a :: marks (a + 1) n
theorem marks_len (a : Int) (n : Nat) : (marks a n).length = n := by
  induction n generalizing a with
  | zero => rfl
  | succ n ih => simp [marks, ih]

theorem rd_drop {l : List Int} {i : Int} {x : Int} {r : List Int} (h0 : 0 ≤ i) (h : l.drop i.toNat = x :: r) : rd l i = x ∧ l.drop (i + 1).toNat = r ∧ i.toNat < l.length := by
  have hl : i.toNat < l.length := by
    rcases Nat.lt_or_ge i.toNat l.length with h1 | h1
    · exact h1
    · rw [List.drop_eq_nil_of_le h1] at h; cases h
  have h3 := List.drop_eq_getElem_cons hl
  rw [h3] at h
  injection h with h4 h5
  refine ⟨by simp [rd, List.getD_eq_getElem?_getD, List.getElem?_eq_getElem hl, h4], ?_, hl⟩
  rw [show (i + 1).toNat = i.toNat + 1 by omega]; exact h5
theorem eqIntS_l0 (l : List Int) (hl : (l.length : Int) ≤ 1000000000000) : ∀ (d k : Nat) (i : Int), 0 ≤ i → i + d = l.length → d < k → laws_eqIntS.l0 k l l i = some true
  | 0, k + 1, i, h0, hi, _ => by
    unfold laws_eqIntS.l0
    rw [if_neg (by omega)]
  | d + 1, k + 1, i, h0, hi, hk => by
    unfold laws_eqIntS.l0
    rw [if_pos (by omega), if_pos h0, if_pos (by omega), if_pos rfl, wrap_id (by omega) (by omega)]
    exact eqIntS_l0 l hl d k (i + 1) (by omega) (by omega) (by omega)
theorem eqIntS_self {l : List Int} (hl : (l.length : Int) ≤ 1000000000000) {k : Nat} (hk : l.length < k) : laws_eqIntS.f k l l = some true := by
  unfold laws_eqIntS.f
  rw [if_pos rfl]
  exact eqIntS_l0 l hl l.length k 0 (by omega) (by omega) hk
theorem markIntS_l0 : ∀ (d k : Nat) (l : List Int) (a i : Int), 0 ≤ i → i + d = l.length → d < k → (l.length : Int) ≤ 1000000000000 → -1000000000000 ≤ a → a + d ≤ 3000000000000 → laws_markIntS.l0 k l a i = some (a + d, l.take i.toNat ++ marks a d)
  | 0, k + 1, l, a, i, h0, hi, _, hl, ha, hb => by
    unfold laws_markIntS.l0
    rw [if_neg (by omega), List.take_of_length_le (by omega)]
    simp [marks]
  | d + 1, k + 1, l, a, i, h0, hi, hk, hl, ha, hb => by
    unfold laws_markIntS.l0
    rw [if_pos (by omega), if_pos h0, wrap_id (by omega) (by omega), wrap_id (by omega) (by omega)]
    rw [markIntS_l0 d k (l.set i.toNat a) (a + 1) (i + 1) (by omega) (by rw [List.length_set]; omega) (by omega) (by rw [List.length_set]; omega) (by omega) (by omega)]
    have e : (l.set i.toNat a).take (i + 1).toNat = l.take i.toNat ++ [a] := by
      rw [show (i + 1).toNat = i.toNat + 1 by omega, List.take_succ_eq_append_getElem (by rw [List.length_set]; omega), List.take_set_of_le (Nat.le_refl _)]
      simp
    rw [e]
    simp only [marks, List.append_assoc, List.singleton_append]
    congr 2
    omega
theorem markIntS_f {l : List Int} (hl : (l.length : Int) ≤ 1000000000000) {k : Nat} (hk : l.length < k) {a : Int} (ha : -1000000000000 ≤ a) (hb : a ≤ 2000000000000) : laws_markIntS.f k l a = some (a + l.length, marks a l.length) := by
  unfold laws_markIntS.f
  rw [markIntS_l0 l.length k l a 0 (by omega) (by omega) hk hl ha (by omega)]
  simp
theorem heldIntS_l0 : ∀ (d k : Nat) (l : List Int) (a i : Int), 0 ≤ i → i + d = l.length → l.drop i.toNat = marks a d → d < k → (l.length : Int) ≤ 1000000000000 → -1000000000000 ≤ a → a + d ≤ 3000000000000 → laws_heldIntS.l0 k l a i = some (a + d)
  | 0, k + 1, l, a, i, h0, hi, _, _, hl, ha, hb => by
    unfold laws_heldIntS.l0
    rw [if_neg (by omega)]
    simp
  | d + 1, k + 1, l, a, i, h0, hi, hd, hk, hl, ha, hb => by
    obtain ⟨e1, e2, e3⟩ := rd_drop h0 (show l.drop i.toNat = a :: marks (a + 1) d from hd)
    unfold laws_heldIntS.l0
    rw [if_pos (by omega), if_pos h0, if_pos e1, wrap_id (by omega) (by omega), wrap_id (by omega) (by omega)]
    rw [heldIntS_l0 d k l (a + 1) (i + 1) (by omega) (by omega) e2 (by omega) hl (by omega) (by omega)]
    congr 1
    omega
theorem heldIntS_f {n k : Nat} (hn : (n : Int) ≤ 1000000000000) (hk : n < k) {a : Int} (ha : -1000000000000 ≤ a) (hb : a ≤ 2000000000000) : laws_heldIntS.f k (marks a n) a = some (a + n) := by
  unfold laws_heldIntS.f
  exact heldIntS_l0 n k (marks a n) a 0 (by omega) (by rw [marks_len]; omega) (by simp) hk (by rw [marks_len]; exact hn) ha (by omega)
theorem close_WheelsFor (a : Int) (b : Int) (r : List Int) (ok : Bool) (K : Nat) (hl : (r.length : Int) ≤ 1000000) (hs : ∀ k, K ≤ k → spec_WheelsFor.f k a b = some (r, ok)) (hi : impl_WheelsFor.f a b = some (r, ok)) : ∃ k, laws_FnExactWheelsFor.f k a b = some true := by
  obtain ⟨k, hk⟩ : ∃ k, k = K + r.length + 3 := ⟨_, rfl⟩
  refine ⟨k + 1 + 1, ?_⟩
  unfold laws_FnExactWheelsFor.f
  rw [hs _ (by omega), hi]
  simp only [Option.bind_some]
  rw [eqIntS_self (by omega) (by omega)]
  simp only [Option.bind_some, if_true, bne_self_eq_false]
  rw [laws_FnExactWheelsFor.j0, if_neg (by decide), markIntS_f (by omega) (by omega) (by omega) (by omega)]
  simp only [Option.bind_some]
  rw [heldIntS_f (by omega) (by omega) (by omega) (by omega)]
  simp only [Option.bind_some]
  rw [if_neg (by omega)]
  simp only [if_true]
  rw [hi]
  simp only [Option.bind_some]
  rw [eqIntS_self (by omega) (by omega)]
  simp only [Option.bind_some, if_true, bne_self_eq_false]
  rw [laws_FnExactWheelsFor.j1, if_neg (by decide), heldIntS_f (by omega) (by omega) (by omega) (by omega)]
  simp only [Option.bind_some]
  rw [if_neg (by omega)]
  simp only [if_true]
/-- The numbers i, i + 1, .. of the next d at which p holds. -/
def numsD (p : Int → Bool) (i : Int) : Nat → List Int
  | 0 => []
  | d + 1 => if p i = true then i :: numsD p (i + 1) d else numsD p (i + 1) d
theorem numsD_eq (p : Int → Bool) (i : Int) (d : Nat) : ((List.range d).map fun (j : Nat) => i + (j : Int)).filter p = numsD p i d := by
  induction d generalizing i with
  | zero => rfl
  | succ d ih =>
    rw [List.range_succ_eq_map, List.map_cons, List.map_map]
    have e : (fun (j : Nat) => i + (j : Int)) ∘ Nat.succ = fun (j : Nat) => (i + 1) + (j : Int) := by funext j; simp; omega
    rw [e, List.filter_cons, ih]
    simp [numsD]
theorem numsW_numsD (p : Int → Bool) (lo hi : Int) : numsW p lo hi = numsD p lo (hi + 1 - lo).toNat := numsD_eq p lo _
theorem numsD_len (p : Int → Bool) (i : Int) (d : Nat) : (numsD p i d).length ≤ d := by
  induction d generalizing i with
  | zero => simp [numsD]
  | succ d ih =>
    have := ih (i + 1)
    simp only [numsD]
    split
    · simp; omega
    · omega
theorem numsW_len (p : Int → Bool) (lo hi : Int) : ((numsW p lo hi).length : Int) ≤ max 0 (hi + 1 - lo) := by
  rw [numsW_numsD]
  have := numsD_len p lo (hi + 1 - lo).toNat
  omega
theorem numsD_congr {p q : Int → Bool} {i : Int} {d : Nat} (h : ∀ x, i ≤ x → x < i + d → p x = q x) : numsD p i d = numsD q i d := by
  induction d generalizing i with
  | zero => rfl
  | succ d ih =>
    have h0 := h i (by omega) (by omega)
    have h1 := ih (i := i + 1) (fun x hx hy => h x (by omega) (by omega))
    simp only [numsD, h0, h1]
theorem wheels_l0 (a b : Int) (h0 : 3 ≤ a) (h1 : a ≤ 300) (d : Nat) : ∀ (k : Nat) (l : List Int) (i : Int), 1 ≤ i → i + d = a → d < k → (l.length : Int) + d ≤ 1000 →
    spec_WheelsFor.l0 k a b l i = some (l ++ numsD (fun x => a / gcdGo a x == b) i d, true) := by
  induction d with
  | zero =>
    intro k l i hi hd hk _
    obtain ⟨k, rfl⟩ : ∃ m, k = m + 1 := ⟨k - 1, by omega⟩
    rw [spec_WheelsFor.l0, if_neg (by omega)]
    simp [numsD]
  | succ d ih =>
    intro k l i hi hd hk hl
    obtain ⟨k, rfl⟩ : ∃ m, k = m + 1 := ⟨k - 1, by omega⟩
    rw [spec_WheelsFor.l0]
    unfold spec_srCommon.f
    have hg := gcdGo_bd (a := a) (b := i) (by omega) (by omega)
    have h2 : a / gcdGo a i ≤ a := Int.ediv_le_self _ (by omega)
    have h3 : 0 ≤ a / gcdGo a i := Int.ediv_nonneg (by omega) (by omega)
    rw [if_pos (by omega)]
    simp only [Option.bind_some]
    rw [if_neg (by omega), Int.tdiv_eq_ediv_of_nonneg (by omega), show wrap64 (a / gcdGo a i) = a / gcdGo a i by unfold wrap64; omega, wrap_id (by omega) (by omega)]
    by_cases hq : a / gcdGo a i = b
    · rw [if_pos hq, if_pos (by omega), ih k (l ++ [i]) (i + 1) (by omega) (by omega) (by omega) (by simp; omega)]
      simp [numsD, hq]
    · rw [if_neg hq, ih k l (i + 1) (by omega) (by omega) (by omega) (by omega)]
      simp [numsD, hq]
theorem FnExactWheelsFor : laws_FnExactWheelsFor.Pure := by
  intro a b _ _
  by_cases hq : (inR a 3 300 && inR b 1 300) = true
  · have hb := hq
    simp only [Bool.and_eq_true, inR_true] at hb
    refine close_WheelsFor a b (numsW (fun x => a / gcdGo a x == b) 1 (a - 1)) true 400 ?_ ?_ ?_
    · have := numsW_len (fun x => a / gcdGo a x == b) 1 (a - 1); omega
    · intro k hk
      obtain ⟨k, rfl⟩ : ∃ m, k = m + 1 := ⟨k - 1, by omega⟩
      simp only [Bool.and_eq_true] at hq
      unfold spec_WheelsFor.f
      rw [l1In_eq, hq.1]
      simp only [Option.bind_some, if_true]
      rw [l1In_eq, hq.2]
      simp only [Option.bind_some, Bool.not_true]
      rw [spec_WheelsFor.j0, if_neg (by decide), wheels_l0 a b (by omega) (by omega) (a - 1).toNat k [] 1 (by omega) (by omega) (by omega) (by simp; omega), numsW_numsD]
      simp
    · unfold impl_WheelsFor.f
      rw [if_pos hq]
  · refine close_WheelsFor a b [] false 2 (by simp) ?_ ?_
    · intro k hk
      obtain ⟨k, rfl⟩ : ∃ m, k = m + 1 := ⟨k - 1, by omega⟩
      unfold spec_WheelsFor.f
      rw [l1In_eq]
      simp only [Option.bind_some]
      by_cases h1 : inR a 3 300 = true
      · rw [if_pos h1, l1In_eq]
        have h2 : inR b 1 300 = false := by
          rw [h1, Bool.true_and] at hq; simpa using hq
        simp only [Option.bind_some, h2, Bool.not_false]
        rw [spec_WheelsFor.j0, if_pos rfl]
      · rw [if_neg h1]
        rw [spec_WheelsFor.j0, if_pos rfl]
    · unfold impl_WheelsFor.f
      rw [if_neg hq]

end Go.Proofs.Ytkjgheabcjmicaa.Pure
