/- What is proved: the pure statement of the law FnExactFactorsWith, about numbers and lists alone; no condition. -/
import Derived.Test.YtghcelpmkffbhaaPx6
namespace Go.Proofs.Ytghcelpmkffbhaa.Pure
open Go.RowKit Go.Proofs.Ytghcelpmkffbhaa.P Go.Proofs.YtghcelpmkffbhaaW.PrintWords Go.Proofs.YtghcelpmkffbhaaW.PrintLast
set_option linter.unusedVariables false
set_option linter.unusedSimpArgs false

theorem l1In_eq (n lo hi : Int) : spec_l1In.f n lo hi = some (inR n lo hi) := by
  unfold spec_l1In.f inR
  by_cases h : n ≥ lo
  · rw [if_pos h]; congr 1; simp only [decide_eq_decide]; omega
  · rw [if_neg h]; congr 1; exact (decide_eq_false (by omega)).symm
theorem wrap_one {n lo hi : Int} (h : inR n lo hi = true) (h1 : -1000000 ≤ lo) (h2 : hi ≤ 1000000) : wrap64 (n - 1) = n - 1 := by
  have := inR_true.1 h
  unfold wrap64
  omega
theorem wrap_id {x : Int} (h : -9000000000000000000 ≤ x) (h2 : x ≤ 9000000000000000000) : wrap64 x = x := by unfold wrap64; omega
/-- A table. -/
def tabOk (n f : Int) : Bool := inR n 3 60 && inR f 0 (n - 1)
theorem tabOk_true {n f : Int} : tabOk n f = true ↔ 3 ≤ n ∧ n ≤ 60 ∧ 0 ≤ f ∧ f ≤ n - 1 := by
  simp only [tabOk, Bool.and_eq_true, inR_true]
  omega
theorem srPoints_eq (n : Int) : spec_srPoints.f n = some (inR n 3 60) := by
  unfold spec_srPoints.f; rw [l1In_eq]; rfl
theorem taGood_eq (n f : Int) : spec_taGood.f n f = some (tabOk n f) := by
  unfold spec_taGood.f tabOk
  rw [srPoints_eq]
  simp only [Option.bind_some]
  by_cases h : inR n 3 60 = true
  · rw [if_pos h, wrap_one h (by omega) (by omega), l1In_eq, h]; rfl
  · rw [if_neg h]; simp only [Bool.not_eq_true] at h; rw [h]; rfl
theorem isTable_nil (n f : Int) : impl_isTable.f n f [] = some (tabOk n f) := by
  simp [impl_isTable.f, tabOk]
theorem isTable_one (n f p : Int) : impl_isTable.f n f [p] = some (tabOk n f && inR p 0 (n - 1)) := by
  simp [impl_isTable.f, tabOk]
theorem step_eq {n f p : Int} (h : tabOk n f = true) (h0 : 0 ≤ p) (h1 : p ≤ 60) : Int.tmod (wrap64 (p * f)) n = p * f % n := by
  have hb := tabOk_true.1 h
  have hm : 0 ≤ p * f := Int.mul_nonneg h0 (by omega)
  have hm2 : p * f ≤ 60 * 60 := by
    have := Int.mul_le_mul h1 (show f ≤ 60 by omega) (by omega) (by omega)
    omega
  rw [wrap_id (by omega) (by omega), Int.tmod_eq_emod_of_nonneg hm]
theorem step_bd {n f p : Int} (h : tabOk n f = true) : 0 ≤ p * f % n ∧ p * f % n < n := by
  have hb := tabOk_true.1 h
  exact ⟨Int.emod_nonneg _ (by omega), Int.emod_lt_of_pos _ (by omega)⟩
/-- The points to which the lines of i, i + 1, .. (d of them) lead. -/
def rowD (n f i : Int) : Nat → List Int
  | 0 => []
  | d + 1 => (i * f % n) :: rowD n f (i + 1) d
theorem rowD_len (n f i : Int) (d : Nat) : (rowD n f i d).length = d := by
  induction d generalizing i with
  | zero => rfl
  | succ d ih => simp [rowD, ih]
theorem rowD_at (n f : Int) (d : Nat) : ∀ (i : Int) (j : Nat), j < d → (rowD n f i d).getD j 0 = (i + j) * f % n := by
  induction d with
  | zero => intro i j h; omega
  | succ d ih =>
    intro i j h
    cases j with
    | zero => simp [rowD]
    | succ j =>
      simp only [rowD, List.getD_cons_succ]
      rw [ih (i + 1) j (by omega)]
      congr 2
      omega
theorem rd_row (n f x : Int) (h0 : 0 ≤ x) (h1 : x < n) : rd (rowD n f 0 n.toNat) x = x * f % n := by
  unfold rd
  rw [rowD_at n f n.toNat 0 x.toNat (by omega)]
  congr 2
  omega
theorem taRow_l0 (n f : Int) (h : tabOk n f = true) (d : Nat) : ∀ (k : Nat) (l : List Int) (i : Int), 0 ≤ i → i + d = n → d < k → (l.length : Int) + d ≤ 1000 →
    spec_taRow.l0 k n f l i = some (l ++ rowD n f i d) := by
  have hb := tabOk_true.1 h
  induction d with
  | zero =>
    intro k l i hi hd hk _
    obtain ⟨k, rfl⟩ : ∃ m, k = m + 1 := ⟨k - 1, by omega⟩
    rw [spec_taRow.l0, if_neg (by omega)]
    simp [rowD]
  | succ d ih =>
    intro k l i hi hd hk hl
    obtain ⟨k, rfl⟩ : ∃ m, k = m + 1 := ⟨k - 1, by omega⟩
    rw [spec_taRow.l0, if_pos (by omega), if_neg (by omega), if_pos (by omega), step_eq h hi (by omega), wrap_id (x := i + 1) (by omega) (by omega), ih k _ (i + 1) (by omega) (by omega) (by omega) (by simp; omega)]
    simp [rowD]
theorem taRow_f (n f : Int) (h : tabOk n f = true) (k : Nat) (hk : 61 ≤ k) : spec_taRow.f k n f = some (rowD n f 0 n.toNat) := by
  have hb := tabOk_true.1 h
  unfold spec_taRow.f
  rw [taRow_l0 n f h n.toNat k [] 0 (by omega) (by omega) (by omega) (by simp; omega)]
  simp
/-- The numbers i, i + 1, .. of the next d at which p holds. -/
def numsD (p : Int → Bool) (i : Int) : Nat → List Int
  | 0 => []
  | d + 1 => if p i = true then i :: numsD p (i + 1) d else numsD p (i + 1) d
theorem numsD_len (p : Int → Bool) (i : Int) (d : Nat) : (numsD p i d).length ≤ d := by
  induction d generalizing i with
  | zero => simp [numsD]
  | succ d ih =>
    have := ih (i + 1)
    simp only [numsD]
    split
    · simp; omega
    · omega
theorem numsD_congr {p q : Int → Bool} {i : Int} {d : Nat} (h : ∀ x, i ≤ x → x < i + d → p x = q x) : numsD p i d = numsD q i d := by
  induction d generalizing i with
  | zero => rfl
  | succ d ih =>
    have h0 := h i (by omega) (by omega)
    have h1 := ih (i := i + 1) (fun x hx hy => h x (by omega) (by omega))
    simp only [numsD, h0, h1]
theorem numsD_eq (p : Int → Bool) (i : Int) (d : Nat) : ((List.range d).map fun (j : Nat) => i + (j : Int)).filter p = numsD p i d := by
  induction d generalizing i with
  | zero => rfl
  | succ d ih =>
    rw [List.range_succ_eq_map, List.map_cons, List.map_map]
    have e : (fun (j : Nat) => i + (j : Int)) ∘ Nat.succ = fun (j : Nat) => (i + 1) + (j : Int) := by funext j; simp; omega
    rw [e, List.filter_cons, ih]
    simp [numsD]
theorem numsW_numsD (p : Int → Bool) (lo hi : Int) : numsW p lo hi = numsD p lo (hi + 1 - lo).toNat := numsD_eq p lo _
theorem numsW_len (p : Int → Bool) (lo hi : Int) : ((numsW p lo hi).length : Int) ≤ max 0 (hi + 1 - lo) := by
  rw [numsW_numsD]
  have := numsD_len p lo (hi + 1 - lo).toNat
  omega
theorem taFixed_l0 (n f : Int) (h : tabOk n f = true) (d : Nat) : ∀ (k : Nat) (l : List Int) (i : Int), 0 ≤ i → i + d = n → d < k → (l.length : Int) + d ≤ 1000 →
    spec_taFixed.l0 k l (rowD n f 0 n.toNat) n i = some (l ++ numsD (fixB n f) i d) := by
  have hb := tabOk_true.1 h
  have hlen : ((rowD n f 0 n.toNat).length : Int) = n := by rw [rowD_len]; omega
  induction d with
  | zero =>
    intro k l i hi hd hk _
    obtain ⟨k, rfl⟩ : ∃ m, k = m + 1 := ⟨k - 1, by omega⟩
    rw [spec_taFixed.l0, if_neg (by omega)]
    simp [numsD]
  | succ d ih =>
    intro k l i hi hd hk hl
    obtain ⟨k, rfl⟩ : ∃ m, k = m + 1 := ⟨k - 1, by omega⟩
    rw [spec_taFixed.l0, if_pos (by omega), if_pos hi, if_pos (by omega), rd_row n f i hi (by omega), wrap_id (x := i + 1) (by omega) (by omega)]
    by_cases hq : i = i * f % n
    · rw [if_pos hq, if_pos (by omega), ih k _ (i + 1) (by omega) (by omega) (by omega) (by simp; omega)]
      have hx : fixB n f i = true := by unfold fixB; rw [← hq]; simp
      simp [numsD, hx]
    · rw [if_neg hq, ih k l (i + 1) (by omega) (by omega) (by omega) (by omega)]
      have hx : fixB n f i = false := by unfold fixB; exact beq_eq_false_iff_ne.mpr (fun e => hq e.symm)
      simp [numsD, hx]
theorem taFixed_f (n f : Int) (h : tabOk n f = true) (k : Nat) (hk : 61 ≤ k) : spec_taFixed.f k n f = some (numsW (fixB n f) 0 (n - 1)) := by
  have hb := tabOk_true.1 h
  unfold spec_taFixed.f
  rw [taRow_f n f h k hk]
  simp only [Option.bind_some]
  rw [show ((rowD n f 0 n.toNat).length : Int) = n by rw [rowD_len]; omega, taFixed_l0 n f h n.toNat k [] 0 (by omega) (by omega) (by omega) (by simp; omega), numsW_numsD]
  simp
theorem fixed_i (n f : Int) (h : tabOk n f = true) : impl_fixedPoints.f n f = some (numsW (fixB n f) 0 (n - 1)) := by
  have hb := tabOk_true.1 h
  unfold impl_fixedPoints.f
  rw [if_pos (by omega)]
/-- a, a + 1, .. -/
def marks (a : Int) : Nat → List Int
  | 0 => []
  | n + 1 => a :: marks (a + 1) n
theorem marks_len (a : Int) (n : Nat) : (marks a n).length = n := by
  induction n generalizing a with
  | zero => rfl
  | succ n ih => simp [marks, ih]

theorem rd_drop {l : List Int} {i : Int} {x : Int} {r : List Int} (h0 : 0 ≤ i) (h : l.drop i.toNat = x :: r) : rd l i = x ∧ l.drop (i + 1).toNat = r ∧ i.toNat < l.length := by
  have hl : i.toNat < l.length := by
    rcases Nat.lt_or_ge i.toNat l.length with h1 | h1
    · exact h1
    · rw [List.drop_eq_nil_of_le h1] at h; cases h
  have h3 := List.drop_eq_getElem_cons hl
  rw [h3] at h
  injection h with h4 h5
  refine ⟨by simp [rd, List.getD_eq_getElem?_getD, List.getElem?_eq_getElem hl, h4], ?_, hl⟩
  rw [show (i + 1).toNat = i.toNat + 1 by omega]; exact h5
theorem eqIntS_l0 (l : List Int) (hl : (l.length : Int) ≤ 1000000000000) : ∀ (d k : Nat) (i : Int), 0 ≤ i → i + d = l.length → d < k → laws_eqIntS.l0 k l l i = some true
  | 0, k + 1, i, h0, hi, _ => by
    unfold laws_eqIntS.l0
    rw [if_neg (by omega)]
  | d + 1, k + 1, i, h0, hi, hk => by
    unfold laws_eqIntS.l0
    rw [if_pos (by omega), if_pos h0, if_pos (by omega), if_pos rfl, wrap_id (by omega) (by omega)]
    exact eqIntS_l0 l hl d k (i + 1) (by omega) (by omega) (by omega)
theorem eqIntS_self {l : List Int} (hl : (l.length : Int) ≤ 1000000000000) {k : Nat} (hk : l.length < k) : laws_eqIntS.f k l l = some true := by
  unfold laws_eqIntS.f
  rw [if_pos rfl]
  exact eqIntS_l0 l hl l.length k 0 (by omega) (by omega) hk
theorem markIntS_l0 : ∀ (d k : Nat) (l : List Int) (a i : Int), 0 ≤ i → i + d = l.length → d < k → (l.length : Int) ≤ 1000000000000 → -1000000000000 ≤ a → a + d ≤ 3000000000000 → laws_markIntS.l0 k l a i = some (a + d, l.take i.toNat ++ marks a d)
  | 0, k + 1, l, a, i, h0, hi, _, hl, ha, hb => by
    unfold laws_markIntS.l0
    rw [if_neg (by omega), List.take_of_length_le (by omega)]
    simp [marks]
  | d + 1, k + 1, l, a, i, h0, hi, hk, hl, ha, hb => by
    unfold laws_markIntS.l0
    rw [if_pos (by omega), if_pos h0, wrap_id (by omega) (by omega), wrap_id (by omega) (by omega)]
    rw [markIntS_l0 d k (l.set i.toNat a) (a + 1) (i + 1) (by omega) (by rw [List.length_set]; omega) (by omega) (by rw [List.length_set]; omega) (by omega) (by omega)]
    have e : (l.set i.toNat a).take (i + 1).toNat = l.take i.toNat ++ [a] := by
      rw [show (i + 1).toNat = i.toNat + 1 by omega, List.take_succ_eq_append_getElem (by rw [List.length_set]; omega), List.take_set_of_le (Nat.le_refl _)]
      simp
    rw [e]
    simp only [marks, List.append_assoc, List.singleton_append]
    congr 2
    omega
theorem markIntS_f {l : List Int} (hl : (l.length : Int) ≤ 1000000000000) {k : Nat} (hk : l.length < k) {a : Int} (ha : -1000000000000 ≤ a) (hb : a ≤ 2000000000000) : laws_markIntS.f k l a = some (a + l.length, marks a l.length) := by
  unfold laws_markIntS.f
  rw [markIntS_l0 l.length k l a 0 (by omega) (by omega) hk hl ha (by omega)]
  simp
theorem heldIntS_l0 : ∀ (d k : Nat) (l : List Int) (a i : Int), 0 ≤ i → i + d = l.length → l.drop i.toNat = marks a d → d < k → (l.length : Int) ≤ 1000000000000 → -1000000000000 ≤ a → a + d ≤ 3000000000000 → laws_heldIntS.l0 k l a i = some (a + d)
  | 0, k + 1, l, a, i, h0, hi, _, _, hl, ha, hb => by
    unfold laws_heldIntS.l0
    rw [if_neg (by omega)]
    simp
  | d + 1, k + 1, l, a, i, h0, hi, hd, hk, hl, ha, hb => by
    obtain ⟨e1, e2, e3⟩ := rd_drop h0 (show l.drop i.toNat = a :: marks (a + 1) d from hd)
    unfold laws_heldIntS.l0
    rw [if_pos (by omega), if_pos h0, if_pos e1, wrap_id (by omega) (by omega), wrap_id (by omega) (by omega)]
    rw [heldIntS_l0 d k l (a + 1) (i + 1) (by omega) (by omega) e2 (by omega) hl (by omega) (by omega)]
    congr 1
    omega
theorem heldIntS_f {n k : Nat} (hn : (n : Int) ≤ 1000000000000) (hk : n < k) {a : Int} (ha : -1000000000000 ≤ a) (hb : a ≤ 2000000000000) : laws_heldIntS.f k (marks a n) a = some (a + n) := by
  unfold laws_heldIntS.f
  exact heldIntS_l0 n k (marks a n) a 0 (by omega) (by rw [marks_len]; omega) (by simp) hk (by rw [marks_len]; exact hn) ha (by omega)
theorem close_FactorsWith (a : Int) (b : Int) (r : List Int) (ok : Bool) (K : Nat) (hl : (r.length : Int) ≤ 1000000) (hs : ∀ k, K ≤ k → spec_FactorsWith.f k a b = some (r, ok)) (hi : impl_FactorsWith.f a b = some (r, ok)) : ∃ k, laws_FnExactFactorsWith.f k a b = some true := by
  obtain ⟨k, hk⟩ : ∃ k, k = K + r.length + 3 := ⟨_, rfl⟩
  refine ⟨k + 1 + 1, ?_⟩
  unfold laws_FnExactFactorsWith.f
  rw [hs _ (by omega), hi]
  simp only [Option.bind_some]
  rw [eqIntS_self (by omega) (by omega)]
  simp only [Option.bind_some, if_true, bne_self_eq_false]
  rw [laws_FnExactFactorsWith.j0, if_neg (by decide), markIntS_f (by omega) (by omega) (by omega) (by omega)]
  simp only [Option.bind_some]
  rw [heldIntS_f (by omega) (by omega) (by omega) (by omega)]
  simp only [Option.bind_some]
  rw [if_neg (by omega)]
  simp only [if_true]
  rw [hi]
  simp only [Option.bind_some]
  rw [eqIntS_self (by omega) (by omega)]
  simp only [Option.bind_some, if_true, bne_self_eq_false]
  rw [laws_FnExactFactorsWith.j1, if_neg (by decide), heldIntS_f (by omega) (by omega) (by omega) (by omega)]
  simp only [Option.bind_some]
  rw [if_neg (by omega)]
  simp only [if_true]
theorem factors_l0 (n x : Int) (h0 : 3 ≤ n) (h1 : n ≤ 60) (d : Nat) : ∀ (k : Nat) (l : List Int) (i : Int), 0 ≤ i → i + d = n → d + 62 < k → (l.length : Int) + d ≤ 1000 →
    spec_FactorsWith.l0 k n x l i = some (l ++ numsD (fun f => ((numsW (fixB n f) 0 (n - 1)).length : Int) == x) i d, true) := by
  induction d with
  | zero =>
    intro k l i hi hd hk _
    obtain ⟨k, rfl⟩ : ∃ m, k = m + 1 := ⟨k - 1, by omega⟩
    rw [spec_FactorsWith.l0, if_neg (by omega)]
    simp [numsD]
  | succ d ih =>
    intro k l i hi hd hk hl
    obtain ⟨k, rfl⟩ : ∃ m, k = m + 1 := ⟨k - 1, by omega⟩
    have h : tabOk n i = true := tabOk_true.2 (by omega)
    rw [spec_FactorsWith.l0, if_pos (by omega), taFixed_f n i h k (by omega)]
    simp only [Option.bind_some]
    rw [wrap_id (x := i + 1) (by omega) (by omega)]
    by_cases hq : ((numsW (fixB n i) 0 (n - 1)).length : Int) = x
    · rw [if_pos hq, if_pos (by omega), ih k _ (i + 1) (by omega) (by omega) (by omega) (by simp; omega)]
      simp [numsD, hq]
    · rw [if_neg hq, ih k l (i + 1) (by omega) (by omega) (by omega) (by omega)]
      simp [numsD, hq]
theorem FnExactFactorsWith : laws_FnExactFactorsWith.Pure := by
  intro n x _ _
  by_cases h : (inR n 3 60 && inR x 0 60) = true
  · have hh := h
    rw [Bool.and_eq_true] at hh
    have hb := inR_true.1 hh.1
    refine close_FactorsWith n x (numsW (fun f => ((numsW (fixB n f) 0 (n - 1)).length : Int) == x) 0 (n - 1)) true 200 ?_ ?_ ?_
    · have := numsW_len (fun f => ((numsW (fixB n f) 0 (n - 1)).length : Int) == x) 0 (n - 1); omega
    · intro k hk
      obtain ⟨k, rfl⟩ : ∃ m, k = m + 1 := ⟨k - 1, by omega⟩
      unfold spec_FactorsWith.f
      rw [srPoints_eq, hh.1]
      simp only [Option.bind_some, if_true]
      rw [l1In_eq, hh.2]
      simp only [Option.bind_some, Bool.not_true]
      rw [spec_FactorsWith.j0, if_neg (by decide), factors_l0 n x hb.1 hb.2 n.toNat k [] 0 (by omega) (by omega) (by omega) (by simp; omega), numsW_numsD _ 0 (n - 1)]
      simp
    · unfold impl_FactorsWith.f
      rw [if_pos h]
  · refine close_FactorsWith n x [] false 2 (by simp) ?_ ?_
    · intro k hk
      obtain ⟨k, rfl⟩ : ∃ m, k = m + 1 := ⟨k - 1, by omega⟩
      unfold spec_FactorsWith.f
      rw [srPoints_eq]
      simp only [Option.bind_some]
      by_cases h1 : inR n 3 60 = true
      · rw [if_pos h1, l1In_eq]
        have h2 : inR x 0 60 = false := by
          rw [h1, Bool.true_and] at h; simpa using h
        simp only [Option.bind_some, h2, Bool.not_false]
        rw [spec_FactorsWith.j0, if_pos rfl]
      · rw [if_neg h1, spec_FactorsWith.j0, if_pos rfl]
    · unfold impl_FactorsWith.f
      rw [if_neg h]

end Go.Proofs.Ytghcelpmkffbhaa.Pure
