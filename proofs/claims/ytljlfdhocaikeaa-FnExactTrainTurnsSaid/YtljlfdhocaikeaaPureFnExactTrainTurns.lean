/- What is proved: the pure statement of the law FnExactTrainTurns, about numbers and lists alone; no condition. -/
import Derived.Test.YtljlfdhocaikeaaPx9
namespace Go.Proofs.Ytljlfdhocaikeaa.Pure
open Go.RowKit Go.Proofs.Ytljlfdhocaikeaa.P Go.Proofs.YtljlfdhocaikeaaW.PrintWords Go.Proofs.YtljlfdhocaikeaaW.PrintLast
set_option linter.unusedVariables false
set_option linter.unusedSimpArgs false

theorem l1In_eq (n lo hi : Int) : spec_l1In.f n lo hi = some (inR n lo hi) := by
  unfold spec_l1In.f inR
  by_cases h : n ≥ lo
  · rw [if_pos h]; congr 1; simp only [decide_eq_decide]; omega
  · rw [if_neg h]; congr 1; exact (decide_eq_false (by omega)).symm
theorem wrap_one {n lo hi : Int} (h : inR n lo hi = true) (h1 : -1000000 ≤ lo) (h2 : hi ≤ 1000000) : wrap64 (n - 1) = n - 1 := by
  have := inR_true.1 h
  unfold wrap64
  omega
theorem wrap_id {x : Int} (h : -9000000000000000000 ≤ x) (h2 : x ≤ 9000000000000000000) : wrap64 x = x := by unfold wrap64; omega
theorem eqIntS_l0 (l : List Int) (hl : (l.length : Int) ≤ 1000000000000) : ∀ (d k : Nat) (i : Int), 0 ≤ i → i + d = l.length → d < k → laws_eqIntS.l0 k l l i = some true
  | 0, k + 1, i, h0, hi, _ => by
    unfold laws_eqIntS.l0
    rw [if_neg (by omega)]
  | d + 1, k + 1, i, h0, hi, hk => by
    unfold laws_eqIntS.l0
    rw [if_pos (by omega), if_pos h0, if_pos (by omega), if_pos rfl, wrap_id (by omega) (by omega)]
    exact eqIntS_l0 l hl d k (i + 1) (by omega) (by omega) (by omega)
theorem eqIntS_self {l : List Int} (hl : (l.length : Int) ≤ 1000000000000) {k : Nat} (hk : l.length < k) : laws_eqIntS.f k l l = some true := by
  unfold laws_eqIntS.f
  rw [if_pos rfl]
  exact eqIntS_l0 l hl l.length k 0 (by omega) (by omega) hk
theorem rd_get {l : List Int} {i : Int} (h0 : 0 ≤ i) (h1 : i < (l.length : Int)) : rd l i = l[i.toNat]'(by omega) := by
  simp [rd, List.getD_eq_getElem?_getD, List.getElem?_eq_getElem (show i.toNat < l.length by omega)]
theorem toIntS_l0 (l : List Int) (hl : (l.length : Int) ≤ 1000000000000) (d : Nat) : ∀ (k : Nat) (r : List Int) (i : Int), 0 ≤ i → i + d = l.length → r.length = l.length → r.take i.toNat = l.take i.toNat → d < k → laws_toIntS.l0 k l r i = some l := by
  induction d with
  | zero =>
    intro k r i h0 hi hr ht hk
    obtain ⟨k, rfl⟩ : ∃ m, k = m + 1 := ⟨k - 1, by omega⟩
    rw [laws_toIntS.l0, if_neg (by omega)]
    rw [List.take_of_length_le (by omega), List.take_of_length_le (by omega)] at ht
    rw [ht]
  | succ d ih =>
    intro k r i h0 hi hr ht hk
    obtain ⟨k, rfl⟩ : ∃ m, k = m + 1 := ⟨k - 1, by omega⟩
    rw [laws_toIntS.l0, if_pos (by omega), if_pos h0, if_pos (by omega), wrap_id (by omega) (by omega)]
    refine ih k _ (i + 1) (by omega) (by omega) (by rw [List.length_set]; exact hr) ?_ (by omega)
    rw [show (i + 1).toNat = i.toNat + 1 by omega, List.take_succ_eq_append_getElem (by rw [List.length_set]; omega), List.take_set_of_le (Nat.le_refl _), ht,
      List.take_succ_eq_append_getElem (show i.toNat < l.length by omega), rd_get h0 (by omega)]
    simp
theorem toIntS_f {l : List Int} {k : Nat} (hl : (l.length : Int) ≤ 1048576) (hk : 1048577 < k) : laws_toIntS.f k l = some l := by
  unfold laws_toIntS.f
  rw [if_pos (by omega), if_pos (by simp; omega)]
  exact toIntS_l0 l (by omega) l.length k _ 0 (by omega) (by omega) (by simp) (by simp) (by omega)
/-- A train. -/
def trainOk (l : List Int) : Bool := inR l.length 2 6 && l.all fun x => inR x 1 300
theorem trainOk_true {l : List Int} (h : trainOk l = true) : 2 ≤ (l.length : Int) ∧ (l.length : Int) ≤ 6 ∧ ∀ i : Int, 0 ≤ i → i < l.length → 1 ≤ rd l i ∧ rd l i ≤ 300 := by
  simp only [trainOk, Bool.and_eq_true, inR_true, List.all_eq_true] at h
  refine ⟨h.1.1, h.1.2, ?_⟩
  intro i h0 h1
  rw [rd_get h0 h1]
  exact h.2 _ (List.getElem_mem _)
theorem l1All_l0 (l : List Int) (lo hj : Int) (hl : (l.length : Int) ≤ 1000000000000) (d : Nat) : ∀ (k : Nat) (i : Int), 0 ≤ i → i + d = l.length → d < k → spec_l1All.l0 k lo hj l (l.length : Int) i = some ((l.drop i.toNat).all fun x => inR x lo hj) := by
  induction d with
  | zero =>
    intro k i h0 hi hk
    obtain ⟨k, rfl⟩ : ∃ m, k = m + 1 := ⟨k - 1, by omega⟩
    rw [spec_l1All.l0, if_neg (by omega), List.drop_eq_nil_of_le (by omega)]; rfl
  | succ d ih =>
    intro k i h0 hi hk
    obtain ⟨k, rfl⟩ : ∃ m, k = m + 1 := ⟨k - 1, by omega⟩
    rw [spec_l1All.l0, if_pos (by omega), if_pos h0, if_pos (by omega), l1In_eq, List.drop_eq_getElem_cons (by omega), List.all_cons, ← rd_get h0 (by omega)]
    simp only [Option.bind_some]
    by_cases hq : inR (rd l i) lo hj = true
    · rw [if_pos hq, wrap_id (by omega) (by omega), ih k (i + 1) (by omega) (by omega) (by omega), hq, show (i + 1).toNat = i.toNat + 1 by omega]; rfl
    · rw [if_neg hq]; simp only [Bool.not_eq_true] at hq; rw [hq]; rfl
theorem geTrain_eq {l : List Int} {k : Nat} (hl : (l.length : Int) ≤ 1048576) (hk : 1048577 < k) : spec_geTrain.f k l = some (trainOk l) := by
  unfold spec_geTrain.f spec_l1All.f trainOk
  rw [l1In_eq]
  simp only [Option.bind_some]
  by_cases h : inR l.length 2 6 = true
  · rw [if_pos h, l1All_l0 l 1 300 (by omega) l.length k 0 (by omega) (by omega) (by omega), h]; simp
  · rw [if_neg h]; simp only [Bool.not_eq_true] at h; rw [h]; rfl
theorem isTrain_eq (l : List Int) : impl_isTrain.f l = some (trainOk l) := rfl
/-- a, a + 1, .. -/
def marks (a : Int) : Nat → List Int
  | 0 => []
  | n + 1 => a :: marks (a + 1) n
theorem marks_len (a : Int) (n : Nat) : (marks a n).length = n := by
  induction n generalizing a with
  | zero => rfl
  | succ n ih => simp [marks, ih]

theorem rd_drop {l : List Int} {i : Int} {x : Int} {r : List Int} (h0 : 0 ≤ i) (h : l.drop i.toNat = x :: r) : rd l i = x ∧ l.drop (i + 1).toNat = r ∧ i.toNat < l.length := by
  have hl : i.toNat < l.length := by
    rcases Nat.lt_or_ge i.toNat l.length with h1 | h1
    · exact h1
    · rw [List.drop_eq_nil_of_le h1] at h; cases h
  have h3 := List.drop_eq_getElem_cons hl
  rw [h3] at h
  injection h with h4 h5
  refine ⟨by simp [rd, List.getD_eq_getElem?_getD, List.getElem?_eq_getElem hl, h4], ?_, hl⟩
  rw [show (i + 1).toNat = i.toNat + 1 by omega]; exact h5
theorem markIntS_l0 : ∀ (d k : Nat) (l : List Int) (a i : Int), 0 ≤ i → i + d = l.length → d < k → (l.length : Int) ≤ 1000000000000 → -1000000000000 ≤ a → a + d ≤ 3000000000000 → laws_markIntS.l0 k l a i = some (a + d, l.take i.toNat ++ marks a d)
  | 0, k + 1, l, a, i, h0, hi, _, hl, ha, hb => by
    unfold laws_markIntS.l0
    rw [if_neg (by omega), List.take_of_length_le (by omega)]
    simp [marks]
  | d + 1, k + 1, l, a, i, h0, hi, hk, hl, ha, hb => by
    unfold laws_markIntS.l0
    rw [if_pos (by omega), if_pos h0, wrap_id (by omega) (by omega), wrap_id (by omega) (by omega)]
    rw [markIntS_l0 d k (l.set i.toNat a) (a + 1) (i + 1) (by omega) (by rw [List.length_set]; omega) (by omega) (by rw [List.length_set]; omega) (by omega) (by omega)]
    have e : (l.set i.toNat a).take (i + 1).toNat = l.take i.toNat ++ [a] := by
      rw [show (i + 1).toNat = i.toNat + 1 by omega, List.take_succ_eq_append_getElem (by rw [List.length_set]; omega), List.take_set_of_le (Nat.le_refl _)]
      simp
    rw [e]
    simp only [marks, List.append_assoc, List.singleton_append]
    congr 2
    omega
theorem markIntS_f {l : List Int} (hl : (l.length : Int) ≤ 1000000000000) {k : Nat} (hk : l.length < k) {a : Int} (ha : -1000000000000 ≤ a) (hb : a ≤ 2000000000000) : laws_markIntS.f k l a = some (a + l.length, marks a l.length) := by
  unfold laws_markIntS.f
  rw [markIntS_l0 l.length k l a 0 (by omega) (by omega) hk hl ha (by omega)]
  simp
theorem heldIntS_l0 : ∀ (d k : Nat) (l : List Int) (a i : Int), 0 ≤ i → i + d = l.length → l.drop i.toNat = marks a d → d < k → (l.length : Int) ≤ 1000000000000 → -1000000000000 ≤ a → a + d ≤ 3000000000000 → laws_heldIntS.l0 k l a i = some (a + d)
  | 0, k + 1, l, a, i, h0, hi, _, _, hl, ha, hb => by
    unfold laws_heldIntS.l0
    rw [if_neg (by omega)]
    simp
  | d + 1, k + 1, l, a, i, h0, hi, hd, hk, hl, ha, hb => by
    obtain ⟨e1, e2, e3⟩ := rd_drop h0 (show l.drop i.toNat = a :: marks (a + 1) d from hd)
    unfold laws_heldIntS.l0
    rw [if_pos (by omega), if_pos h0, if_pos e1, wrap_id (by omega) (by omega), wrap_id (by omega) (by omega)]
    rw [heldIntS_l0 d k l (a + 1) (i + 1) (by omega) (by omega) e2 (by omega) hl (by omega) (by omega)]
    congr 1
    omega
theorem heldIntS_f {n k : Nat} (hn : (n : Int) ≤ 1000000000000) (hk : n < k) {a : Int} (ha : -1000000000000 ≤ a) (hb : a ≤ 2000000000000) : laws_heldIntS.f k (marks a n) a = some (a + n) := by
  unfold laws_heldIntS.f
  exact heldIntS_l0 n k (marks a n) a 0 (by omega) (by rw [marks_len]; omega) (by simp) hk (by rw [marks_len]; exact hn) ha (by omega)
/-- From some number of rounds on. -/
def Ev {α : Type} (f : Nat → Option α) (r : α) : Prop := ∃ K, ∀ k, K ≤ k → f k = some r
theorem Ev.succ {α : Type} {f g : Nat → Option α} {r : α} (h : Ev g r) (e : ∀ k, f (k + 1) = g k) : Ev f r := by
  obtain ⟨K, h⟩ := h
  refine ⟨K + 1, fun k hk => ?_⟩
  obtain ⟨k, rfl⟩ : ∃ m, k = m + 1 := ⟨k - 1, by omega⟩
  rw [e]; exact h k (by omega)
theorem Ev.succ2 {α : Type} {f g : Nat → Option α} {r : α} (h : Ev g r) (e : ∀ k, f (k + 1 + 1) = g k) : Ev f r := by
  obtain ⟨K, h⟩ := h
  refine ⟨K + 2, fun k hk => ?_⟩
  obtain ⟨k, rfl⟩ : ∃ m, k = m + 1 + 1 := ⟨k - 2, by omega⟩
  rw [e]; exact h k (by omega)
theorem Ev.one {α : Type} {f : Nat → Option α} {r : α} (e : ∀ k, f (k + 1) = some r) : Ev f r :=
  ⟨1, fun k hk => by obtain ⟨k, rfl⟩ : ∃ m, k = m + 1 := ⟨k - 1, by omega⟩; exact e k⟩
theorem Ev.two {α : Type} {f : Nat → Option α} {r : α} (e : ∀ k, f (k + 1 + 1) = some r) : Ev f r :=
  ⟨2, fun k hk => by obtain ⟨k, rfl⟩ : ∃ m, k = m + 1 + 1 := ⟨k - 2, by omega⟩; exact e k⟩
theorem Ev.congr {α : Type} {f g : Nat → Option α} {r : α} (h : Ev g r) (K : Nat) (e : ∀ k, K ≤ k → f k = g k) : Ev f r := by
  obtain ⟨L, h⟩ := h
  exact ⟨K + L, fun k hk => by rw [e k (by omega)]; exact h k (by omega)⟩
theorem Ev.lift {α : Type} {f : Nat → Option α} {r : α} (h : Ev f r) : ∃ K, ∀ k, K ≤ k → f k = some r := h
theorem close_TrainTurns {l : List Int} (a : Int) (hl : ¬ (l.length : Int) > 1048576) (r : List Int × List Int × Bool) (hr1 : (r.1.length : Int) ≤ 1000) (hr2 : (r.2.1.length : Int) ≤ 1000) (hs : ∀ k, 1048577 < k → spec_TrainTurns.f k l a = some r) (hi : ∀ k, 1048577 < k → impl_TrainTurns.f k l a = some r) : ∃ k, laws_FnExactTrainTurns.f k l a = some true := by
  obtain ⟨k, hk⟩ : ∃ k : Nat, k = 1048579 := ⟨_, rfl⟩
  refine ⟨k + 1 + 1 + 1, ?_⟩
  unfold laws_FnExactTrainTurns.f
  rw [if_neg hl, toIntS_f (by omega) (by omega)]
  simp only [Option.bind_some]
  rw [hs _ (by omega), hi _ (by omega)]
  simp only [Option.bind_some]
  rw [eqIntS_self (by omega) (by omega)]
  simp only [Option.bind_some, if_true]
  rw [eqIntS_self (by omega) (by omega)]
  simp only [Option.bind_some, if_true, bne_self_eq_false]
  rw [laws_FnExactTrainTurns.j0, if_neg (by decide), toIntS_f (by omega) (by omega)]
  simp only [Option.bind_some]
  rw [eqIntS_self (by omega) (by omega)]
  simp only [Option.bind_some, if_true]
  rw [markIntS_f (by omega) (by omega) (by omega) (by omega)]
  simp only [Option.bind_some]
  rw [if_neg (by omega), eqIntS_self (by omega) (by omega)]
  simp only [Option.bind_some, if_true]
  rw [eqIntS_self (by omega) (by omega)]
  simp only [Option.bind_some, if_true, bne_self_eq_false]
  rw [laws_FnExactTrainTurns.j1, if_neg (by decide), markIntS_f (by omega) (by omega) (by omega) (by omega)]
  simp only [Option.bind_some]
  rw [markIntS_f (by omega) (by omega) (by omega) (by omega)]
  simp only [Option.bind_some]
  rw [heldIntS_f (by omega) (by omega) (by omega) (by omega)]
  simp only [Option.bind_some]
  rw [if_neg (by omega), heldIntS_f (by omega) (by omega) (by omega) (by omega)]
  simp only [Option.bind_some]
  rw [if_neg (by omega)]
  simp only [if_true]
  rw [toIntS_f (by omega) (by omega)]
  simp only [Option.bind_some]
  rw [hi _ (by omega)]
  simp only [Option.bind_some]
  rw [eqIntS_self (by omega) (by omega)]
  simp only [Option.bind_some, if_true]
  rw [eqIntS_self (by omega) (by omega)]
  simp only [Option.bind_some, if_true, bne_self_eq_false]
  rw [laws_FnExactTrainTurns.j2, if_neg (by decide), heldIntS_f (by omega) (by omega) (by omega) (by omega)]
  simp only [Option.bind_some]
  rw [if_neg (by omega), heldIntS_f (by omega) (by omega) (by omega) (by omega)]
  simp only [Option.bind_some]
  rw [if_neg (by omega)]
  simp only [if_true]
/-- The sign of a wheel. -/
def sn (i : Int) : Int := if Int.tmod i 2 = 1 then -1 else 1
theorem sn_next {i : Int} (h : 0 ≤ i) : wrap64 (-(sn i)) = sn (i + 1) := by
  unfold sn
  rw [Int.tmod_eq_emod_of_nonneg h, Int.tmod_eq_emod_of_nonneg (by omega)]
  by_cases h1 : i % 2 = 1
  · rw [if_pos h1, if_neg (by omega)]; exact wrap_id (by omega) (by omega)
  · rw [if_neg h1, if_pos (by omega)]; exact wrap_id (by omega) (by omega)
theorem l1Abs_eq {x : Int} (h : -1000000 ≤ x) (h2 : x ≤ 1000000) : spec_l1Abs.f x = some (x.natAbs : Int) := by
  unfold spec_l1Abs.f spec_l1Most.f
  rw [wrap_id (by omega) (by omega)]
  by_cases h : x > -x
  · rw [if_pos h]; simp only [Option.bind_some]; congr 1; omega
  · rw [if_neg h]; simp only [Option.bind_some]; congr 1; omega
theorem turns_both (l : List Int) (a : Int) (hl : (l.length : Int) ≤ 6) (hl0 : 0 < (l.length : Int)) (ha : -1000 ≤ a) (ha2 : a ≤ 1000) (hr : ∀ i : Int, 0 ≤ i → i < l.length → 1 ≤ rd l i ∧ rd l i ≤ 300) (d : Nat) : ∀ (o p : List Int) (i : Int), 0 ≤ i → i + d = l.length → (o.length : Int) = i → (p.length : Int) = i →
    ∃ r : List Int × List Int × Bool, (r.1.length : Int) ≤ 6 ∧ (r.2.1.length : Int) ≤ 6 ∧ ∀ k : Nat, d < k → spec_TrainTurns.l0 k l a o p (sn i) l (l.length : Int) i = some r ∧ impl_TrainTurns.l0 k l a o p l (l.length : Int) i = some r := by
  induction d with
  | zero =>
    intro o p i h0 hi ho hp
    refine ⟨(o, p, true), by simp; omega, by simp; omega, ?_⟩
    intro k hk
    obtain ⟨k, rfl⟩ : ∃ m, k = m + 1 := ⟨k - 1, by omega⟩
    rw [spec_TrainTurns.l0, impl_TrainTurns.l0, if_neg (by omega), if_neg (by omega)]
    exact ⟨rfl, rfl⟩
  | succ d ih =>
    intro o p i h0 hi ho hp
    have hr' := hr i h0 (by omega)
    have hr0 := hr 0 (by omega) (by omega)
    have hM : -300000 ≤ a * rd l 0 ∧ a * rd l 0 ≤ 300000 := by
      have h1 : a * rd l 0 ≤ 1000 * rd l 0 := Int.mul_le_mul_of_nonneg_right ha2 (by omega)
      have h2 : -1000 * rd l 0 ≤ a * rd l 0 := Int.mul_le_mul_of_nonneg_right ha (by omega)
      omega
    generalize hMe : a * rd l 0 = M at *
    have hG : 1 ≤ gcdGo (M.natAbs : Int) (rd l i) := by
      rw [gcdGo_of (by omega) (by omega)]
      have : 0 < Nat.gcd ((M.natAbs : Int)).toNat (rd l i).toNat := Nat.gcd_pos_of_pos_right _ (by omega)
      omega
    obtain ⟨r, hr1, hr2, hrr⟩ := ih (o ++ [wrap64 (Int.tdiv (sn i * M) (gcdGo (M.natAbs : Int) (rd l i)))]) (p ++ [wrap64 (Int.tdiv (rd l i) (gcdGo (M.natAbs : Int) (rd l i)))]) (i + 1) (by omega) (by omega) (by simp; omega) (by simp; omega)
    refine ⟨r, hr1, hr2, ?_⟩
    intro k hk
    obtain ⟨k, rfl⟩ : ∃ m, k = m + 1 := ⟨k - 1, by omega⟩
    have hsn : sn i = 1 ∨ sn i = -1 := by unfold sn; split <;> omega
    have hs1 : wrap64 (sn i * M) = sn i * M := by
      rcases hsn with e | e <;> rw [e] <;> refine wrap_id ?_ ?_ <;> omega
    obtain ⟨g1, g2⟩ := hrr k (by omega)
    constructor
    · rw [spec_TrainTurns.l0, if_pos (by omega), if_pos h0, if_pos (by omega), if_pos hl0, hMe, wrap_id (x := M) (by omega) (by omega), l1Abs_eq (by omega) (by omega)]
      unfold spec_srCommon.f
      simp only [Option.bind_some]
      rw [if_neg (by omega), if_pos (by omega), if_pos (by omega), hs1, sn_next h0, wrap_id (x := i + 1) (by omega) (by omega)]
      exact g1
    · rw [impl_TrainTurns.l0, if_pos (by omega), if_pos h0, if_pos (by omega), if_pos hl0, hMe, wrap_id (x := M) (by omega) (by omega), wrap_id (x := -M) (by omega) (by omega), wrap_id (x := - -M) (by omega) (by omega)]
      unfold impl_divisor.f
      simp only [Option.bind_some]
      have e1 : mx (-M) (- -M) = (M.natAbs : Int) := by unfold mx; split <;> omega
      have e2 : mx M (-M) = (M.natAbs : Int) := by unfold mx; split <;> omega
      rw [e1, e2, wrap_id (x := i + 1) (by omega) (by omega)]
      by_cases hq : Int.tmod i 2 = 1
      · rw [if_pos hq, if_neg (by omega), if_pos (by omega), if_pos (by omega)]
        have : sn i * M = -M := by unfold sn; rw [if_pos hq]; omega
        rw [this] at g2
        exact g2
      · rw [if_neg hq, if_neg (by omega), if_pos (by omega), if_pos (by omega)]
        have : sn i * M = M := by unfold sn; rw [if_neg hq]; omega
        rw [this] at g2
        exact g2
theorem FnExactTrainTurns : laws_FnExactTrainTurns.Pure := by
  intro l a _ _ _ _
  by_cases hl : (l.length : Int) > 1048576
  · refine ⟨0, ?_⟩
    unfold laws_FnExactTrainTurns.f
    rw [if_pos hl]
  have es : ∀ k, 1048577 ≤ k → spec_TrainTurns.f (k + 1) l a = spec_TrainTurns.j0 (k + 1) l a (!(trainOk l && inR a (-1000) 1000)) := by
    intro k hk
    unfold spec_TrainTurns.f
    rw [geTrain_eq (by omega) (by omega), l1In_eq]
    simp only [Option.bind_some]
    by_cases h : trainOk l = true
    · rw [if_pos h, h]; rfl
    · rw [if_neg h]; simp only [Bool.not_eq_true] at h; rw [h]; rfl
  have ei : ∀ k, impl_TrainTurns.f (k + 1) l a = impl_TrainTurns.j0 (k + 1) l a (!(trainOk l && inR a (-1000) 1000)) := by
    intro k
    unfold impl_TrainTurns.f
    rw [isTrain_eq, within_eq]
    simp only [Option.bind_some]
    by_cases h : trainOk l = true
    · rw [if_pos h, h]; rfl
    · rw [if_neg h]; simp only [Bool.not_eq_true] at h; rw [h]; rfl
  by_cases hq : (trainOk l && inR a (-1000) 1000) = true
  · have hq' := hq
    simp only [Bool.and_eq_true, inR_true] at hq'
    have hb := trainOk_true hq'.1
    obtain ⟨r, hr1, hr2, hrr⟩ := turns_both l a (by omega) (by omega) (by omega) (by omega) hb.2.2 l.length [] [] 0 (by omega) (by omega) (by simp) (by simp)
    refine close_TrainTurns a hl r (by omega) (by omega) ?_ ?_
    · intro k hk
      obtain ⟨k, rfl⟩ : ∃ m, k = m + 1 := ⟨k - 1, by omega⟩
      rw [es k (by omega), hq, Bool.not_true, spec_TrainTurns.j0, if_neg (by decide)]
      exact (hrr k (by omega)).1
    · intro k hk
      obtain ⟨k, rfl⟩ : ∃ m, k = m + 1 := ⟨k - 1, by omega⟩
      rw [ei k, hq, Bool.not_true, impl_TrainTurns.j0, if_neg (by decide)]
      exact (hrr k (by omega)).2
  · simp only [Bool.not_eq_true] at hq
    refine close_TrainTurns a hl ([], [], false) (by simp) (by simp) ?_ ?_
    · intro k hk
      obtain ⟨k, rfl⟩ : ∃ m, k = m + 1 := ⟨k - 1, by omega⟩
      rw [es k (by omega), hq, Bool.not_false, spec_TrainTurns.j0, if_pos rfl]
    · intro k hk
      obtain ⟨k, rfl⟩ : ∃ m, k = m + 1 := ⟨k - 1, by omega⟩
      rw [ei k, hq, Bool.not_false, impl_TrainTurns.j0, if_pos rfl]

end Go.Proofs.Ytljlfdhocaikeaa.Pure
