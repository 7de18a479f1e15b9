/- What is proved: the pure statement of the law FnExactTrainTeeth, about numbers and lists alone; no condition. -/
import Derived.Test.YtljlfdhocaikeaaPx4
namespace Go.Proofs.Ytljlfdhocaikeaa.Pure
open Go.RowKit Go.Proofs.Ytljlfdhocaikeaa.P Go.Proofs.YtljlfdhocaikeaaW.PrintWords Go.Proofs.YtljlfdhocaikeaaW.PrintLast
set_option linter.unusedVariables false
set_option linter.unusedSimpArgs false

theorem l1In_eq (n lo hi : Int) : spec_l1In.f n lo hi = some (inR n lo hi) := by
  unfold spec_l1In.f inR
  by_cases h : n ≥ lo
  · rw [if_pos h]; congr 1; simp only [decide_eq_decide]; omega
  · rw [if_neg h]; congr 1; exact (decide_eq_false (by omega)).symm
theorem wrap_one {n lo hi : Int} (h : inR n lo hi = true) (h1 : -1000000 ≤ lo) (h2 : hi ≤ 1000000) : wrap64 (n - 1) = n - 1 := by
  have := inR_true.1 h
  unfold wrap64
  omega
theorem wrap_id {x : Int} (h : -9000000000000000000 ≤ x) (h2 : x ≤ 9000000000000000000) : wrap64 x = x := by unfold wrap64; omega
theorem eqIntS_l0 (l : List Int) (hl : (l.length : Int) ≤ 1000000000000) : ∀ (d k : Nat) (i : Int), 0 ≤ i → i + d = l.length → d < k → laws_eqIntS.l0 k l l i = some true
  | 0, k + 1, i, h0, hi, _ => by
    unfold laws_eqIntS.l0
    rw [if_neg (by omega)]
  | d + 1, k + 1, i, h0, hi, hk => by
    unfold laws_eqIntS.l0
    rw [if_pos (by omega), if_pos h0, if_pos (by omega), if_pos rfl, wrap_id (by omega) (by omega)]
    exact eqIntS_l0 l hl d k (i + 1) (by omega) (by omega) (by omega)
theorem eqIntS_self {l : List Int} (hl : (l.length : Int) ≤ 1000000000000) {k : Nat} (hk : l.length < k) : laws_eqIntS.f k l l = some true := by
  unfold laws_eqIntS.f
  rw [if_pos rfl]
  exact eqIntS_l0 l hl l.length k 0 (by omega) (by omega) hk
theorem rd_get {l : List Int} {i : Int} (h0 : 0 ≤ i) (h1 : i < (l.length : Int)) : rd l i = l[i.toNat]'(by omega) := by
  simp [rd, List.getD_eq_getElem?_getD, List.getElem?_eq_getElem (show i.toNat < l.length by omega)]
theorem toIntS_l0 (l : List Int) (hl : (l.length : Int) ≤ 1000000000000) (d : Nat) : ∀ (k : Nat) (r : List Int) (i : Int), 0 ≤ i → i + d = l.length → r.length = l.length → r.take i.toNat = l.take i.toNat → d < k → laws_toIntS.l0 k l r i = some l := by
  induction d with
  | zero =>
    intro k r i h0 hi hr ht hk
    obtain ⟨k, rfl⟩ : ∃ m, k = m + 1 := ⟨k - 1, by omega⟩
    rw [laws_toIntS.l0, if_neg (by omega)]
    rw [List.take_of_length_le (by omega), List.take_of_length_le (by omega)] at ht
    rw [ht]
  | succ d ih =>
    intro k r i h0 hi hr ht hk
    obtain ⟨k, rfl⟩ : ∃ m, k = m + 1 := ⟨k - 1, by omega⟩
    rw [laws_toIntS.l0, if_pos (by omega), if_pos h0, if_pos (by omega), wrap_id (by omega) (by omega)]
    refine ih k _ (i + 1) (by omega) (by omega) (by rw [List.length_set]; exact hr) ?_ (by omega)
    rw [show (i + 1).toNat = i.toNat + 1 by omega, List.take_succ_eq_append_getElem (by rw [List.length_set]; omega), List.take_set_of_le (Nat.le_refl _), ht,
      List.take_succ_eq_append_getElem (show i.toNat < l.length by omega), rd_get h0 (by omega)]
    simp
theorem toIntS_f {l : List Int} {k : Nat} (hl : (l.length : Int) ≤ 1048576) (hk : 1048577 < k) : laws_toIntS.f k l = some l := by
  unfold laws_toIntS.f
  rw [if_pos (by omega), if_pos (by simp; omega)]
  exact toIntS_l0 l (by omega) l.length k _ 0 (by omega) (by omega) (by simp) (by simp) (by omega)
/-- A train. -/
def trainOk (l : List Int) : Bool := inR l.length 2 6 && l.all fun x => inR x 1 300
theorem trainOk_true {l : List Int} (h : trainOk l = true) : 2 ≤ (l.length : Int) ∧ (l.length : Int) ≤ 6 ∧ ∀ i : Int, 0 ≤ i → i < l.length → 1 ≤ rd l i ∧ rd l i ≤ 300 := by
  simp only [trainOk, Bool.and_eq_true, inR_true, List.all_eq_true] at h
  refine ⟨h.1.1, h.1.2, ?_⟩
  intro i h0 h1
  rw [rd_get h0 h1]
  exact h.2 _ (List.getElem_mem _)
theorem l1All_l0 (l : List Int) (lo hj : Int) (hl : (l.length : Int) ≤ 1000000000000) (d : Nat) : ∀ (k : Nat) (i : Int), 0 ≤ i → i + d = l.length → d < k → spec_l1All.l0 k lo hj l (l.length : Int) i = some ((l.drop i.toNat).all fun x => inR x lo hj) := by
  induction d with
  | zero =>
    intro k i h0 hi hk
    obtain ⟨k, rfl⟩ : ∃ m, k = m + 1 := ⟨k - 1, by omega⟩
    rw [spec_l1All.l0, if_neg (by omega), List.drop_eq_nil_of_le (by omega)]; rfl
  | succ d ih =>
    intro k i h0 hi hk
    obtain ⟨k, rfl⟩ : ∃ m, k = m + 1 := ⟨k - 1, by omega⟩
    rw [spec_l1All.l0, if_pos (by omega), if_pos h0, if_pos (by omega), l1In_eq, List.drop_eq_getElem_cons (by omega), List.all_cons, ← rd_get h0 (by omega)]
    simp only [Option.bind_some]
    by_cases hq : inR (rd l i) lo hj = true
    · rw [if_pos hq, wrap_id (by omega) (by omega), ih k (i + 1) (by omega) (by omega) (by omega), hq, show (i + 1).toNat = i.toNat + 1 by omega]; rfl
    · rw [if_neg hq]; simp only [Bool.not_eq_true] at hq; rw [hq]; rfl
theorem geTrain_eq {l : List Int} {k : Nat} (hl : (l.length : Int) ≤ 1048576) (hk : 1048577 < k) : spec_geTrain.f k l = some (trainOk l) := by
  unfold spec_geTrain.f spec_l1All.f trainOk
  rw [l1In_eq]
  simp only [Option.bind_some]
  by_cases h : inR l.length 2 6 = true
  · rw [if_pos h, l1All_l0 l 1 300 (by omega) l.length k 0 (by omega) (by omega) (by omega), h]; simp
  · rw [if_neg h]; simp only [Bool.not_eq_true] at h; rw [h]; rfl
theorem isTrain_eq (l : List Int) : impl_isTrain.f l = some (trainOk l) := rfl
/-- a, a + 1, .. -/
def marks (a : Int) : Nat → List Int
  | 0 => []
  | n + 1 => a :: marks (a + 1) n
theorem marks_len (a : Int) (n : Nat) : (marks a n).length = n := by
  induction n generalizing a with
  | zero => rfl
  | succ n ih => simp [marks, ih]

theorem rd_drop {l : List Int} {i : Int} {x : Int} {r : List Int} (h0 : 0 ≤ i) (h : l.drop i.toNat = x :: r) : rd l i = x ∧ l.drop (i + 1).toNat = r ∧ i.toNat < l.length := by
  have hl : i.toNat < l.length := by
    rcases Nat.lt_or_ge i.toNat l.length with h1 | h1
    · exact h1
    · rw [List.drop_eq_nil_of_le h1] at h; cases h
  have h3 := List.drop_eq_getElem_cons hl
  rw [h3] at h
  injection h with h4 h5
  refine ⟨by simp [rd, List.getD_eq_getElem?_getD, List.getElem?_eq_getElem hl, h4], ?_, hl⟩
  rw [show (i + 1).toNat = i.toNat + 1 by omega]; exact h5
theorem markIntS_l0 : ∀ (d k : Nat) (l : List Int) (a i : Int), 0 ≤ i → i + d = l.length → d < k → (l.length : Int) ≤ 1000000000000 → -1000000000000 ≤ a → a + d ≤ 3000000000000 → laws_markIntS.l0 k l a i = some (a + d, l.take i.toNat ++ marks a d)
  | 0, k + 1, l, a, i, h0, hi, _, hl, ha, hb => by
    unfold laws_markIntS.l0
    rw [if_neg (by omega), List.take_of_length_le (by omega)]
    simp [marks]
  | d + 1, k + 1, l, a, i, h0, hi, hk, hl, ha, hb => by
    unfold laws_markIntS.l0
    rw [if_pos (by omega), if_pos h0, wrap_id (by omega) (by omega), wrap_id (by omega) (by omega)]
    rw [markIntS_l0 d k (l.set i.toNat a) (a + 1) (i + 1) (by omega) (by rw [List.length_set]; omega) (by omega) (by rw [List.length_set]; omega) (by omega) (by omega)]
    have e : (l.set i.toNat a).take (i + 1).toNat = l.take i.toNat ++ [a] := by
      rw [show (i + 1).toNat = i.toNat + 1 by omega, List.take_succ_eq_append_getElem (by rw [List.length_set]; omega), List.take_set_of_le (Nat.le_refl _)]
      simp
    rw [e]
    simp only [marks, List.append_assoc, List.singleton_append]
    congr 2
    omega
theorem markIntS_f {l : List Int} (hl : (l.length : Int) ≤ 1000000000000) {k : Nat} (hk : l.length < k) {a : Int} (ha : -1000000000000 ≤ a) (hb : a ≤ 2000000000000) : laws_markIntS.f k l a = some (a + l.length, marks a l.length) := by
  unfold laws_markIntS.f
  rw [markIntS_l0 l.length k l a 0 (by omega) (by omega) hk hl ha (by omega)]
  simp
theorem heldIntS_l0 : ∀ (d k : Nat) (l : List Int) (a i : Int), 0 ≤ i → i + d = l.length → l.drop i.toNat = marks a d → d < k → (l.length : Int) ≤ 1000000000000 → -1000000000000 ≤ a → a + d ≤ 3000000000000 → laws_heldIntS.l0 k l a i = some (a + d)
  | 0, k + 1, l, a, i, h0, hi, _, _, hl, ha, hb => by
    unfold laws_heldIntS.l0
    rw [if_neg (by omega)]
    simp
  | d + 1, k + 1, l, a, i, h0, hi, hd, hk, hl, ha, hb => by
    obtain ⟨e1, e2, e3⟩ := rd_drop h0 (show l.drop i.toNat = a :: marks (a + 1) d from hd)
    unfold laws_heldIntS.l0
    rw [if_pos (by omega), if_pos h0, if_pos e1, wrap_id (by omega) (by omega), wrap_id (by omega) (by omega)]
    rw [heldIntS_l0 d k l (a + 1) (i + 1) (by omega) (by omega) e2 (by omega) hl (by omega) (by omega)]
    congr 1
    omega
theorem heldIntS_f {n k : Nat} (hn : (n : Int) ≤ 1000000000000) (hk : n < k) {a : Int} (ha : -1000000000000 ≤ a) (hb : a ≤ 2000000000000) : laws_heldIntS.f k (marks a n) a = some (a + n) := by
  unfold laws_heldIntS.f
  exact heldIntS_l0 n k (marks a n) a 0 (by omega) (by rw [marks_len]; omega) (by simp) hk (by rw [marks_len]; exact hn) ha (by omega)
theorem close_TrainTeeth {l : List Int} (a : Int) (hl : ¬ (l.length : Int) > 1048576) (r : List Int × Bool) (hr : (r.1.length : Int) ≤ 1000) (hs : ∀ k, 1048577 < k → spec_TrainTeeth.f k l a = some r) (hi : ∀ k, 1048577 < k → impl_TrainTeeth.f k l a = some r) : ∃ k, laws_FnExactTrainTeeth.f k l a = some true := by
  obtain ⟨k, hk⟩ : ∃ k : Nat, k = 1048579 := ⟨_, rfl⟩
  refine ⟨k + 1 + 1 + 1, ?_⟩
  unfold laws_FnExactTrainTeeth.f
  rw [if_neg hl, toIntS_f (by omega) (by omega)]
  simp only [Option.bind_some]
  rw [hs _ (by omega), hi _ (by omega)]
  simp only [Option.bind_some]
  rw [eqIntS_self (by omega) (by omega)]
  simp only [Option.bind_some, if_true, bne_self_eq_false]
  rw [laws_FnExactTrainTeeth.j0, if_neg (by decide), toIntS_f (by omega) (by omega)]
  simp only [Option.bind_some]
  rw [eqIntS_self (by omega) (by omega)]
  simp only [Option.bind_some, if_true]
  rw [markIntS_f (by omega) (by omega) (by omega) (by omega)]
  simp only [Option.bind_some]
  rw [if_neg (by omega), eqIntS_self (by omega) (by omega)]
  simp only [Option.bind_some, if_true, bne_self_eq_false]
  rw [laws_FnExactTrainTeeth.j1, if_neg (by decide), markIntS_f (by omega) (by omega) (by omega) (by omega)]
  simp only [Option.bind_some]
  rw [heldIntS_f (by omega) (by omega) (by omega) (by omega)]
  simp only [Option.bind_some]
  rw [if_neg (by omega)]
  simp only [if_true]
  rw [toIntS_f (by omega) (by omega)]
  simp only [Option.bind_some]
  rw [hi _ (by omega)]
  simp only [Option.bind_some]
  rw [eqIntS_self (by omega) (by omega)]
  simp only [Option.bind_some, if_true, bne_self_eq_false]
  rw [laws_FnExactTrainTeeth.j2, if_neg (by decide), heldIntS_f (by omega) (by omega) (by omega) (by omega)]
  simp only [Option.bind_some]
  rw [if_neg (by omega)]
  simp only [if_true]
theorem teeth_both (l : List Int) (a : Int) (hl : (l.length : Int) ≤ 6) (hr : ∀ i : Int, 0 ≤ i → i < l.length → 1 ≤ rd l i ∧ rd l i ≤ 300) (d : Nat) : ∀ (o : List Int) (i : Int), 0 ≤ i → i + d = l.length → (o.length : Int) = i →
    ∃ r : List Int, (r.length : Int) ≤ 6 ∧ ∀ k : Nat, d < k → spec_geTrained.l0 k a o l (l.length : Int) i = some r ∧ impl_TrainTeeth.l0 k a o l (l.length : Int) i = some (r, true) := by
  induction d with
  | zero =>
    intro o i h0 hi ho
    refine ⟨o, by omega, ?_⟩
    intro k hk
    obtain ⟨k, rfl⟩ : ∃ m, k = m + 1 := ⟨k - 1, by omega⟩
    rw [spec_geTrained.l0, impl_TrainTeeth.l0, if_neg (by omega), if_neg (by omega)]
    exact ⟨rfl, rfl⟩
  | succ d ih =>
    intro o i h0 hi ho
    have hr' := hr i h0 (by omega)
    by_cases hq : Int.tmod i 2 = 1
    · obtain ⟨r, hrl, hrr⟩ := ih (o ++ [Int.tmod (wrap64 ((rd l i) - (Int.tmod a (rd l i)))) (rd l i)]) (i + 1) (by omega) (by omega) (by simp; omega)
      refine ⟨r, hrl, ?_⟩
      intro k hk
      obtain ⟨k, rfl⟩ : ∃ m, k = m + 1 := ⟨k - 1, by omega⟩
      have := hrr k (by omega)
      rw [spec_geTrained.l0, impl_TrainTeeth.l0, if_pos (by omega), if_pos h0, if_pos (by omega), if_neg (by omega), if_pos hq, if_pos (by omega), wrap_id (x := i + 1) (by omega) (by omega), if_pos (by omega), if_pos h0, if_pos (by omega), if_neg (by omega), if_pos hq, if_pos (by omega)]
      exact this
    · obtain ⟨r, hrl, hrr⟩ := ih (o ++ [Int.tmod a (rd l i)]) (i + 1) (by omega) (by omega) (by simp; omega)
      refine ⟨r, hrl, ?_⟩
      intro k hk
      obtain ⟨k, rfl⟩ : ∃ m, k = m + 1 := ⟨k - 1, by omega⟩
      have := hrr k (by omega)
      rw [spec_geTrained.l0, impl_TrainTeeth.l0, if_pos (by omega), if_pos h0, if_pos (by omega), if_neg (by omega), if_neg hq, if_pos (by omega), wrap_id (x := i + 1) (by omega) (by omega), if_pos (by omega), if_pos h0, if_pos (by omega), if_neg (by omega), if_neg hq, if_pos (by omega)]
      exact this
theorem isSteps_eq (a : Int) : impl_isSteps.f a = some (inR a 0 1000000) := by
  unfold impl_isSteps.f
  rw [within_eq]; rfl
theorem FnExactTrainTeeth : laws_FnExactTrainTeeth.Pure := by
  intro l a _ _ _ _
  by_cases hl : (l.length : Int) > 1048576
  · refine ⟨0, ?_⟩
    unfold laws_FnExactTrainTeeth.f
    rw [if_pos hl]
  by_cases h : trainOk l = true
  · have hb := trainOk_true h
    by_cases hq : inR a 0 1000000 = true
    · obtain ⟨r, hrl, hrr⟩ := teeth_both l a (by omega) hb.2.2 l.length [] 0 (by omega) (by omega) (by simp)
      refine close_TrainTeeth a hl (r, true) (by simp; omega) ?_ ?_
      · intro k hk
        unfold spec_TrainTeeth.f spec_geTrained.f
        rw [geTrain_eq (by omega) hk, h]
        simp only [Option.bind_some, if_true]
        rw [l1In_eq, hq]
        simp only [Option.bind_some, if_true]
        rw [(hrr k (by omega)).1]
        rfl
      · intro k hk
        obtain ⟨k, rfl⟩ : ∃ m, k = m + 1 := ⟨k - 1, by omega⟩
        unfold impl_TrainTeeth.f
        rw [isTrain_eq, h]
        simp only [Option.bind_some, if_true]
        rw [isSteps_eq, hq]
        simp only [Option.bind_some, Bool.not_true]
        rw [impl_TrainTeeth.j0, if_neg (by decide), (hrr k (by omega)).2]
    · simp only [Bool.not_eq_true] at hq
      refine close_TrainTeeth a hl ([], false) (by simp) ?_ ?_
      · intro k hk
        unfold spec_TrainTeeth.f
        rw [geTrain_eq (by omega) hk, h]
        simp only [Option.bind_some, if_true]
        rw [l1In_eq, hq]
        rfl
      · intro k hk
        obtain ⟨k, rfl⟩ : ∃ m, k = m + 1 := ⟨k - 1, by omega⟩
        unfold impl_TrainTeeth.f
        rw [isTrain_eq, h]
        simp only [Option.bind_some, if_true]
        rw [isSteps_eq, hq]
        simp only [Option.bind_some, Bool.not_false]
        rw [impl_TrainTeeth.j0, if_pos rfl]
  · refine close_TrainTeeth a hl ([], false) (by simp) ?_ ?_
    · intro k hk
      unfold spec_TrainTeeth.f
      rw [geTrain_eq (by omega) hk]
      simp only [Option.bind_some]
      rw [if_neg h]
    · intro k hk
      obtain ⟨k, rfl⟩ : ∃ m, k = m + 1 := ⟨k - 1, by omega⟩
      unfold impl_TrainTeeth.f
      rw [isTrain_eq]
      simp only [Option.bind_some]
      rw [if_neg h, impl_TrainTeeth.j0, if_pos rfl]

end Go.Proofs.Ytljlfdhocaikeaa.Pure
