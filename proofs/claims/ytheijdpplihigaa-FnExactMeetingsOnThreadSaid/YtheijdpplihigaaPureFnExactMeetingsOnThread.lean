/- What is proved: the pure statement of the law FnExactMeetingsOnThread, about numbers and lists alone; no condition. -/
import Derived.Test.YtheijdpplihigaaPx14
namespace Go.Proofs.Ytheijdpplihigaa.Pure
open Go.RowKit Go.Proofs.Ytheijdpplihigaa.P Go.Proofs.YtheijdpplihigaaW.PrintWords Go.Proofs.YtheijdpplihigaaW.PrintLast
set_option linter.unusedVariables false
set_option linter.unusedSimpArgs false

theorem wrap_id {x : Int} (h : -9000000000000000000 ≤ x) (h2 : x ≤ 9000000000000000000) : wrap64 x = x := by unfold wrap64; omega
theorem szThreadS_far {l : List S77} (h : (l.length : Int) > 1048576) (h2 : l.length * 16 ≤ 140737488351232) : laws_szThreadS.f l 1048576 = some (-1) := by
 unfold laws_szThreadS.f
 rw [wrap_id (by omega) (by omega), if_pos (by omega)]
theorem szThreadS_near {l : List S77} (h : ¬ (l.length : Int) > 1048576) : laws_szThreadS.f l 1048576 = some (1048576 - (l.length : Int)) := by
 unfold laws_szThreadS.f
 rw [wrap_id (by omega) (by omega), if_neg (by omega)]
/-- A number from lo to hi. -/
def rg (n lo hi : Int) : Bool := decide (lo ≤ n ∧ n ≤ hi)
theorem rg_true {n lo hi : Int} : rg n lo hi = true ↔ lo ≤ n ∧ n ≤ hi := by simp [rg]
theorem l1In_rg (n lo hi : Int) : spec_l1In.f n lo hi = some (rg n lo hi) := by
 unfold spec_l1In.f rg
 by_cases h : n ≥ lo
 ·rw [if_pos h]; congr 1; simp only [decide_eq_decide]; omega
 ·rw [if_neg h]; congr 1; exact (decide_eq_false (by omega)).symm
theorem within_rg (n lo hi : Int) : impl_within.f n lo hi = some (rg n lo hi) := by
 unfold impl_within.f rg
 by_cases h : n ≥ lo
 ·rw [if_pos h]; congr 1; simp only [decide_eq_decide]; omega
 ·rw [if_neg h]; congr 1; exact (decide_eq_false (by omega)).symm
/-- A thread. -/
def thrOk (a b : Int) : Bool := rg a 1 100 && rg b 1 100
theorem thrOk_true {a b : Int} : thrOk a b = true ↔ 1 ≤ a ∧ a ≤ 100 ∧ 1 ≤ b ∧ b ≤ 100 := by
 simp only [thrOk, Bool.and_eq_true, rg_true]; omega
theorem sgThread_eq (a b : Int) : spec_sgThread.f a b = some (thrOk a b) := by
 unfold spec_sgThread.f thrOk
 rw [l1In_rg, l1In_rg]
 cases rg a 1 100 <;> rfl
theorem isThread_eq (a b : Int) : impl_isThread.f a b = some (thrOk a b) := by
 unfold impl_isThread.f thrOk
 rw [within_rg, within_rg]
 cases rg a 1 100 <;> rfl
theorem rdT_get {l : List S25} {i : Int} (h0 : 0 ≤ i) (h1 : i < (l.length : Int)) : rd_T25 l i = l[i.toNat]'(by omega) := by
 simp [rd_T25, List.getD_eq_getElem?_getD, List.getElem?_eq_getElem (show i.toNat < l.length by omega)]
theorem rdL_get {l : List S77} {i : Int} (h0 : 0 ≤ i) (h1 : i < (l.length : Int)) : rd_T77 l i = l[i.toNat]'(by omega) := by
 simp [rd_T77, List.getD_eq_getElem?_getD, List.getElem?_eq_getElem (show i.toNat < l.length by omega)]
theorem eqThreadS_l0 (l : List S25) (hl : (l.length : Int) ≤ 1000000000000) (d : Nat) : ∀ (k : Nat) (i : Int), 0 ≤ i → i + d = l.length → d < k → laws_eqThreadS.l0 k l l i = some true := by
 induction d with
 | zero =>
  intro k i h0 hi hk
  obtain ⟨k, rfl⟩ : ∃ m, k = m + 1 := ⟨k - 1, by omega⟩
  rw [laws_eqThreadS.l0, if_neg (by omega)]
 | succ d ih =>
  intro k i h0 hi hk
  obtain ⟨k, rfl⟩ : ∃ m, k = m + 1 := ⟨k - 1, by omega⟩
  rw [laws_eqThreadS.l0, if_pos (by omega), if_pos h0, if_pos (by omega)]
  unfold laws_eqThread.f
  rw [if_pos rfl, if_pos rfl]
  simp only [Option.bind_some, if_true]
  rw [wrap_id (by omega) (by omega)]
  exact ih k (i + 1) (by omega) (by omega) (by omega)
theorem eqThreadS_self {l : List S25} (hl : (l.length : Int) ≤ 1000000000000) {k : Nat} (hk : l.length < k) : laws_eqThreadS.f k l l = some true := by
 unfold laws_eqThreadS.f
 rw [if_pos rfl]
 exact eqThreadS_l0 l hl l.length k 0 (by omega) (by omega) hk
/-- Threads (a, a + 1), (a + 2, a + 3), .. -/
def tmarks (a : Int) : Nat → List S25
 | 0 => []
 | n + 1 => ⟨a, a + 1⟩ :: tmarks (a + 1 + 1) n
theorem tmarks_len (a : Int) (n : Nat) : (tmarks a n).length = n := by
 induction n generalizing a with
 | zero => rfl
 | succ n ih => simp [tmarks, ih]
theorem markThreadS_l0 (d : Nat) : ∀ (k : Nat) (l : List S25) (a i : Int), 0 ≤ i → i + d = l.length → d < k → (l.length : Int) ≤ 1000000000000 → -1000000000000 ≤ a → a + 2 * d ≤ 5000000000000 → laws_markThreadS.l0 k l a i = some (a + 2 * d, l.take i.toNat ++ tmarks a d) := by
 induction d with
 | zero =>
  intro k l a i h0 hi hk hl ha hb
  obtain ⟨k, rfl⟩ : ∃ m, k = m + 1 := ⟨k - 1, by omega⟩
  rw [laws_markThreadS.l0, if_neg (by omega), List.take_of_length_le (by omega)]
  simp [tmarks]
 | succ d ih =>
  intro k l a i h0 hi hk hl ha hb
  obtain ⟨k, rfl⟩ : ∃ m, k = m + 1 := ⟨k - 1, by omega⟩
  rw [laws_markThreadS.l0, if_pos (by omega), if_pos h0]
  simp only [Option.bind_some]
  rw [wrap_id (x := a + 1) (by omega) (by omega), wrap_id (x := a + 1 + 1) (by omega) (by omega), wrap_id (x := i + 1) (by omega) (by omega)]
  have e0 : (rd_T25 (l.set i.toNat ⟨a, (rd_T25 l i).f1⟩) i).f0 = a := by
   rw [rdT_get h0 (by rw [List.length_set]; omega)]; simp
  rw [e0, List.set_set, ih k (l.set i.toNat ⟨a, a + 1⟩) (a + 1 + 1) (i + 1) (by omega) (by rw [List.length_set]; omega) (by omega) (by rw [List.length_set]; omega) (by omega) (by omega)]
  have e : (l.set i.toNat (⟨a, a + 1⟩ : S25)).take (i + 1).toNat = l.take i.toNat ++ [⟨a, a + 1⟩] := by
   rw [show (i + 1).toNat = i.toNat + 1 by omega, List.take_succ_eq_append_getElem (by rw [List.length_set]; omega), List.take_set_of_le (Nat.le_refl _)]
   simp
  rw [e]
  simp only [tmarks, List.append_assoc, List.singleton_append]
  congr 2
  omega
theorem markThreadS_f {l : List S25} (hl : (l.length : Int) ≤ 1000000000000) {k : Nat} (hk : l.length < k) {a : Int} (ha : -1000000000000 ≤ a) (hb : a ≤ 2000000000000) : laws_markThreadS.f k l a = some (a + 2 * l.length, tmarks a l.length) := by
 unfold laws_markThreadS.f
 rw [markThreadS_l0 l.length k l a 0 (by omega) (by omega) hk hl ha (by omega)]
 simp
theorem eqIntS_l0 (l : List Int) (hl : (l.length : Int) ≤ 1000000000000) : ∀ (d k : Nat) (i : Int), 0 ≤ i → i + d = l.length → d < k → laws_eqIntS.l0 k l l i = some true
 | 0, k + 1, i, h0, hi, _ => by
  unfold laws_eqIntS.l0
  rw [if_neg (by omega)]
 | d + 1, k + 1, i, h0, hi, hk => by
  unfold laws_eqIntS.l0
  rw [if_pos (by omega), if_pos h0, if_pos (by omega), if_pos rfl, wrap_id (by omega) (by omega)]
  exact eqIntS_l0 l hl d k (i + 1) (by omega) (by omega) (by omega)
theorem eqIntS_self {l : List Int} (hl : (l.length : Int) ≤ 1000000000000) {k : Nat} (hk : l.length < k) : laws_eqIntS.f k l l = some true := by
 unfold laws_eqIntS.f
 rw [if_pos rfl]
 exact eqIntS_l0 l hl l.length k 0 (by omega) (by omega) hk
/-- a, a + 1, .. -/
def marks (a : Int) : Nat → List Int
 | 0 => []
 | n + 1 => a :: marks (a + 1) n
theorem marks_len (a : Int) (n : Nat) : (marks a n).length = n := by
 induction n generalizing a with
 | zero => rfl
 | succ n ih => simp [marks, ih]

theorem rd_drop {l : List Int} {i : Int} {x : Int} {r : List Int} (h0 : 0 ≤ i) (h : l.drop i.toNat = x :: r) : rd l i = x ∧ l.drop (i + 1).toNat = r ∧ i.toNat < l.length := by
 have hl : i.toNat < l.length := by
  rcases Nat.lt_or_ge i.toNat l.length with h1 | h1
  ·exact h1
  ·rw [List.drop_eq_nil_of_le h1] at h; cases h
 have h3 := List.drop_eq_getElem_cons hl
 rw [h3] at h
 injection h with h4 h5
 refine ⟨by simp [rd, List.getD_eq_getElem?_getD, List.getElem?_eq_getElem hl, h4], ?_, hl⟩
 rw [show (i + 1).toNat = i.toNat + 1 by omega]; exact h5
theorem markIntS_l0 : ∀ (d k : Nat) (l : List Int) (a i : Int), 0 ≤ i → i + d = l.length → d < k → (l.length : Int) ≤ 1000000000000 → -1000000000000 ≤ a → a + d ≤ 3000000000000 → laws_markIntS.l0 k l a i = some (a + d, l.take i.toNat ++ marks a d)
 | 0, k + 1, l, a, i, h0, hi, _, hl, ha, hb => by
  unfold laws_markIntS.l0
  rw [if_neg (by omega), List.take_of_length_le (by omega)]
  simp [marks]
 | d + 1, k + 1, l, a, i, h0, hi, hk, hl, ha, hb => by
  unfold laws_markIntS.l0
  rw [if_pos (by omega), if_pos h0, wrap_id (by omega) (by omega), wrap_id (by omega) (by omega)]
  rw [markIntS_l0 d k (l.set i.toNat a) (a + 1) (i + 1) (by omega) (by rw [List.length_set]; omega) (by omega) (by rw [List.length_set]; omega) (by omega) (by omega)]
  have e : (l.set i.toNat a).take (i + 1).toNat = l.take i.toNat ++ [a] := by
   rw [show (i + 1).toNat = i.toNat + 1 by omega, List.take_succ_eq_append_getElem (by rw [List.length_set]; omega), List.take_set_of_le (Nat.le_refl _)]
   simp
  rw [e]
  simp only [marks, List.append_assoc, List.singleton_append]
  congr 2
  omega
theorem markIntS_f {l : List Int} (hl : (l.length : Int) ≤ 1000000000000) {k : Nat} (hk : l.length < k) {a : Int} (ha : -1000000000000 ≤ a) (hb : a ≤ 2000000000000) : laws_markIntS.f k l a = some (a + l.length, marks a l.length) := by
 unfold laws_markIntS.f
 rw [markIntS_l0 l.length k l a 0 (by omega) (by omega) hk hl ha (by omega)]
 simp
theorem heldIntS_l0 : ∀ (d k : Nat) (l : List Int) (a i : Int), 0 ≤ i → i + d = l.length → l.drop i.toNat = marks a d → d < k → (l.length : Int) ≤ 1000000000000 → -1000000000000 ≤ a → a + d ≤ 3000000000000 → laws_heldIntS.l0 k l a i = some (a + d)
 | 0, k + 1, l, a, i, h0, hi, _, _, hl, ha, hb => by
  unfold laws_heldIntS.l0
  rw [if_neg (by omega)]
  simp
 | d + 1, k + 1, l, a, i, h0, hi, hd, hk, hl, ha, hb => by
  obtain ⟨e1, e2, e3⟩ := rd_drop h0 (show l.drop i.toNat = a :: marks (a + 1) d from hd)
  unfold laws_heldIntS.l0
  rw [if_pos (by omega), if_pos h0, if_pos e1, wrap_id (by omega) (by omega), wrap_id (by omega) (by omega)]
  rw [heldIntS_l0 d k l (a + 1) (i + 1) (by omega) (by omega) e2 (by omega) hl (by omega) (by omega)]
  congr 1
  omega
theorem heldIntS_f {n k : Nat} (hn : (n : Int) ≤ 1000000000000) (hk : n < k) {a : Int} (ha : -1000000000000 ≤ a) (hb : a ≤ 2000000000000) : laws_heldIntS.f k (marks a n) a = some (a + n) := by
 unfold laws_heldIntS.f
 exact heldIntS_l0 n k (marks a n) a 0 (by omega) (by rw [marks_len]; omega) (by simp) hk (by rw [marks_len]; exact hn) ha (by omega)
/-- A thread, as the laws take it, told as one of the program's. -/
def cv (x : S77) : S25 := ⟨x.f0, x.f1⟩
theorem toThreadS_l0 (l : List S77) (hl : (l.length : Int) ≤ 1000000000000) (d : Nat) : ∀ (k : Nat) (r : List S25) (i : Int), 0 ≤ i → i + d = l.length → r.length = l.length → r.take i.toNat = (l.take i.toNat).map cv → d < k → laws_toThreadS.l0 k l r i = some (l.map cv) := by
 induction d with
 | zero =>
  intro k r i h0 hi hr ht hk
  obtain ⟨k, rfl⟩ : ∃ m, k = m + 1 := ⟨k - 1, by omega⟩
  rw [laws_toThreadS.l0, if_neg (by omega)]
  rw [List.take_of_length_le (by omega), List.take_of_length_le (by omega)] at ht
  rw [ht]
 | succ d ih =>
  intro k r i h0 hi hr ht hk
  obtain ⟨k, rfl⟩ : ∃ m, k = m + 1 := ⟨k - 1, by omega⟩
  rw [laws_toThreadS.l0, if_pos (by omega), if_pos h0]
  unfold laws_toThread.f
  simp only [Option.bind_some]
  rw [if_pos (by omega), wrap_id (by omega) (by omega)]
  refine ih k _ (i + 1) (by omega) (by omega) (by rw [List.length_set]; exact hr) ?_ (by omega)
  rw [show (i + 1).toNat = i.toNat + 1 by omega, List.take_succ_eq_append_getElem (by rw [List.length_set]; omega), List.take_set_of_le (Nat.le_refl _), ht,
   List.take_succ_eq_append_getElem (show i.toNat < l.length by omega), List.map_append, rdL_get h0 (by omega)]
  simp [cv]
theorem toThreadS_f {l : List S77} {k : Nat} (hl : (l.length : Int) ≤ 1048576) (hk : 1048577 < k) : laws_toThreadS.f k l = some (l.map cv) := by
 unfold laws_toThreadS.f
 rw [if_pos (by omega), if_pos (by simp; omega)]
 exact toThreadS_l0 l (by omega) l.length k _ 0 (by omega) (by omega) (by simp) (by simp) (by omega)
/-- A thread that comes before another one. -/
def lessB (a b c d : Int) : Bool := decide (a < c ∨ a = c ∧ b < d)
theorem sgLess_eq (a b c d : Int) : spec_sgLess.f a b c d = some (lessB a b c d) := by
 unfold spec_sgLess.f lessB
 repeat' split
 all_goals (congr 1; first | (rw [eq_comm, decide_eq_true_iff]; omega) | (rw [eq_comm, decide_eq_false_iff_not]; omega) | (rw [decide_eq_decide]; omega))
theorem cmpInt_eq (a b : Int) : cmp_Compare_int.f a b = some (if a < b then -1 else if a > b then 1 else 0) := by
 unfold cmp_Compare_int.f cmp_isNaN_int.f
 simp only [Option.bind_some, bne_self_eq_false]
 rw [if_neg (by decide), if_neg (by decide)]
 repeat' split
 all_goals rfl
theorem cmpOr_eq (a b : Int) {k : Nat} (hk : 3 ≤ k) : cmp_Or_int.f k [a, b] = some (if a = 0 then b else a) := by
 obtain ⟨k, rfl⟩ : ∃ m, k = m + 1 + 1 + 1 := ⟨k - 3, by omega⟩
 unfold cmp_Or_int.f
 rw [cmp_Or_int.l0, if_pos (by simp), if_pos (by omega), if_pos (by simp), wrap_id (by omega) (by omega)]
 have e0 : rd [a, b] 0 = a := rfl
 rw [e0]
 by_cases h : a = 0
 ·rw [if_pos h, if_pos h, cmp_Or_int.l0, if_pos (by simp), if_pos (by omega), if_pos (by simp), wrap_id (by omega) (by omega)]
  have e1 : rd [a, b] (0 + 1) = b := rfl
  rw [e1]
  by_cases h2 : b = 0
  ·rw [if_pos h2, cmp_Or_int.l0, if_neg (by simp), h2]
  ·rw [if_neg h2]
 ·rw [if_neg h, if_neg h]
theorem compareThreads_eq (a b c d : Int) {k : Nat} (hk : 3 ≤ k) : ∃ r : Int, impl_compareThreads.f k a b c d = some r ∧ (r < 0 ↔ lessB a b c d = true) ∧ (r = 0 ↔ a = c ∧ b = d) := by
 unfold impl_compareThreads.f
 rw [cmpInt_eq, cmpInt_eq]
 simp only [Option.bind_some]
 rw [cmpOr_eq _ _ hk]
 refine ⟨_, rfl, ?_, ?_⟩
 ·simp only [lessB, decide_eq_true_eq]
  repeat' split
  all_goals omega
 ·repeat' split
  all_goals omega
/-- Threads i, i + 1, .. of the next d, each behind the one before. -/
def chkD (l : List S25) (i : Int) : Nat → Bool
 | 0 => true
 | d + 1 => thrOk (rd_T25 l i).f0 (rd_T25 l i).f1 && (decide (i ≤ 0) || lessB (rd_T25 l (i - 1)).f0 (rd_T25 l (i - 1)).f1 (rd_T25 l i).f0 (rd_T25 l i).f1) && chkD l (i + 1) d
theorem chkD_thr {l : List S25} : ∀ {d : Nat} {i : Int}, chkD l i d = true → ∀ j, i ≤ j → j < i + d → thrOk (rd_T25 l j).f0 (rd_T25 l j).f1 = true
 | 0, i, _, j, h1, h2 => by omega
 | d + 1, i, h, j, h1, h2 => by
  simp only [chkD, Bool.and_eq_true] at h
  rcases Int.lt_or_eq_of_le h1 with h3 | h3
  ·exact chkD_thr h.2 j (by omega) (by omega)
  ·rw [← h3]; exact h.1.1
/-- Threads in order. -/
def goodT (l : List S25) : Bool := rg l.length 1 30 && chkD l 0 l.length
theorem goodT_true {l : List S25} (h : goodT l = true) : 1 ≤ (l.length : Int) ∧ (l.length : Int) ≤ 30 ∧ ∀ i : Int, 0 ≤ i → i < l.length → thrOk (rd_T25 l i).f0 (rd_T25 l i).f1 = true := by
 simp only [goodT, Bool.and_eq_true, rg_true] at h
 exact ⟨h.1.1, h.1.2, fun i h0 h1 => chkD_thr h.2 i h0 (by omega)⟩
theorem good_s_l0 (l : List S25) (hl : (l.length : Int) ≤ 1000000000000) (d : Nat) : ∀ (k : Nat) (i : Int), 0 ≤ i → i + d = l.length → d < k → spec_sgGood.l0 k l l (l.length : Int) i = some (chkD l i d) := by
 induction d with
 | zero =>
  intro k i h0 hi hk
  obtain ⟨k, rfl⟩ : ∃ m, k = m + 1 := ⟨k - 1, by omega⟩
  rw [spec_sgGood.l0, if_neg (by omega)]; rfl
 | succ d ih =>
  intro k i h0 hi hk
  obtain ⟨k, rfl⟩ : ∃ m, k = m + 1 := ⟨k - 1, by omega⟩
  rw [spec_sgGood.l0, if_pos (by omega), if_pos h0, if_pos (by omega), sgThread_eq, wrap_id (x := i + 1) (by omega) (by omega), wrap_id (x := i - 1) (by omega) (by omega), ih k (i + 1) (by omega) (by omega) (by omega)]
  simp only [Option.bind_some, chkD]
  by_cases h : thrOk (rd_T25 l i).f0 (rd_T25 l i).f1 = true
  ·rw [if_pos h, h]
   by_cases h2 : i > 0
   ·rw [if_pos h2, if_pos (by omega), if_pos (by omega), sgLess_eq, decide_eq_false (show ¬ i ≤ 0 by omega)]
    simp only [Option.bind_some]
    cases lessB (rd_T25 l (i - 1)).f0 (rd_T25 l (i - 1)).f1 (rd_T25 l i).f0 (rd_T25 l i).f1 <;> simp
   ·rw [if_neg h2, decide_eq_true (show i ≤ 0 by omega)]; simp
  ·rw [if_neg h]; simp only [Bool.not_eq_true] at h; rw [h]; rfl
theorem good_s {l : List S25} {k : Nat} (hl : (l.length : Int) ≤ 1048576) (hk : 1048577 < k) : spec_sgGood.f k l = some (goodT l) := by
 unfold spec_sgGood.f goodT
 rw [l1In_rg]
 simp only [Option.bind_some]
 by_cases h : rg l.length 1 30 = true
 ·rw [if_pos h, good_s_l0 l (by omega) l.length k 0 (by omega) (by omega) (by omega), h]; simp
 ·rw [if_neg h]; simp only [Bool.not_eq_true] at h; rw [h]; rfl
theorem good_i_l0 (l : List S25) (hl : (l.length : Int) ≤ 1000000000000) (d : Nat) : ∀ (k : Nat) (i : Int), 0 ≤ i → i + d = l.length → d + 4 < k → impl_AreThreads.l0 k l l (l.length : Int) i = some (chkD l i d && rg l.length 1 30) := by
 induction d with
 | zero =>
  intro k i h0 hi hk
  obtain ⟨k, rfl⟩ : ∃ m, k = m + 1 := ⟨k - 1, by omega⟩
  rw [impl_AreThreads.l0, if_neg (by omega), within_rg]; simp [chkD]
 | succ d ih =>
  intro k i h0 hi hk
  obtain ⟨k, rfl⟩ : ∃ m, k = m + 1 := ⟨k - 1, by omega⟩
  rw [impl_AreThreads.l0, if_pos (by omega), if_pos h0, if_pos (by omega), isThread_eq, wrap_id (x := i + 1) (by omega) (by omega), wrap_id (x := i - 1) (by omega) (by omega), ih k (i + 1) (by omega) (by omega) (by omega)]
  simp only [Option.bind_some, chkD]
  by_cases h : thrOk (rd_T25 l i).f0 (rd_T25 l i).f1 = true
  ·rw [if_pos h, h]
   by_cases h2 : i > 0
   ·obtain ⟨r, h3, h4, _⟩ := compareThreads_eq (rd_T25 l (i - 1)).f0 (rd_T25 l (i - 1)).f1 (rd_T25 l i).f0 (rd_T25 l i).f1 (k := k) (by omega)
    rw [if_pos h2, if_pos (by omega), if_pos (by omega), h3, decide_eq_false (show ¬ i ≤ 0 by omega)]
    simp only [Option.bind_some]
    by_cases h5 : r < 0
    ·rw [if_neg (by omega), h4.1 h5]; simp
    ·rw [if_pos (by omega)]
     have : lessB (rd_T25 l (i - 1)).f0 (rd_T25 l (i - 1)).f1 (rd_T25 l i).f0 (rd_T25 l i).f1 = false := by
      rw [← Bool.not_eq_true]; exact fun e => h5 (h4.2 e)
     rw [this]; simp
   ·rw [if_neg h2, decide_eq_true (show i ≤ 0 by omega)]; simp
  ·rw [if_neg h]; simp only [Bool.not_eq_true] at h; rw [h]; rfl
theorem good_i {l : List S25} {k : Nat} (hl : (l.length : Int) ≤ 1048576) (hk : 1048590 < k) : impl_AreThreads.f k l = some (goodT l) := by
 unfold impl_AreThreads.f goodT
 rw [good_i_l0 l (by omega) l.length k 0 (by omega) (by omega) (by omega), Bool.and_comm]
theorem gcdGo_pos {a b : Int} (ha : 0 ≤ a) (hb : 0 < b) : 1 ≤ gcdGo a b ∧ gcdGo a b ≤ b := by
 rw [gcdGo_of ha (by omega)]
 have h1 : 0 < Nat.gcd a.toNat b.toNat := Nat.gcd_pos_of_pos_right _ (by omega)
 have h2 : Nat.gcd a.toNat b.toNat ≤ b.toNat := Nat.le_of_dvd (by omega) (Nat.gcd_dvd_right _ _)
 omega
/-- A fraction in lowest terms, as both sides tell it. -/
def lowOf (n d : Int) : Int × Int := (wrap64 (Int.tdiv n (gcdGo n d)), wrap64 (Int.tdiv d (gcdGo n d)))
theorem sgLow_eq {n d : Int} (hn : 0 ≤ n) (hd : 0 < d) : spec_sgLow.f n d = some (lowOf n d) := by
 have := gcdGo_pos hn hd
 unfold spec_sgLow.f spec_srCommon.f
 simp only [Option.bind_some]
 rw [if_neg (by omega)]; rfl
theorem lowest_pos {n d : Int} (hn : 0 ≤ n) (hd : 0 < d) : impl_lowest.f n d = some (lowOf n d) := by
 have := gcdGo_pos hn hd
 unfold impl_lowest.f impl_divisor.f
 simp only [Option.bind_some]
 rw [if_neg (by omega), if_neg (by omega)]; rfl
theorem lowest_neg {n d : Int} (hn : 0 ≤ -n) (hd : 0 < -d) (hn2 : -n ≤ 1000000000) (hd2 : -d ≤ 1000000000) : impl_lowest.f n d = some (lowOf (-n) (-d)) := by
 have := gcdGo_pos hn hd
 unfold impl_lowest.f impl_divisor.f
 rw [wrap_id (x := -n) (by omega) (by omega), wrap_id (x := -d) (by omega) (by omega)]
 simp only [Option.bind_some]
 rw [if_pos (by omega), if_neg (by omega)]; rfl
theorem mul_bd {a b A B : Int} (ha : 0 ≤ a) (haA : a ≤ A) (hb : 0 ≤ b) (hbB : b ≤ B) : 0 ≤ a * b ∧ a * b ≤ A * B :=
 ⟨Int.mul_nonneg ha hb, Int.mul_le_mul haA hbB hb (by omega)⟩
/-- Threads that cross. -/
def crossB (a b c d : Int) : Bool := decide (a > c ∧ b < d ∨ a < c ∧ b > d)
theorem sgMeet_eq (a b c d : Int) : spec_sgMeet.f a b c d = some (crossB a b c d) := by
 unfold spec_sgMeet.f crossB
 repeat' split
 all_goals (congr 1; first | (rw [eq_comm, decide_eq_true_iff]; omega) | (rw [eq_comm, decide_eq_false_iff_not]; omega) | (rw [decide_eq_decide]; omega))
theorem doMeetT_eq (a b c d : Int) : impl_doThreadsMeet.f a b c d = some (crossB a b c d) := by
 unfold impl_doThreadsMeet.f crossB
 repeat' split
 all_goals (congr 1; first | (rw [eq_comm, decide_eq_true_iff]; omega) | (rw [eq_comm, decide_eq_false_iff_not]; omega) | (rw [decide_eq_decide]; omega))
theorem crossB_true {a b c d : Int} : crossB a b c d = true ↔ a > c ∧ b < d ∨ a < c ∧ b > d := by simp [crossB]
/-- Where two threads meet. -/
theorem meeting_both {a b c d : Int} (h : thrOk a b = true) (h' : thrOk c d = true) (hx : crossB a b c d = true) : ∃ p q : Int × Int, spec_sgMeeting.f a b c d = some [p.1, p.2, q.1, q.2] ∧ impl_meeting.f a b c d = some [p.1, p.2, q.1, q.2] := by
 have hb := thrOk_true.1 h
 have hd := thrOk_true.1 h'
 rcases crossB_true.1 hx with h1 | h1
 ·have m1 := mul_bd (a := a) (b := d) (A := 100) (B := 100) (by omega) (by omega) (by omega) (by omega)
  have m2 := mul_bd (a := c) (b := b) (A := 100) (B := 100) (by omega) (by omega) (by omega) (by omega)
  have m3 := mul_bd (a := c) (b := a) (A := 100) (B := 100) (by omega) (by omega) (by omega) (by omega)
  have m4 := mul_bd (a := d) (b := b) (A := 100) (B := 100) (by omega) (by omega) (by omega) (by omega)
  have m5 := mul_bd (a := c * a) (b := d - b) (A := 10000) (B := 100) (by omega) (by omega) (by omega) (by omega)
  have m6 := mul_bd (a := d * b) (b := a - c) (A := 10000) (B := 100) (by omega) (by omega) (by omega) (by omega)
  have m7 := mul_bd (a := d - b) (b := a) (A := 100) (B := 100) (by omega) (by omega) (by omega) (by omega)
  have m8 := mul_bd (a := a - c) (b := b) (A := 100) (B := 100) (by omega) (by omega) (by omega) (by omega)
  have hden : 0 < a * d - c * b := by
   have i1 : c * d < a * d := Int.mul_lt_mul_of_pos_right (by omega) (by omega)
   have i2 : c * b < c * d := Int.mul_lt_mul_of_pos_left (by omega) (by omega)
   omega
  have e1 : (d - b) * a * c = c * a * (d - b) := by grind
  have e2 : (a - c) * b * d = d * b * (a - c) := by grind
  have e3 : b * c = c * b := Int.mul_comm _ _
  refine ⟨lowOf (c * a * (d - b)) (a * d - c * b), lowOf (d * b * (a - c)) (a * d - c * b), ?_, ?_⟩
  ·unfold spec_sgMeeting.f
   rw [if_pos h1.1, wrap_id (x := c * a) (by omega) (by omega), wrap_id (x := d - b) (by omega) (by omega), wrap_id (x := a * d) (by omega) (by omega), wrap_id (x := c * b) (by omega) (by omega), wrap_id (x := d * b) (by omega) (by omega), wrap_id (x := a - c) (by omega) (by omega),
    wrap_id (x := c * a * (d - b)) (by omega) (by omega), wrap_id (x := d * b * (a - c)) (by omega) (by omega), wrap_id (x := a * d - c * b) (by omega) (by omega), sgLow_eq m5.1 hden]
   simp only [Option.bind_some]
   rw [sgLow_eq m6.1 hden]; rfl
  ·unfold impl_meeting.f
   rw [e3, wrap_id (x := d - b) (by omega) (by omega), wrap_id (x := (d - b) * a) (by omega) (by omega), wrap_id (x := (d - b) * a * c) (by omega) (by omega), wrap_id (x := a - c) (by omega) (by omega), wrap_id (x := (a - c) * b) (by omega) (by omega), wrap_id (x := (a - c) * b * d) (by omega) (by omega),
    wrap_id (x := a * d) (by omega) (by omega), wrap_id (x := c * b) (by omega) (by omega), wrap_id (x := a * d - c * b) (by omega) (by omega), e1, e2, lowest_pos m5.1 hden]
   simp only [Option.bind_some]
   rw [lowest_pos m6.1 hden]; rfl
 ·have m1 := mul_bd (a := c) (b := b) (A := 100) (B := 100) (by omega) (by omega) (by omega) (by omega)
  have m2 := mul_bd (a := a) (b := d) (A := 100) (B := 100) (by omega) (by omega) (by omega) (by omega)
  have m3 := mul_bd (a := a) (b := c) (A := 100) (B := 100) (by omega) (by omega) (by omega) (by omega)
  have m4 := mul_bd (a := b) (b := d) (A := 100) (B := 100) (by omega) (by omega) (by omega) (by omega)
  have m5 := mul_bd (a := a * c) (b := b - d) (A := 10000) (B := 100) (by omega) (by omega) (by omega) (by omega)
  have m6 := mul_bd (a := b * d) (b := c - a) (A := 10000) (B := 100) (by omega) (by omega) (by omega) (by omega)
  have m7 := mul_bd (a := b - d) (b := a) (A := 100) (B := 100) (by omega) (by omega) (by omega) (by omega)
  have m8 := mul_bd (a := c - a) (b := b) (A := 100) (B := 100) (by omega) (by omega) (by omega) (by omega)
  have hden : 0 < c * b - a * d := by
   have i1 : a * b < c * b := Int.mul_lt_mul_of_pos_right (by omega) (by omega)
   have i2 : a * d < a * b := Int.mul_lt_mul_of_pos_left (by omega) (by omega)
   omega
  have e1 : (d - b) * a * c = -(a * c * (b - d)) := by grind
  have e2 : (a - c) * b * d = -(b * d * (c - a)) := by grind
  have e3 : b * c = c * b := Int.mul_comm _ _
  have e4 : (d - b) * a = -((b - d) * a) := by grind
  have e5 : (a - c) * b = -((c - a) * b) := by grind
  refine ⟨lowOf (a * c * (b - d)) (c * b - a * d), lowOf (b * d * (c - a)) (c * b - a * d), ?_, ?_⟩
  ·unfold spec_sgMeeting.f
   rw [if_neg (by omega), wrap_id (x := a * c) (by omega) (by omega), wrap_id (x := b - d) (by omega) (by omega), wrap_id (x := c * b) (by omega) (by omega), wrap_id (x := a * d) (by omega) (by omega), wrap_id (x := b * d) (by omega) (by omega), wrap_id (x := c - a) (by omega) (by omega),
    wrap_id (x := a * c * (b - d)) (by omega) (by omega), wrap_id (x := b * d * (c - a)) (by omega) (by omega), wrap_id (x := c * b - a * d) (by omega) (by omega), sgLow_eq m5.1 hden]
   simp only [Option.bind_some]
   rw [sgLow_eq m6.1 hden]; rfl
  ·unfold impl_meeting.f
   rw [e3, wrap_id (x := d - b) (by omega) (by omega), wrap_id (x := (d - b) * a) (by omega) (by omega), wrap_id (x := (d - b) * a * c) (by omega) (by omega), wrap_id (x := a - c) (by omega) (by omega), wrap_id (x := (a - c) * b) (by omega) (by omega), wrap_id (x := (a - c) * b * d) (by omega) (by omega),
    wrap_id (x := a * d) (by omega) (by omega), wrap_id (x := c * b) (by omega) (by omega), wrap_id (x := a * d - c * b) (by omega) (by omega), e1, e2,
    lowest_neg (by omega) (by omega) (by omega) (by omega)]
   simp only [Option.bind_some]
   rw [lowest_neg (by omega) (by omega) (by omega) (by omega)]
   simp only [Option.bind_some, Int.neg_neg]
   rw [show -(a * d - c * b) = c * b - a * d by omega]
/-- The numbers i, i + 1, .. of the next d at which p holds. -/
def numsD (p : Int → Bool) (i : Int) : Nat → List Int
 | 0 => []
 | d + 1 => if p i = true then i :: numsD p (i + 1) d else numsD p (i + 1) d
theorem numsD_len (p : Int → Bool) (i : Int) (d : Nat) : (numsD p i d).length ≤ d := by
 induction d generalizing i with
 | zero => simp [numsD]
 | succ d ih =>
  have := ih (i + 1)
  simp only [numsD]
  split
  ·simp; omega
  ·omega
theorem numsD_congr {p q : Int → Bool} {i : Int} {d : Nat} (h : ∀ x, i ≤ x → x < i + d → p x = q x) : numsD p i d = numsD q i d := by
 induction d generalizing i with
 | zero => rfl
 | succ d ih =>
  have h0 := h i (by omega) (by omega)
  have h1 := ih (i := i + 1) (fun x hx hy => h x (by omega) (by omega))
  simp only [numsD, h0, h1]
theorem numsD_eq (p : Int → Bool) (i : Int) (d : Nat) : ((List.range d).map fun (j : Nat) => i + (j : Int)).filter p = numsD p i d := by
 induction d generalizing i with
 | zero => rfl
 | succ d ih =>
  rw [List.range_succ_eq_map, List.map_cons, List.map_map]
  have e : (fun (j : Nat) => i + (j : Int)) ∘ Nat.succ = fun (j : Nat) => (i + 1) + (j : Int) := by funext j; simp; omega
  rw [e, List.filter_cons, ih]
  simp [numsD]
theorem numsW_numsD (p : Int → Bool) (lo hi : Int) : numsW p lo hi = numsD p lo (hi + 1 - lo).toNat := numsD_eq p lo _
theorem numsW_len (p : Int → Bool) (lo hi : Int) : ((numsW p lo hi).length : Int) ≤ max 0 (hi + 1 - lo) := by
 rw [numsW_numsD]
 have := numsD_len p lo (hi + 1 - lo).toNat
 omega
theorem low_told2 {n d : Int} (hn : 0 ≤ n) (hd : 0 < d) (hn2 : n ≤ 1000000000) (hd2 : d ≤ 1000000000) : 0 ≤ (lowOf n d).1 ∧ (lowOf n d).1 ≤ n ∧ 1 ≤ (lowOf n d).2 ∧ (lowOf n d).2 ≤ d := by
 have hp := gcdGo_pos hn hd
 have h1 : gcdGo n d ∣ n := by
  rw [gcdGo_of hn (by omega)]
  have := Int.natCast_dvd_natCast.2 (Nat.gcd_dvd_left n.toNat d.toNat)
  rwa [Int.toNat_of_nonneg hn] at this
 have h2 : gcdGo n d ∣ d := by
  rw [gcdGo_of hn (by omega)]
  have := Int.natCast_dvd_natCast.2 (Nat.gcd_dvd_right n.toNat d.toNat)
  rwa [Int.toNat_of_nonneg (show 0 ≤ d by omega)] at this
 obtain ⟨u, hu⟩ := h1
 obtain ⟨v, hv⟩ := h2
 have e1 : Int.tdiv n (gcdGo n d) = u := by
  conv => lhs; arg 1; rw [hu]
  exact Int.mul_tdiv_cancel_left _ (by omega)
 have e2 : Int.tdiv d (gcdGo n d) = v := by
  conv => lhs; arg 1; rw [hv]
  exact Int.mul_tdiv_cancel_left _ (by omega)
 generalize hg : gcdGo n d = g at *
 have hu0 : 0 ≤ u := by
  rcases Int.lt_or_le u 0 with h | h
  ·have : g * u < 0 := Int.mul_neg_of_pos_of_neg (by omega) h
   omega
  ·exact h
 have hv0 : 1 ≤ v := by
  rcases Int.lt_or_le v 1 with h | h
  ·have : g * v ≤ 0 := Int.mul_nonpos_of_nonneg_of_nonpos (by omega) (by omega)
   omega
  ·exact h
 have hun : u ≤ g * u := by
  have := Int.mul_le_mul_of_nonneg_right hp.1 hu0
  omega
 have hvn : v ≤ g * v := by
  have := Int.mul_le_mul_of_nonneg_right hp.1 (show 0 ≤ v by omega)
  omega
 have e : lowOf n d = (u, v) := by
  unfold lowOf
  rw [hg, e1, e2, wrap_id (by omega) (by omega), wrap_id (by omega) (by omega)]
 rw [e]
 exact ⟨hu0, by simp only; omega, hv0, by simp only; omega⟩
/-- Where two threads meet, as numbers of a bounded size. -/
theorem meet_told {a b c d : Int} (h : thrOk a b = true) (h' : thrOk c d = true) (hx : crossB a b c d = true) : ∃ r : List Int, spec_sgMeeting.f a b c d = some r ∧ impl_meeting.f a b c d = some r ∧ r.length = 4 ∧ 0 < rd r 1 ∧ rd r 1 ≤ 1000000000 ∧ -1000000000 ≤ rd r 0 ∧ rd r 0 ≤ 1000000000 := by
 obtain ⟨p, q, e1, e2⟩ := meeting_both h h' hx
 refine ⟨_, e1, e2, rfl, ?_⟩
 have hb := thrOk_true.1 h
 have hd := thrOk_true.1 h'
 show 0 < p.2 ∧ p.2 ≤ 1000000000 ∧ -1000000000 ≤ p.1 ∧ p.1 ≤ 1000000000
 unfold spec_sgMeeting.f at e1
 rcases crossB_true.1 hx with h1 | h1
 ·have m1 := mul_bd (a := a) (b := d) (A := 100) (B := 100) (by omega) (by omega) (by omega) (by omega)
  have m2 := mul_bd (a := c) (b := b) (A := 100) (B := 100) (by omega) (by omega) (by omega) (by omega)
  have m3 := mul_bd (a := c) (b := a) (A := 100) (B := 100) (by omega) (by omega) (by omega) (by omega)
  have m5 := mul_bd (a := c * a) (b := d - b) (A := 10000) (B := 100) (by omega) (by omega) (by omega) (by omega)
  have hden : 0 < a * d - c * b := by
   have i1 : c * d < a * d := Int.mul_lt_mul_of_pos_right (by omega) (by omega)
   have i2 : c * b < c * d := Int.mul_lt_mul_of_pos_left (by omega) (by omega)
   omega
  rw [if_pos h1.1, wrap_id (x := c * a) (by omega) (by omega), wrap_id (x := d - b) (by omega) (by omega), wrap_id (x := a * d) (by omega) (by omega), wrap_id (x := c * b) (by omega) (by omega),
   wrap_id (x := c * a * (d - b)) (by omega) (by omega), wrap_id (x := a * d - c * b) (by omega) (by omega), sgLow_eq m5.1 hden, Option.bind_some] at e1
  obtain ⟨t, _, e1⟩ := Option.bind_eq_some_iff.mp e1
  have e3 := Option.some.inj e1
  have k := low_told2 m5.1 hden (by omega) (by omega)
  injection e3 with f1 e3
  injection e3 with f2 e3
  rw [← f1, ← f2]
  omega
 ·have m1 := mul_bd (a := c) (b := b) (A := 100) (B := 100) (by omega) (by omega) (by omega) (by omega)
  have m2 := mul_bd (a := a) (b := d) (A := 100) (B := 100) (by omega) (by omega) (by omega) (by omega)
  have m3 := mul_bd (a := a) (b := c) (A := 100) (B := 100) (by omega) (by omega) (by omega) (by omega)
  have m5 := mul_bd (a := a * c) (b := b - d) (A := 10000) (B := 100) (by omega) (by omega) (by omega) (by omega)
  have hden : 0 < c * b - a * d := by
   have i1 : a * b < c * b := Int.mul_lt_mul_of_pos_right (by omega) (by omega)
   have i2 : a * d < a * b := Int.mul_lt_mul_of_pos_left (by omega) (by omega)
   omega
  rw [if_neg (by omega), wrap_id (x := a * c) (by omega) (by omega), wrap_id (x := b - d) (by omega) (by omega), wrap_id (x := c * b) (by omega) (by omega), wrap_id (x := a * d) (by omega) (by omega),
   wrap_id (x := a * c * (b - d)) (by omega) (by omega), wrap_id (x := c * b - a * d) (by omega) (by omega), sgLow_eq m5.1 hden, Option.bind_some] at e1
  obtain ⟨t, _, e1⟩ := Option.bind_eq_some_iff.mp e1
  have e3 := Option.some.inj e1
  have k := low_told2 m5.1 hden (by omega) (by omega)
  injection e3 with f1 e3
  injection e3 with f2 e3
  rw [← f1, ← f2]
  omega
/-- Two threads of a good list that meet. -/
theorem mtg_good {l : List S25} (h : goodT l = true) {k x : Int} (k0 : 0 ≤ k) (k1 : k < (l.length : Int)) (x0 : 0 ≤ x) (x1 : x < (l.length : Int)) (hm : mtgP l k x = true) :
  ∃ r, mtgL l k x = some r ∧ spec_sgMeeting.f ((rd_T25 l k).f0) ((rd_T25 l k).f1) ((rd_T25 l x).f0) ((rd_T25 l x).f1) = some r ∧ r.length = 4 ∧ 0 < rd r 1 ∧ rd r 1 ≤ 1000000000 ∧ -1000000000 ≤ rd r 0 ∧ rd r 0 ≤ 1000000000 := by
 obtain ⟨_, _, g⟩ := goodT_true h
 unfold mtgP at hm
 rw [doMeetT_eq] at hm
 have hc : crossB ((rd_T25 l k).f0) ((rd_T25 l k).f1) ((rd_T25 l x).f0) ((rd_T25 l x).f1) = true := by simpa using hm
 obtain ⟨r, e1, e2, e3⟩ := meet_told (g k k0 k1) (g x x0 x1) hc
 exact ⟨r, e2, e1, e3⟩
theorem mtgP_eq (l : List S25) (k x : Int) : spec_sgMeet.f ((rd_T25 l k).f0) ((rd_T25 l k).f1) ((rd_T25 l x).f0) ((rd_T25 l x).f1) = some (mtgP l k x) := by
 unfold mtgP
 rw [sgMeet_eq, doMeetT_eq]
 cases crossB ((rd_T25 l k).f0) ((rd_T25 l k).f1) ((rd_T25 l x).f0) ((rd_T25 l x).f1) <;> rfl
theorem mtg_ok {l : List S25} (h : goodT l = true) {k x : Int} (k0 : 0 ≤ k) (k1 : k < (l.length : Int)) (x0 : 0 ≤ x) (x1 : x < (l.length : Int)) (hm : mtgP l k x = true) : mtgG l k x := by
 obtain ⟨r, e1, _, e2⟩ := mtg_good h k0 k1 x0 x1 hm
 refine ⟨x0, x1, ?_⟩
 unfold mtgOk
 rw [e1]
 exact decide_eq_true e2
theorem mtgW_mem {l : List S25} {k x : Int} : x ∈ mtgW l k ↔ 0 ≤ x ∧ x < (l.length : Int) ∧ mtgP l k x = true := by
 unfold mtgW numsW
 rw [List.mem_filter, List.mem_map]
 constructor
 ·rintro ⟨⟨j, hj, rfl⟩, h⟩
  have := List.mem_range.1 hj
  exact ⟨by omega, by omega, h⟩
 ·rintro ⟨h0, h1, h⟩
  exact ⟨⟨x.toNat, List.mem_range.2 (by omega), by omega⟩, h⟩
theorem mtg_all {l : List S25} (h : goodT l = true) {k : Int} (k0 : 0 ≤ k) (k1 : k < (l.length : Int)) : mtgAll l k = true := by
 obtain ⟨_, hl, _⟩ := goodT_true h
 unfold mtgAll
 rw [Bool.and_eq_true, decide_eq_true_eq, List.all_eq_true]
 refine ⟨by omega, fun x hx => ?_⟩
 obtain ⟨x0, x1, hm⟩ := mtgW_mem.1 hx
 exact (mtg_ok h k0 k1 x0 x1 hm).2.2
/-- What the reference holds when it has come to a thread: the ones before it that meet, in order. -/
structure OutAt (l : List S25) (k : Int) (out : List Int) (i : Int) : Prop where
 mem : ∀ z, z ∈ out ↔ 0 ≤ z ∧ z < i ∧ mtgP l k z = true
 pw : out.Pairwise (lt2 (mtgC l k))
theorem OutAt.len {l : List S25} {k i : Int} {out : List Int} (h : OutAt l k out i) (hG : ∀ z ∈ out, mtgG l k z) (i0 : 0 ≤ i) : (out.length : Int) ≤ i := by
 have O := mtgC_ord l k
 have hn : out.Nodup := by
  rw [List.nodup_iff_pairwise_ne]
  exact h.pw.imp_of_mem (fun ha _ hab e => by subst e; exact lt2_irrefl O (hG _ ha) hab)
 have := hn.length_le_of_subset (l₂ := (List.range i.toNat).map fun (j : Nat) => (j : Int)) (fun z hz => by
  have := (h.mem z).1 hz
  exact List.mem_map.2 ⟨z.toNat, List.mem_range.2 (by omega), by omega⟩)
 rw [List.length_map, List.length_range] at this
 omega
theorem own_eq {xs : List Int} (h : xs.length < 17592186044416) : spec_l1Own.f xs = some xs := by
 unfold spec_l1Own.f
 simp [h]
theorem mo_l1 {l : List S25} (h : goodT l = true) {k i : Int} (k0 : 0 ≤ k) (k1 : k < (l.length : Int)) (i0 : 0 ≤ i) (i1 : i < (l.length : Int)) (hm : mtgP l k i = true) {m : List Int} (em : mtgL l k i = some m) (ml : m.length = 4) {out : List Int} (hO : OutAt l k out i) (ho : (out.length : Int) ≤ i) (j : Nat) : ∀ (K : Nat), j ≤ out.length → (∀ t, j ≤ t → t < out.length → 0 < mtgC l k (out.getD t 0) i) → j + 2 ≤ K →
  ∃ p K', p ≤ j ∧ K ≤ K' + j + 1 ∧ (0 < p → mtgC l k (out.getD (p - 1) 0) i ≤ 0) ∧ (∀ t, p ≤ t → t < out.length → 0 < mtgC l k (out.getD t 0) i) ∧
   spec_MeetingsOnThread.l1 K l k out i m (j : Int) l (l.length : Int) i = spec_MeetingsOnThread.l0 K' l k (out.take p ++ [i] ++ out.drop p) l (l.length : Int) (i + 1) := by
 have hl := (goodT_true h).2.1
 induction j with
 | zero =>
  intro K _ hj hK
  obtain ⟨K, rfl⟩ : ∃ q, K = q + 1 := ⟨K - 1, by omega⟩
  refine ⟨0, K, Nat.le_refl _, by omega, fun h => absurd h (Nat.lt_irrefl _), fun t _ ht => hj t (Nat.zero_le _) ht, ?_⟩
  rw [spec_MeetingsOnThread.l1, if_neg (by omega), if_pos (by omega), if_pos (by omega), own_eq (by rw [List.length_take]; omega), Option.bind_some, if_pos (by simp), Option.bind_some, Option.bind_some, if_pos (by simp; omega), wrap_id (x := i + 1) (by omega) (by omega)]
  simp
 | succ j ih =>
  intro K hjl hj hK
  obtain ⟨K, rfl⟩ : ∃ q, K = q + 1 := ⟨K - 1, by omega⟩
  have ew : wrap64 (((j + 1 : Nat) : Int) - 1) = (j : Int) := by rw [wrap_id (by omega) (by omega)]; omega
  have eo : rd out (j : Int) = out.getD j 0 := by simp [rd]
  have hmem : out.getD j 0 ∈ out := by rw [List.getD_eq_getElem?_getD, List.getElem?_eq_getElem (show j < out.length by omega)]; exact List.getElem_mem _
  obtain ⟨o0, o1, om⟩ := (hO.mem _).1 hmem
  obtain ⟨r, er, es, rl, _⟩ := mtg_good h k0 k1 o0 (by omega) om
  have hc := mtgC_told er em rl ml
  rw [cmpM_told rl ml] at hc
  have hc := Option.some.inj hc
  rw [spec_MeetingsOnThread.l1, if_pos (by omega), if_pos k0, if_pos k1, ew, if_pos (by omega), if_pos (by omega), eo, if_pos o0, if_pos (by omega), es, Option.bind_some, rl, ml, if_pos (by decide), if_pos (by decide), if_pos (by decide), if_pos (by decide)]
  by_cases hle : wrap64 (rd r 0 * rd m 1) ≤ wrap64 (rd m 0 * rd r 1)
  ·refine ⟨j + 1, K, Nat.le_refl _, by omega, fun _ => ?_, fun t h1 h2 => hj t h1 h2, ?_⟩
   ·rw [Nat.add_sub_cancel, ← hc]
    repeat' split
    all_goals omega
   ·rw [if_pos hle, if_pos (by omega), if_pos (by omega), own_eq (by rw [List.length_take]; omega), Option.bind_some, if_pos (by rw [List.length_take]; omega), Option.bind_some, Option.bind_some, if_pos (by rw [List.length_append, List.length_take, List.length_drop, List.length_singleton]; omega), wrap_id (x := i + 1) (by omega) (by omega), Int.toNat_natCast]
  ·rw [if_neg hle]
   obtain ⟨p, K', h1, h2, h3, h4, h5⟩ := ih K (by omega) (fun t t1 t2 => by
    by_cases e : t = j
    ·subst e
     rw [← hc]
     repeat' split
     all_goals omega
    ·exact hj t (by omega) t2) (by omega)
   exact ⟨p, K', by omega, by omega, h3, h4, h5⟩
theorem getD_get {xs : List Int} {t : Nat} (h : t < xs.length) : xs.getD t 0 = xs[t] := by simp [List.getD_eq_getElem?_getD, List.getElem?_eq_getElem h]
/-- One thread more, put in its place. -/
theorem OutAt.put {l : List S25} {k i : Int} {out : List Int} (hO : OutAt l k out i) (hG : ∀ z ∈ out, mtgG l k z) (gi : mtgG l k i) (hm : mtgP l k i = true) {p : Nat} (hp : p ≤ out.length) (h1 : 0 < p → mtgC l k (out.getD (p - 1) 0) i ≤ 0) (h2 : ∀ t, p ≤ t → t < out.length → 0 < mtgC l k (out.getD t 0) i) : OutAt l k (out.take p ++ [i] ++ out.drop p) (i + 1) := by
 have O := mtgC_ord l k
 have i0 := gi.1
 have hcut : out.take p ++ out.drop p = out := List.take_append_drop p out
 have ht : ∀ z ∈ out.take p, z ∈ out := fun z hz => List.mem_of_mem_take hz
 have hd : ∀ z ∈ out.drop p, z ∈ out := fun z hz => List.mem_of_mem_drop hz
 have pw := hO.pw
 rw [← hcut] at pw
 obtain ⟨pa, pb, pc⟩ := List.pairwise_append.1 pw
 have ha : ∀ z ∈ out.take p, lt2 (mtgC l k) z i := by
  intro z hz
  have hpp : 0 < p := by
   rcases Nat.eq_zero_or_pos p with e | e
   ·subst e; simp at hz
   ·exact e
  have hb := h1 hpp
  have hw : out.getD (p - 1) 0 ∈ out := by rw [getD_get (by omega)]; exact List.getElem_mem _
  have hwi := (hO.mem _).1 hw
  have hlt : lt2 (mtgC l k) (out.getD (p - 1) 0) i := by
   by_cases e : mtgC l k (out.getD (p - 1) 0) i < 0
   ·exact .inl e
   ·exact .inr ⟨by omega, by omega⟩
  obtain ⟨t, t1, rfl⟩ := List.getElem_of_mem hz
  rw [List.length_take] at t1
  rw [List.getElem_take]
  by_cases e : t = p - 1
  ·rw [← getD_get (show t < out.length by omega), e]; exact hlt
  ·have h3 := List.pairwise_iff_getElem.1 hO.pw t (p - 1) (by omega) (by omega) (by omega)
   rw [getD_get (show p - 1 < out.length by omega)] at hlt
   exact lt2_trans O (hG _ (List.getElem_mem _)) (hG _ (List.getElem_mem _)) gi h3 hlt
 have hb : ∀ z ∈ out.drop p, lt2 (mtgC l k) i z := by
  intro z hz
  obtain ⟨t, t1, rfl⟩ := List.getElem_of_mem hz
  rw [List.length_drop] at t1
  rw [List.getElem_drop]
  have h3 := h2 (p + t) (by omega) (by omega)
  rw [getD_get (show p + t < out.length by omega)] at h3
  exact .inl ((O.anti _ _ gi (hG _ (List.getElem_mem _))).2 h3)
 refine ⟨fun z => ?_, ?_⟩
 ·rw [List.mem_append, List.mem_append, List.mem_singleton]
  have e : z ∈ out ↔ z ∈ out.take p ∨ z ∈ out.drop p := by rw [← List.mem_append, hcut]
  have e2 := hO.mem z
  constructor
  ·rintro ((hz | rfl) | hz)
   ·have := e2.1 (ht z hz); exact ⟨this.1, by omega, this.2.2⟩
   ·exact ⟨i0, by omega, hm⟩
   ·have := e2.1 (hd z hz); exact ⟨this.1, by omega, this.2.2⟩
  ·rintro ⟨z0, z1, zm⟩
   by_cases ez : z = i
   ·exact .inl (.inr ez)
   ·rcases e.1 (e2.2 ⟨z0, by omega, zm⟩) with hz | hz
    ·exact .inl (.inl hz)
    ·exact .inr hz
 ·rw [List.append_assoc, List.pairwise_append]
  refine ⟨pa, ?_, fun x hx y hy => ?_⟩
  ·rw [List.singleton_append, List.pairwise_cons]
   exact ⟨hb, pb⟩
  ·rw [List.singleton_append, List.mem_cons] at hy
   rcases hy with rfl | hy
   ·exact ha x hx
   ·exact pc x hx y hy
theorem mo_l0 {l : List S25} (h : goodT l = true) {k : Int} (k0 : 0 ≤ k) (k1 : k < (l.length : Int)) (d : Nat) : ∀ (K : Nat) (out : List Int) (i : Int), 0 ≤ i → i + d = l.length → OutAt l k out i → 40 * (d + 1) ≤ K →
  ∃ r, spec_MeetingsOnThread.l0 K l k out l (l.length : Int) i = some (r, true) ∧ OutAt l k r (l.length : Int) := by
 have hl := (goodT_true h).2.1
 induction d with
 | zero =>
  intro K out i i0 hi hO hK
  obtain ⟨K, rfl⟩ : ∃ q, K = q + 1 := ⟨K - 1, by omega⟩
  obtain rfl : i = (l.length : Int) := by omega
  exact ⟨out, by rw [spec_MeetingsOnThread.l0, if_neg (by omega)], hO⟩
 | succ d ih =>
  intro K out i i0 hi hO hK
  obtain ⟨K, rfl⟩ : ∃ q, K = q + 1 := ⟨K - 1, by omega⟩
  have hG : ∀ z ∈ out, mtgG l k z := fun z hz => by
   have := (hO.mem z).1 hz
   exact mtg_ok h k0 k1 this.1 (by omega) this.2.2
  rw [spec_MeetingsOnThread.l0, if_pos (by omega), if_pos i0, if_pos (by omega), if_pos k0, if_pos k1, mtgP_eq, Option.bind_some]
  by_cases hm : mtgP l k i = true
  ·obtain ⟨m, em, es, ml, _⟩ := mtg_good h k0 k1 i0 (by omega) hm
   rw [if_pos hm, es, Option.bind_some]
   have ho := hO.len hG i0
   obtain ⟨p, K', h1, h2, h3, h4, h5⟩ := mo_l1 h k0 k1 i0 (by omega) hm em ml hO ho out.length K (Nat.le_refl _) (fun t t1 t2 => by omega) (by omega)
   rw [h5]
   exact ih K' _ (i + 1) (by omega) (by omega) (hO.put hG (mtg_ok h k0 k1 i0 (by omega) hm) hm h1 h3 h4) (by omega)
  ·rw [if_neg hm, wrap_id (x := i + 1) (by omega) (by omega)]
   refine ih K out (i + 1) (by omega) (by omega) ⟨fun z => ?_, hO.pw⟩ (by omega)
   rw [hO.mem z]
   constructor
   ·rintro ⟨a, b, c⟩; exact ⟨a, by omega, c⟩
   ·rintro ⟨a, b, c⟩
    refine ⟨a, ?_, c⟩
    by_cases e : z = i
    ·subst e; exact absurd c hm
    ·omega
theorem OutAt.sorted {l : List S25} (h : goodT l = true) {k : Int} (k0 : 0 ≤ k) (k1 : k < (l.length : Int)) {r : List Int} (hO : OutAt l k r (l.length : Int)) : r = isortC (mtgC l k) (mtgW l k) := by
 have O := mtgC_ord l k
 have hg : ∀ z ∈ mtgW l k, mtgG l k z := fun z hz => by
  obtain ⟨a, b, c⟩ := mtgW_mem.1 hz
  exact mtg_ok h k0 k1 a b c
 have hn : (mtgW l k).Nodup := by
  have := numsW_up (mtgP l k) 0 ((l.length : Int) - 1)
  exact List.Pairwise.imp (fun h => by omega) this
 refine pw_ext O (fun z hz => ?_) hO.pw (isortC_pw O hg hn) (fun z => by rw [hO.mem, isortC_mem, mtgW_mem])
 have := (hO.mem z).1 hz
 exact mtg_ok h k0 k1 this.1 this.2.1 this.2.2
/-- Both sides tell the meetings on a thread alike. -/
theorem meetOn_both {l : List S25} (hl : (l.length : Int) ≤ 1048576) (a : Int) {K : Nat} (hK : 1049000 ≤ K) : ∃ r : List Int × Bool, (r.1.length : Int) ≤ 30 ∧ spec_MeetingsOnThread.f K l a = some r ∧ impl_MeetingsOnThread.f K l a = some r ∧
  (r.2 = (goodT l && decide (0 ≤ a ∧ a < (l.length : Int)))) ∧ (r.2 = true → r.1 = isortC (mtgC l a) (mtgW l a)) := by
 obtain ⟨K, rfl⟩ : ∃ q, K = q + 1 := ⟨K - 1, by omega⟩
 unfold spec_MeetingsOnThread.f impl_MeetingsOnThread.f
 rw [good_s hl (by omega), good_i hl (by omega), Option.bind_some, Option.bind_some]
 by_cases h : goodT l = true
 ·have hb := goodT_true h
  rw [if_pos h, if_pos h, l1In_rg, within_rg, Option.bind_some, Option.bind_some, wrap_id (by omega) (by omega)]
  by_cases hr : rg a 0 ((l.length : Int) - 1) = true
  ·have hr2 := rg_true.1 hr
   have k1 : a < (l.length : Int) := by omega
   have o0 : OutAt l a [] 0 := ⟨fun z => by simp; omega, List.Pairwise.nil⟩
   rw [if_pos hr, if_pos (mtg_all h hr2.1 k1), hr]
   obtain ⟨r, e, hO⟩ := mo_l0 h hr2.1 k1 l.length K [] 0 (by omega) (by omega) o0 (by omega)
   have hs := hO.sorted h hr2.1 k1
   rw [spec_MeetingsOnThread.j0, if_neg (by decide), e]
   refine ⟨(r, true), ?_, rfl, by rw [hs], ?_, fun _ => hs⟩
   ·have := hO.len (fun z hz => by
     have := (hO.mem z).1 hz
     exact mtg_ok h hr2.1 k1 this.1 this.2.1 this.2.2) (by omega)
    show (r.length : Int) ≤ 30
    omega
   ·rw [h]
    simp only [Bool.true_and]
    rw [eq_comm, decide_eq_true_eq]; omega
  ·simp only [Bool.not_eq_true] at hr
   rw [if_neg (by rw [hr]; decide), hr, spec_MeetingsOnThread.j0, if_pos (by decide)]
   refine ⟨([], false), by simp, rfl, rfl, ?_, fun h => by cases h⟩
   rw [h]
   simp only [Bool.true_and]
   rw [eq_comm, decide_eq_false_iff_not]
   intro hh
   have := (rg_true (n := a) (lo := 0) (hi := (l.length : Int) - 1)).2 ⟨hh.1, by omega⟩
   rw [hr] at this; cases this
 ·rw [if_neg h, if_neg h, spec_MeetingsOnThread.j0, if_pos rfl]
  simp only [Bool.not_eq_true] at h
  exact ⟨([], false), by simp, rfl, rfl, by rw [h]; rfl, fun h => by cases h⟩
theorem FnExactMeetingsOnThread : ∀ (l0 : List (S77)) (a1 : Int), l0.length * 16 ≤ 140737488351232 → (∀ x ∈ l0, (Lit.int .i64 x.f0).wf = true ∧ (Lit.int .i64 x.f1).wf = true) → (Lit.int .i64 a1).wf = true → ∃ k, laws_FnExactMeetingsOnThread.f k l0 a1 = some true := by
 intro l a h16 _ _
 by_cases hl : (l.length : Int) > 1048576
 ·refine ⟨0, ?_⟩
  unfold laws_FnExactMeetingsOnThread.f
  rw [szThreadS_far hl h16]; rfl
 ·have hm : ((l.map cv).length : Int) ≤ 1048576 := by simp; omega
  obtain ⟨r, hr, hs, hi, _⟩ := meetOn_both hm a (K := 1049000) (Nat.le_refl _)
  refine ⟨1049000, ?_⟩
  unfold laws_FnExactMeetingsOnThread.f
  rw [szThreadS_near hl]
  simp only [Option.bind_some]
  rw [if_neg (by omega), toThreadS_f (by omega) (by omega)]
  simp only [Option.bind_some]
  rw [hs]
  simp only [Option.bind_some]
  rw [hi]
  simp only [Option.bind_some]
  rw [eqIntS_self (by omega) (by omega)]
  simp only [Option.bind_some, if_true, bne_self_eq_false, Bool.false_eq_true, if_false]
  rw [eqThreadS_self (by omega) (by omega)]
  simp only [Option.bind_some, if_true]
  rw [markThreadS_f (by omega) (by omega) (by omega) (by omega)]
  simp only [Option.bind_some]
  rw [if_neg (by omega), markIntS_f (by omega) (by omega) (by omega) (by omega)]
  simp only [Option.bind_some]
  rw [heldIntS_f (by omega) (by omega) (by omega) (by omega)]
  simp only [Option.bind_some, if_true]
  rw [if_neg (by omega), if_neg (by omega)]

end Go.Proofs.Ytheijdpplihigaa.Pure
