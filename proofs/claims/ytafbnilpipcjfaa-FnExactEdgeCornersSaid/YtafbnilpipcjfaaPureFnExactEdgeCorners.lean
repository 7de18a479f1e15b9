/- What is proved: the pure statement of the law FnExactEdgeCorners, about numbers and lists alone; no condition. -/
import Derived.Test.YtafbnilpipcjfaaPx43
namespace Go.Proofs.Ytafbnilpipcjfaa.Pure
open Go.RowKit Go.Proofs.Ytafbnilpipcjfaa.P Go.Proofs.YtafbnilpipcjfaaW.PrintWords Go.Proofs.YtafbnilpipcjfaaW.PrintLast
set_option linter.unusedVariables false
set_option linter.unusedSimpArgs false

theorem wrap_id {x : Int} (h : -9000000000000000000 ≤ x) (h2 : x ≤ 9000000000000000000) : wrap64 x = x := by unfold wrap64; omega
/-- A number from lo to hi. -/
def rg (n lo hi : Int) : Bool := decide (lo ≤ n ∧ n ≤ hi)
theorem rg_true {n lo hi : Int} : rg n lo hi = true ↔ lo ≤ n ∧ n ≤ hi := by simp [rg]
theorem l1In_rg (n lo hi : Int) : spec_l1In.f n lo hi = some (rg n lo hi) := by
  unfold spec_l1In.f rg
  by_cases h : n ≥ lo
  · rw [if_pos h]; congr 1; simp only [decide_eq_decide]; omega
  · rw [if_neg h]; congr 1; exact (decide_eq_false (by omega)).symm
theorem within_rg (n lo hi : Int) : impl_within.f n lo hi = some (rg n lo hi) := by
  unfold impl_within.f rg
  by_cases h : n ≥ lo
  · rw [if_pos h]; congr 1; simp only [decide_eq_decide]; omega
  · rw [if_neg h]; congr 1; exact (decide_eq_false (by omega)).symm
/-- A thread. -/
def thrOk (a b : Int) : Bool := rg a 1 100 && rg b 1 100
theorem thrOk_true {a b : Int} : thrOk a b = true ↔ 1 ≤ a ∧ a ≤ 100 ∧ 1 ≤ b ∧ b ≤ 100 := by
  simp only [thrOk, Bool.and_eq_true, rg_true]; omega
theorem sgThread_eq (a b : Int) : spec_sgThread.f a b = some (thrOk a b) := by
  unfold spec_sgThread.f thrOk
  rw [l1In_rg, l1In_rg]
  cases rg a 1 100 <;> rfl
theorem isThread_eq (a b : Int) : impl_isThread.f a b = some (thrOk a b) := by
  unfold impl_isThread.f thrOk
  rw [within_rg, within_rg]
  cases rg a 1 100 <;> rfl
theorem rdT_get {l : List S38} {i : Int} (h0 : 0 ≤ i) (h1 : i < (l.length : Int)) : rd_T38 l i = l[i.toNat]'(by omega) := by
  simp [rd_T38, List.getD_eq_getElem?_getD, List.getElem?_eq_getElem (show i.toNat < l.length by omega)]
theorem rdL_get {l : List S35} {i : Int} (h0 : 0 ≤ i) (h1 : i < (l.length : Int)) : rd_T35 l i = l[i.toNat]'(by omega) := by
  simp [rd_T35, List.getD_eq_getElem?_getD, List.getElem?_eq_getElem (show i.toNat < l.length by omega)]
theorem eqThreadS_l0 (l : List S38) (hl : (l.length : Int) ≤ 1000000000000) (d : Nat) : ∀ (k : Nat) (i : Int), 0 ≤ i → i + d = l.length → d < k → laws_eqThreadS.l0 k l l i = some true := by
  induction d with
  | zero =>
    intro k i h0 hi hk
    obtain ⟨k, rfl⟩ : ∃ m, k = m + 1 := ⟨k - 1, by omega⟩
    rw [laws_eqThreadS.l0, if_neg (by omega)]
  | succ d ih =>
    intro k i h0 hi hk
    obtain ⟨k, rfl⟩ : ∃ m, k = m + 1 := ⟨k - 1, by omega⟩
    rw [laws_eqThreadS.l0, if_pos (by omega), if_pos h0, if_pos (by omega)]
    unfold laws_eqThread.f
    rw [if_pos rfl, if_pos rfl]
    simp only [Option.bind_some, if_true]
    rw [wrap_id (by omega) (by omega)]
    exact ih k (i + 1) (by omega) (by omega) (by omega)
theorem eqThreadS_self {l : List S38} (hl : (l.length : Int) ≤ 1000000000000) {k : Nat} (hk : l.length < k) : laws_eqThreadS.f k l l = some true := by
  unfold laws_eqThreadS.f
  rw [if_pos rfl]
  exact eqThreadS_l0 l hl l.length k 0 (by omega) (by omega) hk
/-- A thread, as the laws take it, told as one of the program's. -/
def cv (x : S35) : S38 := ⟨x.f0, x.f1⟩
theorem toThreadS_l0 (l : List S35) (hl : (l.length : Int) ≤ 1000000000000) (d : Nat) : ∀ (k : Nat) (r : List S38) (i : Int), 0 ≤ i → i + d = l.length → r.length = l.length → r.take i.toNat = (l.take i.toNat).map cv → d < k → laws_toThreadS.l0 k l r i = some (l.map cv) := by
  induction d with
  | zero =>
    intro k r i h0 hi hr ht hk
    obtain ⟨k, rfl⟩ : ∃ m, k = m + 1 := ⟨k - 1, by omega⟩
    rw [laws_toThreadS.l0, if_neg (by omega)]
    rw [List.take_of_length_le (by omega), List.take_of_length_le (by omega)] at ht
    rw [ht]
  | succ d ih =>
    intro k r i h0 hi hr ht hk
    obtain ⟨k, rfl⟩ : ∃ m, k = m + 1 := ⟨k - 1, by omega⟩
    rw [laws_toThreadS.l0, if_pos (by omega), if_pos h0]
    unfold laws_toThread.f
    simp only [Option.bind_some]
    rw [if_pos (by omega), wrap_id (by omega) (by omega)]
    refine ih k _ (i + 1) (by omega) (by omega) (by rw [List.length_set]; exact hr) ?_ (by omega)
    rw [show (i + 1).toNat = i.toNat + 1 by omega, List.take_succ_eq_append_getElem (by rw [List.length_set]; omega), List.take_set_of_le (Nat.le_refl _), ht,
      List.take_succ_eq_append_getElem (show i.toNat < l.length by omega), List.map_append, rdL_get h0 (by omega)]
    simp [cv]
theorem toThreadS_f {l : List S35} {k : Nat} (hl : (l.length : Int) ≤ 1048576) (hk : 1048577 < k) : laws_toThreadS.f k l = some (l.map cv) := by
  unfold laws_toThreadS.f
  rw [if_pos (by omega), if_pos (by simp; omega)]
  exact toThreadS_l0 l (by omega) l.length k _ 0 (by omega) (by omega) (by simp) (by simp) (by omega)
/-- A thread that comes before another one. -/
def lessB (a b c d : Int) : Bool := decide (a < c ∨ a = c ∧ b < d)
theorem sgLess_eq (a b c d : Int) : spec_sgLess.f a b c d = some (lessB a b c d) := by
  unfold spec_sgLess.f lessB
  repeat' split
  all_goals (congr 1; first | (rw [eq_comm, decide_eq_true_iff]; omega) | (rw [eq_comm, decide_eq_false_iff_not]; omega) | (rw [decide_eq_decide]; omega))
theorem cmpInt_eq (a b : Int) : cmp_Compare_int.f a b = some (if a < b then -1 else if a > b then 1 else 0) := by
  unfold cmp_Compare_int.f cmp_isNaN_int.f
  simp only [Option.bind_some, bne_self_eq_false]
  rw [if_neg (by decide), if_neg (by decide)]
  repeat' split
  all_goals rfl
theorem cmpOr_eq (a b : Int) {k : Nat} (hk : 3 ≤ k) : cmp_Or_int.f k [a, b] = some (if a = 0 then b else a) := by
  obtain ⟨k, rfl⟩ : ∃ m, k = m + 1 + 1 + 1 := ⟨k - 3, by omega⟩
  unfold cmp_Or_int.f
  rw [cmp_Or_int.l0, if_pos (by simp), if_pos (by omega), if_pos (by simp), wrap_id (by omega) (by omega)]
  have e0 : rd [a, b] 0 = a := rfl
  rw [e0]
  by_cases h : a = 0
  · rw [if_pos h, if_pos h, cmp_Or_int.l0, if_pos (by simp), if_pos (by omega), if_pos (by simp), wrap_id (by omega) (by omega)]
    have e1 : rd [a, b] (0 + 1) = b := rfl
    rw [e1]
    by_cases h2 : b = 0
    · rw [if_pos h2, cmp_Or_int.l0, if_neg (by simp), h2]
    · rw [if_neg h2]
  · rw [if_neg h, if_neg h]
theorem compareThreads_eq (a b c d : Int) {k : Nat} (hk : 3 ≤ k) : ∃ r : Int, impl_compareThreads.f k a b c d = some r ∧ (r < 0 ↔ lessB a b c d = true) ∧ (r = 0 ↔ a = c ∧ b = d) := by
  unfold impl_compareThreads.f
  rw [cmpInt_eq, cmpInt_eq]
  simp only [Option.bind_some]
  rw [cmpOr_eq _ _ hk]
  refine ⟨_, rfl, ?_, ?_⟩
  · simp only [lessB, decide_eq_true_eq]
    repeat' split
    all_goals omega
  · repeat' split
    all_goals omega
/-- Threads i, i + 1, .. of the next d, each behind the one before. -/
def chkD (l : List S38) (i : Int) : Nat → Bool
  | 0 => true
  | d + 1 => thrOk (rd_T38 l i).f0 (rd_T38 l i).f1 && (decide (i ≤ 0) || lessB (rd_T38 l (i - 1)).f0 (rd_T38 l (i - 1)).f1 (rd_T38 l i).f0 (rd_T38 l i).f1) && chkD l (i + 1) d
theorem chkD_thr {l : List S38} : ∀ {d : Nat} {i : Int}, chkD l i d = true → ∀ j, i ≤ j → j < i + d → thrOk (rd_T38 l j).f0 (rd_T38 l j).f1 = true
  | 0, i, _, j, h1, h2 => by omega
  | d + 1, i, h, j, h1, h2 => by
    simp only [chkD, Bool.and_eq_true] at h
    rcases Int.lt_or_eq_of_le h1 with h3 | h3
    · exact chkD_thr h.2 j (by omega) (by omega)
    · rw [← h3]; exact h.1.1
/-- Threads in order. -/
def goodT (l : List S38) : Bool := rg l.length 1 30 && chkD l 0 l.length
theorem goodT_true {l : List S38} (h : goodT l = true) : 1 ≤ (l.length : Int) ∧ (l.length : Int) ≤ 30 ∧ ∀ i : Int, 0 ≤ i → i < l.length → thrOk (rd_T38 l i).f0 (rd_T38 l i).f1 = true := by
  simp only [goodT, Bool.and_eq_true, rg_true] at h
  exact ⟨h.1.1, h.1.2, fun i h0 h1 => chkD_thr h.2 i h0 (by omega)⟩
theorem good_s_l0 (l : List S38) (hl : (l.length : Int) ≤ 1000000000000) (d : Nat) : ∀ (k : Nat) (i : Int), 0 ≤ i → i + d = l.length → d < k → spec_sgGood.l0 k l l (l.length : Int) i = some (chkD l i d) := by
  induction d with
  | zero =>
    intro k i h0 hi hk
    obtain ⟨k, rfl⟩ : ∃ m, k = m + 1 := ⟨k - 1, by omega⟩
    rw [spec_sgGood.l0, if_neg (by omega)]; rfl
  | succ d ih =>
    intro k i h0 hi hk
    obtain ⟨k, rfl⟩ : ∃ m, k = m + 1 := ⟨k - 1, by omega⟩
    rw [spec_sgGood.l0, if_pos (by omega), if_pos h0, if_pos (by omega), sgThread_eq, wrap_id (x := i + 1) (by omega) (by omega), wrap_id (x := i - 1) (by omega) (by omega), ih k (i + 1) (by omega) (by omega) (by omega)]
    simp only [Option.bind_some, chkD]
    by_cases h : thrOk (rd_T38 l i).f0 (rd_T38 l i).f1 = true
    · rw [if_pos h, h]
      by_cases h2 : i > 0
      · rw [if_pos h2, if_pos (by omega), if_pos (by omega), sgLess_eq, decide_eq_false (show ¬ i ≤ 0 by omega)]
        simp only [Option.bind_some]
        cases lessB (rd_T38 l (i - 1)).f0 (rd_T38 l (i - 1)).f1 (rd_T38 l i).f0 (rd_T38 l i).f1 <;> simp
      · rw [if_neg h2, decide_eq_true (show i ≤ 0 by omega)]; simp
    · rw [if_neg h]; simp only [Bool.not_eq_true] at h; rw [h]; rfl
theorem good_s {l : List S38} {k : Nat} (hl : (l.length : Int) ≤ 1048576) (hk : 1048577 < k) : spec_sgGood.f k l = some (goodT l) := by
  unfold spec_sgGood.f goodT
  rw [l1In_rg]
  simp only [Option.bind_some]
  by_cases h : rg l.length 1 30 = true
  · rw [if_pos h, good_s_l0 l (by omega) l.length k 0 (by omega) (by omega) (by omega), h]; simp
  · rw [if_neg h]; simp only [Bool.not_eq_true] at h; rw [h]; rfl
theorem good_i_l0 (l : List S38) (hl : (l.length : Int) ≤ 1000000000000) (d : Nat) : ∀ (k : Nat) (i : Int), 0 ≤ i → i + d = l.length → d + 4 < k → impl_AreThreads.l0 k l l (l.length : Int) i = some (chkD l i d && rg l.length 1 30) := by
  induction d with
  | zero =>
    intro k i h0 hi hk
    obtain ⟨k, rfl⟩ : ∃ m, k = m + 1 := ⟨k - 1, by omega⟩
    rw [impl_AreThreads.l0, if_neg (by omega), within_rg]; simp [chkD]
  | succ d ih =>
    intro k i h0 hi hk
    obtain ⟨k, rfl⟩ : ∃ m, k = m + 1 := ⟨k - 1, by omega⟩
    rw [impl_AreThreads.l0, if_pos (by omega), if_pos h0, if_pos (by omega), isThread_eq, wrap_id (x := i + 1) (by omega) (by omega), wrap_id (x := i - 1) (by omega) (by omega), ih k (i + 1) (by omega) (by omega) (by omega)]
    simp only [Option.bind_some, chkD]
    by_cases h : thrOk (rd_T38 l i).f0 (rd_T38 l i).f1 = true
    · rw [if_pos h, h]
      by_cases h2 : i > 0
      · obtain ⟨r, h3, h4, _⟩ := compareThreads_eq (rd_T38 l (i - 1)).f0 (rd_T38 l (i - 1)).f1 (rd_T38 l i).f0 (rd_T38 l i).f1 (k := k) (by omega)
        rw [if_pos h2, if_pos (by omega), if_pos (by omega), h3, decide_eq_false (show ¬ i ≤ 0 by omega)]
        simp only [Option.bind_some]
        by_cases h5 : r < 0
        · rw [if_neg (by omega), h4.1 h5]; simp
        · rw [if_pos (by omega)]
          have : lessB (rd_T38 l (i - 1)).f0 (rd_T38 l (i - 1)).f1 (rd_T38 l i).f0 (rd_T38 l i).f1 = false := by
            rw [← Bool.not_eq_true]; exact fun e => h5 (h4.2 e)
          rw [this]; simp
      · rw [if_neg h2, decide_eq_true (show i ≤ 0 by omega)]; simp
    · rw [if_neg h]; simp only [Bool.not_eq_true] at h; rw [h]; rfl
theorem good_i {l : List S38} {k : Nat} (hl : (l.length : Int) ≤ 1048576) (hk : 1048590 < k) : impl_AreThreads.f k l = some (goodT l) := by
  unfold impl_AreThreads.f goodT
  rw [good_i_l0 l (by omega) l.length k 0 (by omega) (by omega) (by omega), Bool.and_comm]
theorem szThreadS_far {l : List S35} (h : (l.length : Int) > 1048576) (h2 : l.length * 16 ≤ 140737488351232) : laws_szThreadS.f l 1048576 = some (-1) := by
  unfold laws_szThreadS.f
  rw [wrap_id (by omega) (by omega), if_pos (by omega)]
theorem szThreadS_near {l : List S35} (h : ¬ (l.length : Int) > 1048576) : laws_szThreadS.f l 1048576 = some (1048576 - (l.length : Int)) := by
  unfold laws_szThreadS.f
  rw [wrap_id (by omega) (by omega), if_neg (by omega)]
/-- Threads (a, a + 1), (a + 2, a + 3), .. -/
def tmarks (a : Int) : Nat → List S38
  | 0 => []
  | n + 1 => ⟨a, a + 1⟩ :: tmarks (a + 1 + 1) n
theorem tmarks_len (a : Int) (n : Nat) : (tmarks a n).length = n := by
  induction n generalizing a with
  | zero => rfl
  | succ n ih => simp [tmarks, ih]
theorem markThreadS_l0 (d : Nat) : ∀ (k : Nat) (l : List S38) (a i : Int), 0 ≤ i → i + d = l.length → d < k → (l.length : Int) ≤ 1000000000000 → -1000000000000 ≤ a → a + 2 * d ≤ 5000000000000 → laws_markThreadS.l0 k l a i = some (a + 2 * d, l.take i.toNat ++ tmarks a d) := by
  induction d with
  | zero =>
    intro k l a i h0 hi hk hl ha hb
    obtain ⟨k, rfl⟩ : ∃ m, k = m + 1 := ⟨k - 1, by omega⟩
    rw [laws_markThreadS.l0, if_neg (by omega), List.take_of_length_le (by omega)]
    simp [tmarks]
  | succ d ih =>
    intro k l a i h0 hi hk hl ha hb
    obtain ⟨k, rfl⟩ : ∃ m, k = m + 1 := ⟨k - 1, by omega⟩
    rw [laws_markThreadS.l0, if_pos (by omega), if_pos h0]
    simp only [Option.bind_some]
    rw [wrap_id (x := a + 1) (by omega) (by omega), wrap_id (x := a + 1 + 1) (by omega) (by omega), wrap_id (x := i + 1) (by omega) (by omega)]
    have e0 : (rd_T38 (l.set i.toNat ⟨a, (rd_T38 l i).f1⟩) i).f0 = a := by
      rw [rdT_get h0 (by rw [List.length_set]; omega)]; simp
    rw [e0, List.set_set, ih k (l.set i.toNat ⟨a, a + 1⟩) (a + 1 + 1) (i + 1) (by omega) (by rw [List.length_set]; omega) (by omega) (by rw [List.length_set]; omega) (by omega) (by omega)]
    have e : (l.set i.toNat (⟨a, a + 1⟩ : S38)).take (i + 1).toNat = l.take i.toNat ++ [⟨a, a + 1⟩] := by
      rw [show (i + 1).toNat = i.toNat + 1 by omega, List.take_succ_eq_append_getElem (by rw [List.length_set]; omega), List.take_set_of_le (Nat.le_refl _)]
      simp
    rw [e]
    simp only [tmarks, List.append_assoc, List.singleton_append]
    congr 2
    omega
theorem markThreadS_f {l : List S38} (hl : (l.length : Int) ≤ 1000000000000) {k : Nat} (hk : l.length < k) {a : Int} (ha : -1000000000000 ≤ a) (hb : a ≤ 2000000000000) : laws_markThreadS.f k l a = some (a + 2 * l.length, tmarks a l.length) := by
  unfold laws_markThreadS.f
  rw [markThreadS_l0 l.length k l a 0 (by omega) (by omega) hk hl ha (by omega)]
  simp
theorem eqIntS_l0 (l : List Int) (hl : (l.length : Int) ≤ 1000000000000) : ∀ (d k : Nat) (i : Int), 0 ≤ i → i + d = l.length → d < k → laws_eqIntS.l0 k l l i = some true
  | 0, k + 1, i, h0, hi, _ => by
    unfold laws_eqIntS.l0
    rw [if_neg (by omega)]
  | d + 1, k + 1, i, h0, hi, hk => by
    unfold laws_eqIntS.l0
    rw [if_pos (by omega), if_pos h0, if_pos (by omega), if_pos rfl, wrap_id (by omega) (by omega)]
    exact eqIntS_l0 l hl d k (i + 1) (by omega) (by omega) (by omega)
theorem eqIntS_self {l : List Int} (hl : (l.length : Int) ≤ 1000000000000) {k : Nat} (hk : l.length < k) : laws_eqIntS.f k l l = some true := by
  unfold laws_eqIntS.f
  rw [if_pos rfl]
  exact eqIntS_l0 l hl l.length k 0 (by omega) (by omega) hk
/-- a, a + 1, .. -/
def marks (a : Int) : Nat → List Int
  | 0 => []
  | n + 1 => a :: marks (a + 1) n
theorem marks_len (a : Int) (n : Nat) : (marks a n).length = n := by
  induction n generalizing a with
  | zero => rfl
  | succ n ih => simp [marks, ih]

theorem rd_drop {l : List Int} {i : Int} {x : Int} {r : List Int} (h0 : 0 ≤ i) (h : l.drop i.toNat = x :: r) : rd l i = x ∧ l.drop (i + 1).toNat = r ∧ i.toNat < l.length := by
  have hl : i.toNat < l.length := by
    rcases Nat.lt_or_ge i.toNat l.length with h1 | h1
    · exact h1
    · rw [List.drop_eq_nil_of_le h1] at h; cases h
  have h3 := List.drop_eq_getElem_cons hl
  rw [h3] at h
  injection h with h4 h5
  refine ⟨by simp [rd, List.getD_eq_getElem?_getD, List.getElem?_eq_getElem hl, h4], ?_, hl⟩
  rw [show (i + 1).toNat = i.toNat + 1 by omega]; exact h5
theorem markIntS_l0 : ∀ (d k : Nat) (l : List Int) (a i : Int), 0 ≤ i → i + d = l.length → d < k → (l.length : Int) ≤ 1000000000000 → -1000000000000 ≤ a → a + d ≤ 3000000000000 → laws_markIntS.l0 k l a i = some (a + d, l.take i.toNat ++ marks a d)
  | 0, k + 1, l, a, i, h0, hi, _, hl, ha, hb => by
    unfold laws_markIntS.l0
    rw [if_neg (by omega), List.take_of_length_le (by omega)]
    simp [marks]
  | d + 1, k + 1, l, a, i, h0, hi, hk, hl, ha, hb => by
    unfold laws_markIntS.l0
    rw [if_pos (by omega), if_pos h0, wrap_id (by omega) (by omega), wrap_id (by omega) (by omega)]
    rw [markIntS_l0 d k (l.set i.toNat a) (a + 1) (i + 1) (by omega) (by rw [List.length_set]; omega) (by omega) (by rw [List.length_set]; omega) (by omega) (by omega)]
    have e : (l.set i.toNat a).take (i + 1).toNat = l.take i.toNat ++ [a] := by
      rw [show (i + 1).toNat = i.toNat + 1 by omega, List.take_succ_eq_append_getElem (by rw [List.length_set]; omega), List.take_set_of_le (Nat.le_refl _)]
      simp
    rw [e]
    simp only [marks, List.append_assoc, List.singleton_append]
    congr 2
    omega
theorem markIntS_f {l : List Int} (hl : (l.length : Int) ≤ 1000000000000) {k : Nat} (hk : l.length < k) {a : Int} (ha : -1000000000000 ≤ a) (hb : a ≤ 2000000000000) : laws_markIntS.f k l a = some (a + l.length, marks a l.length) := by
  unfold laws_markIntS.f
  rw [markIntS_l0 l.length k l a 0 (by omega) (by omega) hk hl ha (by omega)]
  simp
theorem heldIntS_l0 : ∀ (d k : Nat) (l : List Int) (a i : Int), 0 ≤ i → i + d = l.length → l.drop i.toNat = marks a d → d < k → (l.length : Int) ≤ 1000000000000 → -1000000000000 ≤ a → a + d ≤ 3000000000000 → laws_heldIntS.l0 k l a i = some (a + d)
  | 0, k + 1, l, a, i, h0, hi, _, _, hl, ha, hb => by
    unfold laws_heldIntS.l0
    rw [if_neg (by omega)]
    simp
  | d + 1, k + 1, l, a, i, h0, hi, hd, hk, hl, ha, hb => by
    obtain ⟨e1, e2, e3⟩ := rd_drop h0 (show l.drop i.toNat = a :: marks (a + 1) d from hd)
    unfold laws_heldIntS.l0
    rw [if_pos (by omega), if_pos h0, if_pos e1, wrap_id (by omega) (by omega), wrap_id (by omega) (by omega)]
    rw [heldIntS_l0 d k l (a + 1) (i + 1) (by omega) (by omega) e2 (by omega) hl (by omega) (by omega)]
    congr 1
    omega
theorem heldIntS_f {n k : Nat} (hn : (n : Int) ≤ 1000000000000) (hk : n < k) {a : Int} (ha : -1000000000000 ≤ a) (hb : a ≤ 2000000000000) : laws_heldIntS.f k (marks a n) a = some (a + n) := by
  unfold laws_heldIntS.f
  exact heldIntS_l0 n k (marks a n) a 0 (by omega) (by rw [marks_len]; omega) (by simp) hk (by rw [marks_len]; exact hn) ha (by omega)
theorem gcdGo_pos {a b : Int} (ha : 0 ≤ a) (hb : 0 < b) : 1 ≤ gcdGo a b ∧ gcdGo a b ≤ b := by
  rw [gcdGo_of ha (by omega)]
  have h1 : 0 < Nat.gcd a.toNat b.toNat := Nat.gcd_pos_of_pos_right _ (by omega)
  have h2 : Nat.gcd a.toNat b.toNat ≤ b.toNat := Nat.le_of_dvd (by omega) (Nat.gcd_dvd_right _ _)
  omega
/-- A fraction in lowest terms, as both sides tell it. -/
def lowOf (n d : Int) : Int × Int := (wrap64 (Int.tdiv n (gcdGo n d)), wrap64 (Int.tdiv d (gcdGo n d)))
theorem sgLow_eq {n d : Int} (hn : 0 ≤ n) (hd : 0 < d) : spec_sgLow.f n d = some (lowOf n d) := by
  have := gcdGo_pos hn hd
  unfold spec_sgLow.f spec_srCommon.f
  simp only [Option.bind_some]
  rw [if_neg (by omega)]; rfl
theorem lowest_pos {n d : Int} (hn : 0 ≤ n) (hd : 0 < d) : impl_lowest.f n d = some (lowOf n d) := by
  have := gcdGo_pos hn hd
  unfold impl_lowest.f impl_divisor.f
  simp only [Option.bind_some]
  rw [if_neg (by omega), if_neg (by omega)]; rfl
theorem lowest_neg {n d : Int} (hn : 0 ≤ -n) (hd : 0 < -d) (hn2 : -n ≤ 1000000000) (hd2 : -d ≤ 1000000000) : impl_lowest.f n d = some (lowOf (-n) (-d)) := by
  have := gcdGo_pos hn hd
  unfold impl_lowest.f impl_divisor.f
  rw [wrap_id (x := -n) (by omega) (by omega), wrap_id (x := -d) (by omega) (by omega)]
  simp only [Option.bind_some]
  rw [if_pos (by omega), if_neg (by omega)]; rfl
theorem mul_bd {a b A B : Int} (ha : 0 ≤ a) (haA : a ≤ A) (hb : 0 ≤ b) (hbB : b ≤ B) : 0 ≤ a * b ∧ a * b ≤ A * B :=
  ⟨Int.mul_nonneg ha hb, Int.mul_le_mul haA hbB hb (by omega)⟩
/-- Threads that cross. -/
def crossB (a b c d : Int) : Bool := decide (a > c ∧ b < d ∨ a < c ∧ b > d)
theorem sgMeet_eq (a b c d : Int) : spec_sgMeet.f a b c d = some (crossB a b c d) := by
  unfold spec_sgMeet.f crossB
  repeat' split
  all_goals (congr 1; first | (rw [eq_comm, decide_eq_true_iff]; omega) | (rw [eq_comm, decide_eq_false_iff_not]; omega) | (rw [decide_eq_decide]; omega))
theorem doMeetT_eq (a b c d : Int) : impl_doThreadsMeet.f a b c d = some (crossB a b c d) := by
  unfold impl_doThreadsMeet.f crossB
  repeat' split
  all_goals (congr 1; first | (rw [eq_comm, decide_eq_true_iff]; omega) | (rw [eq_comm, decide_eq_false_iff_not]; omega) | (rw [decide_eq_decide]; omega))
theorem crossB_true {a b c d : Int} : crossB a b c d = true ↔ a > c ∧ b < d ∨ a < c ∧ b > d := by simp [crossB]
theorem low_told {n d : Int} (hn : 0 ≤ n) (hd : 0 < d) (hn2 : n ≤ 1000000000) (hd2 : d ≤ 1000000000) : ∃ g : Int, 1 ≤ g ∧ n = (lowOf n d).1 * g ∧ d = (lowOf n d).2 * g ∧ 0 ≤ (lowOf n d).1 ∧ (lowOf n d).1 ≤ n ∧ 1 ≤ (lowOf n d).2 ∧ (lowOf n d).2 ≤ d := by
  have hp := gcdGo_pos hn hd
  have h1 : gcdGo n d ∣ n := by
    rw [gcdGo_of hn (by omega)]
    have := Int.natCast_dvd_natCast.2 (Nat.gcd_dvd_left n.toNat d.toNat)
    rwa [Int.toNat_of_nonneg hn] at this
  have h2 : gcdGo n d ∣ d := by
    rw [gcdGo_of hn (by omega)]
    have := Int.natCast_dvd_natCast.2 (Nat.gcd_dvd_right n.toNat d.toNat)
    rwa [Int.toNat_of_nonneg (show 0 ≤ d by omega)] at this
  obtain ⟨u, hu⟩ := h1
  obtain ⟨v, hv⟩ := h2
  have e1 : Int.tdiv n (gcdGo n d) = u := by
    conv => lhs; arg 1; rw [hu]
    exact Int.mul_tdiv_cancel_left _ (by omega)
  have e2 : Int.tdiv d (gcdGo n d) = v := by
    conv => lhs; arg 1; rw [hv]
    exact Int.mul_tdiv_cancel_left _ (by omega)
  generalize hg : gcdGo n d = g at *
  have hu0 : 0 ≤ u := by
    rcases Int.lt_or_le u 0 with h | h
    · have : g * u < 0 := Int.mul_neg_of_pos_of_neg (by omega) h
      omega
    · exact h
  have hv0 : 1 ≤ v := by
    rcases Int.lt_or_le v 1 with h | h
    · have : g * v ≤ 0 := Int.mul_nonpos_of_nonneg_of_nonpos (by omega) (by omega)
      omega
    · exact h
  have hun : u ≤ g * u := by
    have := Int.mul_le_mul_of_nonneg_right hp.1 hu0
    omega
  have hvn : v ≤ g * v := by
    have := Int.mul_le_mul_of_nonneg_right hp.1 (show 0 ≤ v by omega)
    omega
  have e : lowOf n d = (u, v) := by
    unfold lowOf
    rw [hg, e1, e2, wrap_id (by omega) (by omega), wrap_id (by omega) (by omega)]
  rw [e]
  refine ⟨g, hp.1, ?_, ?_, hu0, by simp only; omega, hv0, by simp only; omega⟩
  · rw [Int.mul_comm]; exact hu
  · rw [Int.mul_comm]; exact hv
/-- Where a thread meets one that reaches farther. -/
def mtL (a b c d : Int) : List Int := [(lowOf (a * c * (b - d)) (c * b - a * d)).1, (lowOf (a * c * (b - d)) (c * b - a * d)).2, (lowOf (b * d * (c - a)) (c * b - a * d)).1, (lowOf (b * d * (c - a)) (c * b - a * d)).2]
theorem mt_bd {a b c d : Int} (h : thrOk a b = true) (h' : thrOk c d = true) (hac : a < c) (hbd : d < b) : 0 ≤ a * c * (b - d) ∧ a * c * (b - d) ≤ 1000000 ∧ 0 < c * b - a * d ∧ c * b - a * d ≤ 10000 ∧ 0 ≤ b * d * (c - a) ∧ b * d * (c - a) ≤ 1000000 := by
  have hb := thrOk_true.1 h
  have hd := thrOk_true.1 h'
  have m1 := mul_bd (a := c) (b := b) (A := 100) (B := 100) (by omega) (by omega) (by omega) (by omega)
  have m2 := mul_bd (a := a) (b := d) (A := 100) (B := 100) (by omega) (by omega) (by omega) (by omega)
  have m3 := mul_bd (a := a) (b := c) (A := 100) (B := 100) (by omega) (by omega) (by omega) (by omega)
  have m4 := mul_bd (a := b) (b := d) (A := 100) (B := 100) (by omega) (by omega) (by omega) (by omega)
  have m5 := mul_bd (a := a * c) (b := b - d) (A := 10000) (B := 100) (by omega) (by omega) (by omega) (by omega)
  have m6 := mul_bd (a := b * d) (b := c - a) (A := 10000) (B := 100) (by omega) (by omega) (by omega) (by omega)
  have i1 : a * b < c * b := Int.mul_lt_mul_of_pos_right (by omega) (by omega)
  have i2 : a * d < a * b := Int.mul_lt_mul_of_pos_left (by omega) (by omega)
  omega
theorem meeting_lt {a b c d : Int} (h : thrOk a b = true) (h' : thrOk c d = true) (hac : a < c) (hbd : d < b) : spec_sgMeeting.f a b c d = some (mtL a b c d) ∧ impl_meeting.f a b c d = some (mtL a b c d) := by
  have hb := thrOk_true.1 h
  have hd := thrOk_true.1 h'
  have m1 := mul_bd (a := c) (b := b) (A := 100) (B := 100) (by omega) (by omega) (by omega) (by omega)
  have m2 := mul_bd (a := a) (b := d) (A := 100) (B := 100) (by omega) (by omega) (by omega) (by omega)
  have m3 := mul_bd (a := a) (b := c) (A := 100) (B := 100) (by omega) (by omega) (by omega) (by omega)
  have m4 := mul_bd (a := b) (b := d) (A := 100) (B := 100) (by omega) (by omega) (by omega) (by omega)
  have m5 := mul_bd (a := a * c) (b := b - d) (A := 10000) (B := 100) (by omega) (by omega) (by omega) (by omega)
  have m6 := mul_bd (a := b * d) (b := c - a) (A := 10000) (B := 100) (by omega) (by omega) (by omega) (by omega)
  have m7 := mul_bd (a := b - d) (b := a) (A := 100) (B := 100) (by omega) (by omega) (by omega) (by omega)
  have m8 := mul_bd (a := c - a) (b := b) (A := 100) (B := 100) (by omega) (by omega) (by omega) (by omega)
  have hden : 0 < c * b - a * d := (mt_bd h h' hac hbd).2.2.1
  have e1 : (d - b) * a * c = -(a * c * (b - d)) := by grind
  have e2 : (a - c) * b * d = -(b * d * (c - a)) := by grind
  have e3 : b * c = c * b := Int.mul_comm _ _
  have e4 : (d - b) * a = -((b - d) * a) := by grind
  have e5 : (a - c) * b = -((c - a) * b) := by grind
  constructor
  · unfold spec_sgMeeting.f
    rw [if_neg (by omega), wrap_id (x := a * c) (by omega) (by omega), wrap_id (x := b - d) (by omega) (by omega), wrap_id (x := c * b) (by omega) (by omega), wrap_id (x := a * d) (by omega) (by omega), wrap_id (x := b * d) (by omega) (by omega), wrap_id (x := c - a) (by omega) (by omega),
      wrap_id (x := a * c * (b - d)) (by omega) (by omega), wrap_id (x := b * d * (c - a)) (by omega) (by omega), wrap_id (x := c * b - a * d) (by omega) (by omega), sgLow_eq m5.1 hden]
    simp only [Option.bind_some]
    rw [sgLow_eq m6.1 hden]; rfl
  · unfold impl_meeting.f
    rw [e3, wrap_id (x := d - b) (by omega) (by omega), wrap_id (x := (d - b) * a) (by omega) (by omega), wrap_id (x := (d - b) * a * c) (by omega) (by omega), wrap_id (x := a - c) (by omega) (by omega), wrap_id (x := (a - c) * b) (by omega) (by omega), wrap_id (x := (a - c) * b * d) (by omega) (by omega),
      wrap_id (x := a * d) (by omega) (by omega), wrap_id (x := c * b) (by omega) (by omega), wrap_id (x := a * d - c * b) (by omega) (by omega), e1, e2,
      lowest_neg (by omega) (by omega) (by omega) (by omega)]
    simp only [Option.bind_some]
    rw [lowest_neg (by omega) (by omega) (by omega) (by omega)]
    simp only [Option.bind_some, Int.neg_neg]
    rw [show -(a * d - c * b) = c * b - a * d by omega]
    rfl
/-- Two threads that meet a third at one place and reach as far are one. -/
theorem mt_one {a b c d d' : Int} (h : thrOk a b = true) (h1 : thrOk c d = true) (h2 : thrOk c d' = true) (hac : a < c) (hd : d < b) (hd' : d' < b)
    (he : (lowOf (a * c * (b - d)) (c * b - a * d)).1 * (lowOf (a * c * (b - d')) (c * b - a * d')).2 = (lowOf (a * c * (b - d')) (c * b - a * d')).1 * (lowOf (a * c * (b - d)) (c * b - a * d)).2) : d = d' := by
  have hb := thrOk_true.1 h
  have m := mt_bd h h1 hac hd
  have m' := mt_bd h h2 hac hd'
  obtain ⟨g, g1, n1, n2, _⟩ := low_told (n := a * c * (b - d)) (d := c * b - a * d) (by omega) (by omega) (by omega) (by omega)
  obtain ⟨q, q1, p1, p2, _⟩ := low_told (n := a * c * (b - d')) (d := c * b - a * d') (by omega) (by omega) (by omega) (by omega)
  generalize (lowOf (a * c * (b - d)) (c * b - a * d)).1 = u at *
  generalize (lowOf (a * c * (b - d)) (c * b - a * d)).2 = v at *
  generalize (lowOf (a * c * (b - d')) (c * b - a * d')).1 = u' at *
  generalize (lowOf (a * c * (b - d')) (c * b - a * d')).2 = v' at *
  have k1 : a * c * (b - d) * (c * b - a * d') = a * c * (b - d') * (c * b - a * d) := by
    rw [n1, p2, p1, n2]
    have : u * g * (v' * q) = (u * v') * (g * q) := by grind
    have h3 : u' * q * (v * g) = (u' * v) * (g * q) := by grind
    rw [this, h3, he]
  have k2 : a * c * b * (c - a) * (d' - d) = 0 := by grind
  have ha : a * c * b * (c - a) ≠ 0 := by
    have : 0 < a * c * b * (c - a) := Int.mul_pos (Int.mul_pos (Int.mul_pos (by omega) (by omega)) (by omega)) (by omega)
    omega
  rcases Int.mul_eq_zero.1 k2 with h0 | h0
  · exact absurd h0 ha
  · omega
theorem chkD_adj {l : List S38} : ∀ {d : Nat} {i : Int}, chkD l i d = true → ∀ j, i ≤ j → j < i + d → 0 < j → lessB (rd_T38 l (j - 1)).f0 (rd_T38 l (j - 1)).f1 (rd_T38 l j).f0 (rd_T38 l j).f1 = true
  | 0, i, _, j, h1, h2, _ => by omega
  | d + 1, i, h, j, h1, h2, h3 => by
    simp only [chkD, Bool.and_eq_true, Bool.or_eq_true, decide_eq_true_eq] at h
    rcases Int.lt_or_eq_of_le h1 with h4 | h4
    · exact chkD_adj h.2 j (by omega) (by omega) h3
    · rw [← h4]
      rcases h.1.2 with h5 | h5
      · omega
      · exact h5
theorem good_less {l : List S38} (h : goodT l = true) : ∀ (n : Nat) (p : Int), 0 ≤ p → p + n + 1 < l.length → lessB (rd_T38 l p).f0 (rd_T38 l p).f1 (rd_T38 l (p + n + 1)).f0 (rd_T38 l (p + n + 1)).f1 = true
  | 0, p, h0, h1 => by
    simp only [goodT, Bool.and_eq_true] at h
    have := chkD_adj h.2 (p + 1) (by omega) (by omega) (by omega)
    rw [show p + 1 - 1 = p by omega] at this
    rw [show p + ((0 : Nat) : Int) + 1 = p + 1 by omega]
    exact this
  | n + 1, p, h0, h1 => by
    have a1 := good_less h n p h0 (by omega)
    have h' := h
    simp only [goodT, Bool.and_eq_true] at h'
    have a2 := chkD_adj h'.2 (p + n + 1 + 1) (by omega) (by omega) (by omega)
    rw [show p + n + 1 + 1 - 1 = p + n + 1 by omega] at a2
    rw [show p + ((n + 1 : Nat) : Int) + 1 = p + n + 1 + 1 by omega]
    simp only [lessB, decide_eq_true_eq] at *
    omega
theorem good_dist {l : List S38} (h : goodT l = true) {p q : Int} (h0 : 0 ≤ p) (hpq : p < q) (h1 : q < l.length) (ha : (rd_T38 l p).f0 = (rd_T38 l q).f0) (hb : (rd_T38 l p).f1 = (rd_T38 l q).f1) : False := by
  have := good_less h (q - p - 1).toNat p h0 (by omega)
  rw [show p + ((q - p - 1).toNat : Int) + 1 = q by omega] at this
  simp only [lessB, decide_eq_true_eq] at this
  omega
/-- Thread j goes on from thread i. -/
def stepT (l : List S38) (i j : Int) : Prop := 0 ≤ j ∧ j < l.length ∧ (rd_T38 l i).f0 < (rd_T38 l j).f0 ∧ (rd_T38 l j).f1 < (rd_T38 l i).f1
def mtT (l : List S38) (i j : Int) : List Int := mtL (rd_T38 l i).f0 (rd_T38 l i).f1 (rd_T38 l j).f0 (rd_T38 l j).f1
theorem edge_start (l : List S38) (hl : (l.length : Int) ≤ 30) (d : Nat) : ∀ (i t : Int), 0 ≤ i → i + d = l.length → 0 ≤ t → t < l.length → ∃ t' : Int, 0 ≤ t' ∧ t' < l.length ∧
    ∀ k, spec_sgEdge.l0 (k + d + 1) l t l (l.length : Int) i = spec_sgEdge.l1 k l t' [t'] [] ∧ impl_edge.l0 (k + d + 1) l t l (l.length : Int) i = impl_edge.l1 k l t' [t'] := by
  induction d with
  | zero =>
    intro i t h0 hi ht ht2
    refine ⟨t, ht, ht2, fun k => ?_⟩
    rw [spec_sgEdge.l0, impl_edge.l0, if_neg (by omega), if_neg (by omega)]
    exact ⟨rfl, rfl⟩
  | succ d ih =>
    intro i t h0 hi ht ht2
    by_cases hc : (rd_T38 l i).f1 ≥ (rd_T38 l t).f1
    · obtain ⟨t', a1, a2, a3⟩ := ih (i + 1) i (by omega) (by omega) (by omega) (by omega)
      refine ⟨t', a1, a2, fun k => ?_⟩
      rw [show k + (d + 1) + 1 = (k + d + 1) + 1 by omega, spec_sgEdge.l0, impl_edge.l0]
      simp only [if_pos (show i < (l.length : Int) by omega), if_pos h0, if_pos ht, if_pos ht2, if_pos hc]
      rw [wrap_id (x := i + 1) (by omega) (by omega)]
      exact a3 k
    · obtain ⟨t', a1, a2, a3⟩ := ih (i + 1) t (by omega) (by omega) (by omega) (by omega)
      refine ⟨t', a1, a2, fun k => ?_⟩
      rw [show k + (d + 1) + 1 = (k + d + 1) + 1 by omega, spec_sgEdge.l0, impl_edge.l0]
      simp only [if_pos (show i < (l.length : Int) by omega), if_pos h0, if_pos ht, if_pos ht2, if_neg hc]
      rw [wrap_id (x := i + 1) (by omega) (by omega)]
      exact a3 k
theorem cmpM {a b c d a' b' c' d' : Int} (h1 : 0 ≤ a * b') (h2 : a * b' ≤ 1000000000000) (h3 : 0 ≤ a' * b) (h4 : a' * b ≤ 1000000000000) : impl_compareMeetings.f [a, b, c, d] [a', b', c', d'] = some (if a * b' < a' * b then -1 else if a * b' > a' * b then 1 else 0) := by
  unfold impl_compareMeetings.f
  have r0 : rd [a, b, c, d] 0 = a := rfl
  have r1 : rd [a, b, c, d] 1 = b := rfl
  have r2 : rd [a', b', c', d'] 0 = a' := rfl
  have r3 : rd [a', b', c', d'] 1 = b' := rfl
  simp only [List.length_cons, List.length_nil]
  rw [if_pos (by omega), if_pos (by omega), if_pos (by omega), if_pos (by omega), r0, r1, r2, r3, wrap_id (by omega) (by omega), wrap_id (by omega) (by omega), cmpInt_eq]
  rfl
/-- What is held of the next thread: none yet, or one that goes on, and its corner. -/
def nxOk (l : List S38) (t i nx : Int) (co : List Int) : Prop := nx = -1 ∨ nx < i ∧ stepT l t nx ∧ co = mtT l t nx
theorem edge_l2 (l : List S38) (hg : goodT l = true) (t : Int) (ht : 0 ≤ t) (ht2 : t < l.length) (o : List Int) (c : List (List Int)) (d : Nat) : ∀ (i nx : Int) (co : List Int), 0 ≤ i → i + d = l.length → nxOk l t i nx co → ∃ nx' co', nxOk l t l.length nx' co' ∧
    ∀ k, spec_sgEdge.l2 (k + 2 * d) l t o c nx co l (l.length : Int) i = spec_sgEdge.l2 k l t o c nx' co' l (l.length : Int) l.length ∧ impl_edge.l2 (k + 2 * d) l t o nx l (l.length : Int) i = impl_edge.l2 k l t o nx' l (l.length : Int) l.length := by
  obtain ⟨hl1, hl2, hthr⟩ := goodT_true hg
  induction d with
  | zero =>
    intro i nx co h0 hi hn
    obtain rfl : i = l.length := by omega
    exact ⟨nx, co, hn, fun k => ⟨rfl, rfl⟩⟩
  | succ d ih =>
    intro i nx co h0 hi hn
    have hwr : wrap64 (i + 1) = i + 1 := wrap_id (by omega) (by omega)
    have keep : nxOk l t (i + 1) nx co := by
      rcases hn with h | ⟨h1, h2⟩
      · exact .inl h
      · exact .inr ⟨by omega, h2⟩
    -- the two that step over
    have pass : ∀ (b : Bool), b = true → (∃ nx' co', nxOk l t l.length nx' co' ∧ ∀ k, spec_sgEdge.j3 (k + 2 * d + 1) l t o c nx co i l (l.length : Int) i b (rd_T38 l i).f0 (rd_T38 l i).f1 = spec_sgEdge.l2 k l t o c nx' co' l (l.length : Int) l.length ∧ impl_edge.j3 (k + 2 * d + 1) l t o nx i l (l.length : Int) i b (rd_T38 l i).f0 (rd_T38 l i).f1 = impl_edge.l2 k l t o nx' l (l.length : Int) l.length) := by
      intro b hb
      obtain ⟨nx', co', a1, a2⟩ := ih (i + 1) nx co (by omega) (by omega) keep
      refine ⟨nx', co', a1, fun k => ?_⟩
      rw [spec_sgEdge.j3, impl_edge.j3, if_pos hb, if_pos hb, hwr]
      exact a2 k
    by_cases hA : (rd_T38 l i).f0 ≤ (rd_T38 l t).f0
    · obtain ⟨nx', co', a1, a2⟩ := pass true rfl
      refine ⟨nx', co', a1, fun k => ?_⟩
      rw [show k + 2 * (d + 1) = (k + 2 * d + 1) + 1 by omega, spec_sgEdge.l2, impl_edge.l2]
      simp only [if_pos (show i < (l.length : Int) by omega), if_pos h0, if_pos ht, if_pos ht2, if_pos hA]
      exact a2 k
    · by_cases hX : crossB (rd_T38 l t).f0 (rd_T38 l t).f1 (rd_T38 l i).f0 (rd_T38 l i).f1 = true
      · have hst : stepT l t i := by
          have := crossB_true.1 hX
          exact ⟨h0, by omega, by omega, by omega⟩
        have hti := hthr t ht ht2
        have hii := hthr i h0 (by omega)
        obtain ⟨M1, M2⟩ := meeting_lt hti hii hst.2.2.1 hst.2.2.2
        have up : nxOk l t (i + 1) i (mtT l t i) := .inr ⟨by omega, hst, rfl⟩
        have main : ∃ nx' co', nxOk l t l.length nx' co' ∧ ∀ k, spec_sgEdge.j3 (k + 2 * d + 1) l t o c nx co i l (l.length : Int) i false (rd_T38 l i).f0 (rd_T38 l i).f1 = spec_sgEdge.l2 k l t o c nx' co' l (l.length : Int) l.length ∧ impl_edge.j3 (k + 2 * d + 1) l t o nx i l (l.length : Int) i false (rd_T38 l i).f0 (rd_T38 l i).f1 = impl_edge.l2 k l t o nx' l (l.length : Int) l.length := by
          rcases hn with rfl | ⟨hn1, hn2, rfl⟩
          · obtain ⟨nx', co', a1, a2⟩ := ih (i + 1) i (mtT l t i) (by omega) (by omega) up
            refine ⟨nx', co', a1, fun k => ?_⟩
            rw [spec_sgEdge.j3, impl_edge.j3, M1]
            simp only [Bool.false_eq_true, if_false, if_pos ht, if_pos ht2, Option.bind_some, if_pos (show (-1 : Int) < 0 by omega), hwr]
            exact a2 k
          · have hnx0 : 0 ≤ nx := hn2.1
            have hnn := hthr nx hn2.1 hn2.2.1
            obtain ⟨N1, N2⟩ := meeting_lt hti hnn hn2.2.2.1 hn2.2.2.2
            have b1 := mt_bd hti hii hst.2.2.1 hst.2.2.2
            have b2 := mt_bd hti hnn hn2.2.2.1 hn2.2.2.2
            obtain ⟨_, _, _, _, u1, u2, u3, u4⟩ := low_told (n := (rd_T38 l t).f0 * (rd_T38 l i).f0 * ((rd_T38 l t).f1 - (rd_T38 l i).f1)) (d := (rd_T38 l i).f0 * (rd_T38 l t).f1 - (rd_T38 l t).f0 * (rd_T38 l i).f1) (by omega) (by omega) (by omega) (by omega)
            obtain ⟨_, _, _, _, v1, v2, v3, v4⟩ := low_told (n := (rd_T38 l t).f0 * (rd_T38 l nx).f0 * ((rd_T38 l t).f1 - (rd_T38 l nx).f1)) (d := (rd_T38 l nx).f0 * (rd_T38 l t).f1 - (rd_T38 l t).f0 * (rd_T38 l nx).f1) (by omega) (by omega) (by omega) (by omega)
            have hone : (rd_T38 l i).f0 = (rd_T38 l nx).f0 → (mtT l t i).headD 0 * (mtT l t nx).getD 1 0 = (mtT l t nx).headD 0 * (mtT l t i).getD 1 0 → False := by
              intro e1 e2
              have hii' := hii
              have hs' := hst
              unfold mtT mtL at e2
              simp only [List.headD_cons, List.getD_cons_succ, List.getD_cons_zero] at e2
              rw [e1] at e2 hii'
              have := mt_one hti hii' hnn hn2.2.2.1 hs'.2.2.2 hn2.2.2.2 e2
              exact good_dist hg hn2.1 hn1 (by omega) e1.symm this.symm
            unfold mtT mtL at hone
            simp only [List.headD_cons, List.getD_cons_succ, List.getD_cons_zero] at hone
            have eM : mtT l t i = mtL (rd_T38 l t).f0 (rd_T38 l t).f1 (rd_T38 l i).f0 (rd_T38 l i).f1 := rfl
            have eN : mtT l t nx = mtL (rd_T38 l t).f0 (rd_T38 l t).f1 (rd_T38 l nx).f0 (rd_T38 l nx).f1 := rfl
            unfold mtL at eM eN M1 M2 N1 N2
            generalize (lowOf ((rd_T38 l t).f0 * (rd_T38 l i).f0 * ((rd_T38 l t).f1 - (rd_T38 l i).f1)) ((rd_T38 l i).f0 * (rd_T38 l t).f1 - (rd_T38 l t).f0 * (rd_T38 l i).f1)) = X at *
            generalize (lowOf ((rd_T38 l t).f0 * (rd_T38 l nx).f0 * ((rd_T38 l t).f1 - (rd_T38 l nx).f1)) ((rd_T38 l nx).f0 * (rd_T38 l t).f1 - (rd_T38 l t).f0 * (rd_T38 l nx).f1)) = Y at *
            generalize (lowOf ((rd_T38 l t).f1 * (rd_T38 l i).f1 * ((rd_T38 l i).f0 - (rd_T38 l t).f0)) ((rd_T38 l i).f0 * (rd_T38 l t).f1 - (rd_T38 l t).f0 * (rd_T38 l i).f1)) = Z at *
            generalize (lowOf ((rd_T38 l t).f1 * (rd_T38 l nx).f1 * ((rd_T38 l nx).f0 - (rd_T38 l t).f0)) ((rd_T38 l nx).f0 * (rd_T38 l t).f1 - (rd_T38 l t).f0 * (rd_T38 l nx).f1)) = W at *
            have p1 := mul_bd (a := X.1) (b := Y.2) (A := 1000000) (B := 1000000) (by omega) (by omega) (by omega) (by omega)
            have p2 := mul_bd (a := Y.1) (b := X.2) (A := 1000000) (B := 1000000) (by omega) (by omega) (by omega) (by omega)
            have cM := cmpM (a := X.1) (b := X.2) (c := Z.1) (d := Z.2) (a' := Y.1) (b' := Y.2) (c' := W.1) (d' := W.2) (by omega) (by omega) (by omega) (by omega)
            have sM : impl_sameMeeting.f l t i nx = some (decide (X.1 * Y.2 = Y.1 * X.2)) := by
              unfold impl_sameMeeting.f
              rw [if_pos ht, if_pos ht2, if_pos h0, if_pos (by omega), M2]
              simp only [Option.bind_some]
              rw [if_pos hn2.1, if_pos hn2.2.1, N2]
              simp only [Option.bind_some]
              rw [cM]
              simp only [Option.bind_some, Option.some.injEq]
              rw [Bool.eq_iff_iff, beq_iff_eq, decide_eq_true_eq]
              repeat' split
              all_goals omega
            have r0 : rd [X.1, X.2, Z.1, Z.2] 0 = X.1 := rfl
            have r1 : rd [X.1, X.2, Z.1, Z.2] 1 = X.2 := rfl
            have r2 : rd [Y.1, Y.2, W.1, W.2] 0 = Y.1 := rfl
            have r3 : rd [Y.1, Y.2, W.1, W.2] 1 = Y.2 := rfl
            have ll : ((([X.1, X.2, Z.1, Z.2] : List Int)).length : Int) = 4 := rfl
            have ll2 : ((([Y.1, Y.2, W.1, W.2] : List Int)).length : Int) = 4 := rfl
            -- which of the two goes on
            have sp : ∀ k, spec_sgEdge.j3 (k + 1) l t o c nx (mtT l t nx) i l (l.length : Int) i false (rd_T38 l i).f0 (rd_T38 l i).f1 = if X.1 * Y.2 < Y.1 * X.2 ∨ X.1 * Y.2 = Y.1 * X.2 ∧ (rd_T38 l i).f0 > (rd_T38 l nx).f0 then spec_sgEdge.l2 k l t o c i (mtT l t i) l (l.length : Int) (i + 1) else spec_sgEdge.l2 k l t o c nx (mtT l t nx) l (l.length : Int) (i + 1) := by
              intro k
              rw [spec_sgEdge.j3, M1, eN, eM]
              simp only [Bool.false_eq_true, if_false, if_pos ht, if_pos ht2, Option.bind_some, if_neg (show ¬ nx < 0 by omega), ll, ll2, if_pos (show (0 : Int) < 4 by omega), if_pos (show (1 : Int) < 4 by omega), r0, r1, r2, r3, hwr]
              rw [wrap_id (x := X.1 * Y.2) (by omega) (by omega), wrap_id (x := Y.1 * X.2) (by omega) (by omega)]
              simp only [if_pos hn2.1, if_pos hn2.2.1]
              by_cases q1 : X.1 * Y.2 < Y.1 * X.2
              · rw [if_pos q1, if_pos (.inl q1)]
              · rw [if_neg q1]
                by_cases q2 : X.1 * Y.2 = Y.1 * X.2
                · rw [if_pos q2]
                  by_cases q3 : (rd_T38 l i).f0 > (rd_T38 l nx).f0
                  · rw [if_pos q3, if_pos (.inr ⟨q2, q3⟩)]
                  · rw [if_neg q3, if_neg (by omega)]
                · rw [if_neg q2, if_neg (by omega)]
            have im : ∀ k, impl_edge.j3 (k + 1) l t o nx i l (l.length : Int) i false (rd_T38 l i).f0 (rd_T38 l i).f1 = if X.1 * Y.2 < Y.1 * X.2 ∨ X.1 * Y.2 = Y.1 * X.2 ∧ (rd_T38 l i).f0 > (rd_T38 l nx).f0 then impl_edge.l2 k l t o i l (l.length : Int) (i + 1) else impl_edge.l2 k l t o nx l (l.length : Int) (i + 1) := by
              intro k
              rw [impl_edge.j3, M2, N2, sM]
              simp only [Bool.false_eq_true, if_false, if_pos ht, if_pos ht2, Option.bind_some, if_neg (show ¬ nx < 0 by omega), if_pos hn2.1, if_pos hn2.2.1, hwr]
              rw [cM]
              simp only [Option.bind_some]
              by_cases q1 : X.1 * Y.2 < Y.1 * X.2
              · rw [if_pos (by rw [if_pos q1]; omega), if_pos (.inl q1)]
              · rw [if_neg (by rw [if_neg q1]; split <;> omega)]
                by_cases q2 : X.1 * Y.2 = Y.1 * X.2
                · rw [if_pos (decide_eq_true q2)]
                  by_cases q3 : (rd_T38 l i).f0 > (rd_T38 l nx).f0
                  · rw [if_pos (by omega), if_pos (.inr ⟨q2, q3⟩)]
                  · have q4 : ¬ (rd_T38 l i).f0 = (rd_T38 l nx).f0 := fun e => hone e q2
                    rw [if_neg (by omega), if_neg (by omega)]
                · rw [if_neg (by rw [decide_eq_true_eq]; exact q2), if_neg (by omega)]
            by_cases q : X.1 * Y.2 < Y.1 * X.2 ∨ X.1 * Y.2 = Y.1 * X.2 ∧ (rd_T38 l i).f0 > (rd_T38 l nx).f0
            · obtain ⟨nx', co', a1, a2⟩ := ih (i + 1) i (mtT l t i) (by omega) (by omega) up
              refine ⟨nx', co', a1, fun k => ?_⟩
              rw [sp, im, if_pos q, if_pos q]
              exact a2 k
            · obtain ⟨nx', co', a1, a2⟩ := ih (i + 1) nx (mtT l t nx) (by omega) (by omega) keep
              refine ⟨nx', co', a1, fun k => ?_⟩
              rw [sp, im, if_neg q, if_neg q]
              exact a2 k
        obtain ⟨nx', co', a1, a2⟩ := main
        refine ⟨nx', co', a1, fun k => ?_⟩
        rw [show k + 2 * (d + 1) = (k + 2 * d + 1) + 1 by omega, spec_sgEdge.l2, impl_edge.l2, sgMeet_eq, doMeetT_eq, hX]
        simp only [if_pos (show i < (l.length : Int) by omega), if_pos h0, if_pos ht, if_pos ht2, if_neg hA, Option.bind_some, Bool.not_true]
        exact a2 k
      · simp only [Bool.not_eq_true] at hX
        obtain ⟨nx', co', a1, a2⟩ := pass true rfl
        refine ⟨nx', co', a1, fun k => ?_⟩
        rw [show k + 2 * (d + 1) = (k + 2 * d + 1) + 1 by omega, spec_sgEdge.l2, impl_edge.l2, sgMeet_eq, doMeetT_eq, hX]
        simp only [if_pos (show i < (l.length : Int) by omega), if_pos h0, if_pos ht, if_pos ht2, if_neg hA, Option.bind_some, Bool.not_false]
        exact a2 k
/-- The corners along a way. -/
def corsT (l : List S38) : Int → List Int → List (List Int)
  | _, [] => []
  | t, q :: p => mtT l t q :: corsT l q p
/-- A way that goes on. -/
def wayT (l : List S38) : Int → List Int → Prop
  | _, [] => True
  | t, q :: p => stepT l t q ∧ wayT l q p
theorem edge_l1 (l : List S38) (hg : goodT l = true) : ∀ (m : Nat) (t : Int) (o : List Int) (c : List (List Int)), 0 ≤ t → t < l.length → 100 ≤ (rd_T38 l t).f0 + m → (o.length : Int) + m ≤ 1000 → (c.length : Int) + m ≤ 1000 → ∃ p, p.length ≤ m ∧ wayT l t p ∧
    ∀ k, spec_sgEdge.l1 (k + (2 * l.length + 2) * (m + 1)) l t o c = some (o ++ p, c ++ corsT l t p) ∧ impl_edge.l1 (k + (2 * l.length + 2) * (m + 1)) l t o = some (o ++ p) := by
  obtain ⟨hl1, hl2, hthr⟩ := goodT_true hg
  intro m
  induction m with
  | zero =>
    intro t o c ht ht2 hm ho hc
    obtain ⟨nx, co, hn, hk⟩ := edge_l2 l hg t ht ht2 o c l.length 0 (-1) [] (by omega) (by omega) (.inl rfl)
    have first : ∀ k, spec_sgEdge.l1 (k + (2 * l.length + 2)) l t o c = spec_sgEdge.l2 (k + 1) l t o c nx co l (l.length : Int) l.length ∧ impl_edge.l1 (k + (2 * l.length + 2)) l t o = impl_edge.l2 (k + 1) l t o nx l (l.length : Int) l.length := by
      intro k
      rw [show k + (2 * l.length + 2) = (k + 1 + 2 * l.length) + 1 by omega, spec_sgEdge.l1, impl_edge.l1]
      exact hk (k + 1)
    rcases hn with rfl | ⟨hn1, hn2, rfl⟩
    · refine ⟨[], by simp, trivial, fun k => ?_⟩
      rw [Nat.mul_succ, ← Nat.add_assoc, (first _).1, (first _).2, spec_sgEdge.l2, impl_edge.l2]
      simp only [if_neg (show ¬ (l.length : Int) < (l.length : Int) by omega), if_pos (show (-1 : Int) < 0 by omega)]
      simp [corsT]
    · have hnn := thrOk_true.1 (hthr nx hn2.1 hn2.2.1)
      exact absurd hn2.2.2.1 (by omega)
  | succ m ih =>
    intro t o c ht ht2 hm ho hc
    obtain ⟨nx, co, hn, hk⟩ := edge_l2 l hg t ht ht2 o c l.length 0 (-1) [] (by omega) (by omega) (.inl rfl)
    have first : ∀ k, spec_sgEdge.l1 (k + (2 * l.length + 2)) l t o c = spec_sgEdge.l2 (k + 1) l t o c nx co l (l.length : Int) l.length ∧ impl_edge.l1 (k + (2 * l.length + 2)) l t o = impl_edge.l2 (k + 1) l t o nx l (l.length : Int) l.length := by
      intro k
      rw [show k + (2 * l.length + 2) = (k + 1 + 2 * l.length) + 1 by omega, spec_sgEdge.l1, impl_edge.l1]
      exact hk (k + 1)
    rcases hn with rfl | ⟨hn1, hn2, rfl⟩
    · refine ⟨[], by simp, trivial, fun k => ?_⟩
      rw [Nat.mul_succ, ← Nat.add_assoc, (first _).1, (first _).2, spec_sgEdge.l2, impl_edge.l2]
      simp only [if_neg (show ¬ (l.length : Int) < (l.length : Int) by omega), if_pos (show (-1 : Int) < 0 by omega)]
      simp [corsT]
    · have hnn := thrOk_true.1 (hthr nx hn2.1 hn2.2.1)
      obtain ⟨p, p1, p2, p3⟩ := ih nx (o ++ [nx]) (c ++ [mtT l t nx]) hn2.1 hn2.2.1 (by have := hn2.2.2.1; omega) (by simp; omega) (by simp; omega)
      refine ⟨nx :: p, by simp; omega, ⟨hn2, p2⟩, fun k => ?_⟩
      have hnx := hn2.1
      rw [Nat.mul_succ, ← Nat.add_assoc, (first _).1, (first _).2, spec_sgEdge.l2, impl_edge.l2]
      simp only [if_neg (show ¬ (l.length : Int) < (l.length : Int) by omega), if_neg (show ¬ nx < 0 by omega), if_pos (show o.length < 17592186044416 by omega), if_pos (show c.length < 5864062014805 by omega)]
      rw [(p3 k).1, (p3 k).2]
      simp [corsT]
theorem edge_both (l : List S38) (hg : goodT l = true) : ∃ (t : Int) (p : List Int), 0 ≤ t ∧ t < (l.length : Int) ∧ (p.length : Int) ≤ 100 ∧ wayT l t p ∧ ∀ k, 7000 ≤ k → spec_sgEdge.f k l = some (t :: p, corsT l t p) ∧ impl_edge.f k l = some (t :: p) := by
  obtain ⟨hl1, hl2, hthr⟩ := goodT_true hg
  obtain ⟨t, h0, h1, hs⟩ := edge_start l hl2 l.length 0 0 (by omega) (by omega) (by omega) (by omega)
  have htt := thrOk_true.1 (hthr t h0 h1)
  obtain ⟨p, p1, p2, p3⟩ := edge_l1 l hg 100 t [t] [] h0 h1 (by omega) (by simp) (by simp)
  refine ⟨t, p, h0, h1, by omega, p2, fun k hk => ?_⟩
  unfold spec_sgEdge.f impl_edge.f
  have hb : (2 * l.length + 2) * (100 + 1) ≤ 62 * 101 := Nat.mul_le_mul (by omega) (by omega)
  obtain ⟨j, rfl⟩ : ∃ j, k = (j + (2 * l.length + 2) * (100 + 1)) + l.length + 1 := ⟨k - ((2 * l.length + 2) * (100 + 1)) - l.length - 1, by omega⟩
  rw [(hs _).1, (hs _).2, (p3 j).1, (p3 j).2]
  exact ⟨rfl, rfl⟩
theorem rdS_drop {l : List (List Int)} {i : Int} {x : List Int} {r : List (List Int)} (h0 : 0 ≤ i) (h : l.drop i.toNat = x :: r) : rd_L5 l i = x ∧ l.drop (i + 1).toNat = r ∧ i.toNat < l.length := by
  have hl : i.toNat < l.length := by
    rcases Nat.lt_or_ge i.toNat l.length with h1 | h1
    · exact h1
    · rw [List.drop_eq_nil_of_le h1] at h; cases h
  have h3 := List.drop_eq_getElem_cons hl
  rw [h3] at h
  injection h with h4 h5
  refine ⟨by simp [rd_L5, List.getD_eq_getElem?_getD, List.getElem?_eq_getElem hl, h4], ?_, hl⟩
  rw [show (i + 1).toNat = i.toNat + 1 by omega]; exact h5
theorem eqIntSS_l0 (L : List (List Int)) (hL : (L.length : Int) ≤ 1000) : ∀ (ls : List (List Int)) (k : Nat) (i : Int), 0 ≤ i → L.drop i.toNat = ls → (∀ x ∈ ls, x.length ≤ 1000) → ls.length + 1010 < k → laws_eqIntSS.l0 k L L i = some true
  | [], k, i, h0, h, _, hk => by
    obtain ⟨k, rfl⟩ : ∃ m, k = m + 1 := ⟨k - 1, by omega⟩
    have := List.drop_eq_nil_iff.1 h
    rw [laws_eqIntSS.l0, if_neg (by omega)]
  | x :: ls, k, i, h0, h, hr, hk => by
    simp only [List.length_cons] at hk
    obtain ⟨k, rfl⟩ : ∃ m, k = m + 1 := ⟨k - 1, by omega⟩
    obtain ⟨h1, h2, h3⟩ := rdS_drop h0 h
    have hx := hr x List.mem_cons_self
    rw [laws_eqIntSS.l0, if_pos (by omega), if_pos h0, if_pos (by omega), eqIntS_self (l := rd_L5 L i) (by rw [h1]; omega) (by rw [h1]; omega)]
    simp only [Option.bind_some, if_true]
    rw [wrap_id (x := i + 1) (by omega) (by omega)]
    exact eqIntSS_l0 L hL ls k (i + 1) (by omega) h2 (fun y hy => hr y (List.mem_cons_of_mem _ hy)) (by omega)
theorem eqIntSS_self {L : List (List Int)} (hL : (L.length : Int) ≤ 1000) (hr : ∀ x ∈ L, x.length ≤ 1000) {k : Nat} (hk : 2100 ≤ k) : laws_eqIntSS.f k L L = some true := by
  unfold laws_eqIntSS.f
  rw [if_pos rfl]
  exact eqIntSS_l0 L hL L k 0 (by omega) (by simp) hr (by omega)
/-- How long rows are together. -/
def tot : List (List Int) → Int
  | [] => 0
  | r :: rs => r.length + tot rs
/-- Rows marked one behind the other. -/
def mkS (a : Int) : List (List Int) → List (List Int)
  | [] => []
  | r :: rs => marks a r.length :: mkS (a + r.length) rs
theorem tot_bd : ∀ (l : List (List Int)), (∀ x ∈ l, x.length ≤ 1000) → 0 ≤ tot l ∧ tot l ≤ 1000 * l.length
  | [], _ => ⟨Int.le_refl _, by simp [tot]⟩
  | x :: l, h => by
    have h1 := tot_bd l (fun y hy => h y (List.mem_cons_of_mem _ hy))
    have h2 := h x List.mem_cons_self
    simp only [tot, List.length_cons]
    omega
theorem markSS_told {k : Nat} (hk : 1010 ≤ k) : ∀ (l : List (List Int)) (a : Int), (∀ x ∈ l, x.length ≤ 1000) → 0 ≤ a → a + tot l ≤ 1000000000 → markSS k l a = some (a + tot l, mkS a l)
  | [], a, _, _, _ => by simp [markSS, tot, mkS]
  | x :: l, a, h, h0, h1 => by
    have h2 := h x List.mem_cons_self
    have h4 := (tot_bd l (fun y hy => h y (List.mem_cons_of_mem _ hy))).1
    simp only [tot] at h1
    unfold markSS
    rw [markIntS_f (by omega) (by omega) (by omega) (by omega)]
    simp only [Option.bind_some]
    rw [markSS_told hk l (a + x.length) (fun y hy => h y (List.mem_cons_of_mem _ hy)) (by omega) (by omega)]
    simp only [Option.bind_some, tot, mkS]
    congr 2
    omega
theorem mkS_len (a : Int) (l : List (List Int)) : (mkS a l).length = l.length := by
  induction l generalizing a with
  | nil => rfl
  | cons x l ih => simp [mkS, ih]
theorem heldSS_l0 (L : List (List Int)) (hL : (L.length : Int) ≤ 1000) : ∀ (ls : List (List Int)) (k : Nat) (a i : Int), 0 ≤ i → L.drop i.toNat = mkS a ls → (∀ x ∈ ls, x.length ≤ 1000) → ls.length + 1010 < k → 0 ≤ a → a + tot ls ≤ 1000000000 → laws_heldIntSS.l0 k L a i = some (a + tot ls)
  | [], k, a, i, h0, h, _, hk, _, _ => by
    obtain ⟨k, rfl⟩ : ∃ m, k = m + 1 := ⟨k - 1, by omega⟩
    have := List.drop_eq_nil_iff.1 h
    rw [laws_heldIntSS.l0, if_neg (by omega)]
    simp [tot]
  | x :: ls, k, a, i, h0, h, hr, hk, ha, hb => by
    simp only [List.length_cons] at hk
    obtain ⟨k, rfl⟩ : ∃ m, k = m + 1 := ⟨k - 1, by omega⟩
    obtain ⟨h1, h2, h3⟩ := rdS_drop h0 h
    have hx := hr x List.mem_cons_self
    have h4 := (tot_bd ls (fun y hy => hr y (List.mem_cons_of_mem _ hy))).1
    simp only [tot] at hb
    rw [laws_heldIntSS.l0, if_pos (by omega), if_pos h0, h1, heldIntS_f (by omega) (by omega) (by omega) (by omega)]
    simp only [Option.bind_some]
    rw [if_neg (by omega), wrap_id (x := i + 1) (by omega) (by omega), heldSS_l0 L hL ls k (a + x.length) (i + 1) (by omega) h2 (fun y hy => hr y (List.mem_cons_of_mem _ hy)) (by omega) (by omega) (by omega)]
    simp only [tot]
    congr 1
    omega
theorem markIntSS_f {l : List (List Int)} (hL : (l.length : Int) ≤ 1000) (hr : ∀ x ∈ l, x.length ≤ 1000) {k : Nat} (hk : 2100 ≤ k) : laws_markIntSS.f k l 1 = some (1 + tot l, mkS 1 l) := by
  have := tot_bd l hr
  unfold laws_markIntSS.f
  rw [if_pos (by omega), markSS_told (by omega) l 1 hr (by omega) (by omega)]
theorem heldIntSS_f {l : List (List Int)} (hL : (l.length : Int) ≤ 1000) (hr : ∀ x ∈ l, x.length ≤ 1000) {k : Nat} (hk : 2100 ≤ k) : laws_heldIntSS.f k (mkS 1 l) 1 = some (1 + tot l) := by
  have := tot_bd l hr
  unfold laws_heldIntSS.f
  exact heldSS_l0 (mkS 1 l) (by rw [mkS_len]; exact hL) l k 1 0 (by omega) (by simp) hr (by omega) (by omega) (by omega)
theorem corsT_bd (l : List S38) : ∀ (p : List Int) (t : Int), (corsT l t p).length = p.length ∧ ∀ x ∈ corsT l t p, x.length ≤ 1000
  | [], t => ⟨rfl, by simp [corsT]⟩
  | q :: p, t => by
    obtain ⟨h1, h2⟩ := corsT_bd l p q
    refine ⟨by simp [corsT, h1], fun x hx => ?_⟩
    rcases List.mem_cons.1 hx with rfl | hx
    · simp [mtT, mtL]
    · exact h2 x hx
theorem corners_l0 (l : List S38) (hg : goodT l = true) (T : List Int) (hT : (T.length : Int) ≤ 200) (s : List Int) : ∀ (q : Int) (k : Nat) (o : List (List Int)) (i : Int), 1 ≤ i → T.drop (i - 1).toNat = q :: s → 0 ≤ q → q < l.length → wayT l q s → (o.length : Int) + s.length ≤ 1000 → s.length < k →
    impl_EdgeCorners.l0 k l o T i = some (o ++ corsT l q s, true) := by
  induction s with
  | nil =>
    intro q k o i h1 hd hq hq2 _ ho hk
    obtain ⟨k, rfl⟩ : ∃ m, k = m + 1 := ⟨k - 1, by omega⟩
    obtain ⟨e1, e2, e3⟩ := rd_drop (by omega) hd
    rw [show (i - 1 + 1).toNat = i.toNat by omega] at e2
    have := List.drop_eq_nil_iff.1 e2
    rw [impl_EdgeCorners.l0, if_neg (by omega)]
    simp [corsT]
  | cons y s ih =>
    intro q k o i h1 hd hq hq2 hw ho hk
    simp only [List.length_cons] at ho hk
    obtain ⟨k, rfl⟩ : ∃ m, k = m + 1 := ⟨k - 1, by omega⟩
    obtain ⟨hl1, hl2, hthr⟩ := goodT_true hg
    obtain ⟨e1, e2, e3⟩ := rd_drop (by omega) hd
    rw [show (i - 1 + 1).toNat = i.toNat by omega] at e2
    obtain ⟨f1, f2, f3⟩ := rd_drop (by omega) e2
    obtain ⟨⟨s1, s2, s3, s4⟩, hw2⟩ := hw
    have hm := (meeting_lt (hthr q hq hq2) (hthr y s1 s2) s3 s4).2
    rw [impl_EdgeCorners.l0, wrap_id (x := i - 1) (by omega) (by omega), e1, f1, wrap_id (x := i + 1) (by omega) (by omega)]
    rw [if_pos (by omega), if_pos (by omega), if_pos (by omega), if_pos hq, if_pos hq2, if_pos (by omega), if_pos s1, if_pos s2, hm]
    simp only [Option.bind_some]
    rw [if_pos (by omega), ih y k _ (i + 1) (by omega) (by rw [show i + 1 - 1 = i by omega]; exact e2) s1 s2 hw2 (by simp; omega) (by omega)]
    simp [corsT, mtT]
theorem FnExactEdgeCorners : ∀ (l0 : List (S35)), l0.length * 16 ≤ 140737488351232 → (∀ x ∈ l0, (Lit.int .i64 x.f0).wf = true ∧ (Lit.int .i64 x.f1).wf = true) → ∃ k, laws_FnExactEdgeCorners.f k l0 = some true := by
  intro l h16 _
  by_cases hl : (l.length : Int) > 1048576
  · refine ⟨0, ?_⟩
    unfold laws_FnExactEdgeCorners.f
    rw [szThreadS_far hl h16]; rfl
  · have hm : ((l.map cv).length : Int) ≤ 1048576 := by simp; omega
    have key : ∃ r : List (List Int) × Bool, (r.1.length : Int) ≤ 1000 ∧ (∀ x ∈ r.1, x.length ≤ 1000) ∧ spec_EdgeCorners.f 1049000 (l.map cv) = some r ∧ impl_EdgeCorners.f 1049000 (l.map cv) = some r := by
      unfold spec_EdgeCorners.f impl_EdgeCorners.f
      rw [good_s hm (by omega), good_i hm (by omega)]
      simp only [Option.bind_some]
      by_cases h : goodT (l.map cv) = true
      · obtain ⟨t, p, t0, t1, h3, h4, h5⟩ := edge_both (l.map cv) h
        have h6 := h5 1049000 (by omega)
        obtain ⟨b1, b2⟩ := corsT_bd (l.map cv) p t
        rw [if_pos h, if_pos h, h6.1, h6.2]
        simp only [Option.bind_some]
        rw [corners_l0 (l.map cv) h (t :: p) (by simp; omega) p t 1049000 [] 1 (by omega) (by simp) t0 t1 h4 (by simp; omega) (by omega)]
        exact ⟨(corsT (l.map cv) t p, true), by simp only [b1]; omega, b2, rfl, by simp⟩
      · rw [if_neg h, if_neg h]
        exact ⟨([], false), by simp, by simp, rfl, rfl⟩
    obtain ⟨r, hr, hr2, hs, hi⟩ := key
    refine ⟨1049000, ?_⟩
    unfold laws_FnExactEdgeCorners.f
    have hb := tot_bd r.1 hr2
    rw [szThreadS_near hl]
    simp only [Option.bind_some]
    rw [if_neg (by omega), toThreadS_f (by omega) (by omega)]
    simp only [Option.bind_some]
    rw [hs]
    simp only [Option.bind_some]
    rw [hi]
    simp only [Option.bind_some]
    rw [eqIntSS_self hr hr2 (by omega)]
    simp only [Option.bind_some]
    rw [eqThreadS_self (by omega) (by omega)]
    simp only [Option.bind_some]
    rw [markThreadS_f (by omega) (by omega) (by omega) (by omega)]
    simp only [Option.bind_some]
    rw [markIntSS_f hr hr2 (by omega)]
    simp only [Option.bind_some]
    rw [heldIntSS_f hr hr2 (by omega)]
    simp only [Option.bind_some]
    rw [if_pos ⟨trivial, trivial, trivial, by omega, by omega, trivial⟩]

end Go.Proofs.Ytafbnilpipcjfaa.Pure
