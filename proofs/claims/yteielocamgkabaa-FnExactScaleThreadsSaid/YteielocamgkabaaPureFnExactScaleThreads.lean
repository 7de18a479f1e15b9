/- What is proved: the pure statement of the law FnExactScaleThreads, about numbers and lists alone; no condition. -/
import Derived.Test.YteielocamgkabaaPx38
namespace Go.Proofs.Yteielocamgkabaa.Pure
open Go.RowKit Go.Proofs.Yteielocamgkabaa.P Go.Proofs.YteielocamgkabaaW.PrintWords Go.Proofs.YteielocamgkabaaW.PrintLast
set_option linter.unusedVariables false
set_option linter.unusedSimpArgs false

theorem wrap_id {x : Int} (h : -9000000000000000000 ≤ x) (h2 : x ≤ 9000000000000000000) : wrap64 x = x := by unfold wrap64; omega
/-- A number from lo to hi. -/
def rg (n lo hi : Int) : Bool := decide (lo ≤ n ∧ n ≤ hi)
theorem rg_true {n lo hi : Int} : rg n lo hi = true ↔ lo ≤ n ∧ n ≤ hi := by simp [rg]
theorem l1In_rg (n lo hi : Int) : spec_l1In.f n lo hi = some (rg n lo hi) := by
  unfold spec_l1In.f rg
  by_cases h : n ≥ lo
  · rw [if_pos h]; congr 1; simp only [decide_eq_decide]; omega
  · rw [if_neg h]; congr 1; exact (decide_eq_false (by omega)).symm
theorem within_rg (n lo hi : Int) : impl_within.f n lo hi = some (rg n lo hi) := by
  unfold impl_within.f rg
  by_cases h : n ≥ lo
  · rw [if_pos h]; congr 1; simp only [decide_eq_decide]; omega
  · rw [if_neg h]; congr 1; exact (decide_eq_false (by omega)).symm
/-- A thread. -/
def thrOk (a b : Int) : Bool := rg a 1 100 && rg b 1 100
theorem thrOk_true {a b : Int} : thrOk a b = true ↔ 1 ≤ a ∧ a ≤ 100 ∧ 1 ≤ b ∧ b ≤ 100 := by
  simp only [thrOk, Bool.and_eq_true, rg_true]; omega
theorem sgThread_eq (a b : Int) : spec_sgThread.f a b = some (thrOk a b) := by
  unfold spec_sgThread.f thrOk
  rw [l1In_rg, l1In_rg]
  cases rg a 1 100 <;> rfl
theorem isThread_eq (a b : Int) : impl_isThread.f a b = some (thrOk a b) := by
  unfold impl_isThread.f thrOk
  rw [within_rg, within_rg]
  cases rg a 1 100 <;> rfl
theorem rdT_get {l : List S26} {i : Int} (h0 : 0 ≤ i) (h1 : i < (l.length : Int)) : rd_T26 l i = l[i.toNat]'(by omega) := by
  simp [rd_T26, List.getD_eq_getElem?_getD, List.getElem?_eq_getElem (show i.toNat < l.length by omega)]
theorem rdL_get {l : List S23} {i : Int} (h0 : 0 ≤ i) (h1 : i < (l.length : Int)) : rd_T23 l i = l[i.toNat]'(by omega) := by
  simp [rd_T23, List.getD_eq_getElem?_getD, List.getElem?_eq_getElem (show i.toNat < l.length by omega)]
theorem eqThreadS_l0 (l : List S26) (hl : (l.length : Int) ≤ 1000000000000) (d : Nat) : ∀ (k : Nat) (i : Int), 0 ≤ i → i + d = l.length → d < k → laws_eqThreadS.l0 k l l i = some true := by
  induction d with
  | zero =>
    intro k i h0 hi hk
    obtain ⟨k, rfl⟩ : ∃ m, k = m + 1 := ⟨k - 1, by omega⟩
    rw [laws_eqThreadS.l0, if_neg (by omega)]
  | succ d ih =>
    intro k i h0 hi hk
    obtain ⟨k, rfl⟩ : ∃ m, k = m + 1 := ⟨k - 1, by omega⟩
    rw [laws_eqThreadS.l0, if_pos (by omega), if_pos h0, if_pos (by omega)]
    unfold laws_eqThread.f
    rw [if_pos rfl, if_pos rfl]
    simp only [Option.bind_some, if_true]
    rw [wrap_id (by omega) (by omega)]
    exact ih k (i + 1) (by omega) (by omega) (by omega)
theorem eqThreadS_self {l : List S26} (hl : (l.length : Int) ≤ 1000000000000) {k : Nat} (hk : l.length < k) : laws_eqThreadS.f k l l = some true := by
  unfold laws_eqThreadS.f
  rw [if_pos rfl]
  exact eqThreadS_l0 l hl l.length k 0 (by omega) (by omega) hk
/-- A thread, as the laws take it, told as one of the program's. -/
def cv (x : S23) : S26 := ⟨x.f0, x.f1⟩
theorem toThreadS_l0 (l : List S23) (hl : (l.length : Int) ≤ 1000000000000) (d : Nat) : ∀ (k : Nat) (r : List S26) (i : Int), 0 ≤ i → i + d = l.length → r.length = l.length → r.take i.toNat = (l.take i.toNat).map cv → d < k → laws_toThreadS.l0 k l r i = some (l.map cv) := by
  induction d with
  | zero =>
    intro k r i h0 hi hr ht hk
    obtain ⟨k, rfl⟩ : ∃ m, k = m + 1 := ⟨k - 1, by omega⟩
    rw [laws_toThreadS.l0, if_neg (by omega)]
    rw [List.take_of_length_le (by omega), List.take_of_length_le (by omega)] at ht
    rw [ht]
  | succ d ih =>
    intro k r i h0 hi hr ht hk
    obtain ⟨k, rfl⟩ : ∃ m, k = m + 1 := ⟨k - 1, by omega⟩
    rw [laws_toThreadS.l0, if_pos (by omega), if_pos h0]
    unfold laws_toThread.f
    simp only [Option.bind_some]
    rw [if_pos (by omega), wrap_id (by omega) (by omega)]
    refine ih k _ (i + 1) (by omega) (by omega) (by rw [List.length_set]; exact hr) ?_ (by omega)
    rw [show (i + 1).toNat = i.toNat + 1 by omega, List.take_succ_eq_append_getElem (by rw [List.length_set]; omega), List.take_set_of_le (Nat.le_refl _), ht,
      List.take_succ_eq_append_getElem (show i.toNat < l.length by omega), List.map_append, rdL_get h0 (by omega)]
    simp [cv]
theorem toThreadS_f {l : List S23} {k : Nat} (hl : (l.length : Int) ≤ 1048576) (hk : 1048577 < k) : laws_toThreadS.f k l = some (l.map cv) := by
  unfold laws_toThreadS.f
  rw [if_pos (by omega), if_pos (by simp; omega)]
  exact toThreadS_l0 l (by omega) l.length k _ 0 (by omega) (by omega) (by simp) (by simp) (by omega)
/-- A thread that comes before another one. -/
def lessB (a b c d : Int) : Bool := decide (a < c ∨ a = c ∧ b < d)
theorem sgLess_eq (a b c d : Int) : spec_sgLess.f a b c d = some (lessB a b c d) := by
  unfold spec_sgLess.f lessB
  repeat' split
  all_goals (congr 1; first | (rw [eq_comm, decide_eq_true_iff]; omega) | (rw [eq_comm, decide_eq_false_iff_not]; omega) | (rw [decide_eq_decide]; omega))
theorem cmpInt_eq (a b : Int) : cmp_Compare_int.f a b = some (if a < b then -1 else if a > b then 1 else 0) := by
  unfold cmp_Compare_int.f cmp_isNaN_int.f
  simp only [Option.bind_some, bne_self_eq_false]
  rw [if_neg (by decide), if_neg (by decide)]
  repeat' split
  all_goals rfl
theorem cmpOr_eq (a b : Int) {k : Nat} (hk : 3 ≤ k) : cmp_Or_int.f k [a, b] = some (if a = 0 then b else a) := by
  obtain ⟨k, rfl⟩ : ∃ m, k = m + 1 + 1 + 1 := ⟨k - 3, by omega⟩
  unfold cmp_Or_int.f
  rw [cmp_Or_int.l0, if_pos (by simp), if_pos (by omega), if_pos (by simp), wrap_id (by omega) (by omega)]
  have e0 : rd [a, b] 0 = a := rfl
  rw [e0]
  by_cases h : a = 0
  · rw [if_pos h, if_pos h, cmp_Or_int.l0, if_pos (by simp), if_pos (by omega), if_pos (by simp), wrap_id (by omega) (by omega)]
    have e1 : rd [a, b] (0 + 1) = b := rfl
    rw [e1]
    by_cases h2 : b = 0
    · rw [if_pos h2, cmp_Or_int.l0, if_neg (by simp), h2]
    · rw [if_neg h2]
  · rw [if_neg h, if_neg h]
theorem compareThreads_eq (a b c d : Int) {k : Nat} (hk : 3 ≤ k) : ∃ r : Int, impl_compareThreads.f k a b c d = some r ∧ (r < 0 ↔ lessB a b c d = true) ∧ (r = 0 ↔ a = c ∧ b = d) := by
  unfold impl_compareThreads.f
  rw [cmpInt_eq, cmpInt_eq]
  simp only [Option.bind_some]
  rw [cmpOr_eq _ _ hk]
  refine ⟨_, rfl, ?_, ?_⟩
  · simp only [lessB, decide_eq_true_eq]
    repeat' split
    all_goals omega
  · repeat' split
    all_goals omega
/-- Threads i, i + 1, .. of the next d, each behind the one before. -/
def chkD (l : List S26) (i : Int) : Nat → Bool
  | 0 => true
  | d + 1 => thrOk (rd_T26 l i).f0 (rd_T26 l i).f1 && (decide (i ≤ 0) || lessB (rd_T26 l (i - 1)).f0 (rd_T26 l (i - 1)).f1 (rd_T26 l i).f0 (rd_T26 l i).f1) && chkD l (i + 1) d
theorem chkD_thr {l : List S26} : ∀ {d : Nat} {i : Int}, chkD l i d = true → ∀ j, i ≤ j → j < i + d → thrOk (rd_T26 l j).f0 (rd_T26 l j).f1 = true
  | 0, i, _, j, h1, h2 => by omega
  | d + 1, i, h, j, h1, h2 => by
    simp only [chkD, Bool.and_eq_true] at h
    rcases Int.lt_or_eq_of_le h1 with h3 | h3
    · exact chkD_thr h.2 j (by omega) (by omega)
    · rw [← h3]; exact h.1.1
/-- Threads in order. -/
def goodT (l : List S26) : Bool := rg l.length 1 30 && chkD l 0 l.length
theorem goodT_true {l : List S26} (h : goodT l = true) : 1 ≤ (l.length : Int) ∧ (l.length : Int) ≤ 30 ∧ ∀ i : Int, 0 ≤ i → i < l.length → thrOk (rd_T26 l i).f0 (rd_T26 l i).f1 = true := by
  simp only [goodT, Bool.and_eq_true, rg_true] at h
  exact ⟨h.1.1, h.1.2, fun i h0 h1 => chkD_thr h.2 i h0 (by omega)⟩
theorem good_s_l0 (l : List S26) (hl : (l.length : Int) ≤ 1000000000000) (d : Nat) : ∀ (k : Nat) (i : Int), 0 ≤ i → i + d = l.length → d < k → spec_sgGood.l0 k l l (l.length : Int) i = some (chkD l i d) := by
  induction d with
  | zero =>
    intro k i h0 hi hk
    obtain ⟨k, rfl⟩ : ∃ m, k = m + 1 := ⟨k - 1, by omega⟩
    rw [spec_sgGood.l0, if_neg (by omega)]; rfl
  | succ d ih =>
    intro k i h0 hi hk
    obtain ⟨k, rfl⟩ : ∃ m, k = m + 1 := ⟨k - 1, by omega⟩
    rw [spec_sgGood.l0, if_pos (by omega), if_pos h0, if_pos (by omega), sgThread_eq, wrap_id (x := i + 1) (by omega) (by omega), wrap_id (x := i - 1) (by omega) (by omega), ih k (i + 1) (by omega) (by omega) (by omega)]
    simp only [Option.bind_some, chkD]
    by_cases h : thrOk (rd_T26 l i).f0 (rd_T26 l i).f1 = true
    · rw [if_pos h, h]
      by_cases h2 : i > 0
      · rw [if_pos h2, if_pos (by omega), if_pos (by omega), sgLess_eq, decide_eq_false (show ¬ i ≤ 0 by omega)]
        simp only [Option.bind_some]
        cases lessB (rd_T26 l (i - 1)).f0 (rd_T26 l (i - 1)).f1 (rd_T26 l i).f0 (rd_T26 l i).f1 <;> simp
      · rw [if_neg h2, decide_eq_true (show i ≤ 0 by omega)]; simp
    · rw [if_neg h]; simp only [Bool.not_eq_true] at h; rw [h]; rfl
theorem good_s {l : List S26} {k : Nat} (hl : (l.length : Int) ≤ 1048576) (hk : 1048577 < k) : spec_sgGood.f k l = some (goodT l) := by
  unfold spec_sgGood.f goodT
  rw [l1In_rg]
  simp only [Option.bind_some]
  by_cases h : rg l.length 1 30 = true
  · rw [if_pos h, good_s_l0 l (by omega) l.length k 0 (by omega) (by omega) (by omega), h]; simp
  · rw [if_neg h]; simp only [Bool.not_eq_true] at h; rw [h]; rfl
theorem good_i_l0 (l : List S26) (hl : (l.length : Int) ≤ 1000000000000) (d : Nat) : ∀ (k : Nat) (i : Int), 0 ≤ i → i + d = l.length → d + 4 < k → impl_AreThreads.l0 k l l (l.length : Int) i = some (chkD l i d && rg l.length 1 30) := by
  induction d with
  | zero =>
    intro k i h0 hi hk
    obtain ⟨k, rfl⟩ : ∃ m, k = m + 1 := ⟨k - 1, by omega⟩
    rw [impl_AreThreads.l0, if_neg (by omega), within_rg]; simp [chkD]
  | succ d ih =>
    intro k i h0 hi hk
    obtain ⟨k, rfl⟩ : ∃ m, k = m + 1 := ⟨k - 1, by omega⟩
    rw [impl_AreThreads.l0, if_pos (by omega), if_pos h0, if_pos (by omega), isThread_eq, wrap_id (x := i + 1) (by omega) (by omega), wrap_id (x := i - 1) (by omega) (by omega), ih k (i + 1) (by omega) (by omega) (by omega)]
    simp only [Option.bind_some, chkD]
    by_cases h : thrOk (rd_T26 l i).f0 (rd_T26 l i).f1 = true
    · rw [if_pos h, h]
      by_cases h2 : i > 0
      · obtain ⟨r, h3, h4, _⟩ := compareThreads_eq (rd_T26 l (i - 1)).f0 (rd_T26 l (i - 1)).f1 (rd_T26 l i).f0 (rd_T26 l i).f1 (k := k) (by omega)
        rw [if_pos h2, if_pos (by omega), if_pos (by omega), h3, decide_eq_false (show ¬ i ≤ 0 by omega)]
        simp only [Option.bind_some]
        by_cases h5 : r < 0
        · rw [if_neg (by omega), h4.1 h5]; simp
        · rw [if_pos (by omega)]
          have : lessB (rd_T26 l (i - 1)).f0 (rd_T26 l (i - 1)).f1 (rd_T26 l i).f0 (rd_T26 l i).f1 = false := by
            rw [← Bool.not_eq_true]; exact fun e => h5 (h4.2 e)
          rw [this]; simp
      · rw [if_neg h2, decide_eq_true (show i ≤ 0 by omega)]; simp
    · rw [if_neg h]; simp only [Bool.not_eq_true] at h; rw [h]; rfl
theorem good_i {l : List S26} {k : Nat} (hl : (l.length : Int) ≤ 1048576) (hk : 1048590 < k) : impl_AreThreads.f k l = some (goodT l) := by
  unfold impl_AreThreads.f goodT
  rw [good_i_l0 l (by omega) l.length k 0 (by omega) (by omega) (by omega), Bool.and_comm]
theorem szThreadS_far {l : List S23} (h : (l.length : Int) > 1048576) (h2 : l.length * 16 ≤ 140737488351232) : laws_szThreadS.f l 1048576 = some (-1) := by
  unfold laws_szThreadS.f
  rw [wrap_id (by omega) (by omega), if_pos (by omega)]
theorem szThreadS_near {l : List S23} (h : ¬ (l.length : Int) > 1048576) : laws_szThreadS.f l 1048576 = some (1048576 - (l.length : Int)) := by
  unfold laws_szThreadS.f
  rw [wrap_id (by omega) (by omega), if_neg (by omega)]
/-- Threads (a, a + 1), (a + 2, a + 3), .. -/
def tmarks (a : Int) : Nat → List S26
  | 0 => []
  | n + 1 => ⟨a, a + 1⟩ :: tmarks (a + 1 + 1) n
theorem tmarks_len (a : Int) (n : Nat) : (tmarks a n).length = n := by
  induction n generalizing a with
  | zero => rfl
  | succ n ih => simp [tmarks, ih]
theorem markThreadS_l0 (d : Nat) : ∀ (k : Nat) (l : List S26) (a i : Int), 0 ≤ i → i + d = l.length → d < k → (l.length : Int) ≤ 1000000000000 → -1000000000000 ≤ a → a + 2 * d ≤ 5000000000000 → laws_markThreadS.l0 k l a i = some (a + 2 * d, l.take i.toNat ++ tmarks a d) := by
  induction d with
  | zero =>
    intro k l a i h0 hi hk hl ha hb
    obtain ⟨k, rfl⟩ : ∃ m, k = m + 1 := ⟨k - 1, by omega⟩
    rw [laws_markThreadS.l0, if_neg (by omega), List.take_of_length_le (by omega)]
    simp [tmarks]
  | succ d ih =>
    intro k l a i h0 hi hk hl ha hb
    obtain ⟨k, rfl⟩ : ∃ m, k = m + 1 := ⟨k - 1, by omega⟩
    rw [laws_markThreadS.l0, if_pos (by omega), if_pos h0]
    simp only [Option.bind_some]
    rw [wrap_id (x := a + 1) (by omega) (by omega), wrap_id (x := a + 1 + 1) (by omega) (by omega), wrap_id (x := i + 1) (by omega) (by omega)]
    have e0 : (rd_T26 (l.set i.toNat ⟨a, (rd_T26 l i).f1⟩) i).f0 = a := by
      rw [rdT_get h0 (by rw [List.length_set]; omega)]; simp
    rw [e0, List.set_set, ih k (l.set i.toNat ⟨a, a + 1⟩) (a + 1 + 1) (i + 1) (by omega) (by rw [List.length_set]; omega) (by omega) (by rw [List.length_set]; omega) (by omega) (by omega)]
    have e : (l.set i.toNat (⟨a, a + 1⟩ : S26)).take (i + 1).toNat = l.take i.toNat ++ [⟨a, a + 1⟩] := by
      rw [show (i + 1).toNat = i.toNat + 1 by omega, List.take_succ_eq_append_getElem (by rw [List.length_set]; omega), List.take_set_of_le (Nat.le_refl _)]
      simp
    rw [e]
    simp only [tmarks, List.append_assoc, List.singleton_append]
    congr 2
    omega
theorem markThreadS_f {l : List S26} (hl : (l.length : Int) ≤ 1000000000000) {k : Nat} (hk : l.length < k) {a : Int} (ha : -1000000000000 ≤ a) (hb : a ≤ 2000000000000) : laws_markThreadS.f k l a = some (a + 2 * l.length, tmarks a l.length) := by
  unfold laws_markThreadS.f
  rw [markThreadS_l0 l.length k l a 0 (by omega) (by omega) hk hl ha (by omega)]
  simp
theorem heldThreadS_l0 (d : Nat) : ∀ (k : Nat) (l : List S26) (a i : Int), 0 ≤ i → i + d = l.length → l.drop i.toNat = tmarks a d → d < k → (l.length : Int) ≤ 1000000000000 → -1000000000000 ≤ a → a + 2 * d ≤ 5000000000000 → laws_heldThreadS.l0 k l a i = some (a + 2 * d) := by
  induction d with
  | zero =>
    intro k l a i h0 hi hd hk hl ha hb
    obtain ⟨k, rfl⟩ : ∃ m, k = m + 1 := ⟨k - 1, by omega⟩
    rw [laws_heldThreadS.l0, if_neg (by omega)]; simp
  | succ d ih =>
    intro k l a i h0 hi hd hk hl ha hb
    obtain ⟨k, rfl⟩ : ∃ m, k = m + 1 := ⟨k - 1, by omega⟩
    have e2 := List.drop_eq_getElem_cons (show i.toNat < l.length by omega)
    rw [e2, ← rdT_get h0 (by omega)] at hd
    simp only [tmarks, List.cons.injEq] at hd
    rw [laws_heldThreadS.l0, if_pos (by omega), if_pos h0, hd.1, if_pos rfl, wrap_id (x := a + 1) (by omega) (by omega), if_pos rfl, wrap_id (x := a + 1 + 1) (by omega) (by omega), wrap_id (x := i + 1) (by omega) (by omega)]
    rw [ih k l (a + 1 + 1) (i + 1) (by omega) (by omega) (by rw [show (i + 1).toNat = i.toNat + 1 by omega]; exact hd.2) (by omega) hl (by omega) (by omega)]
    congr 1
    omega
theorem heldThreadS_f {n k : Nat} (hn : (n : Int) ≤ 1000000000000) (hk : n < k) {a : Int} (ha : -1000000000000 ≤ a) (hb : a ≤ 2000000000000) : laws_heldThreadS.f k (tmarks a n) a = some (a + 2 * n) := by
  unfold laws_heldThreadS.f
  exact heldThreadS_l0 n k (tmarks a n) a 0 (by omega) (by rw [tmarks_len]; omega) (by simp) hk (by rw [tmarks_len]; exact hn) ha (by omega)
theorem close_ScaleThreads {l : List S23} (a : Int) (hl : ¬ (l.length : Int) > 1048576) (r : List S26 × Bool) (hr : (r.1.length : Int) ≤ 1000) (hs : ∀ k, 1048700 < k → spec_ScaleThreads.f k (l.map cv) a = some r) (hi : ∀ k, 1048700 < k → impl_ScaleThreads.f k (l.map cv) a = some r) : ∃ k, laws_FnExactScaleThreads.f k l a = some true := by
  obtain ⟨k, hk⟩ : ∃ k : Nat, k = 1049000 := ⟨_, rfl⟩
  refine ⟨k + 1 + 1 + 1, ?_⟩
  have hm : ((l.map cv).length : Int) ≤ 1048576 := by simp; omega
  unfold laws_FnExactScaleThreads.f
  rw [szThreadS_near hl]
  simp only [Option.bind_some]
  rw [if_neg (by omega), toThreadS_f (by omega) (by omega)]
  simp only [Option.bind_some]
  rw [hs _ (by omega), hi _ (by omega)]
  simp only [Option.bind_some]
  rw [eqThreadS_self (by omega) (by omega)]
  simp only [Option.bind_some, if_true, bne_self_eq_false]
  rw [laws_FnExactScaleThreads.j0, if_neg (by decide), toThreadS_f (by omega) (by omega)]
  simp only [Option.bind_some]
  rw [eqThreadS_self (by omega) (by omega)]
  simp only [Option.bind_some, if_true]
  rw [markThreadS_f (by omega) (by omega) (by omega) (by omega)]
  simp only [Option.bind_some]
  rw [if_neg (by omega), eqThreadS_self (by omega) (by omega)]
  simp only [Option.bind_some, if_true, bne_self_eq_false]
  rw [laws_FnExactScaleThreads.j1, if_neg (by decide), markThreadS_f (by omega) (by omega) (by omega) (by omega)]
  simp only [Option.bind_some]
  rw [heldThreadS_f (by omega) (by omega) (by omega) (by omega)]
  simp only [Option.bind_some]
  rw [if_neg (by omega)]
  simp only [if_true]
  rw [toThreadS_f (by omega) (by omega)]
  simp only [Option.bind_some]
  rw [hi _ (by omega)]
  simp only [Option.bind_some]
  rw [eqThreadS_self (by omega) (by omega)]
  simp only [Option.bind_some, if_true, bne_self_eq_false]
  rw [laws_FnExactScaleThreads.j2, if_neg (by decide), heldThreadS_f (by omega) (by omega) (by omega) (by omega)]
  simp only [Option.bind_some]
  rw [if_neg (by omega)]
  simp only [if_true]
theorem scale_both (l : List S26) (a : Int) (hl : (l.length : Int) ≤ 30) (d : Nat) : ∀ (o : List S26) (i : Int), 0 ≤ i → i + d = l.length → (o.length : Int) = i →
    ∃ r : List S26 × Bool, (r.1.length : Int) ≤ 30 ∧ ∀ k : Nat, 1048600 + d < k → spec_ScaleThreads.l0 k a o l (l.length : Int) i = some r ∧ impl_ScaleThreads.l0 k a o l (l.length : Int) i = some r := by
  induction d with
  | zero =>
    intro o i h0 hi ho
    refine ⟨if goodT o = true then (o, true) else ([], false), ?_, ?_⟩
    · split
      · simp; omega
      · simp
    intro k hk
    obtain ⟨k, rfl⟩ : ∃ m, k = m + 1 := ⟨k - 1, by omega⟩
    rw [spec_ScaleThreads.l0, impl_ScaleThreads.l0, if_neg (show ¬ i < (l.length : Int) by omega), if_neg (show ¬ i < (l.length : Int) by omega), good_s (by omega) (by omega), good_i (by omega) (by omega)]
    simp only [Option.bind_some]
    by_cases h : goodT o = true
    · simp [h]
    · simp [h]
  | succ d ih =>
    intro o i h0 hi ho
    obtain ⟨r, hrl, hrr⟩ := ih (o ++ [(⟨wrap64 (((rd_T26 l i).f0) * a), wrap64 (((rd_T26 l i).f1) * a)⟩ : S26)]) (i + 1) (by omega) (by omega) (by simp; omega)
    refine ⟨r, hrl, ?_⟩
    intro k hk
    obtain ⟨k, rfl⟩ : ∃ m, k = m + 1 := ⟨k - 1, by omega⟩
    have := hrr k (by omega)
    rw [spec_ScaleThreads.l0, impl_ScaleThreads.l0, if_pos (by omega), if_pos h0, if_pos (by omega), if_pos (by omega), wrap_id (x := i + 1) (by omega) (by omega), if_pos (by omega), if_pos h0, if_pos (by omega), if_pos (by omega), Int.mul_comm a, Int.mul_comm a]
    exact this
theorem FnExactScaleThreads : ∀ (l0 : List (S23)) (a1 : Int), l0.length * 16 ≤ 140737488351232 → (∀ x ∈ l0, (Lit.int .i64 x.f0).wf = true ∧ (Lit.int .i64 x.f1).wf = true) → (Lit.int .i64 a1).wf = true → ∃ k, laws_FnExactScaleThreads.f k l0 a1 = some true := by
  intro l a h16 _ _
  by_cases hl : (l.length : Int) > 1048576
  · refine ⟨0, ?_⟩
    unfold laws_FnExactScaleThreads.f
    rw [szThreadS_far hl h16]; rfl
  · have hm : ((l.map cv).length : Int) ≤ 1048576 := by simp; omega
    generalize hL : l.map cv = L at hm
    have es : ∀ k, 1048600 < k → spec_ScaleThreads.f k L a = spec_ScaleThreads.j0 k L a (!(goodT L && rg a 1 100)) := by
      intro k hk
      unfold spec_ScaleThreads.f
      rw [good_s hm (by omega), l1In_rg]
      simp only [Option.bind_some]
      cases goodT L <;> rfl
    have ei : ∀ k, 1048600 < k → impl_ScaleThreads.f k L a = impl_ScaleThreads.j0 k L a (!(goodT L && rg a 1 100)) := by
      intro k hk
      unfold impl_ScaleThreads.f
      rw [good_i hm (by omega), within_rg]
      simp only [Option.bind_some]
      cases goodT L <;> rfl
    by_cases h : (goodT L && rg a 1 100) = true
    · have h' := h
      rw [Bool.and_eq_true] at h'
      have hb := goodT_true h'.1
      obtain ⟨r, hrl, hrr⟩ := scale_both L a (by omega) L.length [] 0 (by omega) (by omega) (by simp)
      refine close_ScaleThreads a hl r (by omega) ?_ ?_
      · intro k hk
        obtain ⟨k, rfl⟩ : ∃ m, k = m + 1 := ⟨k - 1, by omega⟩
        rw [hL, es _ (by omega), h, Bool.not_true, spec_ScaleThreads.j0, if_neg (by decide)]
        exact (hrr k (by omega)).1
      · intro k hk
        obtain ⟨k, rfl⟩ : ∃ m, k = m + 1 := ⟨k - 1, by omega⟩
        rw [hL, ei _ (by omega), h, Bool.not_true, impl_ScaleThreads.j0, if_neg (by decide)]
        exact (hrr k (by omega)).2
    · simp only [Bool.not_eq_true] at h
      refine close_ScaleThreads a hl ([], false) (by simp) ?_ ?_
      · intro k hk
        obtain ⟨k, rfl⟩ : ∃ m, k = m + 1 := ⟨k - 1, by omega⟩
        rw [hL, es _ (by omega), h, Bool.not_false, spec_ScaleThreads.j0, if_pos rfl]
      · intro k hk
        obtain ⟨k, rfl⟩ : ∃ m, k = m + 1 := ⟨k - 1, by omega⟩
        rw [hL, ei _ (by omega), h, Bool.not_false, impl_ScaleThreads.j0, if_pos rfl]

end Go.Proofs.Yteielocamgkabaa.Pure
