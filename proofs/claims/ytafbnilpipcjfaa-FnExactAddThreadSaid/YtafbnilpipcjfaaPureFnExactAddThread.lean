/- What is proved: the pure statement of the law FnExactAddThread, about numbers and lists alone; no condition. -/
import Derived.Test.YtafbnilpipcjfaaPx17
namespace Go.Proofs.Ytafbnilpipcjfaa.Pure
open Go.RowKit Go.Proofs.Ytafbnilpipcjfaa.P Go.Proofs.YtafbnilpipcjfaaW.PrintWords Go.Proofs.YtafbnilpipcjfaaW.PrintLast
set_option linter.unusedVariables false
set_option linter.unusedSimpArgs false

theorem wrap_id {x : Int} (h : -9000000000000000000 ≤ x) (h2 : x ≤ 9000000000000000000) : wrap64 x = x := by unfold wrap64; omega
/-- A number from lo to hi. -/
def rg (n lo hi : Int) : Bool := decide (lo ≤ n ∧ n ≤ hi)
theorem rg_true {n lo hi : Int} : rg n lo hi = true ↔ lo ≤ n ∧ n ≤ hi := by simp [rg]
theorem l1In_rg (n lo hi : Int) : spec_l1In.f n lo hi = some (rg n lo hi) := by
  unfold spec_l1In.f rg
  by_cases h : n ≥ lo
  · rw [if_pos h]; congr 1; simp only [decide_eq_decide]; omega
  · rw [if_neg h]; congr 1; exact (decide_eq_false (by omega)).symm
theorem within_rg (n lo hi : Int) : impl_within.f n lo hi = some (rg n lo hi) := by
  unfold impl_within.f rg
  by_cases h : n ≥ lo
  · rw [if_pos h]; congr 1; simp only [decide_eq_decide]; omega
  · rw [if_neg h]; congr 1; exact (decide_eq_false (by omega)).symm
/-- A thread. -/
def thrOk (a b : Int) : Bool := rg a 1 100 && rg b 1 100
theorem thrOk_true {a b : Int} : thrOk a b = true ↔ 1 ≤ a ∧ a ≤ 100 ∧ 1 ≤ b ∧ b ≤ 100 := by
  simp only [thrOk, Bool.and_eq_true, rg_true]; omega
theorem sgThread_eq (a b : Int) : spec_sgThread.f a b = some (thrOk a b) := by
  unfold spec_sgThread.f thrOk
  rw [l1In_rg, l1In_rg]
  cases rg a 1 100 <;> rfl
theorem isThread_eq (a b : Int) : impl_isThread.f a b = some (thrOk a b) := by
  unfold impl_isThread.f thrOk
  rw [within_rg, within_rg]
  cases rg a 1 100 <;> rfl
theorem rdT_get {l : List S38} {i : Int} (h0 : 0 ≤ i) (h1 : i < (l.length : Int)) : rd_T38 l i = l[i.toNat]'(by omega) := by
  simp [rd_T38, List.getD_eq_getElem?_getD, List.getElem?_eq_getElem (show i.toNat < l.length by omega)]
theorem rdL_get {l : List S35} {i : Int} (h0 : 0 ≤ i) (h1 : i < (l.length : Int)) : rd_T35 l i = l[i.toNat]'(by omega) := by
  simp [rd_T35, List.getD_eq_getElem?_getD, List.getElem?_eq_getElem (show i.toNat < l.length by omega)]
theorem eqThreadS_l0 (l : List S38) (hl : (l.length : Int) ≤ 1000000000000) (d : Nat) : ∀ (k : Nat) (i : Int), 0 ≤ i → i + d = l.length → d < k → laws_eqThreadS.l0 k l l i = some true := by
  induction d with
  | zero =>
    intro k i h0 hi hk
    obtain ⟨k, rfl⟩ : ∃ m, k = m + 1 := ⟨k - 1, by omega⟩
    rw [laws_eqThreadS.l0, if_neg (by omega)]
  | succ d ih =>
    intro k i h0 hi hk
    obtain ⟨k, rfl⟩ : ∃ m, k = m + 1 := ⟨k - 1, by omega⟩
    rw [laws_eqThreadS.l0, if_pos (by omega), if_pos h0, if_pos (by omega)]
    unfold laws_eqThread.f
    rw [if_pos rfl, if_pos rfl]
    simp only [Option.bind_some, if_true]
    rw [wrap_id (by omega) (by omega)]
    exact ih k (i + 1) (by omega) (by omega) (by omega)
theorem eqThreadS_self {l : List S38} (hl : (l.length : Int) ≤ 1000000000000) {k : Nat} (hk : l.length < k) : laws_eqThreadS.f k l l = some true := by
  unfold laws_eqThreadS.f
  rw [if_pos rfl]
  exact eqThreadS_l0 l hl l.length k 0 (by omega) (by omega) hk
/-- A thread, as the laws take it, told as one of the program's. -/
def cv (x : S35) : S38 := ⟨x.f0, x.f1⟩
theorem toThreadS_l0 (l : List S35) (hl : (l.length : Int) ≤ 1000000000000) (d : Nat) : ∀ (k : Nat) (r : List S38) (i : Int), 0 ≤ i → i + d = l.length → r.length = l.length → r.take i.toNat = (l.take i.toNat).map cv → d < k → laws_toThreadS.l0 k l r i = some (l.map cv) := by
  induction d with
  | zero =>
    intro k r i h0 hi hr ht hk
    obtain ⟨k, rfl⟩ : ∃ m, k = m + 1 := ⟨k - 1, by omega⟩
    rw [laws_toThreadS.l0, if_neg (by omega)]
    rw [List.take_of_length_le (by omega), List.take_of_length_le (by omega)] at ht
    rw [ht]
  | succ d ih =>
    intro k r i h0 hi hr ht hk
    obtain ⟨k, rfl⟩ : ∃ m, k = m + 1 := ⟨k - 1, by omega⟩
    rw [laws_toThreadS.l0, if_pos (by omega), if_pos h0]
    unfold laws_toThread.f
    simp only [Option.bind_some]
    rw [if_pos (by omega), wrap_id (by omega) (by omega)]
    refine ih k _ (i + 1) (by omega) (by omega) (by rw [List.length_set]; exact hr) ?_ (by omega)
    rw [show (i + 1).toNat = i.toNat + 1 by omega, List.take_succ_eq_append_getElem (by rw [List.length_set]; omega), List.take_set_of_le (Nat.le_refl _), ht,
      List.take_succ_eq_append_getElem (show i.toNat < l.length by omega), List.map_append, rdL_get h0 (by omega)]
    simp [cv]
theorem toThreadS_f {l : List S35} {k : Nat} (hl : (l.length : Int) ≤ 1048576) (hk : 1048577 < k) : laws_toThreadS.f k l = some (l.map cv) := by
  unfold laws_toThreadS.f
  rw [if_pos (by omega), if_pos (by simp; omega)]
  exact toThreadS_l0 l (by omega) l.length k _ 0 (by omega) (by omega) (by simp) (by simp) (by omega)
/-- A thread that comes before another one. -/
def lessB (a b c d : Int) : Bool := decide (a < c ∨ a = c ∧ b < d)
theorem sgLess_eq (a b c d : Int) : spec_sgLess.f a b c d = some (lessB a b c d) := by
  unfold spec_sgLess.f lessB
  repeat' split
  all_goals (congr 1; first | (rw [eq_comm, decide_eq_true_iff]; omega) | (rw [eq_comm, decide_eq_false_iff_not]; omega) | (rw [decide_eq_decide]; omega))
theorem cmpInt_eq (a b : Int) : cmp_Compare_int.f a b = some (if a < b then -1 else if a > b then 1 else 0) := by
  unfold cmp_Compare_int.f cmp_isNaN_int.f
  simp only [Option.bind_some, bne_self_eq_false]
  rw [if_neg (by decide), if_neg (by decide)]
  repeat' split
  all_goals rfl
theorem cmpOr_eq (a b : Int) {k : Nat} (hk : 3 ≤ k) : cmp_Or_int.f k [a, b] = some (if a = 0 then b else a) := by
  obtain ⟨k, rfl⟩ : ∃ m, k = m + 1 + 1 + 1 := ⟨k - 3, by omega⟩
  unfold cmp_Or_int.f
  rw [cmp_Or_int.l0, if_pos (by simp), if_pos (by omega), if_pos (by simp), wrap_id (by omega) (by omega)]
  have e0 : rd [a, b] 0 = a := rfl
  rw [e0]
  by_cases h : a = 0
  · rw [if_pos h, if_pos h, cmp_Or_int.l0, if_pos (by simp), if_pos (by omega), if_pos (by simp), wrap_id (by omega) (by omega)]
    have e1 : rd [a, b] (0 + 1) = b := rfl
    rw [e1]
    by_cases h2 : b = 0
    · rw [if_pos h2, cmp_Or_int.l0, if_neg (by simp), h2]
    · rw [if_neg h2]
  · rw [if_neg h, if_neg h]
theorem compareThreads_eq (a b c d : Int) {k : Nat} (hk : 3 ≤ k) : ∃ r : Int, impl_compareThreads.f k a b c d = some r ∧ (r < 0 ↔ lessB a b c d = true) ∧ (r = 0 ↔ a = c ∧ b = d) := by
  unfold impl_compareThreads.f
  rw [cmpInt_eq, cmpInt_eq]
  simp only [Option.bind_some]
  rw [cmpOr_eq _ _ hk]
  refine ⟨_, rfl, ?_, ?_⟩
  · simp only [lessB, decide_eq_true_eq]
    repeat' split
    all_goals omega
  · repeat' split
    all_goals omega
/-- Threads i, i + 1, .. of the next d, each behind the one before. -/
def chkD (l : List S38) (i : Int) : Nat → Bool
  | 0 => true
  | d + 1 => thrOk (rd_T38 l i).f0 (rd_T38 l i).f1 && (decide (i ≤ 0) || lessB (rd_T38 l (i - 1)).f0 (rd_T38 l (i - 1)).f1 (rd_T38 l i).f0 (rd_T38 l i).f1) && chkD l (i + 1) d
theorem chkD_thr {l : List S38} : ∀ {d : Nat} {i : Int}, chkD l i d = true → ∀ j, i ≤ j → j < i + d → thrOk (rd_T38 l j).f0 (rd_T38 l j).f1 = true
  | 0, i, _, j, h1, h2 => by omega
  | d + 1, i, h, j, h1, h2 => by
    simp only [chkD, Bool.and_eq_true] at h
    rcases Int.lt_or_eq_of_le h1 with h3 | h3
    · exact chkD_thr h.2 j (by omega) (by omega)
    · rw [← h3]; exact h.1.1
/-- Threads in order. -/
def goodT (l : List S38) : Bool := rg l.length 1 30 && chkD l 0 l.length
theorem goodT_true {l : List S38} (h : goodT l = true) : 1 ≤ (l.length : Int) ∧ (l.length : Int) ≤ 30 ∧ ∀ i : Int, 0 ≤ i → i < l.length → thrOk (rd_T38 l i).f0 (rd_T38 l i).f1 = true := by
  simp only [goodT, Bool.and_eq_true, rg_true] at h
  exact ⟨h.1.1, h.1.2, fun i h0 h1 => chkD_thr h.2 i h0 (by omega)⟩
theorem good_s_l0 (l : List S38) (hl : (l.length : Int) ≤ 1000000000000) (d : Nat) : ∀ (k : Nat) (i : Int), 0 ≤ i → i + d = l.length → d < k → spec_sgGood.l0 k l l (l.length : Int) i = some (chkD l i d) := by
  induction d with
  | zero =>
    intro k i h0 hi hk
    obtain ⟨k, rfl⟩ : ∃ m, k = m + 1 := ⟨k - 1, by omega⟩
    rw [spec_sgGood.l0, if_neg (by omega)]; rfl
  | succ d ih =>
    intro k i h0 hi hk
    obtain ⟨k, rfl⟩ : ∃ m, k = m + 1 := ⟨k - 1, by omega⟩
    rw [spec_sgGood.l0, if_pos (by omega), if_pos h0, if_pos (by omega), sgThread_eq, wrap_id (x := i + 1) (by omega) (by omega), wrap_id (x := i - 1) (by omega) (by omega), ih k (i + 1) (by omega) (by omega) (by omega)]
    simp only [Option.bind_some, chkD]
    by_cases h : thrOk (rd_T38 l i).f0 (rd_T38 l i).f1 = true
    · rw [if_pos h, h]
      by_cases h2 : i > 0
      · rw [if_pos h2, if_pos (by omega), if_pos (by omega), sgLess_eq, decide_eq_false (show ¬ i ≤ 0 by omega)]
        simp only [Option.bind_some]
        cases lessB (rd_T38 l (i - 1)).f0 (rd_T38 l (i - 1)).f1 (rd_T38 l i).f0 (rd_T38 l i).f1 <;> simp
      · rw [if_neg h2, decide_eq_true (show i ≤ 0 by omega)]; simp
    · rw [if_neg h]; simp only [Bool.not_eq_true] at h; rw [h]; rfl
theorem good_s {l : List S38} {k : Nat} (hl : (l.length : Int) ≤ 1048576) (hk : 1048577 < k) : spec_sgGood.f k l = some (goodT l) := by
  unfold spec_sgGood.f goodT
  rw [l1In_rg]
  simp only [Option.bind_some]
  by_cases h : rg l.length 1 30 = true
  · rw [if_pos h, good_s_l0 l (by omega) l.length k 0 (by omega) (by omega) (by omega), h]; simp
  · rw [if_neg h]; simp only [Bool.not_eq_true] at h; rw [h]; rfl
theorem good_i_l0 (l : List S38) (hl : (l.length : Int) ≤ 1000000000000) (d : Nat) : ∀ (k : Nat) (i : Int), 0 ≤ i → i + d = l.length → d + 4 < k → impl_AreThreads.l0 k l l (l.length : Int) i = some (chkD l i d && rg l.length 1 30) := by
  induction d with
  | zero =>
    intro k i h0 hi hk
    obtain ⟨k, rfl⟩ : ∃ m, k = m + 1 := ⟨k - 1, by omega⟩
    rw [impl_AreThreads.l0, if_neg (by omega), within_rg]; simp [chkD]
  | succ d ih =>
    intro k i h0 hi hk
    obtain ⟨k, rfl⟩ : ∃ m, k = m + 1 := ⟨k - 1, by omega⟩
    rw [impl_AreThreads.l0, if_pos (by omega), if_pos h0, if_pos (by omega), isThread_eq, wrap_id (x := i + 1) (by omega) (by omega), wrap_id (x := i - 1) (by omega) (by omega), ih k (i + 1) (by omega) (by omega) (by omega)]
    simp only [Option.bind_some, chkD]
    by_cases h : thrOk (rd_T38 l i).f0 (rd_T38 l i).f1 = true
    · rw [if_pos h, h]
      by_cases h2 : i > 0
      · obtain ⟨r, h3, h4, _⟩ := compareThreads_eq (rd_T38 l (i - 1)).f0 (rd_T38 l (i - 1)).f1 (rd_T38 l i).f0 (rd_T38 l i).f1 (k := k) (by omega)
        rw [if_pos h2, if_pos (by omega), if_pos (by omega), h3, decide_eq_false (show ¬ i ≤ 0 by omega)]
        simp only [Option.bind_some]
        by_cases h5 : r < 0
        · rw [if_neg (by omega), h4.1 h5]; simp
        · rw [if_pos (by omega)]
          have : lessB (rd_T38 l (i - 1)).f0 (rd_T38 l (i - 1)).f1 (rd_T38 l i).f0 (rd_T38 l i).f1 = false := by
            rw [← Bool.not_eq_true]; exact fun e => h5 (h4.2 e)
          rw [this]; simp
      · rw [if_neg h2, decide_eq_true (show i ≤ 0 by omega)]; simp
    · rw [if_neg h]; simp only [Bool.not_eq_true] at h; rw [h]; rfl
theorem good_i {l : List S38} {k : Nat} (hl : (l.length : Int) ≤ 1048576) (hk : 1048590 < k) : impl_AreThreads.f k l = some (goodT l) := by
  unfold impl_AreThreads.f goodT
  rw [good_i_l0 l (by omega) l.length k 0 (by omega) (by omega) (by omega), Bool.and_comm]
theorem szThreadS_far {l : List S35} (h : (l.length : Int) > 1048576) (h2 : l.length * 16 ≤ 140737488351232) : laws_szThreadS.f l 1048576 = some (-1) := by
  unfold laws_szThreadS.f
  rw [wrap_id (by omega) (by omega), if_pos (by omega)]
theorem szThreadS_near {l : List S35} (h : ¬ (l.length : Int) > 1048576) : laws_szThreadS.f l 1048576 = some (1048576 - (l.length : Int)) := by
  unfold laws_szThreadS.f
  rw [wrap_id (by omega) (by omega), if_neg (by omega)]
/-- Threads (a, a + 1), (a + 2, a + 3), .. -/
def tmarks (a : Int) : Nat → List S38
  | 0 => []
  | n + 1 => ⟨a, a + 1⟩ :: tmarks (a + 1 + 1) n
theorem tmarks_len (a : Int) (n : Nat) : (tmarks a n).length = n := by
  induction n generalizing a with
  | zero => rfl
  | succ n ih => simp [tmarks, ih]
theorem markThreadS_l0 (d : Nat) : ∀ (k : Nat) (l : List S38) (a i : Int), 0 ≤ i → i + d = l.length → d < k → (l.length : Int) ≤ 1000000000000 → -1000000000000 ≤ a → a + 2 * d ≤ 5000000000000 → laws_markThreadS.l0 k l a i = some (a + 2 * d, l.take i.toNat ++ tmarks a d) := by
  induction d with
  | zero =>
    intro k l a i h0 hi hk hl ha hb
    obtain ⟨k, rfl⟩ : ∃ m, k = m + 1 := ⟨k - 1, by omega⟩
    rw [laws_markThreadS.l0, if_neg (by omega), List.take_of_length_le (by omega)]
    simp [tmarks]
  | succ d ih =>
    intro k l a i h0 hi hk hl ha hb
    obtain ⟨k, rfl⟩ : ∃ m, k = m + 1 := ⟨k - 1, by omega⟩
    rw [laws_markThreadS.l0, if_pos (by omega), if_pos h0]
    simp only [Option.bind_some]
    rw [wrap_id (x := a + 1) (by omega) (by omega), wrap_id (x := a + 1 + 1) (by omega) (by omega), wrap_id (x := i + 1) (by omega) (by omega)]
    have e0 : (rd_T38 (l.set i.toNat ⟨a, (rd_T38 l i).f1⟩) i).f0 = a := by
      rw [rdT_get h0 (by rw [List.length_set]; omega)]; simp
    rw [e0, List.set_set, ih k (l.set i.toNat ⟨a, a + 1⟩) (a + 1 + 1) (i + 1) (by omega) (by rw [List.length_set]; omega) (by omega) (by rw [List.length_set]; omega) (by omega) (by omega)]
    have e : (l.set i.toNat (⟨a, a + 1⟩ : S38)).take (i + 1).toNat = l.take i.toNat ++ [⟨a, a + 1⟩] := by
      rw [show (i + 1).toNat = i.toNat + 1 by omega, List.take_succ_eq_append_getElem (by rw [List.length_set]; omega), List.take_set_of_le (Nat.le_refl _)]
      simp
    rw [e]
    simp only [tmarks, List.append_assoc, List.singleton_append]
    congr 2
    omega
theorem markThreadS_f {l : List S38} (hl : (l.length : Int) ≤ 1000000000000) {k : Nat} (hk : l.length < k) {a : Int} (ha : -1000000000000 ≤ a) (hb : a ≤ 2000000000000) : laws_markThreadS.f k l a = some (a + 2 * l.length, tmarks a l.length) := by
  unfold laws_markThreadS.f
  rw [markThreadS_l0 l.length k l a 0 (by omega) (by omega) hk hl ha (by omega)]
  simp
theorem heldThreadS_l0 (d : Nat) : ∀ (k : Nat) (l : List S38) (a i : Int), 0 ≤ i → i + d = l.length → l.drop i.toNat = tmarks a d → d < k → (l.length : Int) ≤ 1000000000000 → -1000000000000 ≤ a → a + 2 * d ≤ 5000000000000 → laws_heldThreadS.l0 k l a i = some (a + 2 * d) := by
  induction d with
  | zero =>
    intro k l a i h0 hi hd hk hl ha hb
    obtain ⟨k, rfl⟩ : ∃ m, k = m + 1 := ⟨k - 1, by omega⟩
    rw [laws_heldThreadS.l0, if_neg (by omega)]; simp
  | succ d ih =>
    intro k l a i h0 hi hd hk hl ha hb
    obtain ⟨k, rfl⟩ : ∃ m, k = m + 1 := ⟨k - 1, by omega⟩
    have e2 := List.drop_eq_getElem_cons (show i.toNat < l.length by omega)
    rw [e2, ← rdT_get h0 (by omega)] at hd
    simp only [tmarks, List.cons.injEq] at hd
    rw [laws_heldThreadS.l0, if_pos (by omega), if_pos h0, hd.1, if_pos rfl, wrap_id (x := a + 1) (by omega) (by omega), if_pos rfl, wrap_id (x := a + 1 + 1) (by omega) (by omega), wrap_id (x := i + 1) (by omega) (by omega)]
    rw [ih k l (a + 1 + 1) (i + 1) (by omega) (by omega) (by rw [show (i + 1).toNat = i.toNat + 1 by omega]; exact hd.2) (by omega) hl (by omega) (by omega)]
    congr 1
    omega
theorem heldThreadS_f {n k : Nat} (hn : (n : Int) ≤ 1000000000000) (hk : n < k) {a : Int} (ha : -1000000000000 ≤ a) (hb : a ≤ 2000000000000) : laws_heldThreadS.f k (tmarks a n) a = some (a + 2 * n) := by
  unfold laws_heldThreadS.f
  exact heldThreadS_l0 n k (tmarks a n) a 0 (by omega) (by rw [tmarks_len]; omega) (by simp) hk (by rw [tmarks_len]; exact hn) ha (by omega)
/-- A thread comes before another. -/
def lessT (x y : S38) : Bool := lessB x.f0 x.f1 y.f0 y.f1
theorem lessT_iff (x y : S38) : lessT x y = true ↔ x.f0 < y.f0 ∨ x.f0 = y.f0 ∧ x.f1 < y.f1 := by unfold lessT lessB; simp
/-- A thread laid into its place. -/
def insT : List S38 → S38 → List S38
  | [], t => [t]
  | x :: r, t => if lessT x t = true then x :: insT r t else t :: x :: r
theorem insT_cons (x : S38) (r : List S38) (t : S38) : insT (x :: r) t = if lessT x t = true then x :: insT r t else t :: x :: r := rfl
theorem insT_len : ∀ (l : List S38) (t : S38), (insT l t).length = l.length + 1
  | [], t => rfl
  | x :: r, t => by
    unfold insT
    split
    · simp [insT_len r t]
    · rfl
theorem insT_perm : ∀ (l : List S38) (t : S38), (insT l t).Perm (t :: l)
  | [], t => .refl _
  | x :: r, t => by
    unfold insT
    split
    · exact ((insT_perm r t).cons x).trans (.swap t x r)
    · exact .refl _
theorem insT_mem {l : List S38} {t x : S38} : x ∈ insT l t ↔ x = t ∨ x ∈ l := by rw [(insT_perm l t).mem_iff, List.mem_cons]
theorem insT_sorted : ∀ (l : List S38) (t : S38), l.Pairwise (fun a b => lessT b a = false) → (insT l t).Pairwise (fun a b => lessT b a = false)
  | [], t, _ => by simp [insT]
  | x :: r, t, h => by
    obtain ⟨h1, h2⟩ := List.pairwise_cons.1 h
    unfold insT
    split
    · rename_i hx
      refine List.pairwise_cons.2 ⟨fun y hy => ?_, insT_sorted r t h2⟩
      rcases insT_mem.1 hy with rfl | hy
      · rw [lessT_iff] at hx
        rw [← Bool.not_eq_true, lessT_iff]; omega
      · exact h1 y hy
    · rename_i hx
      refine List.pairwise_cons.2 ⟨fun y hy => ?_, h⟩
      rcases List.mem_cons.1 hy with rfl | hy
      · simpa using hx
      · have := h1 y hy
        rw [← Bool.not_eq_true, lessT_iff] at this
        rw [lessT_iff] at hx
        rw [← Bool.not_eq_true, lessT_iff]; omega
theorem put_l0 (l : List S38) (a b : Int) (hl : (l.length : Int) ≤ 1000) (d : Nat) : ∀ (k : Nat) (i : Int), 0 ≤ i → i + d = l.length → d < k →
    spec_sgPut.l0 k l i a b = some (l.take i.toNat ++ insT (l.drop i.toNat) ⟨a, b⟩) := by
  induction d with
  | zero =>
    intro k i h0 hi hk
    obtain ⟨k, rfl⟩ : ∃ m, k = m + 1 := ⟨k - 1, by omega⟩
    have e : i.toNat = l.length := by omega
    rw [spec_sgPut.l0, if_neg (by omega)]
    simp only [Option.bind_some]
    rw [if_pos h0, if_pos (by omega)]
    simp only [e, List.take_length, List.drop_length, List.nil_append, List.length_nil, List.append_nil, List.length_append, List.length_cons, Nat.zero_add, Nat.add_zero, insT]
    rw [if_pos (by omega), if_pos (by omega), if_pos (by omega)]
  | succ d ih =>
    intro k i h0 hi hk
    obtain ⟨k, rfl⟩ : ∃ m, k = m + 1 := ⟨k - 1, by omega⟩
    have hlt : i.toNat < l.length := by omega
    have e1 : l.drop i.toNat = rd_T38 l i :: l.drop (i + 1).toNat := by
      rw [List.drop_eq_getElem_cons hlt, ← rdT_get h0 (by omega), show (i + 1).toNat = i.toNat + 1 by omega]
    have e2 : l.take (i + 1).toNat = l.take i.toNat ++ [rd_T38 l i] := by
      rw [show (i + 1).toNat = i.toNat + 1 by omega, List.take_succ_eq_append_getElem hlt, ← rdT_get h0 (by omega)]
    rw [spec_sgPut.l0, if_pos (show i < (l.length : Int) by omega), if_pos h0, sgLess_eq]
    simp only [Option.bind_some]
    rw [e1]
    by_cases h : lessB (rd_T38 l i).f0 (rd_T38 l i).f1 a b = true
    · rw [if_pos h, wrap_id (x := i + 1) (by omega) (by omega), ih k (i + 1) (by omega) (by omega) (by omega), e2]
      rw [insT_cons, if_pos (show lessT (rd_T38 l i) ⟨a, b⟩ = true from h)]
      simp
    · rw [if_neg h, if_pos (by omega)]
      have ht : (l.take i.toNat).length ≤ l.length := by rw [List.length_take]; omega
      simp only [List.nil_append, List.length_nil, Nat.zero_add, List.length_append, List.length_cons]
      rw [if_pos (by omega), if_pos (by omega), ← e1, List.length_drop, if_pos (by omega), e1]
      rw [insT_cons, if_neg (show ¬ lessT (rd_T38 l i) ⟨a, b⟩ = true from h)]
      simp
theorem put_f (l : List S38) (a b : Int) (hl : (l.length : Int) ≤ 1000) {k : Nat} (hk : l.length < k) : spec_sgPut.f k l a b = some (insT l ⟨a, b⟩) := by
  unfold spec_sgPut.f
  rw [put_l0 l a b hl l.length k 0 (by omega) (by omega) hk]
  simp
theorem chkD_lt {l : List S38} : ∀ {d : Nat} {i : Int}, 0 ≤ i → chkD l i d = true → ∀ j, i < j → j < i + d → lessT (rd_T38 l (j - 1)) (rd_T38 l j) = true
  | 0, i, _, _, j, h1, h2 => by omega
  | 1, i, _, _, j, h1, h2 => by omega
  | d + 2, i, h0, h, j, h1, h2 => by
    have hh := h
    rw [chkD] at h
    simp only [Bool.and_eq_true] at h
    by_cases e : j = i + 1
    · subst e
      have h3 := h.2
      rw [chkD] at h3
      simp only [Bool.and_eq_true, Bool.or_eq_true, decide_eq_true_eq] at h3
      rcases h3.1.2 with h4 | h4
      · omega
      · exact h4
    · exact chkD_lt (by omega) h.2 j (by omega) (by omega)
theorem goodT_asc {l : List S38} (h : goodT l = true) : l.Pairwise (fun a b => lessT a b = true) := by
  simp only [goodT, Bool.and_eq_true, rg_true] at h
  have step : ∀ i : Nat, (hi : i + 1 < l.length) → lessT l[i] l[i + 1] = true := by
    intro i hi
    have := chkD_lt (by omega) h.2 ((i : Int) + 1) (by omega) (by omega)
    rw [rdT_get (by omega) (by omega), rdT_get (by omega) (by omega)] at this
    simp only [show ((i : Int) + 1 - 1).toNat = i by omega, show ((i : Int) + 1).toNat = i + 1 by omega] at this
    exact this
  rw [List.pairwise_iff_getElem]
  intro i j hi hj hij
  obtain ⟨d, rfl⟩ : ∃ d, j = i + 1 + d := ⟨j - i - 1, by omega⟩
  induction d with
  | zero => exact step i hj
  | succ d ih =>
    have h1 := ih (by omega) (by omega)
    have h2 := step (i + 1 + d) (by omega)
    simp only [lessT_iff] at h1 h2 ⊢
    simp only [Nat.add_assoc] at h1 h2 ⊢
    omega
theorem cmpT_neg (x y : S38) : cmpT x y < 0 ↔ lessT x y = true := by
  rw [lessT_iff]
  unfold cmpT
  repeat' split
  all_goals omega
theorem cmpT_nul (x y : S38) : cmpT x y = 0 ↔ x = y := by
  cases x; cases y
  simp only [S38.mk.injEq]
  unfold cmpT
  simp only
  repeat' split
  all_goals omega
/-- How many come before. -/
def cntT (l : List S38) (t : S38) : Nat := l.countP fun x => lessT x t
theorem bsT_is {l : List S38} (h : l.Pairwise (fun a b => lessT a b = true)) (t : S38) : ∀ (k lo hi : Nat), lo ≤ hi → hi ≤ l.length → hi - lo ≤ k → (∀ i, (hi2 : i < l.length) → i < lo → lessT l[i] t = true) → (∀ i, (hi2 : i < l.length) → hi ≤ i → ¬ lessT l[i] t = true) →
    (bsT l t k lo hi ≤ l.length ∧ (∀ i, (hi2 : i < l.length) → i < bsT l t k lo hi → lessT l[i] t = true) ∧ ∀ i, (hi2 : i < l.length) → bsT l t k lo hi ≤ i → ¬ lessT l[i] t = true)
  | 0, lo, hi, h1, h2, h3, h4, h5 => by
    obtain rfl : lo = hi := by omega
    exact ⟨h2, h4, h5⟩
  | k + 1, lo, hi, h1, h2, h3, h4, h5 => by
    unfold bsT
    by_cases hlt : lo < hi
    · rw [if_pos hlt]
      have hm : (lo + hi) / 2 < l.length := by omega
      have e : l.getD ((lo + hi) / 2) z38 = l[(lo + hi) / 2] := by rw [List.getD_eq_getElem?_getD, List.getElem?_eq_getElem hm]; rfl
      rw [e]
      by_cases hc : cmpT l[(lo + hi) / 2] t < 0
      · rw [if_pos hc]
        refine bsT_is h t k _ hi (by omega) h2 (by omega) (fun i hi2 hi3 => ?_) h5
        rcases Nat.lt_or_eq_of_le (show i ≤ (lo + hi) / 2 by omega) with h6 | h6
        · have a := List.pairwise_iff_getElem.1 h i ((lo + hi) / 2) hi2 hm h6
          have b := (cmpT_neg _ _).1 hc
          rw [lessT_iff] at a b ⊢
          omega
        · subst h6; exact (cmpT_neg _ _).1 hc
      · rw [if_neg hc]
        refine bsT_is h t k lo _ (by omega) (by omega) (by omega) h4 (fun i hi2 hi3 => ?_)
        rcases Nat.lt_or_eq_of_le hi3 with h6 | h6
        · have a := List.pairwise_iff_getElem.1 h ((lo + hi) / 2) i hm hi2 h6
          have b : ¬ lessT l[(lo + hi) / 2] t = true := fun e => hc ((cmpT_neg _ _).2 e)
          rw [lessT_iff] at a b ⊢
          omega
        · subst h6; exact fun e => hc ((cmpT_neg _ _).2 e)
    · rw [if_neg hlt]
      obtain rfl : lo = hi := by omega
      exact ⟨h2, h4, h5⟩
theorem insT_at {t : S38} : ∀ (l : List S38) (b : Nat), b ≤ l.length → (∀ i, (hi2 : i < l.length) → i < b → lessT l[i] t = true) → (∀ i, (hi2 : i < l.length) → b ≤ i → ¬ lessT l[i] t = true) → l.take b ++ t :: l.drop b = insT l t
  | [], b, h1, _, _ => by simp [insT]
  | x :: r, 0, h1, h2, h3 => by
    rw [insT_cons, if_neg (show ¬ lessT x t = true from h3 0 (by simp) (by omega))]; rfl
  | x :: r, b + 1, h1, h2, h3 => by
    rw [insT_cons, if_pos (show lessT x t = true from h2 0 (by simp) (by omega)), List.take_succ_cons, List.drop_succ_cons, List.cons_append]
    congr 1
    exact insT_at r b (by simpa using h1) (fun i hi hib => h2 (i + 1) (by simp; omega) (by omega)) (fun i hi hib => h3 (i + 1) (by simp; omega) (by omega))
theorem addT_l0 (l : List S38) (hl : (l.length : Int) ≤ 30) (t : S38) (d : Nat) : ∀ (k : Nat) (i : Int), 0 ≤ i → i + d = l.length → d + 100 < k →
    spec_AddThread.l0 k l l (l.length : Int) i t.f0 t.f1 = some (if (l.drop i.toNat).any (fun x => x.f0 == t.f0 && (x.f1 == t.f1)) = true then ([], false) else (insT l t, true)) := by
  induction d with
  | zero =>
    intro k i h0 hi hk
    obtain ⟨k, rfl⟩ : ∃ m, k = m + 1 := ⟨k - 1, by omega⟩
    rw [spec_AddThread.l0, if_neg (by omega), put_f _ _ _ (by omega) (by omega), List.drop_eq_nil_of_le (by omega)]
    rfl
  | succ d ih =>
    intro k i h0 hi hk
    obtain ⟨k, rfl⟩ : ∃ m, k = m + 1 := ⟨k - 1, by omega⟩
    have hlt : i.toNat < l.length := by omega
    have e1 : l.drop i.toNat = rd_T38 l i :: l.drop (i + 1).toNat := by
      rw [List.drop_eq_getElem_cons hlt, ← rdT_get h0 (by omega), show (i + 1).toNat = i.toNat + 1 by omega]
    rw [spec_AddThread.l0, if_pos (show i < (l.length : Int) by omega), if_pos h0, if_pos (show i < (l.length : Int) by omega), wrap_id (x := i + 1) (by omega) (by omega), e1, List.any_cons]
    by_cases h : ((rd_T38 l i).f0 == t.f0 && ((rd_T38 l i).f1 == t.f1)) = true
    · rw [if_pos h, h]; rfl
    · rw [if_neg h, ih k (i + 1) (by omega) (by omega) (by omega)]
      simp only [Bool.not_eq_true] at h
      rw [h, Bool.false_or]
theorem FnExactAddThread : ∀ (l0 : List (S35)) (a1_0 : Int) (a1_1 : Int), l0.length * 16 ≤ 140737488351232 → (∀ x ∈ l0, (Lit.int .i64 x.f0).wf = true ∧ (Lit.int .i64 x.f1).wf = true) → (Lit.int .i64 a1_0).wf = true → (Lit.int .i64 a1_1).wf = true → ∃ k, laws_FnExactAddThread.f k l0 a1_0 a1_1 = some true := by
  intro l a b h16 _ _ _
  by_cases hl : (l.length : Int) > 1048576
  · refine ⟨0, ?_⟩
    unfold laws_FnExactAddThread.f
    rw [szThreadS_far hl h16]; rfl
  · have hm : ((l.map cv).length : Int) ≤ 1048576 := by simp; omega
    have key : ∃ r : List S38 × Bool, (r.1.length : Int) ≤ 1000 ∧ spec_AddThread.f 1049000 (l.map cv) a b = some r ∧ impl_AddThread.f 1049000 (l.map cv) a b = some r := by
      generalize l.map cv = L at hm
      unfold spec_AddThread.f impl_AddThread.f impl_Thread_46.f
      rw [good_s hm (by omega), good_i hm (by omega), if_pos (by omega), sgThread_eq, isThread_eq]
      simp only [Option.bind_some]
      by_cases h : goodT L = true
      · have hb := goodT_true h
        rw [if_pos h, if_pos h]
        by_cases ht : thrOk a b = true
        · rw [if_pos ht, if_pos ht]
          have hasc := goodT_asc h
          obtain ⟨q1, q2, q3⟩ := bsT_is hasc ⟨a, b⟩ L.length 0 L.length (by omega) (by omega) (by omega) (fun i _ hi => by omega) (fun i hi hi2 => by omega)
          generalize bsT L ⟨a, b⟩ L.length 0 L.length = s at q1 q2 q3
          have hin := insT_at L s q1 q2 q3
          have hf : (decide (s < L.length) && decide (cmpT (L.getD s z38) ⟨a, b⟩ = 0)) = L.any (fun x => x.f0 == a && (x.f1 == b)) := by
            rw [Bool.eq_iff_iff, Bool.and_eq_true, decide_eq_true_eq, decide_eq_true_eq, List.any_eq_true]
            constructor
            · rintro ⟨h1, h2⟩
              rw [List.getD_eq_getElem?_getD, List.getElem?_eq_getElem h1, Option.getD_some, cmpT_nul] at h2
              exact ⟨L[s], List.getElem_mem h1, by rw [h2]; simp⟩
            · rintro ⟨x, hx, he⟩
              simp only [Bool.and_eq_true, beq_iff_eq] at he
              obtain rfl : x = ⟨a, b⟩ := by cases x; simp only at he; rw [he.1, he.2]
              obtain ⟨j, hj, hxj⟩ := List.getElem_of_mem hx
              have irr : ¬ lessT (⟨a, b⟩ : S38) ⟨a, b⟩ = true := by rw [lessT_iff]; simp
              have hsj : s ≤ j := by
                rcases Nat.lt_or_ge j s with h1 | h1
                · have := q2 j hj h1; rw [hxj] at this; exact absurd this irr
                · exact h1
              have hsl : s < L.length := by omega
              refine ⟨hsl, ?_⟩
              rw [List.getD_eq_getElem?_getD, List.getElem?_eq_getElem hsl, Option.getD_some, cmpT_nul]
              rcases Nat.lt_or_eq_of_le hsj with h1 | h1
              · have := List.pairwise_iff_getElem.1 hasc s j hsl hj h1
                rw [hxj] at this
                exact absurd this (q3 s hsl (Nat.le_refl _))
              · subst h1; exact hxj
          have hs0 : (fun x : S38 => x.f0 == (⟨a, b⟩ : S38).f0 && (x.f1 == (⟨a, b⟩ : S38).f1)) = fun x : S38 => x.f0 == a && (x.f1 == b) := rfl
          rw [hf]
          by_cases h30 : (L.length : Int) = 30
          · rw [show (((L.length : Int) == 30)) = true by rw [beq_iff_eq]; exact h30, spec_AddThread.j0, if_pos rfl]
            refine ⟨([], false), by simp, rfl, ?_⟩
            by_cases hfa : (L.any fun x => x.f0 == a && (x.f1 == b)) = true
            · rw [if_pos hfa]
            · rw [if_neg hfa, if_pos (by omega)]
          · rw [show (((L.length : Int) == 30)) = false by rw [beq_eq_false_iff_ne]; exact h30, spec_AddThread.j0, if_neg (by decide)]
            have h1 := addT_l0 L (by omega) ⟨a, b⟩ L.length 1048999 0 (by omega) (by omega) (by omega)
            simp only [Int.toNat_zero, List.drop_zero] at h1
            rw [h1]
            by_cases hfa : (L.any fun x => x.f0 == a && (x.f1 == b)) = true
            · rw [if_pos hfa, if_pos hfa]
              exact ⟨([], false), by simp, rfl, rfl⟩
            · rw [if_neg hfa, if_neg hfa, if_neg (by omega), if_pos (by omega)]
              refine ⟨(insT L ⟨a, b⟩, true), by rw [insT_len]; omega, rfl, ?_⟩
              rw [Int.toNat_natCast, hin]
        · rw [if_neg ht, if_neg ht, spec_AddThread.j0, if_pos rfl]
          exact ⟨([], false), by simp, rfl, rfl⟩
      · rw [if_neg h, if_neg h, spec_AddThread.j0, if_pos rfl]
        exact ⟨([], false), by simp, rfl, rfl⟩
    obtain ⟨r, hr, hs, hi⟩ := key
    refine ⟨1049000, ?_⟩
    unfold laws_FnExactAddThread.f
    rw [szThreadS_near hl]
    simp only [Option.bind_some]
    rw [if_neg (by omega), toThreadS_f (by omega) (by omega)]
    unfold laws_toThread.f
    simp only [Option.bind_some]
    rw [hs]
    simp only [Option.bind_some]
    rw [hi]
    simp only [Option.bind_some]
    rw [eqThreadS_self (by omega) (by omega)]
    simp only [Option.bind_some, if_true, bne_self_eq_false, Bool.false_eq_true, if_false]
    rw [eqThreadS_self (by omega) (by omega)]
    simp only [Option.bind_some, if_true]
    rw [markThreadS_f (by omega) (by omega) (by omega) (by omega)]
    simp only [Option.bind_some]
    rw [if_neg (by omega), markThreadS_f (by omega) (by omega) (by omega) (by omega)]
    simp only [Option.bind_some, if_true]
    rw [heldThreadS_f (by omega) (by omega) (by omega) (by omega)]
    simp only [Option.bind_some, if_true]
    rw [if_neg (by omega), if_neg (by omega)]

end Go.Proofs.Ytafbnilpipcjfaa.Pure
