/- What is proved: the pure statement of the law FnExactHiddenThreads, about numbers and lists alone; no condition. -/
import Derived.Test.YtafbnilpipcjfaaPx22
namespace Go.Proofs.Ytafbnilpipcjfaa.Pure
open Go.RowKit Go.Proofs.Ytafbnilpipcjfaa.P Go.Proofs.YtafbnilpipcjfaaW.PrintWords Go.Proofs.YtafbnilpipcjfaaW.PrintLast
set_option linter.unusedVariables false
set_option linter.unusedSimpArgs false

theorem wrap_id {x : Int} (h : -9000000000000000000 ≤ x) (h2 : x ≤ 9000000000000000000) : wrap64 x = x := by unfold wrap64; omega
/-- A number from lo to hi. -/
def rg (n lo hi : Int) : Bool := decide (lo ≤ n ∧ n ≤ hi)
theorem rg_true {n lo hi : Int} : rg n lo hi = true ↔ lo ≤ n ∧ n ≤ hi := by simp [rg]
theorem l1In_rg (n lo hi : Int) : spec_l1In.f n lo hi = some (rg n lo hi) := by
  unfold spec_l1In.f rg
  by_cases h : n ≥ lo
  · rw [if_pos h]; congr 1; simp only [decide_eq_decide]; omega
  · rw [if_neg h]; congr 1; exact (decide_eq_false (by omega)).symm
theorem within_rg (n lo hi : Int) : impl_within.f n lo hi = some (rg n lo hi) := by
  unfold impl_within.f rg
  by_cases h : n ≥ lo
  · rw [if_pos h]; congr 1; simp only [decide_eq_decide]; omega
  · rw [if_neg h]; congr 1; exact (decide_eq_false (by omega)).symm
/-- A thread. -/
def thrOk (a b : Int) : Bool := rg a 1 100 && rg b 1 100
theorem thrOk_true {a b : Int} : thrOk a b = true ↔ 1 ≤ a ∧ a ≤ 100 ∧ 1 ≤ b ∧ b ≤ 100 := by
  simp only [thrOk, Bool.and_eq_true, rg_true]; omega
theorem sgThread_eq (a b : Int) : spec_sgThread.f a b = some (thrOk a b) := by
  unfold spec_sgThread.f thrOk
  rw [l1In_rg, l1In_rg]
  cases rg a 1 100 <;> rfl
theorem isThread_eq (a b : Int) : impl_isThread.f a b = some (thrOk a b) := by
  unfold impl_isThread.f thrOk
  rw [within_rg, within_rg]
  cases rg a 1 100 <;> rfl
theorem rdT_get {l : List S38} {i : Int} (h0 : 0 ≤ i) (h1 : i < (l.length : Int)) : rd_T38 l i = l[i.toNat]'(by omega) := by
  simp [rd_T38, List.getD_eq_getElem?_getD, List.getElem?_eq_getElem (show i.toNat < l.length by omega)]
theorem rdL_get {l : List S35} {i : Int} (h0 : 0 ≤ i) (h1 : i < (l.length : Int)) : rd_T35 l i = l[i.toNat]'(by omega) := by
  simp [rd_T35, List.getD_eq_getElem?_getD, List.getElem?_eq_getElem (show i.toNat < l.length by omega)]
theorem eqThreadS_l0 (l : List S38) (hl : (l.length : Int) ≤ 1000000000000) (d : Nat) : ∀ (k : Nat) (i : Int), 0 ≤ i → i + d = l.length → d < k → laws_eqThreadS.l0 k l l i = some true := by
  induction d with
  | zero =>
    intro k i h0 hi hk
    obtain ⟨k, rfl⟩ : ∃ m, k = m + 1 := ⟨k - 1, by omega⟩
    rw [laws_eqThreadS.l0, if_neg (by omega)]
  | succ d ih =>
    intro k i h0 hi hk
    obtain ⟨k, rfl⟩ : ∃ m, k = m + 1 := ⟨k - 1, by omega⟩
    rw [laws_eqThreadS.l0, if_pos (by omega), if_pos h0, if_pos (by omega)]
    unfold laws_eqThread.f
    rw [if_pos rfl, if_pos rfl]
    simp only [Option.bind_some, if_true]
    rw [wrap_id (by omega) (by omega)]
    exact ih k (i + 1) (by omega) (by omega) (by omega)
theorem eqThreadS_self {l : List S38} (hl : (l.length : Int) ≤ 1000000000000) {k : Nat} (hk : l.length < k) : laws_eqThreadS.f k l l = some true := by
  unfold laws_eqThreadS.f
  rw [if_pos rfl]
  exact eqThreadS_l0 l hl l.length k 0 (by omega) (by omega) hk
/-- A thread, as the laws take it, told as one of the program's. -/
def cv (x : S35) : S38 := ⟨x.f0, x.f1⟩
theorem toThreadS_l0 (l : List S35) (hl : (l.length : Int) ≤ 1000000000000) (d : Nat) : ∀ (k : Nat) (r : List S38) (i : Int), 0 ≤ i → i + d = l.length → r.length = l.length → r.take i.toNat = (l.take i.toNat).map cv → d < k → laws_toThreadS.l0 k l r i = some (l.map cv) := by
  induction d with
  | zero =>
    intro k r i h0 hi hr ht hk
    obtain ⟨k, rfl⟩ : ∃ m, k = m + 1 := ⟨k - 1, by omega⟩
    rw [laws_toThreadS.l0, if_neg (by omega)]
    rw [List.take_of_length_le (by omega), List.take_of_length_le (by omega)] at ht
    rw [ht]
  | succ d ih =>
    intro k r i h0 hi hr ht hk
    obtain ⟨k, rfl⟩ : ∃ m, k = m + 1 := ⟨k - 1, by omega⟩
    rw [laws_toThreadS.l0, if_pos (by omega), if_pos h0]
    unfold laws_toThread.f
    simp only [Option.bind_some]
    rw [if_pos (by omega), wrap_id (by omega) (by omega)]
    refine ih k _ (i + 1) (by omega) (by omega) (by rw [List.length_set]; exact hr) ?_ (by omega)
    rw [show (i + 1).toNat = i.toNat + 1 by omega, List.take_succ_eq_append_getElem (by rw [List.length_set]; omega), List.take_set_of_le (Nat.le_refl _), ht,
      List.take_succ_eq_append_getElem (show i.toNat < l.length by omega), List.map_append, rdL_get h0 (by omega)]
    simp [cv]
theorem toThreadS_f {l : List S35} {k : Nat} (hl : (l.length : Int) ≤ 1048576) (hk : 1048577 < k) : laws_toThreadS.f k l = some (l.map cv) := by
  unfold laws_toThreadS.f
  rw [if_pos (by omega), if_pos (by simp; omega)]
  exact toThreadS_l0 l (by omega) l.length k _ 0 (by omega) (by omega) (by simp) (by simp) (by omega)
/-- A thread that comes before another one. -/
def lessB (a b c d : Int) : Bool := decide (a < c ∨ a = c ∧ b < d)
theorem sgLess_eq (a b c d : Int) : spec_sgLess.f a b c d = some (lessB a b c d) := by
  unfold spec_sgLess.f lessB
  repeat' split
  all_goals (congr 1; first | (rw [eq_comm, decide_eq_true_iff]; omega) | (rw [eq_comm, decide_eq_false_iff_not]; omega) | (rw [decide_eq_decide]; omega))
theorem cmpInt_eq (a b : Int) : cmp_Compare_int.f a b = some (if a < b then -1 else if a > b then 1 else 0) := by
  unfold cmp_Compare_int.f cmp_isNaN_int.f
  simp only [Option.bind_some, bne_self_eq_false]
  rw [if_neg (by decide), if_neg (by decide)]
  repeat' split
  all_goals rfl
theorem cmpOr_eq (a b : Int) {k : Nat} (hk : 3 ≤ k) : cmp_Or_int.f k [a, b] = some (if a = 0 then b else a) := by
  obtain ⟨k, rfl⟩ : ∃ m, k = m + 1 + 1 + 1 := ⟨k - 3, by omega⟩
  unfold cmp_Or_int.f
  rw [cmp_Or_int.l0, if_pos (by simp), if_pos (by omega), if_pos (by simp), wrap_id (by omega) (by omega)]
  have e0 : rd [a, b] 0 = a := rfl
  rw [e0]
  by_cases h : a = 0
  · rw [if_pos h, if_pos h, cmp_Or_int.l0, if_pos (by simp), if_pos (by omega), if_pos (by simp), wrap_id (by omega) (by omega)]
    have e1 : rd [a, b] (0 + 1) = b := rfl
    rw [e1]
    by_cases h2 : b = 0
    · rw [if_pos h2, cmp_Or_int.l0, if_neg (by simp), h2]
    · rw [if_neg h2]
  · rw [if_neg h, if_neg h]
theorem compareThreads_eq (a b c d : Int) {k : Nat} (hk : 3 ≤ k) : ∃ r : Int, impl_compareThreads.f k a b c d = some r ∧ (r < 0 ↔ lessB a b c d = true) ∧ (r = 0 ↔ a = c ∧ b = d) := by
  unfold impl_compareThreads.f
  rw [cmpInt_eq, cmpInt_eq]
  simp only [Option.bind_some]
  rw [cmpOr_eq _ _ hk]
  refine ⟨_, rfl, ?_, ?_⟩
  · simp only [lessB, decide_eq_true_eq]
    repeat' split
    all_goals omega
  · repeat' split
    all_goals omega
/-- Threads i, i + 1, .. of the next d, each behind the one before. -/
def chkD (l : List S38) (i : Int) : Nat → Bool
  | 0 => true
  | d + 1 => thrOk (rd_T38 l i).f0 (rd_T38 l i).f1 && (decide (i ≤ 0) || lessB (rd_T38 l (i - 1)).f0 (rd_T38 l (i - 1)).f1 (rd_T38 l i).f0 (rd_T38 l i).f1) && chkD l (i + 1) d
theorem chkD_thr {l : List S38} : ∀ {d : Nat} {i : Int}, chkD l i d = true → ∀ j, i ≤ j → j < i + d → thrOk (rd_T38 l j).f0 (rd_T38 l j).f1 = true
  | 0, i, _, j, h1, h2 => by omega
  | d + 1, i, h, j, h1, h2 => by
    simp only [chkD, Bool.and_eq_true] at h
    rcases Int.lt_or_eq_of_le h1 with h3 | h3
    · exact chkD_thr h.2 j (by omega) (by omega)
    · rw [← h3]; exact h.1.1
/-- Threads in order. -/
def goodT (l : List S38) : Bool := rg l.length 1 30 && chkD l 0 l.length
theorem goodT_true {l : List S38} (h : goodT l = true) : 1 ≤ (l.length : Int) ∧ (l.length : Int) ≤ 30 ∧ ∀ i : Int, 0 ≤ i → i < l.length → thrOk (rd_T38 l i).f0 (rd_T38 l i).f1 = true := by
  simp only [goodT, Bool.and_eq_true, rg_true] at h
  exact ⟨h.1.1, h.1.2, fun i h0 h1 => chkD_thr h.2 i h0 (by omega)⟩
theorem good_s_l0 (l : List S38) (hl : (l.length : Int) ≤ 1000000000000) (d : Nat) : ∀ (k : Nat) (i : Int), 0 ≤ i → i + d = l.length → d < k → spec_sgGood.l0 k l l (l.length : Int) i = some (chkD l i d) := by
  induction d with
  | zero =>
    intro k i h0 hi hk
    obtain ⟨k, rfl⟩ : ∃ m, k = m + 1 := ⟨k - 1, by omega⟩
    rw [spec_sgGood.l0, if_neg (by omega)]; rfl
  | succ d ih =>
    intro k i h0 hi hk
    obtain ⟨k, rfl⟩ : ∃ m, k = m + 1 := ⟨k - 1, by omega⟩
    rw [spec_sgGood.l0, if_pos (by omega), if_pos h0, if_pos (by omega), sgThread_eq, wrap_id (x := i + 1) (by omega) (by omega), wrap_id (x := i - 1) (by omega) (by omega), ih k (i + 1) (by omega) (by omega) (by omega)]
    simp only [Option.bind_some, chkD]
    by_cases h : thrOk (rd_T38 l i).f0 (rd_T38 l i).f1 = true
    · rw [if_pos h, h]
      by_cases h2 : i > 0
      · rw [if_pos h2, if_pos (by omega), if_pos (by omega), sgLess_eq, decide_eq_false (show ¬ i ≤ 0 by omega)]
        simp only [Option.bind_some]
        cases lessB (rd_T38 l (i - 1)).f0 (rd_T38 l (i - 1)).f1 (rd_T38 l i).f0 (rd_T38 l i).f1 <;> simp
      · rw [if_neg h2, decide_eq_true (show i ≤ 0 by omega)]; simp
    · rw [if_neg h]; simp only [Bool.not_eq_true] at h; rw [h]; rfl
theorem good_s {l : List S38} {k : Nat} (hl : (l.length : Int) ≤ 1048576) (hk : 1048577 < k) : spec_sgGood.f k l = some (goodT l) := by
  unfold spec_sgGood.f goodT
  rw [l1In_rg]
  simp only [Option.bind_some]
  by_cases h : rg l.length 1 30 = true
  · rw [if_pos h, good_s_l0 l (by omega) l.length k 0 (by omega) (by omega) (by omega), h]; simp
  · rw [if_neg h]; simp only [Bool.not_eq_true] at h; rw [h]; rfl
theorem good_i_l0 (l : List S38) (hl : (l.length : Int) ≤ 1000000000000) (d : Nat) : ∀ (k : Nat) (i : Int), 0 ≤ i → i + d = l.length → d + 4 < k → impl_AreThreads.l0 k l l (l.length : Int) i = some (chkD l i d && rg l.length 1 30) := by
  induction d with
  | zero =>
    intro k i h0 hi hk
    obtain ⟨k, rfl⟩ : ∃ m, k = m + 1 := ⟨k - 1, by omega⟩
    rw [impl_AreThreads.l0, if_neg (by omega), within_rg]; simp [chkD]
  | succ d ih =>
    intro k i h0 hi hk
    obtain ⟨k, rfl⟩ : ∃ m, k = m + 1 := ⟨k - 1, by omega⟩
    rw [impl_AreThreads.l0, if_pos (by omega), if_pos h0, if_pos (by omega), isThread_eq, wrap_id (x := i + 1) (by omega) (by omega), wrap_id (x := i - 1) (by omega) (by omega), ih k (i + 1) (by omega) (by omega) (by omega)]
    simp only [Option.bind_some, chkD]
    by_cases h : thrOk (rd_T38 l i).f0 (rd_T38 l i).f1 = true
    · rw [if_pos h, h]
      by_cases h2 : i > 0
      · obtain ⟨r, h3, h4, _⟩ := compareThreads_eq (rd_T38 l (i - 1)).f0 (rd_T38 l (i - 1)).f1 (rd_T38 l i).f0 (rd_T38 l i).f1 (k := k) (by omega)
        rw [if_pos h2, if_pos (by omega), if_pos (by omega), h3, decide_eq_false (show ¬ i ≤ 0 by omega)]
        simp only [Option.bind_some]
        by_cases h5 : r < 0
        · rw [if_neg (by omega), h4.1 h5]; simp
        · rw [if_pos (by omega)]
          have : lessB (rd_T38 l (i - 1)).f0 (rd_T38 l (i - 1)).f1 (rd_T38 l i).f0 (rd_T38 l i).f1 = false := by
            rw [← Bool.not_eq_true]; exact fun e => h5 (h4.2 e)
          rw [this]; simp
      · rw [if_neg h2, decide_eq_true (show i ≤ 0 by omega)]; simp
    · rw [if_neg h]; simp only [Bool.not_eq_true] at h; rw [h]; rfl
theorem good_i {l : List S38} {k : Nat} (hl : (l.length : Int) ≤ 1048576) (hk : 1048590 < k) : impl_AreThreads.f k l = some (goodT l) := by
  unfold impl_AreThreads.f goodT
  rw [good_i_l0 l (by omega) l.length k 0 (by omega) (by omega) (by omega), Bool.and_comm]
theorem szThreadS_far {l : List S35} (h : (l.length : Int) > 1048576) (h2 : l.length * 16 ≤ 140737488351232) : laws_szThreadS.f l 1048576 = some (-1) := by
  unfold laws_szThreadS.f
  rw [wrap_id (by omega) (by omega), if_pos (by omega)]
theorem szThreadS_near {l : List S35} (h : ¬ (l.length : Int) > 1048576) : laws_szThreadS.f l 1048576 = some (1048576 - (l.length : Int)) := by
  unfold laws_szThreadS.f
  rw [wrap_id (by omega) (by omega), if_neg (by omega)]
/-- Threads (a, a + 1), (a + 2, a + 3), .. -/
def tmarks (a : Int) : Nat → List S38
  | 0 => []
  | n + 1 => ⟨a, a + 1⟩ :: tmarks (a + 1 + 1) n
theorem tmarks_len (a : Int) (n : Nat) : (tmarks a n).length = n := by
  induction n generalizing a with
  | zero => rfl
  | succ n ih => simp [tmarks, ih]
theorem markThreadS_l0 (d : Nat) : ∀ (k : Nat) (l : List S38) (a i : Int), 0 ≤ i → i + d = l.length → d < k → (l.length : Int) ≤ 1000000000000 → -1000000000000 ≤ a → a + 2 * d ≤ 5000000000000 → laws_markThreadS.l0 k l a i = some (a + 2 * d, l.take i.toNat ++ tmarks a d) := by
  induction d with
  | zero =>
    intro k l a i h0 hi hk hl ha hb
    obtain ⟨k, rfl⟩ : ∃ m, k = m + 1 := ⟨k - 1, by omega⟩
    rw [laws_markThreadS.l0, if_neg (by omega), List.take_of_length_le (by omega)]
    simp [tmarks]
  | succ d ih =>
    intro k l a i h0 hi hk hl ha hb
    obtain ⟨k, rfl⟩ : ∃ m, k = m + 1 := ⟨k - 1, by omega⟩
    rw [laws_markThreadS.l0, if_pos (by omega), if_pos h0]
    simp only [Option.bind_some]
    rw [wrap_id (x := a + 1) (by omega) (by omega), wrap_id (x := a + 1 + 1) (by omega) (by omega), wrap_id (x := i + 1) (by omega) (by omega)]
    have e0 : (rd_T38 (l.set i.toNat ⟨a, (rd_T38 l i).f1⟩) i).f0 = a := by
      rw [rdT_get h0 (by rw [List.length_set]; omega)]; simp
    rw [e0, List.set_set, ih k (l.set i.toNat ⟨a, a + 1⟩) (a + 1 + 1) (i + 1) (by omega) (by rw [List.length_set]; omega) (by omega) (by rw [List.length_set]; omega) (by omega) (by omega)]
    have e : (l.set i.toNat (⟨a, a + 1⟩ : S38)).take (i + 1).toNat = l.take i.toNat ++ [⟨a, a + 1⟩] := by
      rw [show (i + 1).toNat = i.toNat + 1 by omega, List.take_succ_eq_append_getElem (by rw [List.length_set]; omega), List.take_set_of_le (Nat.le_refl _)]
      simp
    rw [e]
    simp only [tmarks, List.append_assoc, List.singleton_append]
    congr 2
    omega
theorem markThreadS_f {l : List S38} (hl : (l.length : Int) ≤ 1000000000000) {k : Nat} (hk : l.length < k) {a : Int} (ha : -1000000000000 ≤ a) (hb : a ≤ 2000000000000) : laws_markThreadS.f k l a = some (a + 2 * l.length, tmarks a l.length) := by
  unfold laws_markThreadS.f
  rw [markThreadS_l0 l.length k l a 0 (by omega) (by omega) hk hl ha (by omega)]
  simp
theorem under_l0 (l : List S38) (a b : Int) (hl : (l.length : Int) ≤ 1000000000000) (d : Nat) : ∀ (k : Nat) (i : Int), 0 ≤ i → i + d = l.length → d < k → spec_sgUnder.l0 k a b l (l.length : Int) i = some ((l.drop i.toNat).any (underT a b)) := by
  induction d with
  | zero =>
    intro k i h0 hi hk
    obtain ⟨k, rfl⟩ : ∃ m, k = m + 1 := ⟨k - 1, by omega⟩
    rw [spec_sgUnder.l0, if_neg (by omega), List.drop_eq_nil_of_le (by omega)]; rfl
  | succ d ih =>
    intro k i h0 hi hk
    obtain ⟨k, rfl⟩ : ∃ m, k = m + 1 := ⟨k - 1, by omega⟩
    rw [spec_sgUnder.l0, if_pos (show i < (l.length : Int) by omega), if_pos h0, if_pos (show i < (l.length : Int) by omega), wrap_id (x := i + 1) (by omega) (by omega), List.drop_eq_getElem_cons (by omega), List.any_cons, ← rdT_get h0 (by omega), show i.toNat + 1 = (i + 1).toNat by omega]
    by_cases h : underT a b (rd_T38 l i) = true
    · rw [h]
      have h' := h
      simp only [underT, decide_eq_true_eq] at h'
      rw [if_pos h']; rfl
    · have h' := h
      simp only [underT, decide_eq_true_eq] at h'
      rw [if_neg h', ih k (i + 1) (by omega) (by omega) (by omega)]
      simp only [Bool.not_eq_true] at h
      rw [h]; rfl
theorem under_f {l : List S38} {k : Nat} (a b : Int) (hl : (l.length : Int) ≤ 1048576) (hk : 1048577 < k) : spec_sgUnder.f k l a b = some (l.any (underT a b)) := by
  unfold spec_sgUnder.f
  rw [under_l0 l a b (by omega) l.length k 0 (by omega) (by omega) (by omega)]; simp
/-- The numbers i, i + 1, .. of the next d at which p holds. -/
def numsD (p : Int → Bool) (i : Int) : Nat → List Int
  | 0 => []
  | d + 1 => if p i = true then i :: numsD p (i + 1) d else numsD p (i + 1) d
theorem numsD_len (p : Int → Bool) (i : Int) (d : Nat) : (numsD p i d).length ≤ d := by
  induction d generalizing i with
  | zero => simp [numsD]
  | succ d ih =>
    have := ih (i + 1)
    simp only [numsD]
    split
    · simp; omega
    · omega
theorem numsD_congr {p q : Int → Bool} {i : Int} {d : Nat} (h : ∀ x, i ≤ x → x < i + d → p x = q x) : numsD p i d = numsD q i d := by
  induction d generalizing i with
  | zero => rfl
  | succ d ih =>
    have h0 := h i (by omega) (by omega)
    have h1 := ih (i := i + 1) (fun x hx hy => h x (by omega) (by omega))
    simp only [numsD, h0, h1]
theorem numsD_eq (p : Int → Bool) (i : Int) (d : Nat) : ((List.range d).map fun (j : Nat) => i + (j : Int)).filter p = numsD p i d := by
  induction d generalizing i with
  | zero => rfl
  | succ d ih =>
    rw [List.range_succ_eq_map, List.map_cons, List.map_map]
    have e : (fun (j : Nat) => i + (j : Int)) ∘ Nat.succ = fun (j : Nat) => (i + 1) + (j : Int) := by funext j; simp; omega
    rw [e, List.filter_cons, ih]
    simp [numsD]
theorem numsW_numsD (p : Int → Bool) (lo hi : Int) : numsW p lo hi = numsD p lo (hi + 1 - lo).toNat := numsD_eq p lo _
theorem numsW_len (p : Int → Bool) (lo hi : Int) : ((numsW p lo hi).length : Int) ≤ max 0 (hi + 1 - lo) := by
  rw [numsW_numsD]
  have := numsD_len p lo (hi + 1 - lo).toNat
  omega
theorem numsD_mem {p : Int → Bool} {a : Int} : ∀ {d : Nat} {i : Int}, a ∈ numsD p i d ↔ i ≤ a ∧ a < i + d ∧ p a = true
  | 0, i => by simp [numsD]; omega
  | d + 1, i => by
    simp only [numsD]
    split
    · rename_i h
      rw [List.mem_cons, numsD_mem (d := d) (i := i + 1)]
      constructor
      · rintro (rfl | ⟨h1, h2, h3⟩)
        · exact ⟨by omega, by omega, h⟩
        · exact ⟨by omega, by omega, h3⟩
      · rintro ⟨h1, h2, h3⟩
        rcases Int.lt_or_eq_of_le h1 with h4 | h4
        · exact Or.inr ⟨by omega, by omega, h3⟩
        · exact Or.inl h4.symm
    · rename_i h
      rw [numsD_mem (d := d) (i := i + 1)]
      constructor
      · rintro ⟨h1, h2, h3⟩; exact ⟨by omega, by omega, h3⟩
      · rintro ⟨h1, h2, h3⟩
        rcases Int.lt_or_eq_of_le h1 with h4 | h4
        · exact ⟨by omega, by omega, h3⟩
        · subst h4; exact absurd h3 h
theorem numsD_rises (p : Int → Bool) : ∀ (d : Nat) (i : Int), (numsD p i d).Pairwise (· < ·)
  | 0, i => by simp [numsD]
  | d + 1, i => by
    simp only [numsD]
    split
    · rw [List.pairwise_cons]
      exact ⟨fun a ha => by have := (numsD_mem.1 ha).1; omega, numsD_rises p d (i + 1)⟩
    · exact numsD_rises p d (i + 1)
theorem numsW_mem {p : Int → Bool} {lo hi a : Int} (h : lo ≤ hi + 1) : a ∈ numsW p lo hi ↔ lo ≤ a ∧ a ≤ hi ∧ p a = true := by
  rw [numsW_numsD, numsD_mem]
  constructor
  · rintro ⟨h1, h2, h3⟩; exact ⟨h1, by omega, h3⟩
  · rintro ⟨h1, h2, h3⟩; exact ⟨h1, by omega, h3⟩
theorem eqIntS_l0 (l : List Int) (hl : (l.length : Int) ≤ 1000000000000) : ∀ (d k : Nat) (i : Int), 0 ≤ i → i + d = l.length → d < k → laws_eqIntS.l0 k l l i = some true
  | 0, k + 1, i, h0, hi, _ => by
    unfold laws_eqIntS.l0
    rw [if_neg (by omega)]
  | d + 1, k + 1, i, h0, hi, hk => by
    unfold laws_eqIntS.l0
    rw [if_pos (by omega), if_pos h0, if_pos (by omega), if_pos rfl, wrap_id (by omega) (by omega)]
    exact eqIntS_l0 l hl d k (i + 1) (by omega) (by omega) (by omega)
theorem eqIntS_self {l : List Int} (hl : (l.length : Int) ≤ 1000000000000) {k : Nat} (hk : l.length < k) : laws_eqIntS.f k l l = some true := by
  unfold laws_eqIntS.f
  rw [if_pos rfl]
  exact eqIntS_l0 l hl l.length k 0 (by omega) (by omega) hk
/-- a, a + 1, .. -/
def marks (a : Int) : Nat → List Int
  | 0 => []
  | n + 1 => a :: marks (a + 1) n
theorem marks_len (a : Int) (n : Nat) : (marks a n).length = n := by
  induction n generalizing a with
  | zero => rfl
  | succ n ih => simp [marks, ih]

theorem rd_drop {l : List Int} {i : Int} {x : Int} {r : List Int} (h0 : 0 ≤ i) (h : l.drop i.toNat = x :: r) : rd l i = x ∧ l.drop (i + 1).toNat = r ∧ i.toNat < l.length := by
  have hl : i.toNat < l.length := by
    rcases Nat.lt_or_ge i.toNat l.length with h1 | h1
    · exact h1
    · rw [List.drop_eq_nil_of_le h1] at h; cases h
  have h3 := List.drop_eq_getElem_cons hl
  rw [h3] at h
  injection h with h4 h5
  refine ⟨by simp [rd, List.getD_eq_getElem?_getD, List.getElem?_eq_getElem hl, h4], ?_, hl⟩
  rw [show (i + 1).toNat = i.toNat + 1 by omega]; exact h5
theorem markIntS_l0 : ∀ (d k : Nat) (l : List Int) (a i : Int), 0 ≤ i → i + d = l.length → d < k → (l.length : Int) ≤ 1000000000000 → -1000000000000 ≤ a → a + d ≤ 3000000000000 → laws_markIntS.l0 k l a i = some (a + d, l.take i.toNat ++ marks a d)
  | 0, k + 1, l, a, i, h0, hi, _, hl, ha, hb => by
    unfold laws_markIntS.l0
    rw [if_neg (by omega), List.take_of_length_le (by omega)]
    simp [marks]
  | d + 1, k + 1, l, a, i, h0, hi, hk, hl, ha, hb => by
    unfold laws_markIntS.l0
    rw [if_pos (by omega), if_pos h0, wrap_id (by omega) (by omega), wrap_id (by omega) (by omega)]
    rw [markIntS_l0 d k (l.set i.toNat a) (a + 1) (i + 1) (by omega) (by rw [List.length_set]; omega) (by omega) (by rw [List.length_set]; omega) (by omega) (by omega)]
    have e : (l.set i.toNat a).take (i + 1).toNat = l.take i.toNat ++ [a] := by
      rw [show (i + 1).toNat = i.toNat + 1 by omega, List.take_succ_eq_append_getElem (by rw [List.length_set]; omega), List.take_set_of_le (Nat.le_refl _)]
      simp
    rw [e]
    simp only [marks, List.append_assoc, List.singleton_append]
    congr 2
    omega
theorem markIntS_f {l : List Int} (hl : (l.length : Int) ≤ 1000000000000) {k : Nat} (hk : l.length < k) {a : Int} (ha : -1000000000000 ≤ a) (hb : a ≤ 2000000000000) : laws_markIntS.f k l a = some (a + l.length, marks a l.length) := by
  unfold laws_markIntS.f
  rw [markIntS_l0 l.length k l a 0 (by omega) (by omega) hk hl ha (by omega)]
  simp
theorem heldIntS_l0 : ∀ (d k : Nat) (l : List Int) (a i : Int), 0 ≤ i → i + d = l.length → l.drop i.toNat = marks a d → d < k → (l.length : Int) ≤ 1000000000000 → -1000000000000 ≤ a → a + d ≤ 3000000000000 → laws_heldIntS.l0 k l a i = some (a + d)
  | 0, k + 1, l, a, i, h0, hi, _, _, hl, ha, hb => by
    unfold laws_heldIntS.l0
    rw [if_neg (by omega)]
    simp
  | d + 1, k + 1, l, a, i, h0, hi, hd, hk, hl, ha, hb => by
    obtain ⟨e1, e2, e3⟩ := rd_drop h0 (show l.drop i.toNat = a :: marks (a + 1) d from hd)
    unfold laws_heldIntS.l0
    rw [if_pos (by omega), if_pos h0, if_pos e1, wrap_id (by omega) (by omega), wrap_id (by omega) (by omega)]
    rw [heldIntS_l0 d k l (a + 1) (i + 1) (by omega) (by omega) e2 (by omega) hl (by omega) (by omega)]
    congr 1
    omega
theorem heldIntS_f {n k : Nat} (hn : (n : Int) ≤ 1000000000000) (hk : n < k) {a : Int} (ha : -1000000000000 ≤ a) (hb : a ≤ 2000000000000) : laws_heldIntS.f k (marks a n) a = some (a + n) := by
  unfold laws_heldIntS.f
  exact heldIntS_l0 n k (marks a n) a 0 (by omega) (by rw [marks_len]; omega) (by simp) hk (by rw [marks_len]; exact hn) ha (by omega)
theorem mul_bd {a b A B : Int} (ha : 0 ≤ a) (haA : a ≤ A) (hb : 0 ≤ b) (hbB : b ≤ B) : 0 ≤ a * b ∧ a * b ≤ A * B :=
  ⟨Int.mul_nonneg ha hb, Int.mul_le_mul haA hbB hb (by omega)⟩
/-- How many of the d places (x, y), (x, y + 1), .. P tells. -/
def rowC (P : Int → Int → Bool) (x : Int) : Int → Nat → Int
  | _, 0 => 0
  | y, d + 1 => (if P x y = true then 1 else 0) + rowC P x (y + 1) d
def allC (P : Int → Int → Bool) : Int → Nat → Int
  | _, 0 => 0
  | x, d + 1 => rowC P x 0 101 + allC P (x + 1) d
theorem rowC_le {P Q : Int → Int → Bool} {x : Int} : ∀ {d : Nat} {y : Int}, (∀ z, y ≤ z → z < y + d → P x z = true → Q x z = true) → rowC P x y d ≤ rowC Q x y d ∧ (rowC P x y d = rowC Q x y d ↔ ∀ z, y ≤ z → z < y + d → Q x z = true → P x z = true)
  | 0, y, _ => ⟨Int.le_refl _, ⟨fun _ z h1 h2 => by omega, fun _ => rfl⟩⟩
  | d + 1, y, h => by
    obtain ⟨h1, h2⟩ := rowC_le (P := P) (Q := Q) (x := x) (d := d) (y := y + 1) (fun z a b => h z (by omega) (by omega))
    have h0 := h y (by omega) (by omega)
    show (if P x y = true then 1 else 0) + rowC P x (y + 1) d ≤ (if Q x y = true then 1 else 0) + rowC Q x (y + 1) d ∧ ((if P x y = true then 1 else 0) + rowC P x (y + 1) d = (if Q x y = true then 1 else 0) + rowC Q x (y + 1) d ↔ _)
    by_cases hp : P x y = true
    · have hq := h0 hp
      rw [if_pos hp, if_pos hq]
      refine ⟨by omega, ⟨fun e z a b => ?_, fun e => ?_⟩⟩
      · by_cases hz : z = y
        · subst hz; exact fun _ => hp
        · exact h2.1 (by omega) z (by omega) (by omega)
      · have := h2.2 (fun z a b => e z (by omega) (by omega)); omega
    · rw [if_neg hp]
      by_cases hq : Q x y = true
      · rw [if_pos hq]
        exact ⟨by omega, ⟨fun e => by omega, fun e => absurd (e y (by omega) (by omega) hq) hp⟩⟩
      · rw [if_neg hq]
        refine ⟨by omega, ⟨fun e z a b => ?_, fun e => ?_⟩⟩
        · by_cases hz : z = y
          · subst hz; exact fun hh => absurd hh hq
          · exact h2.1 (by omega) z (by omega) (by omega)
        · have := h2.2 (fun z a b => e z (by omega) (by omega)); omega
theorem allC_le {P Q : Int → Int → Bool} : ∀ {d : Nat} {x : Int}, (∀ u z, x ≤ u → u < x + d → 0 ≤ z → z < 101 → P u z = true → Q u z = true) → allC P x d ≤ allC Q x d ∧ (allC P x d = allC Q x d ↔ ∀ u z, x ≤ u → u < x + d → 0 ≤ z → z < 101 → Q u z = true → P u z = true)
  | 0, x, _ => ⟨Int.le_refl _, ⟨fun _ u z h1 h2 => by omega, fun _ => rfl⟩⟩
  | d + 1, x, h => by
    obtain ⟨h1, h2⟩ := allC_le (P := P) (Q := Q) (d := d) (x := x + 1) (fun u z a b => h u z (by omega) (by omega))
    obtain ⟨h3, h4⟩ := rowC_le (P := P) (Q := Q) (x := x) (d := 101) (y := 0) (fun z a b => h x z (by omega) (by omega) (by omega) (by omega))
    show rowC P x 0 101 + allC P (x + 1) d ≤ rowC Q x 0 101 + allC Q (x + 1) d ∧ (rowC P x 0 101 + allC P (x + 1) d = rowC Q x 0 101 + allC Q (x + 1) d ↔ _)
    refine ⟨by omega, ⟨fun e u z a b c f => ?_, fun e => ?_⟩⟩
    · by_cases hu : u = x
      · subst hu; exact h4.1 (by omega) z (by omega) (by omega)
      · exact h2.1 (by omega) u z (by omega) (by omega) c f
    · have e1 := h4.2 (fun z a b => e x z (by omega) (by omega) (by omega) (by omega))
      have e2 := h2.2 (fun u z a b => e u z (by omega) (by omega))
      omega
theorem rowC_bd (P : Int → Int → Bool) (x : Int) : ∀ (d : Nat) (y : Int), 0 ≤ rowC P x y d ∧ rowC P x y d ≤ d
  | 0, _ => ⟨Int.le_refl _, Int.le_refl _⟩
  | d + 1, y => by
    have := rowC_bd P x d (y + 1)
    show 0 ≤ (if P x y = true then 1 else 0) + rowC P x (y + 1) d ∧ (if P x y = true then 1 else 0) + rowC P x (y + 1) d ≤ ((d + 1 : Nat) : Int)
    split <;> omega
def undP (l : List S38) (x y : Int) : Bool := l.any (underT x y)
theorem cu_l1 (l : List S38) (x : Int) (hx : 0 ≤ x) (hx2 : x ≤ 100) : ∀ (d : Nat) (k : Nat) (c y : Int), 0 ≤ y → y + d = 101 → 0 ≤ c → c + d ≤ 100000 →
    impl_countUnder.l1 (k + d + 1) l 0 c x y = impl_countUnder.l0 k l 0 (c + rowC (undP l) x y d) (x + 1)
  | 0, k, c, y, h0, hy, hc, hc2 => by
    rw [impl_countUnder.l1, if_neg (by omega), wrap_id (x := x + 1) (by omega) (by omega)]
    simp [rowC]
  | d + 1, k, c, y, h0, hy, hc, hc2 => by
    rw [show k + (d + 1) + 1 = (k + d + 1) + 1 by omega, impl_countUnder.l1, if_pos (by omega)]
    unfold impl_isUnder.f
    simp only [Option.bind_some]
    rw [wrap_id (x := y + 1) (by omega) (by omega), wrap_id (x := c + 1) (by omega) (by omega)]
    have e : rowC (undP l) x y (d + 1) = (if undP l x y = true then 1 else 0) + rowC (undP l) x (y + 1) d := rfl
    have hu : l.any (underT x y) = undP l x y := rfl
    rw [hu]
    by_cases h : undP l x y = true
    · rw [if_pos h, cu_l1 l x hx hx2 d k (c + 1) (y + 1) (by omega) (by omega) (by omega) (by omega), e, if_pos h, Int.add_assoc]
    · rw [if_neg h, cu_l1 l x hx hx2 d k c (y + 1) (by omega) (by omega) (by omega) (by omega), e, if_neg h, Int.zero_add]
theorem cu_l0 (l : List S38) : ∀ (d : Nat) (k : Nat) (c x : Int), 0 ≤ x → x + d = 101 → 0 ≤ c → c + 101 * d ≤ 20000 →
    impl_countUnder.l0 (k + d * 103 + 1) l 0 c x = some (c + allC (undP l) x d)
  | 0, k, c, x, h0, hx, hc, hc2 => by
    rw [impl_countUnder.l0, if_neg (by omega)]
    simp [allC]
  | d + 1, k, c, x, h0, hx, hc, hc2 => by
    have hb := rowC_bd (undP l) x 101 0
    rw [impl_countUnder.l0, if_pos (by omega), show k + (d + 1) * 103 = (k + d * 103 + 1) + 101 + 1 by omega, cu_l1 l x h0 (by omega) 101 _ c 0 (by omega) (by omega) hc (by omega), cu_l0 l d k _ (x + 1) (by omega) (by omega) (by omega) (by omega)]
    simp only [allC, Int.add_assoc]
theorem cu_f (l : List S38) {k : Nat} (hk : 20000 ≤ k) : impl_countUnder.f k l 0 = some (allC (undP l) 0 101) := by
  unfold impl_countUnder.f
  obtain ⟨j, rfl⟩ : ∃ j, k = j + 101 * 103 + 1 := ⟨k - 101 * 103 - 1, by omega⟩
  rw [cu_l0 l 101 j 0 0 (by omega) (by omega) (by omega) (by omega), Int.zero_add]
/-- The highest whole place under a thread. -/
def topY (t : S38) (x : Int) : Int := t.f1 * (t.f0 - x) / t.f0
theorem und_iff {l : List S38} (hg : ∀ t ∈ l, thrOk t.f0 t.f1 = true) {x y : Int} (hx : 0 ≤ x) (hx2 : x ≤ 100) (hy : 0 ≤ y) (hy2 : y ≤ 100) : undP l x y = true ↔ ∃ t ∈ l, x * t.f1 + y * t.f0 ≤ t.f0 * t.f1 := by
  unfold undP
  rw [List.any_eq_true]
  constructor
  · rintro ⟨t, ht, h⟩
    refine ⟨t, ht, ?_⟩
    have hb := thrOk_true.1 (hg t ht)
    have b1 := mul_bd (a := x) (b := t.f1) (A := 100) (B := 100) hx hx2 (by omega) (by omega)
    have b2 := mul_bd (a := y) (b := t.f0) (A := 100) (B := 100) hy hy2 (by omega) (by omega)
    have b3 := mul_bd (a := t.f0) (b := t.f1) (A := 100) (B := 100) (by omega) (by omega) (by omega) (by omega)
    unfold underT at h
    rw [wrap_id (x := x * t.f1) (by omega) (by omega), wrap_id (x := y * t.f0) (by omega) (by omega), wrap_id (x := t.f0 * t.f1) (by omega) (by omega), wrap_id (by omega) (by omega)] at h
    simpa using h
  · rintro ⟨t, ht, h⟩
    refine ⟨t, ht, ?_⟩
    have hb := thrOk_true.1 (hg t ht)
    have b1 := mul_bd (a := x) (b := t.f1) (A := 100) (B := 100) hx hx2 (by omega) (by omega)
    have b2 := mul_bd (a := y) (b := t.f0) (A := 100) (B := 100) hy hy2 (by omega) (by omega)
    have b3 := mul_bd (a := t.f0) (b := t.f1) (A := 100) (B := 100) (by omega) (by omega) (by omega) (by omega)
    unfold underT
    rw [wrap_id (x := x * t.f1) (by omega) (by omega), wrap_id (x := y * t.f0) (by omega) (by omega), wrap_id (x := t.f0 * t.f1) (by omega) (by omega), wrap_id (by omega) (by omega)]
    simpa using h
theorem topY_bd {t : S38} (ht : thrOk t.f0 t.f1 = true) {x : Int} (hx : 0 ≤ x) (hx2 : x ≤ t.f0) : 0 ≤ topY t x ∧ topY t x ≤ 100 ∧ topY t x * t.f0 ≤ t.f1 * (t.f0 - x) ∧ ∀ y, y * t.f0 ≤ t.f1 * (t.f0 - x) → y ≤ topY t x := by
  have hb := thrOk_true.1 ht
  have b1 := mul_bd (a := t.f1) (b := t.f0 - x) (A := 100) (B := t.f0) (by omega) (by omega) (by omega) (by omega)
  unfold topY
  refine ⟨Int.ediv_nonneg b1.1 (by omega), ?_, ?_, ?_⟩
  · have : t.f1 * (t.f0 - x) / t.f0 < 101 := Int.ediv_lt_of_lt_mul (by omega) (by omega)
    omega
  · exact Int.ediv_mul_le _ (by omega)
  · intro y hy
    exact (Int.le_ediv_iff_mul_le (by omega)).2 hy
/-- The highest places from x on are under others. -/
def hidD (r : List S38) (t : S38) (x : Int) : Nat → Bool
  | 0 => true
  | d + 1 => undP r x (topY t x) && hidD r t (x + 1) d
theorem hidD_true {r : List S38} {t : S38} : ∀ {d : Nat} {x : Int}, hidD r t x d = true ↔ ∀ u, x ≤ u → u < x + d → undP r u (topY t u) = true
  | 0, x => ⟨fun _ u a b => by omega, fun _ => rfl⟩
  | d + 1, x => by
    simp only [hidD, Bool.and_eq_true]
    rw [hidD_true (d := d)]
    constructor
    · rintro ⟨h1, h2⟩ u a b
      by_cases hu : u = x
      · subst hu; exact h1
      · exact h2 u (by omega) (by omega)
    · intro h
      exact ⟨h x (by omega) (by omega), fun u a b => h u (by omega) (by omega)⟩
theorem hid_l1 (L x4 : List (S38)) (X4 : List Int) (i : Int) (r : List S38) (t : S38) (n : Int) (res : Option (List Int × Bool)) (ht : thrOk t.f0 t.f1 = true) (hr : (r.length : Int) ≤ 30) (hX : (X4.length : Int) ≤ 1000) : ∀ (d k : Nat) (b : Bool) (x : Int), 0 ≤ x → x + d = t.f0 + 1 → 1048600 ≤ k →
    (∀ j, k ≤ j → spec_HiddenThreads.l0 j L (if (b && hidD r t x d) = true then X4 ++ [i] else X4) x4 n (wrap64 (i + 1)) = res) →
    spec_HiddenThreads.l1 (k + d + 1) L X4 i r b x x4 n i t.f0 t.f1 = res
  | 0, k, b, x, hx, hd, hk, H => by
    rw [spec_HiddenThreads.l1, if_neg (by omega)]
    have := H k (Nat.le_refl _)
    cases b
    · rw [if_neg (by decide)]; simpa [hidD] using this
    · rw [if_pos rfl, if_pos (by omega)]; simpa [hidD] using this
  | d + 1, k, b, x, hx, hd, hk, H => by
    have hb := thrOk_true.1 ht
    have b1 := mul_bd (a := t.f1) (b := t.f0 - x) (A := 100) (B := 100) (by omega) (by omega) (by omega) (by omega)
    have b2 := topY_bd ht hx (by omega)
    rw [show k + (d + 1) + 1 = (k + d + 1) + 1 by omega, spec_HiddenThreads.l1, if_pos (by omega)]
    cases b
    · rw [if_neg (by decide)]
      have := H (k + d + 1) (by omega)
      simpa using this
    · have e : wrap64 (Int.tdiv (wrap64 (t.f1 * (wrap64 (t.f0 - x)))) t.f0) = topY t x := by
        rw [wrap_id (x := t.f0 - x) (by omega) (by omega), wrap_id (x := t.f1 * (t.f0 - x)) (by omega) (by omega), Int.tdiv_eq_ediv_of_nonneg b1.1]
        exact wrap_id (by unfold topY at b2; omega) (by unfold topY at b2; omega)
      rw [if_pos rfl, if_neg (by omega), e, under_f x (topY t x) (by omega) (by omega), Option.bind_some, wrap_id (x := x + 1) (by omega) (by omega)]
      refine hid_l1 L x4 X4 i r t n res ht hr hX d k _ (x + 1) (by omega) (by omega) hk ?_
      intro j hj
      have := H j hj
      simp only [hidD, Bool.true_and] at this
      exact this
/-- Thread i's highest places are under others. -/
def hidQ (l : List S38) (i : Int) : Bool := hidD (l.eraseIdx i.toNat) (rd_T38 l i) 0 ((rd_T38 l i).f0 + 1).toNat
theorem hid_l0 (l : List S38) (hl : (l.length : Int) ≤ 30) (hg : ∀ i : Int, 0 ≤ i → i < l.length → thrOk (rd_T38 l i).f0 (rd_T38 l i).f1 = true) : ∀ (d k : Nat) (o : List Int) (i : Int), 0 ≤ i → i + d = l.length → 1048700 + 110 * d ≤ k → (o.length : Int) ≤ i →
    spec_HiddenThreads.l0 k l o l (l.length : Int) i = some (o ++ numsD (hidQ l) i d, true)
  | 0, k, o, i, h0, hi, hk, ho => by
    obtain ⟨k, rfl⟩ : ∃ m, k = m + 1 := ⟨k - 1, by omega⟩
    rw [spec_HiddenThreads.l0, if_neg (by omega)]
    simp [numsD]
  | d + 1, k, o, i, h0, hi, hk, ho => by
    obtain ⟨k, rfl⟩ : ∃ m, k = m + 1 := ⟨k - 1, by omega⟩
    have hlt : i.toNat < l.length := by omega
    have hb := thrOk_true.1 (hg i h0 (by omega))
    rw [spec_HiddenThreads.l0, if_pos (by omega), if_pos h0, if_pos (by omega)]
    simp only [Option.bind_some]
    rw [if_pos (by omega), if_pos (by simp; omega), wrap_id (x := i + 1) (by omega) (by omega), if_pos (by omega), if_pos (by omega), if_pos (by simp; omega)]
    have e : ([] : List S38) ++ l.take i.toNat ++ l.drop (i + 1).toNat = l.eraseIdx i.toNat := by
      rw [List.nil_append, List.eraseIdx_eq_take_drop_succ, show (i + 1).toNat = i.toNat + 1 by omega]
    rw [e]
    obtain ⟨K, rfl⟩ : ∃ K, k = K + ((rd_T38 l i).f0 + 1).toNat + 1 := ⟨k - ((rd_T38 l i).f0 + 1).toNat - 1, by omega⟩
    refine hid_l1 l l o i (l.eraseIdx i.toNat) (rd_T38 l i) (l.length : Int) _ (hg i h0 (by omega)) (by rw [List.length_eraseIdx]; split <;> omega) (by omega) ((rd_T38 l i).f0 + 1).toNat K true 0 (by omega) (by omega) (by omega) ?_
    intro j hj
    rw [wrap_id (x := i + 1) (by omega) (by omega), Bool.true_and]
    have eq : hidD (l.eraseIdx i.toNat) (rd_T38 l i) 0 ((rd_T38 l i).f0 + 1).toNat = hidQ l i := rfl
    rw [eq]
    by_cases h : hidQ l i = true
    · rw [if_pos h, hid_l0 l hl hg d j (o ++ [i]) (i + 1) (by omega) (by omega) (by omega) (by simp; omega)]
      simp [numsD, h]
    · rw [if_neg h, hid_l0 l hl hg d j o (i + 1) (by omega) (by omega) (by omega) (by omega)]
      simp [numsD, h]
theorem hid_mem {l : List S38} {i : Nat} (hi : i < l.length) {s : S38} (hs : s ∈ l) : s = l[i] ∨ s ∈ l.eraseIdx i := by
  rw [List.eraseIdx_eq_take_drop_succ]
  have e : l = l.take i ++ l[i] :: l.drop (i + 1) := by rw [← List.drop_eq_getElem_cons hi, List.take_append_drop]
  rw [e] at hs
  simp only [List.mem_append, List.mem_cons] at hs ⊢
  rcases hs with h | h | h
  · exact Or.inr (Or.inl h)
  · left; exact h
  · exact Or.inr (Or.inr h)
theorem hid_cnt {l : List S38} (hg : ∀ i : Int, 0 ≤ i → i < l.length → thrOk (rd_T38 l i).f0 (rd_T38 l i).f1 = true) {i : Int} (h0 : 0 ≤ i) (hi : i < l.length) :
    (allC (undP (l.eraseIdx i.toNat)) 0 101 = allC (undP l) 0 101) ↔ hidQ l i = true := by
  have hlt : i.toNat < l.length := by omega
  have hm : ∀ t ∈ l, thrOk t.f0 t.f1 = true := by
    intro t ht
    obtain ⟨j, hj, rfl⟩ := List.getElem_of_mem ht
    have := hg j (by omega) (by omega)
    rw [rdT_get (by omega) (by omega)] at this
    simpa using this
  have hm2 : ∀ t ∈ l.eraseIdx i.toNat, thrOk t.f0 t.f1 = true := fun t ht => hm t (List.mem_of_mem_eraseIdx ht)
  have hsub : ∀ t ∈ l.eraseIdx i.toNat, t ∈ l := fun t ht => List.mem_of_mem_eraseIdx ht
  have hti := hg i h0 hi
  have hr := rdT_get (l := l) h0 hi
  have hb := thrOk_true.1 hti
  have hmem : rd_T38 l i ∈ l := by rw [hr]; exact List.getElem_mem _
  rw [(allC_le (P := undP (l.eraseIdx i.toNat)) (Q := undP l) (d := 101) (x := 0) ?_).2]
  · unfold hidQ
    rw [hidD_true]
    constructor
    · intro h u a b
      have bt := topY_bd hti a (by omega)
      refine h u (topY (rd_T38 l i) u) a (by omega) (by omega) (by omega) ?_
      rw [und_iff hm a (by omega) (by omega) (by omega)]
      refine ⟨_, hmem, ?_⟩
      have e : (rd_T38 l i).f0 * (rd_T38 l i).f1 = u * (rd_T38 l i).f1 + (rd_T38 l i).f1 * ((rd_T38 l i).f0 - u) := by
        rw [Int.mul_sub, Int.mul_comm u, Int.mul_comm (rd_T38 l i).f0]; omega
      omega
    · intro h u z a b c d hq
      obtain ⟨s, hs, hsu⟩ := (und_iff hm a (by omega) c (by omega)).1 hq
      rcases hid_mem hlt hs with e | e
      · rw [← hr] at e
        subst e
        have e : (rd_T38 l i).f0 * (rd_T38 l i).f1 = u * (rd_T38 l i).f1 + (rd_T38 l i).f1 * ((rd_T38 l i).f0 - u) := by
          rw [Int.mul_sub, Int.mul_comm u, Int.mul_comm (rd_T38 l i).f0]; omega
        have hu : u ≤ (rd_T38 l i).f0 := by
          rcases Int.lt_or_le (rd_T38 l i).f0 u with h1 | h1
          · exfalso
            have h2 := Int.mul_nonneg c (show 0 ≤ (rd_T38 l i).f0 by omega)
            have h3 : 0 < (rd_T38 l i).f1 * (u - (rd_T38 l i).f0) := Int.mul_pos (by omega) (by omega)
            have h4 : (rd_T38 l i).f1 * ((rd_T38 l i).f0 - u) = -((rd_T38 l i).f1 * (u - (rd_T38 l i).f0)) := by
              rw [← Int.mul_neg]; congr 1; omega
            omega
          · exact h1
        have bt := topY_bd hti a hu
        have hz := bt.2.2.2 z (by omega)
        have h1 := h u a (by omega)
        obtain ⟨s, hs, hsu⟩ := (und_iff hm2 a (by omega) (by omega) (by omega)).1 h1
        refine (und_iff hm2 a (by omega) c (by omega)).2 ⟨s, hs, ?_⟩
        have hbs := thrOk_true.1 (hm2 s hs)
        have := Int.mul_le_mul_of_nonneg_right hz (show 0 ≤ s.f0 by omega)
        omega
      · exact (und_iff hm2 a (by omega) c (by omega)).2 ⟨s, e, hsu⟩
  · intro u z a b c d hp
    obtain ⟨s, hs, hsu⟩ := (und_iff hm2 a (by omega) c (by omega)).1 hp
    exact (und_iff hm a (by omega) c (by omega)).2 ⟨s, hsub s hs, hsu⟩
theorem hid_key (l : List S38) (hm : (l.length : Int) ≤ 1048576) : ∃ r : List Int × Bool, (r.1.length : Int) ≤ 1000 ∧ spec_HiddenThreads.f 1100000 l = some r ∧ impl_HiddenThreads.f 1100000 l = some r := by
  unfold spec_HiddenThreads.f impl_HiddenThreads.f
  rw [good_s hm (by omega), good_i hm (by omega)]
  simp only [Option.bind_some]
  by_cases h : goodT l = true
  · obtain ⟨h1, h2, hg⟩ := goodT_true h
    rw [if_pos h, if_pos h, show (1100000 : Nat) = 1099999 + 1 from rfl, spec_HiddenThreads.j0]
    by_cases h3 : l.length = 1
    · rw [if_pos (by simp [h3]), if_pos h3]
      exact ⟨([], false), by simp, rfl, rfl⟩
    · rw [if_neg (by simp; omega), if_neg h3, hid_l0 l h2 hg l.length 1099999 [] 0 (by omega) (by omega) (by omega) (by simp), cu_f l (by omega)]
      simp only [Option.bind_some]
      rw [if_pos]
      · refine ⟨(numsD (hidQ l) 0 l.length, true), ?_, by simp, ?_⟩
        · have := numsD_len (hidQ l) 0 l.length
          simp only; omega
        · rw [numsW_numsD, show ((l.length : Int) - 1 + 1 - 0).toNat = l.length by omega]
          congr 2
          refine numsD_congr fun x a b => ?_
          rw [cu_f _ (by omega)]
          have := hid_cnt hg a (show x < l.length by omega)
          rw [Bool.eq_iff_iff, ← this]
          simp
      · rw [hidAll_iff]
        exact ⟨⟨by omega, by omega⟩, fun x _ => ⟨_, cu_f _ (by omega)⟩⟩
  · rw [if_neg h, if_neg h, show (1100000 : Nat) = 1099999 + 1 from rfl, spec_HiddenThreads.j0, if_pos rfl]
    exact ⟨([], false), by simp, rfl, rfl⟩
theorem FnExactHiddenThreads : ∀ (l0 : List (S35)), l0.length * 16 ≤ 140737488351232 → (∀ x ∈ l0, (Lit.int .i64 x.f0).wf = true ∧ (Lit.int .i64 x.f1).wf = true) → ∃ k, laws_FnExactHiddenThreads.f k l0 = some true := by
  intro l h16 _
  by_cases hl : (l.length : Int) > 1048576
  · refine ⟨0, ?_⟩
    unfold laws_FnExactHiddenThreads.f
    rw [szThreadS_far hl h16]; rfl
  · have hm : ((l.map cv).length : Int) ≤ 1048576 := by simp; omega
    obtain ⟨r, hr, hs, hi⟩ := hid_key (l.map cv) hm
    refine ⟨1100000, ?_⟩
    unfold laws_FnExactHiddenThreads.f
    rw [szThreadS_near hl]
    simp only [Option.bind_some]
    rw [if_neg (by omega), toThreadS_f (by omega) (by omega)]
    simp only [Option.bind_some]
    rw [hs]
    simp only [Option.bind_some]
    rw [hi]
    simp only [Option.bind_some]
    rw [eqIntS_self (by omega) (by omega)]
    simp only [Option.bind_some, if_true, bne_self_eq_false, Bool.false_eq_true, if_false]
    rw [eqThreadS_self (by omega) (by omega)]
    simp only [Option.bind_some, if_true]
    rw [markThreadS_f (by omega) (by omega) (by omega) (by omega)]
    simp only [Option.bind_some]
    rw [if_neg (by omega), markIntS_f (by omega) (by omega) (by omega) (by omega)]
    simp only [Option.bind_some]
    rw [heldIntS_f (by omega) (by omega) (by omega) (by omega)]
    simp only [Option.bind_some, if_true]
    rw [if_neg (by omega), if_neg (by omega)]

end Go.Proofs.Ytafbnilpipcjfaa.Pure
