/- What is proved: the pure statement of the law FnExactCountMeetings, about numbers and lists alone; no condition. -/
import Derived.Test.YteielocamgkabaaPx31
namespace Go.Proofs.Yteielocamgkabaa.Pure
open Go.RowKit Go.Proofs.Yteielocamgkabaa.P Go.Proofs.YteielocamgkabaaW.PrintWords Go.Proofs.YteielocamgkabaaW.PrintLast
set_option linter.unusedVariables false
set_option linter.unusedSimpArgs false

theorem wrap_id {x : Int} (h : -9000000000000000000 ≤ x) (h2 : x ≤ 9000000000000000000) : wrap64 x = x := by unfold wrap64; omega
/-- A number from lo to hi. -/
def rg (n lo hi : Int) : Bool := decide (lo ≤ n ∧ n ≤ hi)
theorem rg_true {n lo hi : Int} : rg n lo hi = true ↔ lo ≤ n ∧ n ≤ hi := by simp [rg]
theorem l1In_rg (n lo hi : Int) : spec_l1In.f n lo hi = some (rg n lo hi) := by
  unfold spec_l1In.f rg
  by_cases h : n ≥ lo
  · rw [if_pos h]; congr 1; simp only [decide_eq_decide]; omega
  · rw [if_neg h]; congr 1; exact (decide_eq_false (by omega)).symm
theorem within_rg (n lo hi : Int) : impl_within.f n lo hi = some (rg n lo hi) := by
  unfold impl_within.f rg
  by_cases h : n ≥ lo
  · rw [if_pos h]; congr 1; simp only [decide_eq_decide]; omega
  · rw [if_neg h]; congr 1; exact (decide_eq_false (by omega)).symm
/-- A thread. -/
def thrOk (a b : Int) : Bool := rg a 1 100 && rg b 1 100
theorem thrOk_true {a b : Int} : thrOk a b = true ↔ 1 ≤ a ∧ a ≤ 100 ∧ 1 ≤ b ∧ b ≤ 100 := by
  simp only [thrOk, Bool.and_eq_true, rg_true]; omega
theorem sgThread_eq (a b : Int) : spec_sgThread.f a b = some (thrOk a b) := by
  unfold spec_sgThread.f thrOk
  rw [l1In_rg, l1In_rg]
  cases rg a 1 100 <;> rfl
theorem isThread_eq (a b : Int) : impl_isThread.f a b = some (thrOk a b) := by
  unfold impl_isThread.f thrOk
  rw [within_rg, within_rg]
  cases rg a 1 100 <;> rfl
theorem rdT_get {l : List S26} {i : Int} (h0 : 0 ≤ i) (h1 : i < (l.length : Int)) : rd_T26 l i = l[i.toNat]'(by omega) := by
  simp [rd_T26, List.getD_eq_getElem?_getD, List.getElem?_eq_getElem (show i.toNat < l.length by omega)]
theorem rdL_get {l : List S23} {i : Int} (h0 : 0 ≤ i) (h1 : i < (l.length : Int)) : rd_T23 l i = l[i.toNat]'(by omega) := by
  simp [rd_T23, List.getD_eq_getElem?_getD, List.getElem?_eq_getElem (show i.toNat < l.length by omega)]
theorem eqThreadS_l0 (l : List S26) (hl : (l.length : Int) ≤ 1000000000000) (d : Nat) : ∀ (k : Nat) (i : Int), 0 ≤ i → i + d = l.length → d < k → laws_eqThreadS.l0 k l l i = some true := by
  induction d with
  | zero =>
    intro k i h0 hi hk
    obtain ⟨k, rfl⟩ : ∃ m, k = m + 1 := ⟨k - 1, by omega⟩
    rw [laws_eqThreadS.l0, if_neg (by omega)]
  | succ d ih =>
    intro k i h0 hi hk
    obtain ⟨k, rfl⟩ : ∃ m, k = m + 1 := ⟨k - 1, by omega⟩
    rw [laws_eqThreadS.l0, if_pos (by omega), if_pos h0, if_pos (by omega)]
    unfold laws_eqThread.f
    rw [if_pos rfl, if_pos rfl]
    simp only [Option.bind_some, if_true]
    rw [wrap_id (by omega) (by omega)]
    exact ih k (i + 1) (by omega) (by omega) (by omega)
theorem eqThreadS_self {l : List S26} (hl : (l.length : Int) ≤ 1000000000000) {k : Nat} (hk : l.length < k) : laws_eqThreadS.f k l l = some true := by
  unfold laws_eqThreadS.f
  rw [if_pos rfl]
  exact eqThreadS_l0 l hl l.length k 0 (by omega) (by omega) hk
/-- A thread, as the laws take it, told as one of the program's. -/
def cv (x : S23) : S26 := ⟨x.f0, x.f1⟩
theorem toThreadS_l0 (l : List S23) (hl : (l.length : Int) ≤ 1000000000000) (d : Nat) : ∀ (k : Nat) (r : List S26) (i : Int), 0 ≤ i → i + d = l.length → r.length = l.length → r.take i.toNat = (l.take i.toNat).map cv → d < k → laws_toThreadS.l0 k l r i = some (l.map cv) := by
  induction d with
  | zero =>
    intro k r i h0 hi hr ht hk
    obtain ⟨k, rfl⟩ : ∃ m, k = m + 1 := ⟨k - 1, by omega⟩
    rw [laws_toThreadS.l0, if_neg (by omega)]
    rw [List.take_of_length_le (by omega), List.take_of_length_le (by omega)] at ht
    rw [ht]
  | succ d ih =>
    intro k r i h0 hi hr ht hk
    obtain ⟨k, rfl⟩ : ∃ m, k = m + 1 := ⟨k - 1, by omega⟩
    rw [laws_toThreadS.l0, if_pos (by omega), if_pos h0]
    unfold laws_toThread.f
    simp only [Option.bind_some]
    rw [if_pos (by omega), wrap_id (by omega) (by omega)]
    refine ih k _ (i + 1) (by omega) (by omega) (by rw [List.length_set]; exact hr) ?_ (by omega)
    rw [show (i + 1).toNat = i.toNat + 1 by omega, List.take_succ_eq_append_getElem (by rw [List.length_set]; omega), List.take_set_of_le (Nat.le_refl _), ht,
      List.take_succ_eq_append_getElem (show i.toNat < l.length by omega), List.map_append, rdL_get h0 (by omega)]
    simp [cv]
theorem toThreadS_f {l : List S23} {k : Nat} (hl : (l.length : Int) ≤ 1048576) (hk : 1048577 < k) : laws_toThreadS.f k l = some (l.map cv) := by
  unfold laws_toThreadS.f
  rw [if_pos (by omega), if_pos (by simp; omega)]
  exact toThreadS_l0 l (by omega) l.length k _ 0 (by omega) (by omega) (by simp) (by simp) (by omega)
/-- A thread that comes before another one. -/
def lessB (a b c d : Int) : Bool := decide (a < c ∨ a = c ∧ b < d)
theorem sgLess_eq (a b c d : Int) : spec_sgLess.f a b c d = some (lessB a b c d) := by
  unfold spec_sgLess.f lessB
  repeat' split
  all_goals (congr 1; first | (rw [eq_comm, decide_eq_true_iff]; omega) | (rw [eq_comm, decide_eq_false_iff_not]; omega) | (rw [decide_eq_decide]; omega))
theorem cmpInt_eq (a b : Int) : cmp_Compare_int.f a b = some (if a < b then -1 else if a > b then 1 else 0) := by
  unfold cmp_Compare_int.f cmp_isNaN_int.f
  simp only [Option.bind_some, bne_self_eq_false]
  rw [if_neg (by decide), if_neg (by decide)]
  repeat' split
  all_goals rfl
theorem cmpOr_eq (a b : Int) {k : Nat} (hk : 3 ≤ k) : cmp_Or_int.f k [a, b] = some (if a = 0 then b else a) := by
  obtain ⟨k, rfl⟩ : ∃ m, k = m + 1 + 1 + 1 := ⟨k - 3, by omega⟩
  unfold cmp_Or_int.f
  rw [cmp_Or_int.l0, if_pos (by simp), if_pos (by omega), if_pos (by simp), wrap_id (by omega) (by omega)]
  have e0 : rd [a, b] 0 = a := rfl
  rw [e0]
  by_cases h : a = 0
  · rw [if_pos h, if_pos h, cmp_Or_int.l0, if_pos (by simp), if_pos (by omega), if_pos (by simp), wrap_id (by omega) (by omega)]
    have e1 : rd [a, b] (0 + 1) = b := rfl
    rw [e1]
    by_cases h2 : b = 0
    · rw [if_pos h2, cmp_Or_int.l0, if_neg (by simp), h2]
    · rw [if_neg h2]
  · rw [if_neg h, if_neg h]
theorem compareThreads_eq (a b c d : Int) {k : Nat} (hk : 3 ≤ k) : ∃ r : Int, impl_compareThreads.f k a b c d = some r ∧ (r < 0 ↔ lessB a b c d = true) ∧ (r = 0 ↔ a = c ∧ b = d) := by
  unfold impl_compareThreads.f
  rw [cmpInt_eq, cmpInt_eq]
  simp only [Option.bind_some]
  rw [cmpOr_eq _ _ hk]
  refine ⟨_, rfl, ?_, ?_⟩
  · simp only [lessB, decide_eq_true_eq]
    repeat' split
    all_goals omega
  · repeat' split
    all_goals omega
/-- Threads i, i + 1, .. of the next d, each behind the one before. -/
def chkD (l : List S26) (i : Int) : Nat → Bool
  | 0 => true
  | d + 1 => thrOk (rd_T26 l i).f0 (rd_T26 l i).f1 && (decide (i ≤ 0) || lessB (rd_T26 l (i - 1)).f0 (rd_T26 l (i - 1)).f1 (rd_T26 l i).f0 (rd_T26 l i).f1) && chkD l (i + 1) d
theorem chkD_thr {l : List S26} : ∀ {d : Nat} {i : Int}, chkD l i d = true → ∀ j, i ≤ j → j < i + d → thrOk (rd_T26 l j).f0 (rd_T26 l j).f1 = true
  | 0, i, _, j, h1, h2 => by omega
  | d + 1, i, h, j, h1, h2 => by
    simp only [chkD, Bool.and_eq_true] at h
    rcases Int.lt_or_eq_of_le h1 with h3 | h3
    · exact chkD_thr h.2 j (by omega) (by omega)
    · rw [← h3]; exact h.1.1
/-- Threads in order. -/
def goodT (l : List S26) : Bool := rg l.length 1 30 && chkD l 0 l.length
theorem goodT_true {l : List S26} (h : goodT l = true) : 1 ≤ (l.length : Int) ∧ (l.length : Int) ≤ 30 ∧ ∀ i : Int, 0 ≤ i → i < l.length → thrOk (rd_T26 l i).f0 (rd_T26 l i).f1 = true := by
  simp only [goodT, Bool.and_eq_true, rg_true] at h
  exact ⟨h.1.1, h.1.2, fun i h0 h1 => chkD_thr h.2 i h0 (by omega)⟩
theorem good_s_l0 (l : List S26) (hl : (l.length : Int) ≤ 1000000000000) (d : Nat) : ∀ (k : Nat) (i : Int), 0 ≤ i → i + d = l.length → d < k → spec_sgGood.l0 k l l (l.length : Int) i = some (chkD l i d) := by
  induction d with
  | zero =>
    intro k i h0 hi hk
    obtain ⟨k, rfl⟩ : ∃ m, k = m + 1 := ⟨k - 1, by omega⟩
    rw [spec_sgGood.l0, if_neg (by omega)]; rfl
  | succ d ih =>
    intro k i h0 hi hk
    obtain ⟨k, rfl⟩ : ∃ m, k = m + 1 := ⟨k - 1, by omega⟩
    rw [spec_sgGood.l0, if_pos (by omega), if_pos h0, if_pos (by omega), sgThread_eq, wrap_id (x := i + 1) (by omega) (by omega), wrap_id (x := i - 1) (by omega) (by omega), ih k (i + 1) (by omega) (by omega) (by omega)]
    simp only [Option.bind_some, chkD]
    by_cases h : thrOk (rd_T26 l i).f0 (rd_T26 l i).f1 = true
    · rw [if_pos h, h]
      by_cases h2 : i > 0
      · rw [if_pos h2, if_pos (by omega), if_pos (by omega), sgLess_eq, decide_eq_false (show ¬ i ≤ 0 by omega)]
        simp only [Option.bind_some]
        cases lessB (rd_T26 l (i - 1)).f0 (rd_T26 l (i - 1)).f1 (rd_T26 l i).f0 (rd_T26 l i).f1 <;> simp
      · rw [if_neg h2, decide_eq_true (show i ≤ 0 by omega)]; simp
    · rw [if_neg h]; simp only [Bool.not_eq_true] at h; rw [h]; rfl
theorem good_s {l : List S26} {k : Nat} (hl : (l.length : Int) ≤ 1048576) (hk : 1048577 < k) : spec_sgGood.f k l = some (goodT l) := by
  unfold spec_sgGood.f goodT
  rw [l1In_rg]
  simp only [Option.bind_some]
  by_cases h : rg l.length 1 30 = true
  · rw [if_pos h, good_s_l0 l (by omega) l.length k 0 (by omega) (by omega) (by omega), h]; simp
  · rw [if_neg h]; simp only [Bool.not_eq_true] at h; rw [h]; rfl
theorem good_i_l0 (l : List S26) (hl : (l.length : Int) ≤ 1000000000000) (d : Nat) : ∀ (k : Nat) (i : Int), 0 ≤ i → i + d = l.length → d + 4 < k → impl_AreThreads.l0 k l l (l.length : Int) i = some (chkD l i d && rg l.length 1 30) := by
  induction d with
  | zero =>
    intro k i h0 hi hk
    obtain ⟨k, rfl⟩ : ∃ m, k = m + 1 := ⟨k - 1, by omega⟩
    rw [impl_AreThreads.l0, if_neg (by omega), within_rg]; simp [chkD]
  | succ d ih =>
    intro k i h0 hi hk
    obtain ⟨k, rfl⟩ : ∃ m, k = m + 1 := ⟨k - 1, by omega⟩
    rw [impl_AreThreads.l0, if_pos (by omega), if_pos h0, if_pos (by omega), isThread_eq, wrap_id (x := i + 1) (by omega) (by omega), wrap_id (x := i - 1) (by omega) (by omega), ih k (i + 1) (by omega) (by omega) (by omega)]
    simp only [Option.bind_some, chkD]
    by_cases h : thrOk (rd_T26 l i).f0 (rd_T26 l i).f1 = true
    · rw [if_pos h, h]
      by_cases h2 : i > 0
      · obtain ⟨r, h3, h4, _⟩ := compareThreads_eq (rd_T26 l (i - 1)).f0 (rd_T26 l (i - 1)).f1 (rd_T26 l i).f0 (rd_T26 l i).f1 (k := k) (by omega)
        rw [if_pos h2, if_pos (by omega), if_pos (by omega), h3, decide_eq_false (show ¬ i ≤ 0 by omega)]
        simp only [Option.bind_some]
        by_cases h5 : r < 0
        · rw [if_neg (by omega), h4.1 h5]; simp
        · rw [if_pos (by omega)]
          have : lessB (rd_T26 l (i - 1)).f0 (rd_T26 l (i - 1)).f1 (rd_T26 l i).f0 (rd_T26 l i).f1 = false := by
            rw [← Bool.not_eq_true]; exact fun e => h5 (h4.2 e)
          rw [this]; simp
      · rw [if_neg h2, decide_eq_true (show i ≤ 0 by omega)]; simp
    · rw [if_neg h]; simp only [Bool.not_eq_true] at h; rw [h]; rfl
theorem good_i {l : List S26} {k : Nat} (hl : (l.length : Int) ≤ 1048576) (hk : 1048590 < k) : impl_AreThreads.f k l = some (goodT l) := by
  unfold impl_AreThreads.f goodT
  rw [good_i_l0 l (by omega) l.length k 0 (by omega) (by omega) (by omega), Bool.and_comm]
theorem szThreadS_far {l : List S23} (h : (l.length : Int) > 1048576) (h2 : l.length * 16 ≤ 140737488351232) : laws_szThreadS.f l 1048576 = some (-1) := by
  unfold laws_szThreadS.f
  rw [wrap_id (by omega) (by omega), if_pos (by omega)]
theorem szThreadS_near {l : List S23} (h : ¬ (l.length : Int) > 1048576) : laws_szThreadS.f l 1048576 = some (1048576 - (l.length : Int)) := by
  unfold laws_szThreadS.f
  rw [wrap_id (by omega) (by omega), if_neg (by omega)]
/-- Threads that cross. -/
def crossB (a b c d : Int) : Bool := decide (a > c ∧ b < d ∨ a < c ∧ b > d)
theorem sgMeet_eq (a b c d : Int) : spec_sgMeet.f a b c d = some (crossB a b c d) := by
  unfold spec_sgMeet.f crossB
  repeat' split
  all_goals (congr 1; first | (rw [eq_comm, decide_eq_true_iff]; omega) | (rw [eq_comm, decide_eq_false_iff_not]; omega) | (rw [decide_eq_decide]; omega))
theorem doMeetT_eq (a b c d : Int) : impl_doThreadsMeet.f a b c d = some (crossB a b c d) := by
  unfold impl_doThreadsMeet.f crossB
  repeat' split
  all_goals (congr 1; first | (rw [eq_comm, decide_eq_true_iff]; omega) | (rw [eq_comm, decide_eq_false_iff_not]; omega) | (rw [decide_eq_decide]; omega))
theorem crossB_comm (a b c d : Int) : crossB a b c d = crossB c d a b := by
  unfold crossB; rw [decide_eq_decide]; omega
/-- Two threads that cross. -/
def cr (s t : S26) : Bool := crossB s.f0 s.f1 t.f0 t.f1
theorem cr_comm (s t : S26) : cr s t = cr t s := crossB_comm _ _ _ _
/-- How many pairs cross. -/
def prs : List S26 → Nat
  | [] => 0
  | x :: t => t.countP (cr x) + prs t
theorem prs_snoc (l : List S26) (x : S26) : prs (l ++ [x]) = prs l + l.countP (cr x) := by
  induction l with
  | nil => simp [prs]
  | cons y l ih =>
    simp only [List.cons_append, prs, ih, List.countP_append, List.countP_cons, List.countP_nil]
    rw [cr_comm y x]; omega
theorem prs_le (l : List S26) : prs l ≤ l.length * l.length := by
  induction l with
  | nil => simp [prs]
  | cons y l ih =>
    simp only [prs, List.length_cons]
    have := List.countP_le_length (p := cr y) (l := l)
    have e : (l.length + 1) * (l.length + 1) = l.length * l.length + 2 * l.length + 1 := by grind
    omega
theorem meet_in_s (s : S26) (l v x12 : List S26) (x13 x14 : Int) (hv : (v.length : Int) ≤ 1000000) (d : Nat) : ∀ (k : Nat) (c j : Int), 0 ≤ j → j + d = v.length → 0 ≤ c → c + d ≤ 1000000 →
    spec_CountMeetings.l1 (k + d + 1) l c x12 x13 x14 v (v.length : Int) j s.f0 s.f1 = spec_CountMeetings.l0 k l (c + ((v.drop j.toNat).countP (cr s) : Nat)) x12 x13 (wrap64 (x14 + 1)) := by
  induction d with
  | zero =>
    intro k c j hj hd hc hc2
    rw [Nat.add_zero, spec_CountMeetings.l1, if_neg (by omega), List.drop_eq_nil_of_le (by omega)]; simp
  | succ d ih =>
    intro k c j hj hd hc hc2
    rw [show k + (d + 1) + 1 = (k + d + 1) + 1 by omega, spec_CountMeetings.l1, if_pos (by omega), if_pos hj, if_pos (by omega), sgMeet_eq, wrap_id (x := j + 1) (by omega) (by omega), wrap_id (x := c + 1) (by omega) (by omega)]
    simp only [Option.bind_some]
    rw [List.drop_eq_getElem_cons (by omega), ← rdT_get hj (by omega), List.countP_cons, show crossB s.f0 s.f1 (rd_T26 v j).f0 (rd_T26 v j).f1 = cr s (rd_T26 v j) from rfl, show j.toNat + 1 = (j + 1).toNat by omega]
    by_cases h : cr s (rd_T26 v j) = true
    · rw [if_pos h, ih k (c + 1) (j + 1) (by omega) (by omega) (by omega) (by omega), if_pos h]
      congr 1; omega
    · rw [if_neg h, ih k c (j + 1) (by omega) (by omega) hc (by omega), if_neg h]; rfl
theorem meet_in_i (s : S26) (l v x12 : List S26) (x13 x14 : Int) (hv : (v.length : Int) ≤ 1000000) (d : Nat) : ∀ (k : Nat) (c j : Int), 0 ≤ j → j + d = v.length → 0 ≤ c → c + d ≤ 1000000 →
    impl_CountMeetings.l1 (k + d + 1) l c x12 x13 x14 v (v.length : Int) j s.f0 s.f1 = impl_CountMeetings.l0 k l (c + ((v.drop j.toNat).countP (cr s) : Nat)) x12 x13 (wrap64 (x14 + 1)) := by
  induction d with
  | zero =>
    intro k c j hj hd hc hc2
    rw [Nat.add_zero, impl_CountMeetings.l1, if_neg (by omega), List.drop_eq_nil_of_le (by omega)]; simp
  | succ d ih =>
    intro k c j hj hd hc hc2
    rw [show k + (d + 1) + 1 = (k + d + 1) + 1 by omega, impl_CountMeetings.l1, if_pos (by omega), if_pos hj, if_pos (by omega), doMeetT_eq, wrap_id (x := j + 1) (by omega) (by omega), wrap_id (x := c + 1) (by omega) (by omega)]
    simp only [Option.bind_some]
    rw [List.drop_eq_getElem_cons (by omega), ← rdT_get hj (by omega), List.countP_cons, show crossB s.f0 s.f1 (rd_T26 v j).f0 (rd_T26 v j).f1 = cr s (rd_T26 v j) from rfl, show j.toNat + 1 = (j + 1).toNat by omega]
    by_cases h : cr s (rd_T26 v j) = true
    · rw [if_pos h, ih k (c + 1) (j + 1) (by omega) (by omega) (by omega) (by omega), if_pos h]
      congr 1; omega
    · rw [if_neg h, ih k c (j + 1) (by omega) (by omega) hc (by omega), if_neg h]; rfl
theorem count_s (l : List S26) (hl : (l.length : Int) ≤ 30) (d : Nat) : ∀ (k : Nat) (c i : Int), 0 ≤ i → i + d = l.length → 32 * d < k → 0 ≤ c → c + (prs (l.drop i.toNat) : Nat) ≤ 900 → spec_CountMeetings.l0 k l c l (l.length : Int) i = some (c + (prs (l.drop i.toNat) : Nat), true) := by
  induction d with
  | zero =>
    intro k c i hi hd hk hc hc2
    obtain ⟨k, rfl⟩ : ∃ m, k = m + 1 := ⟨k - 1, by omega⟩
    rw [spec_CountMeetings.l0, if_neg (by omega), List.drop_eq_nil_of_le (by omega)]; simp [prs]
  | succ d ih =>
    intro k c i hi hd hk hc hc2
    obtain ⟨k, rfl⟩ : ∃ m, k = (m + d + 1) + 1 := ⟨k - d - 2, by omega⟩
    rw [spec_CountMeetings.l0, if_pos (by omega), if_pos hi, if_pos (by omega), wrap_id (x := i + 1) (by omega) (by omega), if_pos (by omega), if_pos (by omega)]
    simp only [Option.bind_some]
    have e : l.drop i.toNat = rd_T26 l i :: l.drop (i + 1).toNat := by
      rw [List.drop_eq_getElem_cons (by omega), ← rdT_get hi (by omega), show i.toNat + 1 = (i + 1).toNat by omega]
    have ev : ((l.drop (i + 1).toNat).length : Int) = d := by rw [List.length_drop]; omega
    rw [e] at hc2 ⊢
    simp only [prs] at hc2 ⊢
    rw [meet_in_s (rd_T26 l i) l (l.drop (i + 1).toNat) l _ i (by omega) d k c 0 (by omega) (by omega) hc (by omega), show ((0 : Int)).toNat = 0 from rfl, List.drop_zero, wrap_id (x := i + 1) (by omega) (by omega),
      ih k _ (i + 1) (by omega) (by omega) (by omega) (by omega) (by omega)]
    congr 2; omega
theorem count_i (l : List S26) (hl : (l.length : Int) ≤ 30) (d : Nat) : ∀ (k : Nat) (i : Int), 0 ≤ i → i + d = l.length → 32 * d < k → impl_CountMeetings.l0 k l ((prs (l.take i.toNat) : Nat) : Int) l (l.length : Int) i = some (((prs l : Nat) : Int), true) := by
  induction d with
  | zero =>
    intro k i hi hd hk
    obtain ⟨k, rfl⟩ : ∃ m, k = m + 1 := ⟨k - 1, by omega⟩
    rw [impl_CountMeetings.l0, if_neg (by omega), List.take_of_length_le (by omega)]
  | succ d ih =>
    intro k i hi hd hk
    obtain ⟨k, rfl⟩ : ∃ m, k = (m + i.toNat + 1) + 1 := ⟨k - i.toNat - 2, by omega⟩
    rw [impl_CountMeetings.l0, if_pos (by omega), if_pos hi, if_pos (by omega), if_pos (by omega)]
    simp only [Option.bind_some]
    have e : l.take (i + 1).toNat = l.take i.toNat ++ [rd_T26 l i] := by
      rw [show (i + 1).toNat = i.toNat + 1 by omega, List.take_succ_eq_append_getElem (by omega), ← rdT_get hi (by omega)]
    have ev : (l.take i.toNat).length = i.toNat := by rw [List.length_take]; omega
    have hp := prs_le (l.take i.toNat)
    rw [ev] at hp
    have hq : i.toNat * i.toNat ≤ 30 * 30 := Nat.mul_le_mul (by omega) (by omega)
    rw [meet_in_i (rd_T26 l i) l (l.take i.toNat) l _ i (by omega) i.toNat k _ 0 (by omega) (by omega) (by omega) (by omega), wrap_id (x := i + 1) (by omega) (by omega)]
    have h := ih k (i + 1) (by omega) (by omega) (by omega)
    rw [e, prs_snoc] at h
    rw [← h]
    congr 1
theorem close_CountMeetings {l : List S23} (hl : ¬ (l.length : Int) > 1048576) (r : Int × Bool) (hs : ∀ k, 1048700 < k → spec_CountMeetings.f k (l.map cv) = some r) (hi : ∀ k, 1048700 < k → impl_CountMeetings.f k (l.map cv) = some r) : ∃ k, laws_FnExactCountMeetings.f k l = some true := by
  refine ⟨1049000 + 1, ?_⟩
  have hm : ((l.map cv).length : Int) ≤ 1048576 := by simp; omega
  unfold laws_FnExactCountMeetings.f
  rw [szThreadS_near hl]
  simp only [Option.bind_some]
  rw [if_neg (by omega), toThreadS_f (by omega) (by omega)]
  simp only [Option.bind_some]
  rw [hs _ (by omega), hi _ (by omega)]
  simp only [Option.bind_some, if_true, bne_self_eq_false]
  rw [laws_FnExactCountMeetings.j0, if_neg (by decide), toThreadS_f (by omega) (by omega)]
  simp only [Option.bind_some]
  rw [eqThreadS_self (by omega) (by omega)]
  rfl
theorem FnExactCountMeetings : ∀ (l0 : List (S23)), l0.length * 16 ≤ 140737488351232 → (∀ x ∈ l0, (Lit.int .i64 x.f0).wf = true ∧ (Lit.int .i64 x.f1).wf = true) → ∃ k, laws_FnExactCountMeetings.f k l0 = some true := by
  intro l h16 _
  by_cases hl : (l.length : Int) > 1048576
  · refine ⟨0, ?_⟩
    unfold laws_FnExactCountMeetings.f
    rw [szThreadS_far hl h16]; rfl
  · have hm : ((l.map cv).length : Int) ≤ 1048576 := by simp; omega
    generalize hL : l.map cv = L at hm
    by_cases h : goodT L = true
    · have hb := goodT_true h
      have hp := prs_le L
      have hq : L.length * L.length ≤ 30 * 30 := Nat.mul_le_mul (by omega) (by omega)
      refine close_CountMeetings hl (((prs L : Nat) : Int), true) ?_ ?_
      · intro k hk
        unfold spec_CountMeetings.f
        rw [hL, good_s hm (by omega), h]
        simp only [Option.bind_some, if_true]
        rw [count_s L (by omega) L.length k 0 0 (by omega) (by omega) (by omega) (by omega) (by simp; omega)]
        simp
      · intro k hk
        unfold impl_CountMeetings.f
        rw [hL, good_i hm (by omega), h]
        simp only [Option.bind_some, if_true]
        have := count_i L (by omega) L.length k 0 (by omega) (by omega) (by omega)
        simpa [prs] using this
    · simp only [Bool.not_eq_true] at h
      refine close_CountMeetings hl (0, false) ?_ ?_
      · intro k hk
        unfold spec_CountMeetings.f
        rw [hL, good_s hm (by omega), h]; rfl
      · intro k hk
        unfold impl_CountMeetings.f
        rw [hL, good_i hm (by omega), h]; rfl

end Go.Proofs.Yteielocamgkabaa.Pure
