/- What is proved: the pure statement of the law FnExactThreadsText, about numbers and lists alone; no condition. -/
import Derived.Test.YtpkkcocacanclaaDoorPx10
import Derived.Lib.Join
namespace Go.Proofs.YtpkkcocacanclaaDoor.Pure
open Go.RowKit Go.Proofs.YtpkkcocacanclaaDoor.P Go.Proofs.YtpkkcocacanclaaDoorW.PrintWords Go.Proofs.YtpkkcocacanclaaDoorW.PrintLast
set_option linter.unusedVariables false
set_option linter.unusedSimpArgs false

theorem wrap_id {x : Int} (h : -9000000000000000000 ≤ x) (h2 : x ≤ 9000000000000000000) : wrap64 x = x := by unfold wrap64; omega
/-- A number from lo to hi. -/
def rg (n lo hi : Int) : Bool := decide (lo ≤ n ∧ n ≤ hi)
theorem rg_true {n lo hi : Int} : rg n lo hi = true ↔ lo ≤ n ∧ n ≤ hi := by simp [rg]
theorem l1In_rg (n lo hi : Int) : spec_l1In.f n lo hi = some (rg n lo hi) := by
  unfold spec_l1In.f rg
  by_cases h : n ≥ lo
  · rw [if_pos h]; congr 1; simp only [decide_eq_decide]; omega
  · rw [if_neg h]; congr 1; exact (decide_eq_false (by omega)).symm
theorem within_rg (n lo hi : Int) : impl_within.f n lo hi = some (rg n lo hi) := by
  unfold impl_within.f rg
  by_cases h : n ≥ lo
  · rw [if_pos h]; congr 1; simp only [decide_eq_decide]; omega
  · rw [if_neg h]; congr 1; exact (decide_eq_false (by omega)).symm
/-- A thread. -/
def thrOk (a b : Int) : Bool := rg a 1 100 && rg b 1 100
theorem thrOk_true {a b : Int} : thrOk a b = true ↔ 1 ≤ a ∧ a ≤ 100 ∧ 1 ≤ b ∧ b ≤ 100 := by
  simp only [thrOk, Bool.and_eq_true, rg_true]; omega
theorem sgThread_eq (a b : Int) : spec_sgThread.f a b = some (thrOk a b) := by
  unfold spec_sgThread.f thrOk
  rw [l1In_rg, l1In_rg]
  cases rg a 1 100 <;> rfl
theorem isThread_eq (a b : Int) : impl_isThread.f a b = some (thrOk a b) := by
  unfold impl_isThread.f thrOk
  rw [within_rg, within_rg]
  cases rg a 1 100 <;> rfl
theorem rdT_get {l : List S37} {i : Int} (h0 : 0 ≤ i) (h1 : i < (l.length : Int)) : rd_T37 l i = l[i.toNat]'(by omega) := by
  simp [rd_T37, List.getD_eq_getElem?_getD, List.getElem?_eq_getElem (show i.toNat < l.length by omega)]
theorem rdL_get {l : List S39} {i : Int} (h0 : 0 ≤ i) (h1 : i < (l.length : Int)) : rd_T39 l i = l[i.toNat]'(by omega) := by
  simp [rd_T39, List.getD_eq_getElem?_getD, List.getElem?_eq_getElem (show i.toNat < l.length by omega)]
theorem eqThreadS_l0 (l : List S37) (hl : (l.length : Int) ≤ 1000000000000) (d : Nat) : ∀ (k : Nat) (i : Int), 0 ≤ i → i + d = l.length → d < k → laws_eqThreadS.l0 k l l i = some true := by
  induction d with
  | zero =>
    intro k i h0 hi hk
    obtain ⟨k, rfl⟩ : ∃ m, k = m + 1 := ⟨k - 1, by omega⟩
    rw [laws_eqThreadS.l0, if_neg (by omega)]
  | succ d ih =>
    intro k i h0 hi hk
    obtain ⟨k, rfl⟩ : ∃ m, k = m + 1 := ⟨k - 1, by omega⟩
    rw [laws_eqThreadS.l0, if_pos (by omega), if_pos h0, if_pos (by omega)]
    unfold laws_eqThread.f
    rw [if_pos rfl, if_pos rfl]
    simp only [Option.bind_some, if_true]
    rw [wrap_id (by omega) (by omega)]
    exact ih k (i + 1) (by omega) (by omega) (by omega)
theorem eqThreadS_self {l : List S37} (hl : (l.length : Int) ≤ 1000000000000) {k : Nat} (hk : l.length < k) : laws_eqThreadS.f k l l = some true := by
  unfold laws_eqThreadS.f
  rw [if_pos rfl]
  exact eqThreadS_l0 l hl l.length k 0 (by omega) (by omega) hk
/-- A thread, as the laws take it, told as one of the program's. -/
def cv (x : S39) : S37 := ⟨x.f0, x.f1⟩
theorem toThreadS_l0 (l : List S39) (hl : (l.length : Int) ≤ 1000000000000) (d : Nat) : ∀ (k : Nat) (r : List S37) (i : Int), 0 ≤ i → i + d = l.length → r.length = l.length → r.take i.toNat = (l.take i.toNat).map cv → d < k → laws_toThreadS.l0 k l r i = some (l.map cv) := by
  induction d with
  | zero =>
    intro k r i h0 hi hr ht hk
    obtain ⟨k, rfl⟩ : ∃ m, k = m + 1 := ⟨k - 1, by omega⟩
    rw [laws_toThreadS.l0, if_neg (by omega)]
    rw [List.take_of_length_le (by omega), List.take_of_length_le (by omega)] at ht
    rw [ht]
  | succ d ih =>
    intro k r i h0 hi hr ht hk
    obtain ⟨k, rfl⟩ : ∃ m, k = m + 1 := ⟨k - 1, by omega⟩
    rw [laws_toThreadS.l0, if_pos (by omega), if_pos h0]
    unfold laws_toThread.f
    simp only [Option.bind_some]
    rw [if_pos (by omega), wrap_id (by omega) (by omega)]
    refine ih k _ (i + 1) (by omega) (by omega) (by rw [List.length_set]; exact hr) ?_ (by omega)
    rw [show (i + 1).toNat = i.toNat + 1 by omega, List.take_succ_eq_append_getElem (by rw [List.length_set]; omega), List.take_set_of_le (Nat.le_refl _), ht,
      List.take_succ_eq_append_getElem (show i.toNat < l.length by omega), List.map_append, rdL_get h0 (by omega)]
    simp [cv]
theorem toThreadS_f {l : List S39} {k : Nat} (hl : (l.length : Int) ≤ 1048576) (hk : 1048577 < k) : laws_toThreadS.f k l = some (l.map cv) := by
  unfold laws_toThreadS.f
  rw [if_pos (by omega), if_pos (by simp; omega)]
  exact toThreadS_l0 l (by omega) l.length k _ 0 (by omega) (by omega) (by simp) (by simp) (by omega)
/-- A thread that comes before another one. -/
def lessB (a b c d : Int) : Bool := decide (a < c ∨ a = c ∧ b < d)
theorem sgLess_eq (a b c d : Int) : spec_sgLess.f a b c d = some (lessB a b c d) := rfl
theorem cmpInt_eq (a b : Int) : cmp_Compare_int.f a b = some (if a < b then -1 else if a > b then 1 else 0) := by
  unfold cmp_Compare_int.f cmp_isNaN_int.f
  simp only [Option.bind_some, bne_self_eq_false]
  rw [if_neg (by decide), if_neg (by decide)]
  repeat' split
  all_goals rfl
theorem cmpOr_eq (a b : Int) {k : Nat} (hk : 3 ≤ k) : cmp_Or_int.f k [a, b] = some (if a = 0 then b else a) := by
  obtain ⟨k, rfl⟩ : ∃ m, k = m + 1 + 1 + 1 := ⟨k - 3, by omega⟩
  unfold cmp_Or_int.f
  rw [cmp_Or_int.l0, if_pos (by simp), if_pos (by omega), if_pos (by simp), wrap_id (by omega) (by omega)]
  have e0 : rd [a, b] 0 = a := rfl
  rw [e0]
  by_cases h : a = 0
  · rw [if_pos h, if_pos h, cmp_Or_int.l0, if_pos (by simp), if_pos (by omega), if_pos (by simp), wrap_id (by omega) (by omega)]
    have e1 : rd [a, b] (0 + 1) = b := rfl
    rw [e1]
    by_cases h2 : b = 0
    · rw [if_pos h2, cmp_Or_int.l0, if_neg (by simp), h2]
    · rw [if_neg h2]
  · rw [if_neg h, if_neg h]
theorem compareThreads_eq (a b c d : Int) {k : Nat} (hk : 3 ≤ k) : ∃ r : Int, impl_compareThreads.f k a b c d = some r ∧ (r < 0 ↔ lessB a b c d = true) ∧ (r = 0 ↔ a = c ∧ b = d) := by
  unfold impl_compareThreads.f
  rw [cmpInt_eq, cmpInt_eq]
  simp only [Option.bind_some]
  rw [cmpOr_eq _ _ hk]
  refine ⟨_, rfl, ?_, ?_⟩
  · simp only [lessB, decide_eq_true_eq]
    repeat' split
    all_goals omega
  · repeat' split
    all_goals omega
/-- Threads i, i + 1, .. of the next d, each behind the one before. -/
def chkD (l : List S37) (i : Int) : Nat → Bool
  | 0 => true
  | d + 1 => thrOk (rd_T37 l i).f0 (rd_T37 l i).f1 && (decide (i ≤ 0) || lessB (rd_T37 l (i - 1)).f0 (rd_T37 l (i - 1)).f1 (rd_T37 l i).f0 (rd_T37 l i).f1) && chkD l (i + 1) d
theorem chkD_thr {l : List S37} : ∀ {d : Nat} {i : Int}, chkD l i d = true → ∀ j, i ≤ j → j < i + d → thrOk (rd_T37 l j).f0 (rd_T37 l j).f1 = true
  | 0, i, _, j, h1, h2 => by omega
  | d + 1, i, h, j, h1, h2 => by
    simp only [chkD, Bool.and_eq_true] at h
    rcases Int.lt_or_eq_of_le h1 with h3 | h3
    · exact chkD_thr h.2 j (by omega) (by omega)
    · rw [← h3]; exact h.1.1
/-- Threads in order. -/
def goodT (l : List S37) : Bool := rg l.length 1 30 && chkD l 0 l.length
theorem goodT_true {l : List S37} (h : goodT l = true) : 1 ≤ (l.length : Int) ∧ (l.length : Int) ≤ 30 ∧ ∀ i : Int, 0 ≤ i → i < l.length → thrOk (rd_T37 l i).f0 (rd_T37 l i).f1 = true := by
  simp only [goodT, Bool.and_eq_true, rg_true] at h
  exact ⟨h.1.1, h.1.2, fun i h0 h1 => chkD_thr h.2 i h0 (by omega)⟩
theorem good_s_l0 (l : List S37) (hl : (l.length : Int) ≤ 1000000000000) (d : Nat) : ∀ (k : Nat) (i : Int), 0 ≤ i → i + d = l.length → d < k → spec_sgGood.l0 k l l (l.length : Int) i = some (chkD l i d) := by
  induction d with
  | zero =>
    intro k i h0 hi hk
    obtain ⟨k, rfl⟩ : ∃ m, k = m + 1 := ⟨k - 1, by omega⟩
    rw [spec_sgGood.l0, if_neg (by omega)]; rfl
  | succ d ih =>
    intro k i h0 hi hk
    obtain ⟨k, rfl⟩ : ∃ m, k = m + 1 := ⟨k - 1, by omega⟩
    rw [spec_sgGood.l0, if_pos (by omega), if_pos h0, if_pos (by omega), sgThread_eq, wrap_id (x := i + 1) (by omega) (by omega), wrap_id (x := i - 1) (by omega) (by omega), ih k (i + 1) (by omega) (by omega) (by omega)]
    simp only [Option.bind_some, chkD]
    by_cases h : thrOk (rd_T37 l i).f0 (rd_T37 l i).f1 = true
    · rw [if_pos h, h]
      by_cases h2 : i > 0
      · rw [if_pos h2, if_pos (by omega), if_pos (by omega), sgLess_eq, decide_eq_false (show ¬ i ≤ 0 by omega)]
        simp only [Option.bind_some]
        cases lessB (rd_T37 l (i - 1)).f0 (rd_T37 l (i - 1)).f1 (rd_T37 l i).f0 (rd_T37 l i).f1 <;> simp
      · rw [if_neg h2, decide_eq_true (show i ≤ 0 by omega)]; simp
    · rw [if_neg h]; simp only [Bool.not_eq_true] at h; rw [h]; rfl
theorem good_s {l : List S37} {k : Nat} (hl : (l.length : Int) ≤ 1048576) (hk : 1048577 < k) : spec_sgGood.f k l = some (goodT l) := by
  unfold spec_sgGood.f goodT
  rw [l1In_rg]
  simp only [Option.bind_some]
  by_cases h : rg l.length 1 30 = true
  · rw [if_pos h, good_s_l0 l (by omega) l.length k 0 (by omega) (by omega) (by omega), h]; simp
  · rw [if_neg h]; simp only [Bool.not_eq_true] at h; rw [h]; rfl
theorem good_i_l0 (l : List S37) (hl : (l.length : Int) ≤ 1000000000000) (d : Nat) : ∀ (k : Nat) (i : Int), 0 ≤ i → i + d = l.length → d + 4 < k → impl_AreThreads.l0 k l l (l.length : Int) i = some (chkD l i d && rg l.length 1 30) := by
  induction d with
  | zero =>
    intro k i h0 hi hk
    obtain ⟨k, rfl⟩ : ∃ m, k = m + 1 := ⟨k - 1, by omega⟩
    rw [impl_AreThreads.l0, if_neg (by omega), within_rg]; simp [chkD]
  | succ d ih =>
    intro k i h0 hi hk
    obtain ⟨k, rfl⟩ : ∃ m, k = m + 1 := ⟨k - 1, by omega⟩
    rw [impl_AreThreads.l0, if_pos (by omega), if_pos h0, if_pos (by omega), isThread_eq, wrap_id (x := i + 1) (by omega) (by omega), wrap_id (x := i - 1) (by omega) (by omega), ih k (i + 1) (by omega) (by omega) (by omega)]
    simp only [Option.bind_some, chkD]
    by_cases h : thrOk (rd_T37 l i).f0 (rd_T37 l i).f1 = true
    · rw [if_pos h, h]
      by_cases h2 : i > 0
      · obtain ⟨r, h3, h4, _⟩ := compareThreads_eq (rd_T37 l (i - 1)).f0 (rd_T37 l (i - 1)).f1 (rd_T37 l i).f0 (rd_T37 l i).f1 (k := k) (by omega)
        rw [if_pos h2, if_pos (by omega), if_pos (by omega), h3, decide_eq_false (show ¬ i ≤ 0 by omega)]
        simp only [Option.bind_some]
        by_cases h5 : r < 0
        · rw [if_neg (by omega), h4.1 h5]; simp
        · rw [if_pos (by omega)]
          have : lessB (rd_T37 l (i - 1)).f0 (rd_T37 l (i - 1)).f1 (rd_T37 l i).f0 (rd_T37 l i).f1 = false := by
            rw [← Bool.not_eq_true]; exact fun e => h5 (h4.2 e)
          rw [this]; simp
      · rw [if_neg h2, decide_eq_true (show i ≤ 0 by omega)]; simp
    · rw [if_neg h]; simp only [Bool.not_eq_true] at h; rw [h]; rfl
theorem good_i {l : List S37} {k : Nat} (hl : (l.length : Int) ≤ 1048576) (hk : 1048590 < k) : impl_AreThreads.f k l = some (goodT l) := by
  unfold impl_AreThreads.f goodT
  rw [good_i_l0 l (by omega) l.length k 0 (by omega) (by omega) (by omega), Bool.and_comm]
theorem ba_eq {x y : ByteArray} (h : x.data.toList = y.data.toList) : x = y := by
  obtain ⟨⟨a⟩⟩ := x
  obtain ⟨⟨b⟩⟩ := y
  have h : a = b := h
  rw [h]
theorem ba_app (x y : ByteArray) : (x ++ y).data.toList = x.data.toList ++ y.data.toList := by
  rw [ByteArray.data_append, Array.toList_append]
theorem ba_size (x : ByteArray) : x.size = x.data.toList.length := by
  show x.data.size = _
  simp
/-- The digits of a number that a thread may have. -/
def numD (a : Nat) : List UInt8 := if a < 10 then [UInt8.ofNat (48 + a)] else if a < 100 then [UInt8.ofNat (48 + a / 10), UInt8.ofNat (48 + a % 10)] else [49, 48, 48]
theorem numD_len (a : Nat) : (numD a).length ≤ 3 := by
  unfold numD
  repeat' split
  all_goals simp
theorem itoa_numD {a : Int} (h0 : 0 ≤ a) (h1 : a ≤ 100) : Go.Lib.itoa a = numD a.toNat := by
  unfold Go.Lib.itoa
  rw [if_neg (by omega)]
  generalize e : a.toNat = n
  have hn : n ≤ 100 := by omega
  unfold numD
  by_cases h2 : n < 10
  · rw [Go.Lib.decDigits, dif_pos h2, if_pos h2]
  · by_cases h3 : n < 100
    · rw [Go.Lib.decDigits, dif_neg h2, Go.Lib.decDigits, dif_pos (by omega), if_neg h2, if_pos h3]; rfl
    · obtain rfl : n = 100 := by omega
      rw [Go.Lib.decDigits, dif_neg (by omega), Go.Lib.decDigits, dif_neg (by omega), Go.Lib.decDigits, dif_pos (by omega)]; rfl
def numT (a : Int) : ByteArray := ⟨(numD a.toNat).toArray⟩
theorem itoa_eq {a : Int} (h0 : 1 ≤ a) (h1 : a ≤ 100) : strconv_Itoa_18.f a = some (numT a) := by
  unfold strconv_Itoa_18.f numT
  rw [if_pos (by omega), itoa_numD (by omega) h1]
theorem numT_size (a : Int) : (numT a).size ≤ 3 := by
  rw [ba_size]; exact numD_len _
theorem l1Num_small {a : Int} (h0 : 0 ≤ a) (h1 : a < 10) (k : Nat) : spec_l1Num.f (k + 1) a = some (strOfNums [48 + a]) := by
  rw [spec_l1Num.f, if_pos h1, wrap_id (by omega) (by omega), Int.emod_eq_of_lt (by omega) (by omega)]
theorem dig {a : Int} (h0 : 0 ≤ a) (h1 : a < 10) : (48 + a).toNat = 48 + a.toNat := by omega
theorem l1Num_eq {a : Int} (h0 : 1 ≤ a) (h1 : a ≤ 100) {k : Nat} (hk : 3 ≤ k) : spec_l1Num.f k a = some (numT a) := by
  obtain ⟨k, rfl⟩ : ∃ q, k = q + 1 + 1 + 1 := ⟨k - 3, by omega⟩
  by_cases h2 : a < 10
  · rw [l1Num_small (by omega) h2]
    congr 1
    refine ba_eq ?_
    rw [strOfNums_data]
    show [UInt8.ofNat (48 + a).toNat] = numD a.toNat
    unfold numD
    rw [dig (by omega) h2, if_pos (by omega)]
  · have e1 : Int.tdiv a 10 = a / 10 := Int.tdiv_eq_ediv_of_nonneg (by omega)
    have e2 : Int.tmod a 10 = a % 10 := Int.tmod_eq_emod_of_nonneg (by omega)
    by_cases h3 : a < 100
    · rw [spec_l1Num.f, if_neg h2, e1, e2, wrap_id (x := a / 10) (by omega) (by omega), l1Num_small (by omega) (by omega), wrap_id (x := 48 + a % 10) (by omega) (by omega), Int.emod_eq_of_lt (a := 48 + a % 10) (by omega) (by omega)]
      simp only [Option.bind_some]
      rw [if_pos (by rw [strOfNums_size, strOfNums_size]; simp)]
      congr 1
      refine ba_eq ?_
      rw [ba_app, strOfNums_data, strOfNums_data]
      show [UInt8.ofNat (48 + a / 10).toNat, UInt8.ofNat (48 + a % 10).toNat] = numD a.toNat
      unfold numD
      rw [dig (by omega) (by omega), dig (by omega) (by omega), if_neg (by omega), if_pos (by omega), show (a / 10).toNat = a.toNat / 10 by omega, show (a % 10).toNat = a.toNat % 10 by omega]
    · obtain rfl : a = 100 := by omega
      rw [spec_l1Num.f, if_neg (by decide), e1, e2, wrap_id (x := 100 / 10) (by decide) (by decide), show (100 : Int) / 10 = 10 by decide, spec_l1Num.f, if_neg (by decide), show Int.tdiv 10 10 = 1 by decide, show Int.tmod 10 10 = 0 by decide, show (100 : Int) % 10 = 0 by decide, wrap_id (x := 1) (by decide) (by decide), wrap_id (x := 48 + 0) (by decide) (by decide), l1Num_small (by decide) (by decide)]
      simp only [Option.bind_some]
      rw [if_pos (by rw [strOfNums_size, strOfNums_size]; simp)]
      simp only [Option.bind_some]
      rw [if_pos (by rw [ba_size, ba_app, List.length_append, ← ba_size, ← ba_size, strOfNums_size, strOfNums_size]; simp)]
      congr 1
def txt (t : S37) : ByteArray := (numT t.f0 ++ (⟨#[58]⟩ : ByteArray)) ++ numT t.f1
theorem app_size (x y : ByteArray) : (x ++ y).size = x.size + y.size := by
  rw [ba_size, ba_app, List.length_append, ← ba_size, ← ba_size]
theorem txt_size (t : S37) : (txt t).size ≤ 7 := by
  unfold txt
  rw [app_size, app_size]
  have h1 := numT_size t.f0
  have h2 := numT_size t.f1
  have h3 : (⟨#[58]⟩ : ByteArray).size = 1 := rfl
  omega
def cmm : ByteArray := ⟨#[44]⟩
theorem joinT_nil : joinT [] cmm = [] := rfl
theorem joinT_snoc (l : List ByteArray) (y : ByteArray) : joinT (l ++ [y]) cmm = (if l = [] then [] else joinT l cmm ++ [44]) ++ y.data.toList := by
  cases l with
  | nil =>
    rw [if_pos rfl]
    show Go.Lib.join [y.data.toList] [44] = _
    rw [Go.Lib.join_one]; rfl
  | cons x r =>
    rw [if_neg (by simp)]
    show Go.Lib.join (x.data.toList :: (r ++ [y]).map (·.data.toList)) [44] = (Go.Lib.join (x.data.toList :: r.map (·.data.toList)) [44] ++ [44]) ++ y.data.toList
    rw [Go.Lib.join_cons, Go.Lib.join_cons]
    unfold Go.Lib.joinTail
    simp
/-- The text of the first so many threads. -/
def upT (l : List S37) (i : Nat) : ByteArray := ⟨(joinT ((l.take i).map txt) cmm).toArray⟩
theorem upT_zero (l : List S37) : upT l 0 = ⟨#[]⟩ := by unfold upT; rfl
theorem upT_data (l : List S37) (i : Nat) : (upT l i).data.toList = joinT ((l.take i).map txt) cmm := rfl
theorem upT_succ {l : List S37} {i : Int} (h0 : 0 ≤ i) (h1 : i < (l.length : Int)) : upT l (i + 1).toNat = (if i = 0 then upT l i.toNat else upT l i.toNat ++ cmm) ++ txt (rd_T37 l i) := by
  refine ba_eq ?_
  rw [upT_data, show (i + 1).toNat = i.toNat + 1 by omega, List.take_succ_eq_append_getElem (by omega), ← rdT_get h0 h1, List.map_append]
  show joinT (_ ++ [txt (rd_T37 l i)]) cmm = _
  rw [joinT_snoc, ba_app]
  by_cases hi : i = 0
  · subst hi
    rw [if_pos (by simp), if_pos rfl]; rfl
  · have hlen : ((l.take i.toNat).map txt).length = i.toNat := by rw [List.length_map, List.length_take]; omega
    rw [if_neg (by
      intro e
      rw [e, List.length_nil] at hlen; omega), if_neg hi, ba_app, upT_data]; rfl
theorem upT_size (l : List S37) (d : Nat) : d ≤ l.length → (upT l d).size ≤ 8 * d := by
  induction d with
  | zero => intro _; rw [upT_zero]; decide
  | succ d ih =>
    intro h
    have := ih (by omega)
    have e := upT_succ (l := l) (i := (d : Int)) (by omega) (by omega)
    rw [show ((d : Int) + 1).toNat = d + 1 by omega, Int.toNat_natCast] at e
    rw [e, app_size]
    have ht := txt_size (rd_T37 l (d : Int))
    have hc : cmm.size = 1 := rfl
    split
    · omega
    · rw [app_size]; omega
theorem text_s {l : List S37} (h : goodT l = true) (d : Nat) : ∀ (k : Nat) (i : Int), 0 ≤ i → i + d = l.length → d + 5 ≤ k → spec_sgText.l0 k (upT l i.toNat) l (l.length : Int) i = some (upT l l.length) := by
  obtain ⟨g1, g2, g3⟩ := goodT_true h
  induction d with
  | zero =>
    intro k i h0 hi hk
    obtain ⟨k, rfl⟩ : ∃ q, k = q + 1 := ⟨k - 1, by omega⟩
    rw [spec_sgText.l0, if_neg (by omega), show i.toNat = l.length by omega]
  | succ d ih =>
    intro k i h0 hi hk
    obtain ⟨k, rfl⟩ : ∃ q, k = q + 1 := ⟨k - 1, by omega⟩
    have t := thrOk_true.1 (g3 i h0 (by omega))
    have s1 := numT_size (rd_T37 l i).f0
    have s2 := numT_size (rd_T37 l i).f1
    have s3 := upT_size l i.toNat (by omega)
    have s4 := txt_size (rd_T37 l i)
    have c1 : (⟨#[58]⟩ : ByteArray).size = 1 := rfl
    have c2 : (⟨#[44]⟩ : ByteArray).size = 1 := rfl
    have e := upT_succ h0 (show i < (l.length : Int) by omega)
    have hn := ih k (i + 1) (by omega) (by omega) (by omega)
    rw [e] at hn
    unfold txt at hn s4
    rw [spec_sgText.l0, if_pos (by omega), if_pos h0, if_pos (by omega), l1Num_eq (by omega) (by omega) (by omega), l1Num_eq (by omega) (by omega) (by omega), wrap_id (x := i + 1) (by omega) (by omega)]
    simp only [Option.bind_some]
    by_cases hp : i > 0
    · rw [if_neg (by omega)] at hn
      rw [if_pos hp, if_pos (by omega), if_pos (by omega), if_pos (by rw [app_size]; omega), if_pos (by rw [app_size (upT l i.toNat)]; omega)]
      exact hn
    · rw [if_pos (by omega)] at hn
      rw [if_neg hp, if_pos (by omega), if_pos (by rw [app_size]; omega), if_pos (by omega)]
      exact hn
theorem text_i {l : List S37} (h : goodT l = true) (d : Nat) : ∀ (k : Nat) (i : Int), 0 ≤ i → i + d = l.length → d + 5 ≤ k → impl_ThreadsText.l0 k ((l.take i.toNat).map txt) l (l.length : Int) i = some (upT l l.length, true) := by
  obtain ⟨g1, g2, g3⟩ := goodT_true h
  induction d with
  | zero =>
    intro k i h0 hi hk
    obtain ⟨k, rfl⟩ : ∃ q, k = q + 1 := ⟨k - 1, by omega⟩
    have s3 := upT_size l l.length (by omega)
    rw [ba_size, upT_data] at s3
    rw [impl_ThreadsText.l0, if_neg (by omega), show i.toNat = l.length by omega]
    unfold strings_Join.f
    rw [if_pos (by rw [List.length_map, List.length_take]; omega)]
    rw [if_pos (show (joinT ((l.take l.length).map txt) (⟨#[44]⟩ : ByteArray)).length ≤ 140737488355328 from Nat.le_trans s3 (by omega))]
    rfl
  | succ d ih =>
    intro k i h0 hi hk
    obtain ⟨k, rfl⟩ : ∃ q, k = q + 1 := ⟨k - 1, by omega⟩
    have t := thrOk_true.1 (g3 i h0 (by omega))
    have s1 := numT_size (rd_T37 l i).f0
    have s2 := numT_size (rd_T37 l i).f1
    have c1 : (⟨#[58]⟩ : ByteArray).size = 1 := rfl
    have hn := ih k (i + 1) (by omega) (by omega) (by omega)
    rw [show (i + 1).toNat = i.toNat + 1 by omega, List.take_succ_eq_append_getElem (by omega), ← rdT_get h0 (by omega), List.map_append] at hn
    rw [impl_ThreadsText.l0, if_pos (by omega), if_pos h0, if_pos (by omega), itoa_eq (by omega) (by omega), itoa_eq (by omega) (by omega), wrap_id (x := i + 1) (by omega) (by omega)]
    simp only [Option.bind_some]
    rw [if_pos (by omega), if_pos (by rw [app_size]; omega), if_pos (by rw [List.length_map, List.length_take]; omega)]
    exact hn
theorem text_both {l : List S37} (hl : (l.length : Int) ≤ 1048576) {K : Nat} (hK : 1049000 ≤ K) : ∃ r : ByteArray × Bool, spec_ThreadsText.f K l = some r ∧ impl_ThreadsText.f K l = some r := by
  unfold spec_ThreadsText.f impl_ThreadsText.f spec_sgText.f
  rw [good_s hl (by omega), good_i hl (by omega)]
  simp only [Option.bind_some]
  by_cases h : goodT l = true
  · obtain ⟨g1, g2, g3⟩ := goodT_true h
    have a := text_s h l.length K 0 (by omega) (by omega) (by omega)
    have b := text_i h l.length K 0 (by omega) (by omega) (by omega)
    rw [show ((0 : Int)).toNat = 0 from rfl, upT_zero] at a
    rw [show ((0 : Int)).toNat = 0 from rfl] at b
    refine ⟨(upT l l.length, true), ?_, ?_⟩
    · rw [if_pos h, a]; rfl
    · rw [if_pos h]; exact b
  · rw [if_neg h, if_neg h]
    exact ⟨_, rfl, rfl⟩
theorem szThreadS_far {l : List S39} (h : (l.length : Int) > 1048576) (h2 : l.length * 16 ≤ 140737488351232) : laws_szThreadS.f l 1048576 = some (-1) := by
  unfold laws_szThreadS.f
  rw [wrap_id (by omega) (by omega), if_pos (by omega)]
theorem szThreadS_near {l : List S39} (h : ¬ (l.length : Int) > 1048576) : laws_szThreadS.f l 1048576 = some (1048576 - (l.length : Int)) := by
  unfold laws_szThreadS.f
  rw [wrap_id (by omega) (by omega), if_neg (by omega)]
theorem FnExactThreadsText : ∀ (l0 : List (S39)), l0.length * 16 ≤ 140737488351232 → (∀ x ∈ l0, (Lit.int .i64 x.f0).wf = true ∧ (Lit.int .i64 x.f1).wf = true) → ∃ k, laws_FnExactThreadsText.f k l0 = some true := by
  intro l h16 _
  by_cases hl : (l.length : Int) > 1048576
  · refine ⟨0, ?_⟩
    unfold laws_FnExactThreadsText.f
    rw [szThreadS_far hl h16]; rfl
  · refine ⟨1049000, ?_⟩
    have hm : ((l.map cv).length : Int) ≤ 1048576 := by simp; omega
    obtain ⟨r, r1, r2⟩ := text_both hm (K := 1049000) (Nat.le_refl _)
    unfold laws_FnExactThreadsText.f
    rw [szThreadS_near hl]
    simp only [Option.bind_some]
    rw [if_neg (by omega), toThreadS_f (by omega) (by omega)]
    simp only [Option.bind_some]
    rw [r1]
    simp only [Option.bind_some]
    rw [r2]
    simp only [Option.bind_some, if_true, bne_self_eq_false, Bool.false_eq_true, if_false]
    rw [eqThreadS_self (by omega) (by omega)]
    rfl

end Go.Proofs.YtpkkcocacanclaaDoor.Pure
