/- What is proved: the pure statement of the law FnExactParseThreads, about numbers and lists alone; no condition. -/
import Derived.Test.YtpkkcocacanclaaDoorPx11
import Derived.Lib.Join
import Derived.Lib.SplitLaws
namespace Go.Proofs.YtpkkcocacanclaaDoor.Pure
open Go.RowKit Go.Proofs.YtpkkcocacanclaaDoor.P Go.Proofs.YtpkkcocacanclaaDoorW.PrintWords Go.Proofs.YtpkkcocacanclaaDoorW.PrintLast
set_option linter.unusedVariables false
set_option linter.unusedSimpArgs false

theorem wrap_id {x : Int} (h : -9000000000000000000 ≤ x) (h2 : x ≤ 9000000000000000000) : wrap64 x = x := by unfold wrap64; omega
/-- A number from lo to hi. -/
def rg (n lo hi : Int) : Bool := decide (lo ≤ n ∧ n ≤ hi)
theorem rg_true {n lo hi : Int} : rg n lo hi = true ↔ lo ≤ n ∧ n ≤ hi := by simp [rg]
theorem l1In_rg (n lo hi : Int) : spec_l1In.f n lo hi = some (rg n lo hi) := by
 unfold spec_l1In.f rg
 by_cases h : n ≥ lo
 ·rw [if_pos h]; congr 1; simp only [decide_eq_decide]; omega
 ·rw [if_neg h]; congr 1; exact (decide_eq_false (by omega)).symm
theorem within_rg (n lo hi : Int) : impl_within.f n lo hi = some (rg n lo hi) := by
 unfold impl_within.f rg
 by_cases h : n ≥ lo
 ·rw [if_pos h]; congr 1; simp only [decide_eq_decide]; omega
 ·rw [if_neg h]; congr 1; exact (decide_eq_false (by omega)).symm
/-- A thread. -/
def thrOk (a b : Int) : Bool := rg a 1 100 && rg b 1 100
theorem thrOk_true {a b : Int} : thrOk a b = true ↔ 1 ≤ a ∧ a ≤ 100 ∧ 1 ≤ b ∧ b ≤ 100 := by
 simp only [thrOk, Bool.and_eq_true, rg_true]; omega
theorem sgThread_eq (a b : Int) : spec_sgThread.f a b = some (thrOk a b) := by
 unfold spec_sgThread.f thrOk
 rw [l1In_rg, l1In_rg]
 cases rg a 1 100 <;> rfl
theorem isThread_eq (a b : Int) : impl_isThread.f a b = some (thrOk a b) := by
 unfold impl_isThread.f thrOk
 rw [within_rg, within_rg]
 cases rg a 1 100 <;> rfl
theorem rdT_get {l : List S37} {i : Int} (h0 : 0 ≤ i) (h1 : i < (l.length : Int)) : rd_T37 l i = l[i.toNat]'(by omega) := by
 simp [rd_T37, List.getD_eq_getElem?_getD, List.getElem?_eq_getElem (show i.toNat < l.length by omega)]
theorem eqThreadS_l0 (l : List S37) (hl : (l.length : Int) ≤ 1000000000000) (d : Nat) : ∀ (k : Nat) (i : Int), 0 ≤ i → i + d = l.length → d < k → laws_eqThreadS.l0 k l l i = some true := by
 induction d with
 | zero =>
  intro k i h0 hi hk
  obtain ⟨k, rfl⟩ : ∃ m, k = m + 1 := ⟨k - 1, by omega⟩
  rw [laws_eqThreadS.l0, if_neg (by omega)]
 | succ d ih =>
  intro k i h0 hi hk
  obtain ⟨k, rfl⟩ : ∃ m, k = m + 1 := ⟨k - 1, by omega⟩
  rw [laws_eqThreadS.l0, if_pos (by omega), if_pos h0, if_pos (by omega)]
  unfold laws_eqThread.f
  rw [if_pos rfl, if_pos rfl]
  simp only [Option.bind_some, if_true]
  rw [wrap_id (by omega) (by omega)]
  exact ih k (i + 1) (by omega) (by omega) (by omega)
theorem eqThreadS_self {l : List S37} (hl : (l.length : Int) ≤ 1000000000000) {k : Nat} (hk : l.length < k) : laws_eqThreadS.f k l l = some true := by
 unfold laws_eqThreadS.f
 rw [if_pos rfl]
 exact eqThreadS_l0 l hl l.length k 0 (by omega) (by omega) hk
/-- A thread that comes before another one. -/
def lessB (a b c d : Int) : Bool := decide (a < c ∨ a = c ∧ b < d)
theorem sgLess_eq (a b c d : Int) : spec_sgLess.f a b c d = some (lessB a b c d) := rfl
theorem cmpInt_eq (a b : Int) : cmp_Compare_int.f a b = some (if a < b then -1 else if a > b then 1 else 0) := by
 unfold cmp_Compare_int.f cmp_isNaN_int.f
 simp only [Option.bind_some, bne_self_eq_false]
 rw [if_neg (by decide), if_neg (by decide)]
 repeat' split
 all_goals rfl
theorem cmpOr_eq (a b : Int) {k : Nat} (hk : 3 ≤ k) : cmp_Or_int.f k [a, b] = some (if a = 0 then b else a) := by
 obtain ⟨k, rfl⟩ : ∃ m, k = m + 1 + 1 + 1 := ⟨k - 3, by omega⟩
 unfold cmp_Or_int.f
 rw [cmp_Or_int.l0, if_pos (by simp), if_pos (by omega), if_pos (by simp), wrap_id (by omega) (by omega)]
 have e0 : rd [a, b] 0 = a := rfl
 rw [e0]
 by_cases h : a = 0
 ·rw [if_pos h, if_pos h, cmp_Or_int.l0, if_pos (by simp), if_pos (by omega), if_pos (by simp), wrap_id (by omega) (by omega)]
  have e1 : rd [a, b] (0 + 1) = b := rfl
  rw [e1]
  by_cases h2 : b = 0
  ·rw [if_pos h2, cmp_Or_int.l0, if_neg (by simp), h2]
  ·rw [if_neg h2]
 ·rw [if_neg h, if_neg h]
theorem compareThreads_eq (a b c d : Int) {k : Nat} (hk : 3 ≤ k) : ∃ r : Int, impl_compareThreads.f k a b c d = some r ∧ (r < 0 ↔ lessB a b c d = true) ∧ (r = 0 ↔ a = c ∧ b = d) := by
 unfold impl_compareThreads.f
 rw [cmpInt_eq, cmpInt_eq]
 simp only [Option.bind_some]
 rw [cmpOr_eq _ _ hk]
 refine ⟨_, rfl, ?_, ?_⟩
 ·simp only [lessB, decide_eq_true_eq]
  repeat' split
  all_goals omega
 ·repeat' split
  all_goals omega
/-- Threads i, i + 1, .. of the next d, each behind the one before. -/
def chkD (l : List S37) (i : Int) : Nat → Bool
 | 0 => true
 | d + 1 => thrOk (rd_T37 l i).f0 (rd_T37 l i).f1 && (decide (i ≤ 0) || lessB (rd_T37 l (i - 1)).f0 (rd_T37 l (i - 1)).f1 (rd_T37 l i).f0 (rd_T37 l i).f1) && chkD l (i + 1) d
theorem chkD_thr {l : List S37} : ∀ {d : Nat} {i : Int}, chkD l i d = true → ∀ j, i ≤ j → j < i + d → thrOk (rd_T37 l j).f0 (rd_T37 l j).f1 = true
 | 0, i, _, j, h1, h2 => by omega
 | d + 1, i, h, j, h1, h2 => by
  simp only [chkD, Bool.and_eq_true] at h
  rcases Int.lt_or_eq_of_le h1 with h3 | h3
  ·exact chkD_thr h.2 j (by omega) (by omega)
  ·rw [← h3]; exact h.1.1
/-- Threads in order. -/
def goodT (l : List S37) : Bool := rg l.length 1 30 && chkD l 0 l.length
theorem goodT_true {l : List S37} (h : goodT l = true) : 1 ≤ (l.length : Int) ∧ (l.length : Int) ≤ 30 ∧ ∀ i : Int, 0 ≤ i → i < l.length → thrOk (rd_T37 l i).f0 (rd_T37 l i).f1 = true := by
 simp only [goodT, Bool.and_eq_true, rg_true] at h
 exact ⟨h.1.1, h.1.2, fun i h0 h1 => chkD_thr h.2 i h0 (by omega)⟩
theorem good_s_l0 (l : List S37) (hl : (l.length : Int) ≤ 1000000000000) (d : Nat) : ∀ (k : Nat) (i : Int), 0 ≤ i → i + d = l.length → d < k → spec_sgGood.l0 k l l (l.length : Int) i = some (chkD l i d) := by
 induction d with
 | zero =>
  intro k i h0 hi hk
  obtain ⟨k, rfl⟩ : ∃ m, k = m + 1 := ⟨k - 1, by omega⟩
  rw [spec_sgGood.l0, if_neg (by omega)]; rfl
 | succ d ih =>
  intro k i h0 hi hk
  obtain ⟨k, rfl⟩ : ∃ m, k = m + 1 := ⟨k - 1, by omega⟩
  rw [spec_sgGood.l0, if_pos (by omega), if_pos h0, if_pos (by omega), sgThread_eq, wrap_id (x := i + 1) (by omega) (by omega), wrap_id (x := i - 1) (by omega) (by omega), ih k (i + 1) (by omega) (by omega) (by omega)]
  simp only [Option.bind_some, chkD]
  by_cases h : thrOk (rd_T37 l i).f0 (rd_T37 l i).f1 = true
  ·rw [if_pos h, h]
   by_cases h2 : i > 0
   ·rw [if_pos h2, if_pos (by omega), if_pos (by omega), sgLess_eq, decide_eq_false (show ¬ i ≤ 0 by omega)]
    simp only [Option.bind_some]
    cases lessB (rd_T37 l (i - 1)).f0 (rd_T37 l (i - 1)).f1 (rd_T37 l i).f0 (rd_T37 l i).f1 <;> simp
   ·rw [if_neg h2, decide_eq_true (show i ≤ 0 by omega)]; simp
  ·rw [if_neg h]; simp only [Bool.not_eq_true] at h; rw [h]; rfl
theorem good_s {l : List S37} {k : Nat} (hl : (l.length : Int) ≤ 1048576) (hk : 1048577 < k) : spec_sgGood.f k l = some (goodT l) := by
 unfold spec_sgGood.f goodT
 rw [l1In_rg]
 simp only [Option.bind_some]
 by_cases h : rg l.length 1 30 = true
 ·rw [if_pos h, good_s_l0 l (by omega) l.length k 0 (by omega) (by omega) (by omega), h]; simp
 ·rw [if_neg h]; simp only [Bool.not_eq_true] at h; rw [h]; rfl
theorem good_i_l0 (l : List S37) (hl : (l.length : Int) ≤ 1000000000000) (d : Nat) : ∀ (k : Nat) (i : Int), 0 ≤ i → i + d = l.length → d + 4 < k → impl_AreThreads.l0 k l l (l.length : Int) i = some (chkD l i d && rg l.length 1 30) := by
 induction d with
 | zero =>
  intro k i h0 hi hk
  obtain ⟨k, rfl⟩ : ∃ m, k = m + 1 := ⟨k - 1, by omega⟩
  rw [impl_AreThreads.l0, if_neg (by omega), within_rg]; simp [chkD]
 | succ d ih =>
  intro k i h0 hi hk
  obtain ⟨k, rfl⟩ : ∃ m, k = m + 1 := ⟨k - 1, by omega⟩
  rw [impl_AreThreads.l0, if_pos (by omega), if_pos h0, if_pos (by omega), isThread_eq, wrap_id (x := i + 1) (by omega) (by omega), wrap_id (x := i - 1) (by omega) (by omega), ih k (i + 1) (by omega) (by omega) (by omega)]
  simp only [Option.bind_some, chkD]
  by_cases h : thrOk (rd_T37 l i).f0 (rd_T37 l i).f1 = true
  ·rw [if_pos h, h]
   by_cases h2 : i > 0
   ·obtain ⟨r, h3, h4, _⟩ := compareThreads_eq (rd_T37 l (i - 1)).f0 (rd_T37 l (i - 1)).f1 (rd_T37 l i).f0 (rd_T37 l i).f1 (k := k) (by omega)
    rw [if_pos h2, if_pos (by omega), if_pos (by omega), h3, decide_eq_false (show ¬ i ≤ 0 by omega)]
    simp only [Option.bind_some]
    by_cases h5 : r < 0
    ·rw [if_neg (by omega), h4.1 h5]; simp
    ·rw [if_pos (by omega)]
     have : lessB (rd_T37 l (i - 1)).f0 (rd_T37 l (i - 1)).f1 (rd_T37 l i).f0 (rd_T37 l i).f1 = false := by
      rw [← Bool.not_eq_true]; exact fun e => h5 (h4.2 e)
     rw [this]; simp
   ·rw [if_neg h2, decide_eq_true (show i ≤ 0 by omega)]; simp
  ·rw [if_neg h]; simp only [Bool.not_eq_true] at h; rw [h]; rfl
theorem good_i {l : List S37} {k : Nat} (hl : (l.length : Int) ≤ 1048576) (hk : 1048590 < k) : impl_AreThreads.f k l = some (goodT l) := by
 unfold impl_AreThreads.f goodT
 rw [good_i_l0 l (by omega) l.length k 0 (by omega) (by omega) (by omega), Bool.and_comm]
theorem ba_eq {x y : ByteArray} (h : x.data.toList = y.data.toList) : x = y := by
 obtain ⟨⟨a⟩⟩ := x
 obtain ⟨⟨b⟩⟩ := y
 have h : a = b := h
 rw [h]
theorem ba_app (x y : ByteArray) : (x ++ y).data.toList = x.data.toList ++ y.data.toList := by
 rw [ByteArray.data_append, Array.toList_append]
theorem ba_size (x : ByteArray) : x.size = x.data.toList.length := by
 show x.data.size = _
 simp
/-- The digits of a number that a thread may have. -/
def numD (a : Nat) : List UInt8 := if a < 10 then [UInt8.ofNat (48 + a)] else if a < 100 then [UInt8.ofNat (48 + a / 10), UInt8.ofNat (48 + a % 10)] else [49, 48, 48]
theorem numD_len (a : Nat) : (numD a).length ≤ 3 := by
 unfold numD
 repeat' split
 all_goals simp
theorem itoa_numD {a : Int} (h0 : 0 ≤ a) (h1 : a ≤ 100) : Go.Lib.itoa a = numD a.toNat := by
 unfold Go.Lib.itoa
 rw [if_neg (by omega)]
 generalize e : a.toNat = n
 have hn : n ≤ 100 := by omega
 unfold numD
 by_cases h2 : n < 10
 ·rw [Go.Lib.decDigits, dif_pos h2, if_pos h2]
 ·by_cases h3 : n < 100
  ·rw [Go.Lib.decDigits, dif_neg h2, Go.Lib.decDigits, dif_pos (by omega), if_neg h2, if_pos h3]; rfl
  ·obtain rfl : n = 100 := by omega
   rw [Go.Lib.decDigits, dif_neg (by omega), Go.Lib.decDigits, dif_neg (by omega), Go.Lib.decDigits, dif_pos (by omega)]; rfl
def numT (a : Int) : ByteArray := ⟨(numD a.toNat).toArray⟩
theorem numT_size (a : Int) : (numT a).size ≤ 3 := by
 rw [ba_size]; exact numD_len _
theorem l1Num_small {a : Int} (h0 : 0 ≤ a) (h1 : a < 10) (k : Nat) : spec_l1Num.f (k + 1) a = some (strOfNums [48 + a]) := by
 rw [spec_l1Num.f, if_pos h1, wrap_id (by omega) (by omega), Int.emod_eq_of_lt (by omega) (by omega)]
theorem dig {a : Int} (h0 : 0 ≤ a) (h1 : a < 10) : (48 + a).toNat = 48 + a.toNat := by omega
theorem l1Num_eq {a : Int} (h0 : 1 ≤ a) (h1 : a ≤ 100) {k : Nat} (hk : 3 ≤ k) : spec_l1Num.f k a = some (numT a) := by
 obtain ⟨k, rfl⟩ : ∃ q, k = q + 1 + 1 + 1 := ⟨k - 3, by omega⟩
 by_cases h2 : a < 10
 ·rw [l1Num_small (by omega) h2]
  congr 1
  refine ba_eq ?_
  rw [strOfNums_data]
  show [UInt8.ofNat (48 + a).toNat] = numD a.toNat
  unfold numD
  rw [dig (by omega) h2, if_pos (by omega)]
 ·have e1 : Int.tdiv a 10 = a / 10 := Int.tdiv_eq_ediv_of_nonneg (by omega)
  have e2 : Int.tmod a 10 = a % 10 := Int.tmod_eq_emod_of_nonneg (by omega)
  by_cases h3 : a < 100
  ·rw [spec_l1Num.f, if_neg h2, e1, e2, wrap_id (x := a / 10) (by omega) (by omega), l1Num_small (by omega) (by omega), wrap_id (x := 48 + a % 10) (by omega) (by omega), Int.emod_eq_of_lt (a := 48 + a % 10) (by omega) (by omega)]
   simp only [Option.bind_some]
   rw [if_pos (by rw [strOfNums_size, strOfNums_size]; simp)]
   congr 1
   refine ba_eq ?_
   rw [ba_app, strOfNums_data, strOfNums_data]
   show [UInt8.ofNat (48 + a / 10).toNat, UInt8.ofNat (48 + a % 10).toNat] = numD a.toNat
   unfold numD
   rw [dig (by omega) (by omega), dig (by omega) (by omega), if_neg (by omega), if_pos (by omega), show (a / 10).toNat = a.toNat / 10 by omega, show (a % 10).toNat = a.toNat % 10 by omega]
  ·obtain rfl : a = 100 := by omega
   rw [spec_l1Num.f, if_neg (by decide), e1, e2, wrap_id (x := 100 / 10) (by decide) (by decide), show (100 : Int) / 10 = 10 by decide, spec_l1Num.f, if_neg (by decide), show Int.tdiv 10 10 = 1 by decide, show Int.tmod 10 10 = 0 by decide, show (100 : Int) % 10 = 0 by decide, wrap_id (x := 1) (by decide) (by decide), wrap_id (x := 48 + 0) (by decide) (by decide), l1Num_small (by decide) (by decide)]
   simp only [Option.bind_some]
   rw [if_pos (by rw [strOfNums_size, strOfNums_size]; simp)]
   simp only [Option.bind_some]
   rw [if_pos (by rw [ba_size, ba_app, List.length_append, ← ba_size, ← ba_size, strOfNums_size, strOfNums_size]; simp)]
   congr 1
def txt (t : S37) : ByteArray := (numT t.f0 ++ (⟨#[58]⟩ : ByteArray)) ++ numT t.f1
theorem app_size (x y : ByteArray) : (x ++ y).size = x.size + y.size := by
 rw [ba_size, ba_app, List.length_append, ← ba_size, ← ba_size]
theorem txt_size (t : S37) : (txt t).size ≤ 7 := by
 unfold txt
 rw [app_size, app_size]
 have h1 := numT_size t.f0
 have h2 := numT_size t.f1
 have h3 : (⟨#[58]⟩ : ByteArray).size = 1 := rfl
 omega
/-- Texts, joined. -/
def joinT (l : List ByteArray) (s : ByteArray) : List UInt8 := Go.Lib.join (l.map (·.data.toList)) s.data.toList
def cmm : ByteArray := ⟨#[44]⟩
theorem joinT_nil : joinT [] cmm = [] := rfl
theorem joinT_snoc (l : List ByteArray) (y : ByteArray) : joinT (l ++ [y]) cmm = (if l = [] then [] else joinT l cmm ++ [44]) ++ y.data.toList := by
 cases l with
 | nil =>
  rw [if_pos rfl]
  show Go.Lib.join [y.data.toList] [44] = _
  rw [Go.Lib.join_one]; rfl
 | cons x r =>
  rw [if_neg (by simp)]
  show Go.Lib.join (x.data.toList :: (r ++ [y]).map (·.data.toList)) [44] = (Go.Lib.join (x.data.toList :: r.map (·.data.toList)) [44] ++ [44]) ++ y.data.toList
  rw [Go.Lib.join_cons, Go.Lib.join_cons]
  unfold Go.Lib.joinTail
  simp
/-- The text of the first so many threads. -/
def upT (l : List S37) (i : Nat) : ByteArray := ⟨(joinT ((l.take i).map txt) cmm).toArray⟩
theorem upT_zero (l : List S37) : upT l 0 = ⟨#[]⟩ := by unfold upT; rfl
theorem upT_data (l : List S37) (i : Nat) : (upT l i).data.toList = joinT ((l.take i).map txt) cmm := rfl
theorem upT_succ {l : List S37} {i : Int} (h0 : 0 ≤ i) (h1 : i < (l.length : Int)) : upT l (i + 1).toNat = (if i = 0 then upT l i.toNat else upT l i.toNat ++ cmm) ++ txt (rd_T37 l i) := by
 refine ba_eq ?_
 rw [upT_data, show (i + 1).toNat = i.toNat + 1 by omega, List.take_succ_eq_append_getElem (by omega), ← rdT_get h0 h1, List.map_append]
 show joinT (_ ++ [txt (rd_T37 l i)]) cmm = _
 rw [joinT_snoc, ba_app]
 by_cases hi : i = 0
 ·subst hi
  rw [if_pos (by simp), if_pos rfl]; rfl
 ·have hlen : ((l.take i.toNat).map txt).length = i.toNat := by rw [List.length_map, List.length_take]; omega
  rw [if_neg (by
   intro e
   rw [e, List.length_nil] at hlen; omega), if_neg hi, ba_app, upT_data]; rfl
theorem upT_size (l : List S37) (d : Nat) : d ≤ l.length → (upT l d).size ≤ 8 * d := by
 induction d with
 | zero => intro _; rw [upT_zero]; decide
 | succ d ih =>
  intro h
  have := ih (by omega)
  have e := upT_succ (l := l) (i := (d : Int)) (by omega) (by omega)
  rw [show ((d : Int) + 1).toNat = d + 1 by omega, Int.toNat_natCast] at e
  rw [e, app_size]
  have ht := txt_size (rd_T37 l (d : Int))
  have hc : cmm.size = 1 := rfl
  split
  ·omega
  ·rw [app_size]; omega
theorem text_s {l : List S37} (h : goodT l = true) (d : Nat) : ∀ (k : Nat) (i : Int), 0 ≤ i → i + d = l.length → d + 5 ≤ k → spec_sgText.l0 k (upT l i.toNat) l (l.length : Int) i = some (upT l l.length) := by
 obtain ⟨g1, g2, g3⟩ := goodT_true h
 induction d with
 | zero =>
  intro k i h0 hi hk
  obtain ⟨k, rfl⟩ : ∃ q, k = q + 1 := ⟨k - 1, by omega⟩
  rw [spec_sgText.l0, if_neg (by omega), show i.toNat = l.length by omega]
 | succ d ih =>
  intro k i h0 hi hk
  obtain ⟨k, rfl⟩ : ∃ q, k = q + 1 := ⟨k - 1, by omega⟩
  have t := thrOk_true.1 (g3 i h0 (by omega))
  have s1 := numT_size (rd_T37 l i).f0
  have s2 := numT_size (rd_T37 l i).f1
  have s3 := upT_size l i.toNat (by omega)
  have s4 := txt_size (rd_T37 l i)
  have c1 : (⟨#[58]⟩ : ByteArray).size = 1 := rfl
  have c2 : (⟨#[44]⟩ : ByteArray).size = 1 := rfl
  have e := upT_succ h0 (show i < (l.length : Int) by omega)
  have hn := ih k (i + 1) (by omega) (by omega) (by omega)
  rw [e] at hn
  unfold txt at hn s4
  rw [spec_sgText.l0, if_pos (by omega), if_pos h0, if_pos (by omega), l1Num_eq (by omega) (by omega) (by omega), l1Num_eq (by omega) (by omega) (by omega), wrap_id (x := i + 1) (by omega) (by omega)]
  simp only [Option.bind_some]
  by_cases hp : i > 0
  ·rw [if_neg (by omega)] at hn
   rw [if_pos hp, if_pos (by omega), if_pos (by omega), if_pos (by rw [app_size]; omega), if_pos (by rw [app_size (upT l i.toNat)]; omega)]
   exact hn
  ·rw [if_pos (by omega)] at hn
   rw [if_neg hp, if_pos (by omega), if_pos (by rw [app_size]; omega), if_pos (by omega)]
   exact hn
/-- A list, cut at each c. -/
def pieces (c : UInt8) : List UInt8 → List (List UInt8)
 | [] => [[]]
 | x :: r => if x = c then [] :: pieces c r else match pieces c r with
  | [] => [[x]]
  | p :: ps => (x :: p) :: ps
theorem pieces_ne (c : UInt8) : ∀ l : List UInt8, pieces c l ≠ []
 | [] => by simp [pieces]
 | x :: r => by
  unfold pieces
  split
  ·simp
  ·split <;> simp
theorem pieces_hit (c : UInt8) (r : List UInt8) : pieces c (c :: r) = [] :: pieces c r := by
 rw [pieces, if_pos rfl]
theorem pieces_miss {c x : UInt8} (h : x ≠ c) (r p : List UInt8) (ps : List (List UInt8)) (e : pieces c r = p :: ps) : pieces c (x :: r) = (x :: p) :: ps := by
 rw [pieces, if_neg h, e]
theorem index_cons_ne {c x : UInt8} (h : x ≠ c) (l : List UInt8) : Go.Lib.index (x :: l) [c] = if Go.Lib.index l [c] == -1 then -1 else Go.Lib.index l [c] + 1 := by
 have hp : ([c] : List UInt8).isPrefixOf (x :: l) = false := by simp [List.isPrefixOf, Ne.symm h]
 rw [Go.Lib.index, hp]; simp
theorem index_cons_eq (c : UInt8) (l : List UInt8) : Go.Lib.index (c :: l) [c] = 0 := by rw [Go.Lib.index]; simp [List.isPrefixOf]
theorem splitK_pieces (c : UInt8) : ∀ l : List UInt8, Go.Lib.splitK [c] 0 (l.count c) l = pieces c l
 | [] => rfl
 | x :: r => by
  have ih := splitK_pieces c r
  by_cases h : x = c
  ·subst h
   rw [List.count_cons_self, Go.Lib.splitK, index_cons_eq, if_neg (by decide), pieces_hit, ← ih]
   simp
  ·rw [List.count_cons_of_ne (by simpa using h)]
   cases hk : r.count c with
   | zero =>
    rw [hk, Go.Lib.splitK] at ih
    rw [Go.Lib.splitK, pieces_miss h r r [] ih.symm]
   | succ k =>
    rw [hk, Go.Lib.splitK] at ih
    rw [Go.Lib.splitK, index_cons_ne h]
    by_cases hi : (Go.Lib.index r [c] == -1) = true
    ·rw [if_pos hi] at ih
     rw [if_pos hi, if_pos (by decide), pieces_miss h r r [] ih.symm]
    ·rw [if_neg hi] at ih
     have hge := Go.Lib.index_ge r [c]
     have hi2 : Go.Lib.index r [c] ≠ -1 := fun e => hi (beq_iff_eq.2 e)
     rw [if_neg hi, if_neg (by rw [beq_iff_eq]; omega), pieces_miss h r _ _ ih.symm]
     rw [show (Go.Lib.index r [c] + 1).toNat = (Go.Lib.index r [c]).toNat + 1 by omega]
     simp
def ofL (l : List UInt8) : ByteArray := ⟨l.toArray⟩
theorem ofL_data (l : List UInt8) : (ofL l).data.toList = l := rfl
theorem ofL_self (s : ByteArray) : ofL s.data.toList = s := rfl
theorem ext_ofL (s : ByteArray) (a b : Nat) : s.extract a b = ofL ((s.data.toList.take b).drop a) := by
 obtain ⟨⟨l⟩⟩ := s
 unfold ofL
 rw [ByteArray.mk.injEq]
 simp [ByteArray.data_extract, List.extract_eq_take_drop, List.drop_take]
theorem bt_get (s : ByteArray) {i : Nat} (h : i < s.data.toList.length) : bt s (i : Int) = ((s.data.toList[i]).toNat : Int) := by
 have hz : i < s.size := by
  have : s.size = s.data.toList.length := by
   show s.data.size = _
   simp
  omega
 unfold bt
 rw [dif_pos (by simpa using hz)]
 simp [ByteArray.getElem_eq_getElem_data]
theorem l1Split_l0 (s : ByteArray) (hs : s.data.toList.length ≤ 1048576) (c : UInt8) (d : Nat) : ∀ (K : Nat) (r : List ByteArray) (a i : Nat) (p : List UInt8) (ps : List (List UInt8)), a ≤ i → i + d = s.data.toList.length → r.length ≤ i → d + 2 ≤ K →
  pieces c (s.data.toList.drop i) = p :: ps →
  spec_l1Split.l0 K s (c.toNat : Int) r (a : Int) (i : Int) = some (r ++ ofL (((s.data.toList.take i).drop a) ++ p) :: ps.map ofL) := by
 have hz : s.size = s.data.toList.length := by
  show s.data.size = _
  simp
 induction d with
 | zero =>
  intro K r a i p ps ha hi hr hK hp
  obtain ⟨K, rfl⟩ : ∃ q, K = q + 1 := ⟨K - 1, by omega⟩
  rw [List.drop_of_length_le (by omega)] at hp
  simp only [pieces, List.cons.injEq] at hp
  obtain ⟨rfl, rfl⟩ := hp
  rw [spec_l1Split.l0, if_neg (by omega), if_pos (by omega), if_pos (by omega), if_pos (by omega), Int.toNat_natCast, ext_ofL, hz, show i = s.data.toList.length by omega]
  simp
 | succ d ih =>
  intro K r a i p ps ha hi hr hK hp
  obtain ⟨K, rfl⟩ : ∃ q, K = q + 1 := ⟨K - 1, by omega⟩
  have hl : i < s.data.toList.length := by omega
  rw [List.drop_eq_getElem_cons hl] at hp
  rw [spec_l1Split.l0, if_pos (by omega), if_pos (by omega), bt_get s hl, wrap_id (x := (i : Int) + 1) (by omega) (by omega), show ((i : Int) + 1) = ((i + 1 : Nat) : Int) by omega]
  by_cases h : s.data.toList[i] = c
  ·rw [h, pieces_hit] at hp
   injection hp with h1 h2
   subst h1
   obtain ⟨q, qs, hq⟩ : ∃ q qs, pieces c (s.data.toList.drop (i + 1)) = q :: qs := by
    cases e : pieces c (s.data.toList.drop (i + 1)) with
    | nil => exact absurd e (pieces_ne _ _)
    | cons q qs => exact ⟨q, qs, rfl⟩
   rw [if_pos (by rw [h]), if_pos (by omega), if_pos (by omega), if_pos (by omega), if_pos (by omega), Int.toNat_natCast, Int.toNat_natCast, ext_ofL, ih K _ (i + 1) (i + 1) q qs (by omega) (by omega) (by rw [List.length_append]; simp; omega) (by omega) hq, ← h2, hq]
   simp
  ·rw [if_neg (by
    intro e
    exact h (UInt8.toNat_inj.1 (by omega)))]
   obtain ⟨q, qs, hq⟩ : ∃ q qs, pieces c (s.data.toList.drop (i + 1)) = q :: qs := by
    cases e : pieces c (s.data.toList.drop (i + 1)) with
    | nil => exact absurd e (pieces_ne _ _)
    | cons q qs => exact ⟨q, qs, rfl⟩
   rw [pieces_miss h _ q qs hq] at hp
   injection hp with h1 h2
   subst h1 h2
   rw [ih K r a (i + 1) q qs (by omega) (by omega) (by omega) (by omega) hq, List.take_succ_eq_append_getElem hl, List.drop_append_of_le_length (by rw [List.length_take]; omega)]
   simp
theorem l1Split_eq (s : ByteArray) (hs : s.data.toList.length ≤ 1048576) (c : UInt8) {K : Nat} (hK : 1048580 ≤ K) : spec_l1Split.f K s (c.toNat : Int) = some ((pieces c s.data.toList).map ofL) := by
 unfold spec_l1Split.f
 cases e : pieces c s.data.toList with
 | nil => exact absurd e (pieces_ne _ _)
 | cons p ps =>
  have := l1Split_l0 s hs c s.data.toList.length K [] 0 0 p ps (by omega) (by omega) (by simp) (by omega) (by simpa using e)
  simpa using this
theorem cut_hit (c : UInt8) (r : List UInt8) : Go.Lib.cut (c :: r) [c] = ([], r, true) := by
 unfold Go.Lib.cut
 rw [index_cons_eq, if_pos (by decide)]
 simp
theorem cut_miss {c x : UInt8} (h : x ≠ c) (r : List UInt8) : Go.Lib.cut (x :: r) [c] = (x :: (Go.Lib.cut r [c]).1, (Go.Lib.cut r [c]).2) := by
 have e1 := index_cons_ne h r
 have hge := Go.Lib.index_ge r [c]
 by_cases hi : Go.Lib.index r [c] = -1
 ·rw [if_pos (beq_iff_eq.2 hi)] at e1
  unfold Go.Lib.cut
  rw [e1, if_neg (by decide), hi, if_neg (by decide)]
 ·rw [if_neg (by rw [beq_iff_eq]; exact hi)] at e1
  unfold Go.Lib.cut
  rw [e1, if_pos (by omega), if_pos (by omega), show (Go.Lib.index r [c] + 1).toNat = (Go.Lib.index r [c]).toNat + 1 by omega]
  simp [List.take_succ_cons, Nat.add_right_comm]
/-- The cut, by the pieces. -/
theorem cut_pieces (c : UInt8) : ∀ (l : List UInt8) (a : List UInt8) (ps : List (List UInt8)), pieces c l = a :: ps → (Go.Lib.cut l [c]).1 = a ∧ (ps = [] → (Go.Lib.cut l [c]).2.1 = []) ∧ (ps ≠ [] → pieces c (Go.Lib.cut l [c]).2.1 = ps)
 | [], a, ps, h => by
  simp only [pieces, List.cons.injEq] at h
  obtain ⟨rfl, rfl⟩ := h
  exact ⟨rfl, fun _ => rfl, fun h => absurd rfl h⟩
 | x :: r, a, ps, h => by
  by_cases hx : x = c
  ·subst hx
   rw [pieces_hit] at h
   injection h with h1 h2
   subst h1 h2
   rw [cut_hit]
   exact ⟨rfl, fun h => absurd h (pieces_ne _ _), fun _ => rfl⟩
  ·cases e : pieces c r with
   | nil => exact absurd e (pieces_ne _ _)
   | cons q qs =>
    rw [pieces_miss hx r q qs e] at h
    injection h with h1 h2
    subst h1 h2
    obtain ⟨i1, i2, i3⟩ := cut_pieces c r q qs e
    rw [cut_miss hx]
    exact ⟨by rw [i1], i2, i3⟩
theorem pieces_none {c : UInt8} : ∀ {x : List UInt8}, c ∉ x → pieces c x = [x]
 | [], _ => rfl
 | y :: r, h => by
  rw [List.mem_cons, not_or] at h
  rw [pieces_miss (fun e => h.1 e.symm) r r [] (pieces_none h.2)]
theorem pieces_app {c : UInt8} (t : List UInt8) : ∀ {x : List UInt8}, c ∉ x → pieces c (x ++ c :: t) = x :: pieces c t
 | [], _ => pieces_hit c t
 | y :: r, h => by
  rw [List.mem_cons, not_or] at h
  rw [List.cons_append, pieces_miss (fun e => h.1 e.symm) _ r (pieces c t) (pieces_app t h.2)]
theorem join_pieces (c : UInt8) : ∀ l : List UInt8, Go.Lib.join (pieces c l) [c] = l
 | [] => rfl
 | x :: r => by
  have ih := join_pieces c r
  cases e : pieces c r with
  | nil => exact absurd e (pieces_ne _ _)
  | cons q qs =>
   rw [e, Go.Lib.join_cons] at ih
   by_cases hx : x = c
   ·subst hx
    rw [pieces_hit, e, Go.Lib.join_cons]
    unfold Go.Lib.joinTail at ih ⊢
    simp only [List.map_cons, List.flatten_cons, List.nil_append, List.cons_append, List.singleton_append]
    rw [← ih]; simp
   ·rw [pieces_miss hx r q qs e, Go.Lib.join_cons, List.cons_append, ih]
theorem pieces_join {c : UInt8} : ∀ {xs : List (List UInt8)}, xs ≠ [] → (∀ x ∈ xs, c ∉ x) → pieces c (Go.Lib.join xs [c]) = xs
 | [], h, _ => absurd rfl h
 | [x], _, h => by rw [Go.Lib.join_one, pieces_none (h x (by simp))]
 | x :: y :: r, _, h => by
  have ih := pieces_join (xs := y :: r) (by simp) (fun z hz => h z (by simp [hz]))
  have e : Go.Lib.join (x :: y :: r) [c] = x ++ c :: Go.Lib.join (y :: r) [c] := by
   rw [Go.Lib.join_cons, Go.Lib.join_cons]
   unfold Go.Lib.joinTail
   simp
  rw [e, pieces_app _ (h x (by simp)), ih]
theorem up {α : Type} {f : Nat → Option α} (hm : ∀ k, LeO (f k) (f (k + 1))) {k0 : Nat} {r : α} (h : f k0 = some r) : ∀ k, k0 ≤ k → f k = some r := by
 intro k hk
 obtain ⟨d, rfl⟩ : ∃ d, k = k0 + d := ⟨k - k0, by omega⟩
 clear hk
 induction d with
 | zero => exact h
 | succ d ih => exact hm (k0 + d) _ ih
theorem atoi_numD : ∀ n : Fin 101, 1 ≤ n.val → Go.Lib.atoiAll (numD n.val) = .ok (n.val : Int) := by decide +kernel
theorem read_numD : ∀ n : Fin 101, 1 ≤ n.val → spec_l1Read.f 20 (ofL (numD n.val)) = some (n.val : Int) := by decide +kernel
theorem numT_ofL (a : Int) : numT a = ofL (numD a.toNat) := rfl
theorem numP_numT {a : Int} (h0 : 1 ≤ a) (h1 : a ≤ 100) : numP (numT a) = a := by
 have e := atoi_numD ⟨a.toNat, by omega⟩ (by simp only; omega)
 simp only at e
 have e2 : Go.Lib.atoiAll (numT a).data.toList = .ok a := by
  rw [numT_ofL, ofL_data, e]; congr 1; omega
 unfold numP
 rw [e2]
 simp only
 rw [if_neg (by omega), itoa_numD (by omega) h1, if_pos ⟨by omega, by
  show ((numT a).toList == (numT a).toList) = true
  simp⟩]
theorem l1Read_numT {a : Int} (h0 : 1 ≤ a) (h1 : a ≤ 100) {K : Nat} (hK : 20 ≤ K) : spec_l1Read.f K (numT a) = some a := by
 have e := read_numD ⟨a.toNat, by omega⟩ (by simp only; omega)
 simp only at e
 rw [← numT_ofL, show ((a.toNat : Nat) : Int) = a by omega] at e
 exact up (fun k => spec_l1Read.mono (numT a) k) e K hK
theorem toList_eq_data (a : ByteArray) : a.toList = a.data.toList := Go.ByteArray.toList_eq a
theorem numP_inv {s : ByteArray} (h : 0 ≤ numP s) : s.data.toList = Go.Lib.itoa (numP s) := by
 have key : ∀ v, Go.Lib.atoiAll s.data.toList = .ok v → 0 ≤ numP s → s.data.toList = Go.Lib.itoa (numP s) := by
  intro v e h
  unfold numP at h ⊢
  rw [e] at h ⊢
  simp only at h ⊢
  by_cases h1 : v < 0
  ·rw [if_pos h1] at h; omega
  ·rw [if_neg h1] at h ⊢
   by_cases h2 : v ≤ 9223372036854775807 ∧ ((⟨(Go.Lib.itoa v).toArray⟩ : ByteArray).toList == s.toList) = true
   ·rw [if_pos h2]
    have h3 := beq_iff_eq.1 h2.2
    rw [toList_eq_data, toList_eq_data] at h3
    exact h3.symm
   ·rw [if_neg h2] at h; omega
 cases e : Go.Lib.atoiAll s.data.toList
 case ok v => exact key v e h
 all_goals (exfalso; unfold numP at h; rw [e] at h; simp at h)
theorem split_eq {s : ByteArray} (h : s.size ≤ 1048576) : strings_Split.f s (⟨#[44]⟩ : ByteArray) = some ((pieces 44 s.data.toList).map ofL) := by
 unfold strings_Split.f
 have c1 : (⟨#[44]⟩ : ByteArray).size = 1 := rfl
 rw [if_pos ⟨by omega, by omega⟩]
 have e := Go.Lib.splitB_data (⟨#[44]⟩ : ByteArray) 0 (Go.Lib.countB s (⟨#[44]⟩ : ByteArray)) s
 have e2 : Go.Lib.countB s (⟨#[44]⟩ : ByteArray) = s.data.toList.count 44 := Go.Lib.count_one 44 s.data.toList
 rw [e2] at e ⊢
 rw [show (⟨#[44]⟩ : ByteArray).data.toList = [44] from rfl, splitK_pieces] at e
 rw [← e, List.map_map]
 congr 1
 have : (ofL ∘ fun x : ByteArray => x.data.toList) = id := by
  funext x; exact ofL_self x
 rw [this, List.map_id]
theorem pieces_len (c : UInt8) : ∀ l : List UInt8, (pieces c l).length ≤ l.length + 1
 | [] => by simp [pieces]
 | x :: r => by
  have ih := pieces_len c r
  by_cases h : x = c
  ·subst h
   rw [pieces_hit, List.length_cons, List.length_cons]; omega
  ·cases e : pieces c r with
   | nil => exact absurd e (pieces_ne _ _)
   | cons q qs =>
    rw [e, List.length_cons] at ih
    rw [pieces_miss h r q qs e, List.length_cons, List.length_cons]; omega
theorem pieces_mem (c : UInt8) : ∀ (l p : List UInt8), p ∈ pieces c l → p.length ≤ l.length
 | [], p, h => by
  simp only [pieces, List.mem_singleton] at h
  subst h; simp
 | x :: r, p, h => by
  have ih := pieces_mem c r
  by_cases hx : x = c
  ·subst hx
   rw [pieces_hit, List.mem_cons] at h
   rcases h with rfl | h
   ·simp
   ·have := ih p h
    rw [List.length_cons]; omega
  ·cases e : pieces c r with
   | nil => exact absurd e (pieces_ne _ _)
   | cons q qs =>
    rw [pieces_miss hx r q qs e, List.mem_cons] at h
    rw [e] at ih
    rcases h with rfl | h
    ·have := ih q (by simp)
     rw [List.length_cons, List.length_cons]; omega
    ·have := ih p (by simp [h])
     rw [List.length_cons]; omega
theorem cut_len (p : List UInt8) (c : List UInt8) : (Go.Lib.cut p c).1.length ≤ p.length ∧ (Go.Lib.cut p c).2.1.length ≤ p.length := by
 unfold Go.Lib.cut
 split
 ·exact ⟨by simp only [List.length_take]; omega, by simp only [List.length_drop]; omega⟩
 ·exact ⟨Nat.le_refl _, by simp⟩
/-- The thread that a piece tells. -/
def pairI (p : List UInt8) : S37 := ⟨numP (ofL (Go.Lib.cut p [58]).1), numP (ofL (Go.Lib.cut p [58]).2.1)⟩
/-- What a text tells. -/
def resT (l : List S37) : List S37 × Bool := if goodT l = true then (l, true) else ([], false)
theorem good_i2 {l : List S37} {k : Nat} (hl : (l.length : Int) ≤ 10000000) (hk : l.length + 10 < k) : impl_AreThreads.f k l = some (goodT l) := by
 unfold impl_AreThreads.f goodT
 rw [good_i_l0 l (by omega) l.length k 0 (by omega) (by omega) (by omega), Bool.and_comm]
theorem rdL {ps : List (List UInt8)} {i : Int} (h0 : 0 ≤ i) (h1 : i < (ps.length : Int)) : rdOf ByteArray.empty (ps.map ofL) i = ofL (ps[i.toNat]'(by omega)) := by
 simp [rdOf, List.getD_eq_getElem?_getD, List.getElem?_eq_getElem (show i.toNat < ps.length by omega)]
theorem ofL_size (l : List UInt8) : (ofL l).size = l.length := by
 rw [ba_size]; rfl
theorem l1Split_58 (s : ByteArray) (hs : s.data.toList.length ≤ 1048576) {K : Nat} (hK : 1048580 ≤ K) : spec_l1Split.f K s 58 = some ((pieces 58 s.data.toList).map ofL) := l1Split_eq s hs 58 hK
theorem l1Split_44 (s : ByteArray) (hs : s.data.toList.length ≤ 1048576) {K : Nat} (hK : 1048580 ≤ K) : spec_l1Split.f K s 44 = some ((pieces 44 s.data.toList).map ofL) := l1Split_eq s hs 44 hK
theorem parse_i_l0 (ps : List (List UInt8)) (hp : ∀ p ∈ ps, p.length ≤ 1048576) (hl : ps.length ≤ 1048577) (d : Nat) : ∀ (K : Nat) (o : List S37) (i : Int), 0 ≤ i → i + d = ps.length → (o.length : Int) = i → d + 1048600 ≤ K →
  impl_ParseThreads.l0 K o (ps.map ofL) (ps.length : Int) i = some (resT (o ++ (ps.drop i.toNat).map pairI)) := by
 induction d with
 | zero =>
  intro K o i h0 hi ho hK
  obtain ⟨K, rfl⟩ : ∃ q, K = q + 1 := ⟨K - 1, by omega⟩
  rw [impl_ParseThreads.l0, if_neg (by omega), good_i2 (by omega) (by omega), List.drop_of_length_le (by omega), List.map_nil, List.append_nil]
  unfold resT
  simp only [Option.bind_some]
  cases goodT o <;> rfl
 | succ d ih =>
  intro K o i h0 hi ho hK
  obtain ⟨K, rfl⟩ : ∃ q, K = q + 1 := ⟨K - 1, by omega⟩
  have hlt : i.toNat < ps.length := by omega
  have hm := hp _ (List.getElem_mem hlt)
  have hc := cut_len (ps[i.toNat]) [58]
  rw [impl_ParseThreads.l0, if_pos (by omega), if_pos h0, if_pos (by rw [List.length_map]; omega), rdL h0 (by omega)]
  unfold strings_Cut.f
  rw [if_pos (by rw [ofL_size]; omega)]
  simp only [Option.bind_some]
  unfold impl_number.f
  have q1 : (⟨(Go.Lib.cut ps[i.toNat] [58]).1.toArray⟩ : ByteArray).size ≤ 281474976710656 := by
   show (ofL (Go.Lib.cut ps[i.toNat] [58]).1).size ≤ _
   rw [ofL_size]; omega
  have q2 : (⟨(Go.Lib.cut ps[i.toNat] [58]).2.1.toArray⟩ : ByteArray).size ≤ 281474976710656 := by
   show (ofL (Go.Lib.cut ps[i.toNat] [58]).2.1).size ≤ _
   rw [ofL_size]; omega
  rw [ofL_data, if_pos q1, if_pos q2]
  simp only [Option.bind_some]
  rw [if_pos (by omega), wrap_id (x := i + 1) (by omega) (by omega), ih K _ (i + 1) (by omega) (by omega) (by rw [List.length_append]; simp; omega) (by omega), show (i + 1).toNat = i.toNat + 1 by omega, List.drop_eq_getElem_cons hlt, List.map_cons, List.append_assoc]
  rfl
/-- What the program reads out of a text. -/
def readI (s : ByteArray) : List S37 := (pieces 44 s.data.toList).map pairI
theorem parse_i {s : ByteArray} (h : s.size ≤ 1048576) {K : Nat} (hK : 2100000 ≤ K) : impl_ParseThreads.f K s = some (resT (readI s)) := by
 have hz : s.data.toList.length = s.size := (ba_size s).symm
 have h1 := pieces_len 44 s.data.toList
 unfold impl_ParseThreads.f
 rw [split_eq h]
 simp only [Option.bind_some]
 rw [List.length_map, parse_i_l0 (pieces 44 s.data.toList) (fun p hp => by have := pieces_mem 44 _ p hp; omega) (by omega) (pieces 44 s.data.toList).length K [] 0 (by omega) (by omega) (by simp) (by omega)]
 rfl
theorem l1Read_l0_tot (x : ByteArray) (hx : x.size ≤ 6) (d : Nat) : ∀ (K : Nat) (n i : Int), 0 ≤ i → i + d = (x.size : Int) → d < K → ∃ v, spec_l1Read.l0 K x n i = some v := by
 induction d with
 | zero =>
  intro K n i h0 hi hK
  obtain ⟨K, rfl⟩ : ∃ q, K = q + 1 := ⟨K - 1, by omega⟩
  rw [spec_l1Read.l0, if_neg (by omega)]
  exact ⟨_, rfl⟩
 | succ d ih =>
  intro K n i h0 hi hK
  obtain ⟨K, rfl⟩ : ∃ q, K = q + 1 := ⟨K - 1, by omega⟩
  rw [spec_l1Read.l0, if_pos (by omega), if_pos h0, wrap_id (x := i + 1) (by omega) (by omega)]
  split
  ·exact ⟨_, rfl⟩
  ·split
   ·exact ⟨_, rfl⟩
   ·exact ih K _ (i + 1) (by omega) (by omega) (by omega)
theorem l1Read_tot (x : ByteArray) {K : Nat} (hK : 20 ≤ K) : ∃ v, spec_l1Read.f K x = some v := by
 obtain ⟨K, rfl⟩ : ∃ q, K = q + 1 := ⟨K - 1, by omega⟩
 have key : ∀ b : Bool, (b = false → x.size ≤ 6) → ∃ v, spec_l1Read.j0 (K + 1) x b = some v := by
  intro b hb
  rw [spec_l1Read.j0]
  cases b with
  | true => exact ⟨_, rfl⟩
  | false =>
   have := hb rfl
   rw [if_neg (by decide)]
   exact l1Read_l0_tot x this x.size K 0 0 (by omega) (by omega) (by omega)
 unfold spec_l1Read.f
 rw [l1In_rg]
 simp only [Option.bind_some]
 by_cases h : rg (x.size : Int) 1 6 = true
 ·have := rg_true.1 h
  rw [if_pos h, if_pos (by omega)]
  split
  ·exact key _ (fun _ => by omega)
  ·exact key _ (fun _ => by omega)
 ·rw [if_neg h]
  exact key true (fun e => by cases e)
theorem text_f {l : List S37} (h : goodT l = true) {K : Nat} (hK : 100 ≤ K) : spec_sgText.f K l = some (upT l l.length) := by
 obtain ⟨g1, g2, g3⟩ := goodT_true h
 unfold spec_sgText.f
 have a := text_s h l.length K 0 (by omega) (by omega) (by omega)
 rw [show ((0 : Int)).toNat = 0 from rfl, upT_zero] at a
 exact a
theorem parse_s_tot (s : ByteArray) (ps : List (List UInt8)) (hp : ∀ p ∈ ps, p.length ≤ 240) (hl : ps.length ≤ 241) (d : Nat) : ∀ (K : Nat) (o : List S37) (i : Int), 0 ≤ i → i + d = ps.length → (o.length : Int) = i → d + 1048600 ≤ K →
  ∃ (r : List S37) (b : Bool), spec_ParseThreads.l0 K s o (ps.map ofL) (ps.length : Int) i = some (r, b) ∧ (b = true → goodT r = true ∧ s = upT r r.length) ∧ (b = false → r = []) := by
 induction d with
 | zero =>
  intro K o i h0 hi ho hK
  obtain ⟨K, rfl⟩ : ∃ q, K = q + 1 := ⟨K - 1, by omega⟩
  rw [spec_ParseThreads.l0, if_neg (by omega), good_s (by omega) (by omega)]
  simp only [Option.bind_some]
  by_cases hg : goodT o = true
  ·rw [if_pos hg, text_f hg (by omega)]
   simp only [Option.bind_some]
   by_cases ht : (upT o o.length).toList = s.toList
   ·rw [if_pos ht]
    refine ⟨o, true, rfl, fun _ => ⟨hg, ?_⟩, (fun e => by cases e)⟩
    rw [toList_eq_data, toList_eq_data] at ht
    exact (ba_eq ht).symm
   ·rw [if_neg ht]
    exact ⟨[], false, rfl, (fun e => by cases e), fun _ => rfl⟩
  ·rw [if_neg hg]
   exact ⟨[], false, rfl, (fun e => by cases e), fun _ => rfl⟩
 | succ d ih =>
  intro K o i h0 hi ho hK
  obtain ⟨K, rfl⟩ : ∃ q, K = q + 1 := ⟨K - 1, by omega⟩
  have hlt : i.toNat < ps.length := by omega
  have hm := hp _ (List.getElem_mem hlt)
  rw [spec_ParseThreads.l0, if_pos (by omega), if_pos h0, if_pos (by rw [List.length_map]; omega), rdL h0 (by omega), l1Split_58 _ (by rw [ofL_data]; omega) (by omega), ofL_data]
  simp only [Option.bind_some]
  by_cases h2 : ((((pieces 58 ps[i.toNat]).map ofL).length : Nat) : Int) = 2
  ·obtain ⟨v, hv⟩ := l1Read_tot (rdOf ByteArray.empty ((pieces 58 ps[i.toNat]).map ofL) 0) (K := K) (by omega)
   obtain ⟨u, hu⟩ := l1Read_tot (rdOf ByteArray.empty ((pieces 58 ps[i.toNat]).map ofL) 1) (K := K) (by omega)
   rw [if_pos h2, if_pos (by omega), hv]
   simp only [Option.bind_some]
   rw [if_pos (by omega), hu]
   simp only [Option.bind_some]
   rw [if_pos (by omega), wrap_id (x := i + 1) (by omega) (by omega)]
   exact ih K _ (i + 1) (by omega) (by omega) (by rw [List.length_append]; simp; omega) (by omega)
  ·rw [if_neg h2]
   exact ⟨[], false, rfl, (fun e => by cases e), fun _ => rfl⟩
theorem numD_no : ∀ n : Fin 101, (44 : UInt8) ∉ numD n.val ∧ (58 : UInt8) ∉ numD n.val := by decide +kernel
theorem numD_no' {a : Int} (h1 : a ≤ 100) : (44 : UInt8) ∉ numD a.toNat ∧ (58 : UInt8) ∉ numD a.toNat := numD_no ⟨a.toNat, by omega⟩
theorem txt_data (t : S37) : (txt t).data.toList = numD t.f0.toNat ++ 58 :: numD t.f1.toNat := by
 unfold txt
 rw [ba_app, ba_app, numT_ofL, numT_ofL, ofL_data, ofL_data, List.append_assoc]
 rfl
theorem txt_pieces {t : S37} (h : thrOk t.f0 t.f1 = true) : pieces 58 (txt t).data.toList = [numD t.f0.toNat, numD t.f1.toNat] := by
 have := thrOk_true.1 h
 rw [txt_data, pieces_app _ (numD_no' (by omega)).2, pieces_none (numD_no' (by omega)).2]
theorem txt_no {t : S37} (h : thrOk t.f0 t.f1 = true) : (44 : UInt8) ∉ (txt t).data.toList := by
 have := thrOk_true.1 h
 have a := (numD_no' (a := t.f0) (by omega)).1
 have b := (numD_no' (a := t.f1) (by omega)).1
 rw [txt_data, List.mem_append, List.mem_cons]
 rintro (h | h | h)
 ·exact a h
 ·exact absurd h (by decide)
 ·exact b h
theorem good_mem {l : List S37} (h : goodT l = true) {t : S37} (ht : t ∈ l) : thrOk t.f0 t.f1 = true := by
 obtain ⟨g1, g2, g3⟩ := goodT_true h
 obtain ⟨i, hi, rfl⟩ := List.getElem_of_mem ht
 have := g3 (i : Int) (by omega) (by omega)
 rw [rdT_get (by omega) (by omega)] at this
 exact this
theorem up_data (l : List S37) : (upT l l.length).data.toList = Go.Lib.join (l.map fun t => (txt t).data.toList) [44] := by
 rw [upT_data, List.take_length]
 unfold joinT
 rw [List.map_map]; rfl
theorem up_pieces {l : List S37} (h : goodT l = true) : pieces 44 (upT l l.length).data.toList = l.map fun t => (txt t).data.toList := by
 obtain ⟨g1, g2, g3⟩ := goodT_true h
 rw [up_data]
 refine pieces_join ?_ ?_
 ·intro e
  rw [List.map_eq_nil_iff] at e
  rw [e, List.length_nil] at g1; omega
 ·intro x hx
  obtain ⟨t, ht, rfl⟩ := List.mem_map.1 hx
  exact txt_no (good_mem h ht)
theorem cut_txt {t : S37} (h : thrOk t.f0 t.f1 = true) : pairI (txt t).data.toList = t := by
 have hb := thrOk_true.1 h
 obtain ⟨e1, _, e3⟩ := cut_pieces 58 _ _ _ (txt_pieces h)
 have e4 := e3 (by simp)
 have e5 := join_pieces 58 (Go.Lib.cut (txt t).data.toList [58]).2.1
 rw [e4, Go.Lib.join_one] at e5
 unfold pairI
 rw [e1, ← e5, ← numT_ofL, ← numT_ofL, numP_numT (by omega) (by omega), numP_numT (by omega) (by omega)]
theorem readI_up {l : List S37} (h : goodT l = true) : readI (upT l l.length) = l := by
 unfold readI
 rw [up_pieces h, List.map_map]
 conv => rhs; rw [← List.map_id l]
 exact List.map_congr_left fun t ht => cut_txt (good_mem h ht)
theorem pair_txt {p : List UInt8} (h : thrOk (pairI p).f0 (pairI p).f1 = true) : p = (txt (pairI p)).data.toList := by
 have hb := thrOk_true.1 h
 have hn : numP (ofL []) = -1 := by decide +kernel
 cases e : pieces 58 p with
 | nil => exact absurd e (pieces_ne _ _)
 | cons a ps =>
  obtain ⟨e1, e2, e3⟩ := cut_pieces 58 p a ps e
  have hj := join_pieces 58 p
  have n1 : (Go.Lib.cut p [58]).1 = Go.Lib.itoa (pairI p).f0 := numP_inv (s := ofL (Go.Lib.cut p [58]).1) (by show 0 ≤ (pairI p).f0; omega)
  have n2 : (Go.Lib.cut p [58]).2.1 = Go.Lib.itoa (pairI p).f1 := numP_inv (s := ofL (Go.Lib.cut p [58]).2.1) (by show 0 ≤ (pairI p).f1; omega)
  rw [itoa_numD (by omega) (by omega)] at n1 n2
  cases ps with
  | nil =>
   exfalso
   have : (pairI p).f1 = -1 := by
    show numP (ofL (Go.Lib.cut p [58]).2.1) = -1
    rw [e2 rfl, hn]
   omega
  | cons b r =>
   have e4 := e3 (by simp)
   have e5 := join_pieces 58 (Go.Lib.cut p [58]).2.1
   rw [e4] at e5
   have e6 : Go.Lib.join (a :: b :: r) [58] = a ++ 58 :: Go.Lib.join (b :: r) [58] := by
    rw [Go.Lib.join_cons, Go.Lib.join_cons]
    unfold Go.Lib.joinTail
    simp
   rw [e, e6, e5, ← e1, n1, n2] at hj
   rw [txt_data]
   exact hj.symm
theorem up_readI {s : ByteArray} (h : goodT (readI s) = true) : s = upT (readI s) (readI s).length := by
 refine ba_eq ?_
 rw [up_data]
 have hj := join_pieces 44 s.data.toList
 have e : (readI s).map (fun t => (txt t).data.toList) = pieces 44 s.data.toList := by
  unfold readI at h ⊢
  rw [List.map_map]
  conv => rhs; rw [← List.map_id (pieces 44 s.data.toList)]
  exact List.map_congr_left fun p hp => (pair_txt (good_mem h (List.mem_map.2 ⟨p, hp, rfl⟩))).symm
 rw [e, hj]
theorem parse_s_l0 (s : ByteArray) (l : List S37) (hg : goodT l = true) (hs : s = upT l l.length) (d : Nat) : ∀ (K : Nat) (i : Int), 0 ≤ i → i + d = l.length → d + 1048600 ≤ K →
  spec_ParseThreads.l0 K s (l.take i.toNat) ((l.map fun t => (txt t).data.toList).map ofL) (l.length : Int) i = some (l, true) := by
 obtain ⟨g1, g2, g3⟩ := goodT_true hg
 induction d with
 | zero =>
  intro K i h0 hi hK
  obtain ⟨K, rfl⟩ : ∃ q, K = q + 1 := ⟨K - 1, by omega⟩
  rw [spec_ParseThreads.l0, if_neg (by omega), List.take_of_length_le (by omega), good_s (by omega) (by omega), hg]
  simp only [Option.bind_some, if_true]
  rw [text_f hg (by omega)]
  simp only [Option.bind_some]
  rw [if_pos (by rw [hs])]
 | succ d ih =>
  intro K i h0 hi hK
  obtain ⟨K, rfl⟩ : ∃ q, K = q + 1 := ⟨K - 1, by omega⟩
  have hlt : i.toNat < l.length := by omega
  have ht := good_mem hg (List.getElem_mem hlt)
  have hb := thrOk_true.1 ht
  have hz := txt_size (l[i.toNat])
  rw [ba_size] at hz
  rw [spec_ParseThreads.l0, if_pos (by omega), if_pos h0, if_pos (by rw [List.length_map, List.length_map]; omega), rdL h0 (by rw [List.length_map]; omega), List.getElem_map, l1Split_58 _ (by rw [ofL_data]; omega) (by omega), ofL_data, txt_pieces ht]
  simp only [Option.bind_some]
  rw [if_pos (by simp), if_pos (by simp)]
  have r0 : rdOf ByteArray.empty ([numD l[i.toNat].f0.toNat, numD l[i.toNat].f1.toNat].map ofL) 0 = numT l[i.toNat].f0 := rfl
  have r1 : rdOf ByteArray.empty ([numD l[i.toNat].f0.toNat, numD l[i.toNat].f1.toNat].map ofL) 1 = numT l[i.toNat].f1 := rfl
  rw [r0, l1Read_numT (by omega) (by omega) (by omega)]
  simp only [Option.bind_some]
  rw [if_pos (by simp), r1, l1Read_numT (by omega) (by omega) (by omega)]
  simp only [Option.bind_some]
  have hn := ih K (i + 1) (by omega) (by omega) (by omega)
  rw [show (i + 1).toNat = i.toNat + 1 by omega, List.take_succ_eq_append_getElem hlt] at hn
  rw [if_pos (by rw [List.length_take]; omega), wrap_id (x := i + 1) (by omega) (by omega)]
  exact hn
theorem parse_s {l : List S37} (hg : goodT l = true) {K : Nat} (hK : 2100000 ≤ K) : spec_ParseThreads.f K (upT l l.length) = some (l, true) := by
 obtain ⟨g1, g2, g3⟩ := goodT_true hg
 have hz := upT_size l l.length (Nat.le_refl _)
 have hz2 := ba_size (upT l l.length)
 unfold spec_ParseThreads.f
 rw [if_neg (by omega), l1Split_44 _ (by omega) (by omega), up_pieces hg]
 simp only [Option.bind_some]
 rw [List.length_map, List.length_map]
 exact parse_s_l0 _ l hg rfl l.length K 0 (by omega) (by omega) (by omega)
/-- Both read the same out of a text. -/
theorem parse_both {s : ByteArray} (h : s.size ≤ 1048576) {K : Nat} (hK : 2100000 ≤ K) : ∃ r : List S37 × Bool, r.1.length ≤ 30 ∧ spec_ParseThreads.f K s = some r ∧ impl_ParseThreads.f K s = some r := by
 rw [parse_i h hK]
 by_cases hg : goodT (readI s) = true
 ·have e := up_readI hg
  have p := parse_s hg hK
  rw [← e] at p
  obtain ⟨g1, g2, g3⟩ := goodT_true hg
  refine ⟨(readI s, true), by simp only; omega, p, ?_⟩
  unfold resT
  rw [if_pos hg]
 ·refine ⟨([], false), by simp, ?_, by unfold resT; rw [if_neg hg]⟩
  unfold spec_ParseThreads.f
  by_cases hz : (s.size : Int) > 240
  ·rw [if_pos hz]
  ·have hz2 := ba_size s
   have h1 := pieces_len 44 s.data.toList
   rw [if_neg hz, l1Split_44 _ (by omega) (by omega)]
   simp only [Option.bind_some]
   rw [List.length_map]
   obtain ⟨r, b, h2, h3, h4⟩ := parse_s_tot s (pieces 44 s.data.toList) (fun p hp => by have := pieces_mem 44 _ p hp; omega) (by omega) (pieces 44 s.data.toList).length K [] 0 (by omega) (by omega) (by simp) (by omega)
   rw [h2]
   cases b with
   | false => rw [h4 rfl]
   | true =>
    exfalso
    obtain ⟨h5, h6⟩ := h3 rfl
    have e := readI_up h5
    rw [← h6] at e
    rw [e] at hg
    exact hg h5
/-- Threads (a, a + 1), (a + 2, a + 3), .. -/
def tmarks (a : Int) : Nat → List S37
 | 0 => []
 | n + 1 => ⟨a, a + 1⟩ :: tmarks (a + 1 + 1) n
theorem tmarks_len (a : Int) (n : Nat) : (tmarks a n).length = n := by
 induction n generalizing a with
 | zero => rfl
 | succ n ih => simp [tmarks, ih]
theorem markThreadS_l0 (d : Nat) : ∀ (k : Nat) (l : List S37) (a i : Int), 0 ≤ i → i + d = l.length → d < k → (l.length : Int) ≤ 1000000000000 → -1000000000000 ≤ a → a + 2 * d ≤ 5000000000000 → laws_markThreadS.l0 k l a i = some (a + 2 * d, l.take i.toNat ++ tmarks a d) := by
 induction d with
 | zero =>
  intro k l a i h0 hi hk hl ha hb
  obtain ⟨k, rfl⟩ : ∃ m, k = m + 1 := ⟨k - 1, by omega⟩
  rw [laws_markThreadS.l0, if_neg (by omega), List.take_of_length_le (by omega)]
  simp [tmarks]
 | succ d ih =>
  intro k l a i h0 hi hk hl ha hb
  obtain ⟨k, rfl⟩ : ∃ m, k = m + 1 := ⟨k - 1, by omega⟩
  rw [laws_markThreadS.l0, if_pos (by omega), if_pos h0]
  simp only [Option.bind_some]
  rw [wrap_id (x := a + 1) (by omega) (by omega), wrap_id (x := a + 1 + 1) (by omega) (by omega), wrap_id (x := i + 1) (by omega) (by omega)]
  have e0 : (rd_T37 (l.set i.toNat ⟨a, (rd_T37 l i).f1⟩) i).f0 = a := by
   rw [rdT_get h0 (by rw [List.length_set]; omega)]; simp
  rw [e0, List.set_set, ih k (l.set i.toNat ⟨a, a + 1⟩) (a + 1 + 1) (i + 1) (by omega) (by rw [List.length_set]; omega) (by omega) (by rw [List.length_set]; omega) (by omega) (by omega)]
  have e : (l.set i.toNat (⟨a, a + 1⟩ : S37)).take (i + 1).toNat = l.take i.toNat ++ [⟨a, a + 1⟩] := by
   rw [show (i + 1).toNat = i.toNat + 1 by omega, List.take_succ_eq_append_getElem (by rw [List.length_set]; omega), List.take_set_of_le (Nat.le_refl _)]
   simp
  rw [e]
  simp only [tmarks, List.append_assoc, List.singleton_append]
  congr 2
  omega
theorem markThreadS_f {l : List S37} (hl : (l.length : Int) ≤ 1000000000000) {k : Nat} (hk : l.length < k) {a : Int} (ha : -1000000000000 ≤ a) (hb : a ≤ 2000000000000) : laws_markThreadS.f k l a = some (a + 2 * l.length, tmarks a l.length) := by
 unfold laws_markThreadS.f
 rw [markThreadS_l0 l.length k l a 0 (by omega) (by omega) hk hl ha (by omega)]
 simp
theorem heldThreadS_l0 (d : Nat) : ∀ (k : Nat) (l : List S37) (a i : Int), 0 ≤ i → i + d = l.length → l.drop i.toNat = tmarks a d → d < k → (l.length : Int) ≤ 1000000000000 → -1000000000000 ≤ a → a + 2 * d ≤ 5000000000000 → laws_heldThreadS.l0 k l a i = some (a + 2 * d) := by
 induction d with
 | zero =>
  intro k l a i h0 hi hd hk hl ha hb
  obtain ⟨k, rfl⟩ : ∃ m, k = m + 1 := ⟨k - 1, by omega⟩
  rw [laws_heldThreadS.l0, if_neg (by omega)]; simp
 | succ d ih =>
  intro k l a i h0 hi hd hk hl ha hb
  obtain ⟨k, rfl⟩ : ∃ m, k = m + 1 := ⟨k - 1, by omega⟩
  have e2 := List.drop_eq_getElem_cons (show i.toNat < l.length by omega)
  rw [e2, ← rdT_get h0 (by omega)] at hd
  simp only [tmarks, List.cons.injEq] at hd
  rw [laws_heldThreadS.l0, if_pos (by omega), if_pos h0, hd.1, if_pos rfl, wrap_id (x := a + 1) (by omega) (by omega), if_pos rfl, wrap_id (x := a + 1 + 1) (by omega) (by omega), wrap_id (x := i + 1) (by omega) (by omega)]
  rw [ih k l (a + 1 + 1) (i + 1) (by omega) (by omega) (by rw [show (i + 1).toNat = i.toNat + 1 by omega]; exact hd.2) (by omega) hl (by omega) (by omega)]
  congr 1
  omega
theorem heldThreadS_f {n k : Nat} (hn : (n : Int) ≤ 1000000000000) (hk : n < k) {a : Int} (ha : -1000000000000 ≤ a) (hb : a ≤ 2000000000000) : laws_heldThreadS.f k (tmarks a n) a = some (a + 2 * n) := by
 unfold laws_heldThreadS.f
 exact heldThreadS_l0 n k (tmarks a n) a 0 (by omega) (by rw [tmarks_len]; omega) (by simp) hk (by rw [tmarks_len]; exact hn) ha (by omega)
theorem FnExactParseThreads : laws_FnExactParseThreads.Pure := by
 intro s _
 by_cases hl : (s.size : Int) > 1048576
 ·refine ⟨0, ?_⟩
  unfold laws_FnExactParseThreads.f
  rw [if_pos hl]
 ·obtain ⟨K, hK⟩ : ∃ K : Nat, K = 2100000 := ⟨_, rfl⟩
  obtain ⟨r, hr, r1, r2⟩ := parse_both (s := s) (by omega) (K := K) (by omega)
  refine ⟨K, ?_⟩
  unfold laws_FnExactParseThreads.f
  rw [if_neg hl, r1, r2]
  simp only [Option.bind_some]
  rw [eqThreadS_self (by omega) (by omega)]
  simp only [Option.bind_some, if_true, bne_self_eq_false, Bool.false_eq_true, if_false]
  rw [markThreadS_f (by omega) (by omega) (by omega) (by omega)]
  simp only [Option.bind_some]
  rw [heldThreadS_f (by omega) (by omega) (by omega) (by omega)]
  simp only [Option.bind_some]
  rw [if_neg (by omega)]
  simp only [if_true]
  rw [if_neg (by omega)]

end Go.Proofs.YtpkkcocacanclaaDoor.Pure
