/- What is proved: the pure statement of the law FnExactCountUnder, about numbers and lists alone; no condition. -/
import Derived.Test.YteielocamgkabaaPx42
namespace Go.Proofs.Yteielocamgkabaa.Pure
open Go.RowKit Go.Proofs.Yteielocamgkabaa.P Go.Proofs.YteielocamgkabaaW.PrintWords Go.Proofs.YteielocamgkabaaW.PrintLast
set_option linter.unusedVariables false
set_option linter.unusedSimpArgs false

theorem wrap_id {x : Int} (h : -9000000000000000000 ≤ x) (h2 : x ≤ 9000000000000000000) : wrap64 x = x := by unfold wrap64; omega
/-- A number from lo to hi. -/
def rg (n lo hi : Int) : Bool := decide (lo ≤ n ∧ n ≤ hi)
theorem rg_true {n lo hi : Int} : rg n lo hi = true ↔ lo ≤ n ∧ n ≤ hi := by simp [rg]
theorem l1In_rg (n lo hi : Int) : spec_l1In.f n lo hi = some (rg n lo hi) := by
  unfold spec_l1In.f rg
  by_cases h : n ≥ lo
  · rw [if_pos h]; congr 1; simp only [decide_eq_decide]; omega
  · rw [if_neg h]; congr 1; exact (decide_eq_false (by omega)).symm
theorem within_rg (n lo hi : Int) : impl_within.f n lo hi = some (rg n lo hi) := by
  unfold impl_within.f rg
  by_cases h : n ≥ lo
  · rw [if_pos h]; congr 1; simp only [decide_eq_decide]; omega
  · rw [if_neg h]; congr 1; exact (decide_eq_false (by omega)).symm
/-- A thread. -/
def thrOk (a b : Int) : Bool := rg a 1 100 && rg b 1 100
theorem thrOk_true {a b : Int} : thrOk a b = true ↔ 1 ≤ a ∧ a ≤ 100 ∧ 1 ≤ b ∧ b ≤ 100 := by
  simp only [thrOk, Bool.and_eq_true, rg_true]; omega
theorem sgThread_eq (a b : Int) : spec_sgThread.f a b = some (thrOk a b) := by
  unfold spec_sgThread.f thrOk
  rw [l1In_rg, l1In_rg]
  cases rg a 1 100 <;> rfl
theorem isThread_eq (a b : Int) : impl_isThread.f a b = some (thrOk a b) := by
  unfold impl_isThread.f thrOk
  rw [within_rg, within_rg]
  cases rg a 1 100 <;> rfl
theorem rdT_get {l : List S26} {i : Int} (h0 : 0 ≤ i) (h1 : i < (l.length : Int)) : rd_T26 l i = l[i.toNat]'(by omega) := by
  simp [rd_T26, List.getD_eq_getElem?_getD, List.getElem?_eq_getElem (show i.toNat < l.length by omega)]
theorem rdL_get {l : List S23} {i : Int} (h0 : 0 ≤ i) (h1 : i < (l.length : Int)) : rd_T23 l i = l[i.toNat]'(by omega) := by
  simp [rd_T23, List.getD_eq_getElem?_getD, List.getElem?_eq_getElem (show i.toNat < l.length by omega)]
theorem eqThreadS_l0 (l : List S26) (hl : (l.length : Int) ≤ 1000000000000) (d : Nat) : ∀ (k : Nat) (i : Int), 0 ≤ i → i + d = l.length → d < k → laws_eqThreadS.l0 k l l i = some true := by
  induction d with
  | zero =>
    intro k i h0 hi hk
    obtain ⟨k, rfl⟩ : ∃ m, k = m + 1 := ⟨k - 1, by omega⟩
    rw [laws_eqThreadS.l0, if_neg (by omega)]
  | succ d ih =>
    intro k i h0 hi hk
    obtain ⟨k, rfl⟩ : ∃ m, k = m + 1 := ⟨k - 1, by omega⟩
    rw [laws_eqThreadS.l0, if_pos (by omega), if_pos h0, if_pos (by omega)]
    unfold laws_eqThread.f
    rw [if_pos rfl, if_pos rfl]
    simp only [Option.bind_some, if_true]
    rw [wrap_id (by omega) (by omega)]
    exact ih k (i + 1) (by omega) (by omega) (by omega)
theorem eqThreadS_self {l : List S26} (hl : (l.length : Int) ≤ 1000000000000) {k : Nat} (hk : l.length < k) : laws_eqThreadS.f k l l = some true := by
  unfold laws_eqThreadS.f
  rw [if_pos rfl]
  exact eqThreadS_l0 l hl l.length k 0 (by omega) (by omega) hk
/-- A thread, as the laws take it, told as one of the program's. -/
def cv (x : S23) : S26 := ⟨x.f0, x.f1⟩
theorem toThreadS_l0 (l : List S23) (hl : (l.length : Int) ≤ 1000000000000) (d : Nat) : ∀ (k : Nat) (r : List S26) (i : Int), 0 ≤ i → i + d = l.length → r.length = l.length → r.take i.toNat = (l.take i.toNat).map cv → d < k → laws_toThreadS.l0 k l r i = some (l.map cv) := by
  induction d with
  | zero =>
    intro k r i h0 hi hr ht hk
    obtain ⟨k, rfl⟩ : ∃ m, k = m + 1 := ⟨k - 1, by omega⟩
    rw [laws_toThreadS.l0, if_neg (by omega)]
    rw [List.take_of_length_le (by omega), List.take_of_length_le (by omega)] at ht
    rw [ht]
  | succ d ih =>
    intro k r i h0 hi hr ht hk
    obtain ⟨k, rfl⟩ : ∃ m, k = m + 1 := ⟨k - 1, by omega⟩
    rw [laws_toThreadS.l0, if_pos (by omega), if_pos h0]
    unfold laws_toThread.f
    simp only [Option.bind_some]
    rw [if_pos (by omega), wrap_id (by omega) (by omega)]
    refine ih k _ (i + 1) (by omega) (by omega) (by rw [List.length_set]; exact hr) ?_ (by omega)
    rw [show (i + 1).toNat = i.toNat + 1 by omega, List.take_succ_eq_append_getElem (by rw [List.length_set]; omega), List.take_set_of_le (Nat.le_refl _), ht,
      List.take_succ_eq_append_getElem (show i.toNat < l.length by omega), List.map_append, rdL_get h0 (by omega)]
    simp [cv]
theorem toThreadS_f {l : List S23} {k : Nat} (hl : (l.length : Int) ≤ 1048576) (hk : 1048577 < k) : laws_toThreadS.f k l = some (l.map cv) := by
  unfold laws_toThreadS.f
  rw [if_pos (by omega), if_pos (by simp; omega)]
  exact toThreadS_l0 l (by omega) l.length k _ 0 (by omega) (by omega) (by simp) (by simp) (by omega)
/-- A thread that comes before another one. -/
def lessB (a b c d : Int) : Bool := decide (a < c ∨ a = c ∧ b < d)
theorem sgLess_eq (a b c d : Int) : spec_sgLess.f a b c d = some (lessB a b c d) := by
  unfold spec_sgLess.f lessB
  repeat' split
  all_goals (congr 1; first | (rw [eq_comm, decide_eq_true_iff]; omega) | (rw [eq_comm, decide_eq_false_iff_not]; omega) | (rw [decide_eq_decide]; omega))
theorem cmpInt_eq (a b : Int) : cmp_Compare_int.f a b = some (if a < b then -1 else if a > b then 1 else 0) := by
  unfold cmp_Compare_int.f cmp_isNaN_int.f
  simp only [Option.bind_some, bne_self_eq_false]
  rw [if_neg (by decide), if_neg (by decide)]
  repeat' split
  all_goals rfl
theorem cmpOr_eq (a b : Int) {k : Nat} (hk : 3 ≤ k) : cmp_Or_int.f k [a, b] = some (if a = 0 then b else a) := by
  obtain ⟨k, rfl⟩ : ∃ m, k = m + 1 + 1 + 1 := ⟨k - 3, by omega⟩
  unfold cmp_Or_int.f
  rw [cmp_Or_int.l0, if_pos (by simp), if_pos (by omega), if_pos (by simp), wrap_id (by omega) (by omega)]
  have e0 : rd [a, b] 0 = a := rfl
  rw [e0]
  by_cases h : a = 0
  · rw [if_pos h, if_pos h, cmp_Or_int.l0, if_pos (by simp), if_pos (by omega), if_pos (by simp), wrap_id (by omega) (by omega)]
    have e1 : rd [a, b] (0 + 1) = b := rfl
    rw [e1]
    by_cases h2 : b = 0
    · rw [if_pos h2, cmp_Or_int.l0, if_neg (by simp), h2]
    · rw [if_neg h2]
  · rw [if_neg h, if_neg h]
theorem compareThreads_eq (a b c d : Int) {k : Nat} (hk : 3 ≤ k) : ∃ r : Int, impl_compareThreads.f k a b c d = some r ∧ (r < 0 ↔ lessB a b c d = true) ∧ (r = 0 ↔ a = c ∧ b = d) := by
  unfold impl_compareThreads.f
  rw [cmpInt_eq, cmpInt_eq]
  simp only [Option.bind_some]
  rw [cmpOr_eq _ _ hk]
  refine ⟨_, rfl, ?_, ?_⟩
  · simp only [lessB, decide_eq_true_eq]
    repeat' split
    all_goals omega
  · repeat' split
    all_goals omega
/-- Threads i, i + 1, .. of the next d, each behind the one before. -/
def chkD (l : List S26) (i : Int) : Nat → Bool
  | 0 => true
  | d + 1 => thrOk (rd_T26 l i).f0 (rd_T26 l i).f1 && (decide (i ≤ 0) || lessB (rd_T26 l (i - 1)).f0 (rd_T26 l (i - 1)).f1 (rd_T26 l i).f0 (rd_T26 l i).f1) && chkD l (i + 1) d
theorem chkD_thr {l : List S26} : ∀ {d : Nat} {i : Int}, chkD l i d = true → ∀ j, i ≤ j → j < i + d → thrOk (rd_T26 l j).f0 (rd_T26 l j).f1 = true
  | 0, i, _, j, h1, h2 => by omega
  | d + 1, i, h, j, h1, h2 => by
    simp only [chkD, Bool.and_eq_true] at h
    rcases Int.lt_or_eq_of_le h1 with h3 | h3
    · exact chkD_thr h.2 j (by omega) (by omega)
    · rw [← h3]; exact h.1.1
/-- Threads in order. -/
def goodT (l : List S26) : Bool := rg l.length 1 30 && chkD l 0 l.length
theorem goodT_true {l : List S26} (h : goodT l = true) : 1 ≤ (l.length : Int) ∧ (l.length : Int) ≤ 30 ∧ ∀ i : Int, 0 ≤ i → i < l.length → thrOk (rd_T26 l i).f0 (rd_T26 l i).f1 = true := by
  simp only [goodT, Bool.and_eq_true, rg_true] at h
  exact ⟨h.1.1, h.1.2, fun i h0 h1 => chkD_thr h.2 i h0 (by omega)⟩
theorem good_s_l0 (l : List S26) (hl : (l.length : Int) ≤ 1000000000000) (d : Nat) : ∀ (k : Nat) (i : Int), 0 ≤ i → i + d = l.length → d < k → spec_sgGood.l0 k l l (l.length : Int) i = some (chkD l i d) := by
  induction d with
  | zero =>
    intro k i h0 hi hk
    obtain ⟨k, rfl⟩ : ∃ m, k = m + 1 := ⟨k - 1, by omega⟩
    rw [spec_sgGood.l0, if_neg (by omega)]; rfl
  | succ d ih =>
    intro k i h0 hi hk
    obtain ⟨k, rfl⟩ : ∃ m, k = m + 1 := ⟨k - 1, by omega⟩
    rw [spec_sgGood.l0, if_pos (by omega), if_pos h0, if_pos (by omega), sgThread_eq, wrap_id (x := i + 1) (by omega) (by omega), wrap_id (x := i - 1) (by omega) (by omega), ih k (i + 1) (by omega) (by omega) (by omega)]
    simp only [Option.bind_some, chkD]
    by_cases h : thrOk (rd_T26 l i).f0 (rd_T26 l i).f1 = true
    · rw [if_pos h, h]
      by_cases h2 : i > 0
      · rw [if_pos h2, if_pos (by omega), if_pos (by omega), sgLess_eq, decide_eq_false (show ¬ i ≤ 0 by omega)]
        simp only [Option.bind_some]
        cases lessB (rd_T26 l (i - 1)).f0 (rd_T26 l (i - 1)).f1 (rd_T26 l i).f0 (rd_T26 l i).f1 <;> simp
      · rw [if_neg h2, decide_eq_true (show i ≤ 0 by omega)]; simp
    · rw [if_neg h]; simp only [Bool.not_eq_true] at h; rw [h]; rfl
theorem good_s {l : List S26} {k : Nat} (hl : (l.length : Int) ≤ 1048576) (hk : 1048577 < k) : spec_sgGood.f k l = some (goodT l) := by
  unfold spec_sgGood.f goodT
  rw [l1In_rg]
  simp only [Option.bind_some]
  by_cases h : rg l.length 1 30 = true
  · rw [if_pos h, good_s_l0 l (by omega) l.length k 0 (by omega) (by omega) (by omega), h]; simp
  · rw [if_neg h]; simp only [Bool.not_eq_true] at h; rw [h]; rfl
theorem good_i_l0 (l : List S26) (hl : (l.length : Int) ≤ 1000000000000) (d : Nat) : ∀ (k : Nat) (i : Int), 0 ≤ i → i + d = l.length → d + 4 < k → impl_AreThreads.l0 k l l (l.length : Int) i = some (chkD l i d && rg l.length 1 30) := by
  induction d with
  | zero =>
    intro k i h0 hi hk
    obtain ⟨k, rfl⟩ : ∃ m, k = m + 1 := ⟨k - 1, by omega⟩
    rw [impl_AreThreads.l0, if_neg (by omega), within_rg]; simp [chkD]
  | succ d ih =>
    intro k i h0 hi hk
    obtain ⟨k, rfl⟩ : ∃ m, k = m + 1 := ⟨k - 1, by omega⟩
    rw [impl_AreThreads.l0, if_pos (by omega), if_pos h0, if_pos (by omega), isThread_eq, wrap_id (x := i + 1) (by omega) (by omega), wrap_id (x := i - 1) (by omega) (by omega), ih k (i + 1) (by omega) (by omega) (by omega)]
    simp only [Option.bind_some, chkD]
    by_cases h : thrOk (rd_T26 l i).f0 (rd_T26 l i).f1 = true
    · rw [if_pos h, h]
      by_cases h2 : i > 0
      · obtain ⟨r, h3, h4, _⟩ := compareThreads_eq (rd_T26 l (i - 1)).f0 (rd_T26 l (i - 1)).f1 (rd_T26 l i).f0 (rd_T26 l i).f1 (k := k) (by omega)
        rw [if_pos h2, if_pos (by omega), if_pos (by omega), h3, decide_eq_false (show ¬ i ≤ 0 by omega)]
        simp only [Option.bind_some]
        by_cases h5 : r < 0
        · rw [if_neg (by omega), h4.1 h5]; simp
        · rw [if_pos (by omega)]
          have : lessB (rd_T26 l (i - 1)).f0 (rd_T26 l (i - 1)).f1 (rd_T26 l i).f0 (rd_T26 l i).f1 = false := by
            rw [← Bool.not_eq_true]; exact fun e => h5 (h4.2 e)
          rw [this]; simp
      · rw [if_neg h2, decide_eq_true (show i ≤ 0 by omega)]; simp
    · rw [if_neg h]; simp only [Bool.not_eq_true] at h; rw [h]; rfl
theorem good_i {l : List S26} {k : Nat} (hl : (l.length : Int) ≤ 1048576) (hk : 1048590 < k) : impl_AreThreads.f k l = some (goodT l) := by
  unfold impl_AreThreads.f goodT
  rw [good_i_l0 l (by omega) l.length k 0 (by omega) (by omega) (by omega), Bool.and_comm]
theorem under_l0 (l : List S26) (a b : Int) (hl : (l.length : Int) ≤ 1000000000000) (d : Nat) : ∀ (k : Nat) (i : Int), 0 ≤ i → i + d = l.length → d < k → spec_sgUnder.l0 k a b l (l.length : Int) i = some ((l.drop i.toNat).any (underT a b)) := by
  induction d with
  | zero =>
    intro k i h0 hi hk
    obtain ⟨k, rfl⟩ : ∃ m, k = m + 1 := ⟨k - 1, by omega⟩
    rw [spec_sgUnder.l0, if_neg (by omega), List.drop_eq_nil_of_le (by omega)]; rfl
  | succ d ih =>
    intro k i h0 hi hk
    obtain ⟨k, rfl⟩ : ∃ m, k = m + 1 := ⟨k - 1, by omega⟩
    rw [spec_sgUnder.l0, if_pos (show i < (l.length : Int) by omega), if_pos h0, if_pos (show i < (l.length : Int) by omega), wrap_id (x := i + 1) (by omega) (by omega), List.drop_eq_getElem_cons (by omega), List.any_cons, ← rdT_get h0 (by omega), show i.toNat + 1 = (i + 1).toNat by omega]
    by_cases h : underT a b (rd_T26 l i) = true
    · rw [h]
      have h' := h
      simp only [underT, decide_eq_true_eq] at h'
      rw [if_pos h']; rfl
    · have h' := h
      simp only [underT, decide_eq_true_eq] at h'
      rw [if_neg h', ih k (i + 1) (by omega) (by omega) (by omega)]
      simp only [Bool.not_eq_true] at h
      rw [h]; rfl
theorem under_f {l : List S26} {k : Nat} (a b : Int) (hl : (l.length : Int) ≤ 1048576) (hk : 1048577 < k) : spec_sgUnder.f k l a b = some (l.any (underT a b)) := by
  unfold spec_sgUnder.f
  rw [under_l0 l a b (by omega) l.length k 0 (by omega) (by omega) (by omega)]; simp
/-- From some number of rounds on. -/
def Ev {α : Type} (f : Nat → Option α) (r : α) : Prop := ∃ K, ∀ k, K ≤ k → f k = some r
theorem Ev.succ {α : Type} {f g : Nat → Option α} {r : α} (h : Ev g r) (e : ∀ k, f (k + 1) = g k) : Ev f r := by
  obtain ⟨K, h⟩ := h
  refine ⟨K + 1, fun k hk => ?_⟩
  obtain ⟨k, rfl⟩ : ∃ m, k = m + 1 := ⟨k - 1, by omega⟩
  rw [e]; exact h k (by omega)
theorem Ev.succ2 {α : Type} {f g : Nat → Option α} {r : α} (h : Ev g r) (e : ∀ k, f (k + 1 + 1) = g k) : Ev f r := by
  obtain ⟨K, h⟩ := h
  refine ⟨K + 2, fun k hk => ?_⟩
  obtain ⟨k, rfl⟩ : ∃ m, k = m + 1 + 1 := ⟨k - 2, by omega⟩
  rw [e]; exact h k (by omega)
theorem Ev.one {α : Type} {f : Nat → Option α} {r : α} (e : ∀ k, f (k + 1) = some r) : Ev f r :=
  ⟨1, fun k hk => by obtain ⟨k, rfl⟩ : ∃ m, k = m + 1 := ⟨k - 1, by omega⟩; exact e k⟩
theorem Ev.two {α : Type} {f : Nat → Option α} {r : α} (e : ∀ k, f (k + 1 + 1) = some r) : Ev f r :=
  ⟨2, fun k hk => by obtain ⟨k, rfl⟩ : ∃ m, k = m + 1 + 1 := ⟨k - 2, by omega⟩; exact e k⟩
theorem Ev.congr {α : Type} {f g : Nat → Option α} {r : α} (h : Ev g r) (K : Nat) (e : ∀ k, K ≤ k → f k = g k) : Ev f r := by
  obtain ⟨L, h⟩ := h
  exact ⟨K + L, fun k hk => by rw [e k (by omega)]; exact h k (by omega)⟩
theorem Ev.lift {α : Type} {f : Nat → Option α} {r : α} (h : Ev f r) : ∃ K, ∀ k, K ≤ k → f k = some r := h
theorem Ev.succK {α : Type} {f g : Nat → Option α} {r : α} (h : Ev g r) (L : Nat) (e : ∀ k, L ≤ k → f (k + 1) = g k) : Ev f r := by
  obtain ⟨K, h⟩ := h
  refine ⟨K + L + 1, fun k hk => ?_⟩
  obtain ⟨k, rfl⟩ : ∃ m, k = m + 1 := ⟨k - 1, by omega⟩
  rw [e k (by omega)]; exact h k (by omega)
theorem cu_in {l : List S26} (hm : (l.length : Int) ≤ 1048576) (lo x : Int) (hlo : 0 ≤ lo) (hlo2 : lo ≤ 1) (h0 : 0 ≤ x) (h1 : x ≤ 100) (hc : ∀ c, ∃ r : Int, Ev (fun k => spec_CountUnder.l0 k l c (x + 1)) (r, true) ∧ Ev (fun k => impl_countUnder.l0 k l lo c (x + 1)) r) (d : Nat) : ∀ (c y : Int), 0 ≤ y → y + d = 101 →
    ∃ r : Int, Ev (fun k => spec_CountUnder.l1 k l c x y) (r, true) ∧ Ev (fun k => impl_countUnder.l1 k l lo c x y) r := by
  induction d with
  | zero =>
    intro c y hy hd
    obtain ⟨r, e1, e2⟩ := hc c
    refine ⟨r, Ev.succ e1 ?_, Ev.succ e2 ?_⟩
    · intro k; (try simp only); rw [spec_CountUnder.l1, if_neg (by omega), wrap_id (by omega) (by omega)]
    · intro k; (try simp only); rw [impl_countUnder.l1, if_neg (by omega), wrap_id (by omega) (by omega)]
  | succ d ih =>
    intro c y hy hd
    by_cases h : l.any (underT x y) = true
    · obtain ⟨r, e1, e2⟩ := ih (wrap64 (c + 1)) (y + 1) (by omega) (by omega)
      refine ⟨r, Ev.succK e1 1048600 ?_, Ev.succ e2 ?_⟩
      · intro k hk; (try simp only); rw [spec_CountUnder.l1, if_pos (by omega), under_f x y hm (by omega), h, wrap_id (x := y + 1) (by omega) (by omega)]; rfl
      · intro k; (try simp only); rw [impl_countUnder.l1, if_pos (by omega)]; unfold impl_isUnder.f; rw [h, wrap_id (x := y + 1) (by omega) (by omega)]; rfl
    · obtain ⟨r, e1, e2⟩ := ih c (y + 1) (by omega) (by omega)
      simp only [Bool.not_eq_true] at h
      refine ⟨r, Ev.succK e1 1048600 ?_, Ev.succ e2 ?_⟩
      · intro k hk; (try simp only); rw [spec_CountUnder.l1, if_pos (by omega), under_f x y hm (by omega), h, wrap_id (x := y + 1) (by omega) (by omega)]; rfl
      · intro k; (try simp only); rw [impl_countUnder.l1, if_pos (by omega)]; unfold impl_isUnder.f; rw [h, wrap_id (x := y + 1) (by omega) (by omega)]; rfl
theorem cu_out {l : List S26} (hm : (l.length : Int) ≤ 1048576) (d : Nat) : ∀ (c x : Int), 0 ≤ x → x + d = 101 →
    ∃ r : Int, Ev (fun k => spec_CountUnder.l0 k l c x) (r, true) ∧ Ev (fun k => impl_countUnder.l0 k l 1 c x) r := by
  induction d with
  | zero =>
    intro c x hx hd
    refine ⟨c, Ev.one ?_, Ev.one ?_⟩
    · intro k; (try simp only); rw [spec_CountUnder.l0, if_neg (by omega)]
    · intro k; (try simp only); rw [impl_countUnder.l0, if_neg (by omega)]
  | succ d ih =>
    intro c x hx hd
    obtain ⟨r, e1, e2⟩ := cu_in hm 1 x (by omega) (by omega) hx (by omega) (fun c => ih c (x + 1) (by omega) (by omega)) 100 c 1 (by omega) (by omega)
    refine ⟨r, Ev.succ e1 ?_, Ev.succ e2 ?_⟩
    · intro k; (try simp only); rw [spec_CountUnder.l0, if_pos (by omega)]
    · intro k; (try simp only); rw [impl_countUnder.l0, if_pos (by omega)]
theorem szThreadS_far {l : List S23} (h : (l.length : Int) > 1048576) (h2 : l.length * 16 ≤ 140737488351232) : laws_szThreadS.f l 1048576 = some (-1) := by
  unfold laws_szThreadS.f
  rw [wrap_id (by omega) (by omega), if_pos (by omega)]
theorem szThreadS_near {l : List S23} (h : ¬ (l.length : Int) > 1048576) : laws_szThreadS.f l 1048576 = some (1048576 - (l.length : Int)) := by
  unfold laws_szThreadS.f
  rw [wrap_id (by omega) (by omega), if_neg (by omega)]
theorem close_CountUnder {l : List S23} (hl : ¬ (l.length : Int) > 1048576) (r : Int × Bool) (hs : Ev (fun k => spec_CountUnder.f k (l.map cv)) r) (hi : Ev (fun k => impl_CountUnder.f k (l.map cv)) r) : ∃ k, laws_FnExactCountUnder.f k l = some true := by
  obtain ⟨K, hs⟩ := hs
  obtain ⟨L, hi⟩ := hi
  (try simp only at hs hi)
  refine ⟨1049000 + K + L + 1, ?_⟩
  have hm : ((l.map cv).length : Int) ≤ 1048576 := by simp; omega
  unfold laws_FnExactCountUnder.f
  rw [szThreadS_near hl]
  simp only [Option.bind_some]
  rw [if_neg (by omega), toThreadS_f (by omega) (by omega)]
  simp only [Option.bind_some]
  rw [hs _ (by omega), hi _ (by omega)]
  simp only [Option.bind_some, if_true, bne_self_eq_false]
  rw [laws_FnExactCountUnder.j0, if_neg (by decide), toThreadS_f (by omega) (by omega)]
  simp only [Option.bind_some]
  rw [eqThreadS_self (by omega) (by omega)]
  rfl
theorem FnExactCountUnder : ∀ (l0 : List (S23)), l0.length * 16 ≤ 140737488351232 → (∀ x ∈ l0, (Lit.int .i64 x.f0).wf = true ∧ (Lit.int .i64 x.f1).wf = true) → ∃ k, laws_FnExactCountUnder.f k l0 = some true := by
  intro l h16 _
  by_cases hl : (l.length : Int) > 1048576
  · refine ⟨0, ?_⟩
    unfold laws_FnExactCountUnder.f
    rw [szThreadS_far hl h16]; rfl
  · have hm : ((l.map cv).length : Int) ≤ 1048576 := by simp; omega
    by_cases h : goodT (l.map cv) = true
    · obtain ⟨r, e1, e2⟩ := cu_out hm 100 0 1 (by omega) (by omega)
      refine close_CountUnder hl (r, true) (e1.congr 1048600 ?_) ?_
      · intro k hk
        (try simp only)
        unfold spec_CountUnder.f
        rw [good_s hm (by omega), h]; rfl
      · obtain ⟨K, e2⟩ := e2
        refine ⟨K + 1048600, ?_⟩
        intro k hk
        have := e2 k (by omega)
        (try simp only at this ⊢)
        unfold impl_CountUnder.f impl_countUnder.f
        rw [good_i hm (by omega), h]
        simp only [Option.bind_some, if_true]
        rw [this]; rfl
    · simp only [Bool.not_eq_true] at h
      refine close_CountUnder hl (0, false) ⟨1048600, ?_⟩ ⟨1048600, ?_⟩
      · intro k hk
        (try simp only)
        unfold spec_CountUnder.f
        rw [good_s hm (by omega), h]; rfl
      · intro k hk
        (try simp only)
        unfold impl_CountUnder.f
        rw [good_i hm (by omega), h]; rfl

end Go.Proofs.Yteielocamgkabaa.Pure
