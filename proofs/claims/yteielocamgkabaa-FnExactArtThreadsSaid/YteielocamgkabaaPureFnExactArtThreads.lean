/- What is proved: the pure statement of the law FnExactArtThreads, about numbers and lists alone; no condition. -/
import Derived.Test.YteielocamgkabaaPx5
namespace Go.Proofs.Yteielocamgkabaa.Pure
open Go.RowKit Go.Proofs.Yteielocamgkabaa.P Go.Proofs.YteielocamgkabaaW.PrintWords Go.Proofs.YteielocamgkabaaW.PrintLast
set_option linter.unusedVariables false
set_option linter.unusedSimpArgs false

theorem wrap_id {x : Int} (h : -9000000000000000000 ≤ x) (h2 : x ≤ 9000000000000000000) : wrap64 x = x := by unfold wrap64; omega
/-- A number from lo to hi. -/
def rg (n lo hi : Int) : Bool := decide (lo ≤ n ∧ n ≤ hi)
theorem rg_true {n lo hi : Int} : rg n lo hi = true ↔ lo ≤ n ∧ n ≤ hi := by simp [rg]
theorem l1In_rg (n lo hi : Int) : spec_l1In.f n lo hi = some (rg n lo hi) := by
  unfold spec_l1In.f rg
  by_cases h : n ≥ lo
  · rw [if_pos h]; congr 1; simp only [decide_eq_decide]; omega
  · rw [if_neg h]; congr 1; exact (decide_eq_false (by omega)).symm
theorem within_rg (n lo hi : Int) : impl_within.f n lo hi = some (rg n lo hi) := by
  unfold impl_within.f rg
  by_cases h : n ≥ lo
  · rw [if_pos h]; congr 1; simp only [decide_eq_decide]; omega
  · rw [if_neg h]; congr 1; exact (decide_eq_false (by omega)).symm
/-- A thread. -/
def thrOk (a b : Int) : Bool := rg a 1 100 && rg b 1 100
theorem thrOk_true {a b : Int} : thrOk a b = true ↔ 1 ≤ a ∧ a ≤ 100 ∧ 1 ≤ b ∧ b ≤ 100 := by
  simp only [thrOk, Bool.and_eq_true, rg_true]; omega
theorem sgThread_eq (a b : Int) : spec_sgThread.f a b = some (thrOk a b) := by
  unfold spec_sgThread.f thrOk
  rw [l1In_rg, l1In_rg]
  cases rg a 1 100 <;> rfl
theorem isThread_eq (a b : Int) : impl_isThread.f a b = some (thrOk a b) := by
  unfold impl_isThread.f thrOk
  rw [within_rg, within_rg]
  cases rg a 1 100 <;> rfl
theorem rdT_get {l : List S26} {i : Int} (h0 : 0 ≤ i) (h1 : i < (l.length : Int)) : rd_T26 l i = l[i.toNat]'(by omega) := by
  simp [rd_T26, List.getD_eq_getElem?_getD, List.getElem?_eq_getElem (show i.toNat < l.length by omega)]
theorem rdL_get {l : List S23} {i : Int} (h0 : 0 ≤ i) (h1 : i < (l.length : Int)) : rd_T23 l i = l[i.toNat]'(by omega) := by
  simp [rd_T23, List.getD_eq_getElem?_getD, List.getElem?_eq_getElem (show i.toNat < l.length by omega)]
theorem eqThreadS_l0 (l : List S26) (hl : (l.length : Int) ≤ 1000000000000) (d : Nat) : ∀ (k : Nat) (i : Int), 0 ≤ i → i + d = l.length → d < k → laws_eqThreadS.l0 k l l i = some true := by
  induction d with
  | zero =>
    intro k i h0 hi hk
    obtain ⟨k, rfl⟩ : ∃ m, k = m + 1 := ⟨k - 1, by omega⟩
    rw [laws_eqThreadS.l0, if_neg (by omega)]
  | succ d ih =>
    intro k i h0 hi hk
    obtain ⟨k, rfl⟩ : ∃ m, k = m + 1 := ⟨k - 1, by omega⟩
    rw [laws_eqThreadS.l0, if_pos (by omega), if_pos h0, if_pos (by omega)]
    unfold laws_eqThread.f
    rw [if_pos rfl, if_pos rfl]
    simp only [Option.bind_some, if_true]
    rw [wrap_id (by omega) (by omega)]
    exact ih k (i + 1) (by omega) (by omega) (by omega)
theorem eqThreadS_self {l : List S26} (hl : (l.length : Int) ≤ 1000000000000) {k : Nat} (hk : l.length < k) : laws_eqThreadS.f k l l = some true := by
  unfold laws_eqThreadS.f
  rw [if_pos rfl]
  exact eqThreadS_l0 l hl l.length k 0 (by omega) (by omega) hk
/-- Threads (a, a + 1), (a + 2, a + 3), .. -/
def tmarks (a : Int) : Nat → List S26
  | 0 => []
  | n + 1 => ⟨a, a + 1⟩ :: tmarks (a + 1 + 1) n
theorem tmarks_len (a : Int) (n : Nat) : (tmarks a n).length = n := by
  induction n generalizing a with
  | zero => rfl
  | succ n ih => simp [tmarks, ih]
theorem markThreadS_l0 (d : Nat) : ∀ (k : Nat) (l : List S26) (a i : Int), 0 ≤ i → i + d = l.length → d < k → (l.length : Int) ≤ 1000000000000 → -1000000000000 ≤ a → a + 2 * d ≤ 5000000000000 → laws_markThreadS.l0 k l a i = some (a + 2 * d, l.take i.toNat ++ tmarks a d) := by
  induction d with
  | zero =>
    intro k l a i h0 hi hk hl ha hb
    obtain ⟨k, rfl⟩ : ∃ m, k = m + 1 := ⟨k - 1, by omega⟩
    rw [laws_markThreadS.l0, if_neg (by omega), List.take_of_length_le (by omega)]
    simp [tmarks]
  | succ d ih =>
    intro k l a i h0 hi hk hl ha hb
    obtain ⟨k, rfl⟩ : ∃ m, k = m + 1 := ⟨k - 1, by omega⟩
    rw [laws_markThreadS.l0, if_pos (by omega), if_pos h0]
    simp only [Option.bind_some]
    rw [wrap_id (x := a + 1) (by omega) (by omega), wrap_id (x := a + 1 + 1) (by omega) (by omega), wrap_id (x := i + 1) (by omega) (by omega)]
    have e0 : (rd_T26 (l.set i.toNat ⟨a, (rd_T26 l i).f1⟩) i).f0 = a := by
      rw [rdT_get h0 (by rw [List.length_set]; omega)]; simp
    rw [e0, List.set_set, ih k (l.set i.toNat ⟨a, a + 1⟩) (a + 1 + 1) (i + 1) (by omega) (by rw [List.length_set]; omega) (by omega) (by rw [List.length_set]; omega) (by omega) (by omega)]
    have e : (l.set i.toNat (⟨a, a + 1⟩ : S26)).take (i + 1).toNat = l.take i.toNat ++ [⟨a, a + 1⟩] := by
      rw [show (i + 1).toNat = i.toNat + 1 by omega, List.take_succ_eq_append_getElem (by rw [List.length_set]; omega), List.take_set_of_le (Nat.le_refl _)]
      simp
    rw [e]
    simp only [tmarks, List.append_assoc, List.singleton_append]
    congr 2
    omega
theorem markThreadS_f {l : List S26} (hl : (l.length : Int) ≤ 1000000000000) {k : Nat} (hk : l.length < k) {a : Int} (ha : -1000000000000 ≤ a) (hb : a ≤ 2000000000000) : laws_markThreadS.f k l a = some (a + 2 * l.length, tmarks a l.length) := by
  unfold laws_markThreadS.f
  rw [markThreadS_l0 l.length k l a 0 (by omega) (by omega) hk hl ha (by omega)]
  simp
theorem heldThreadS_l0 (d : Nat) : ∀ (k : Nat) (l : List S26) (a i : Int), 0 ≤ i → i + d = l.length → l.drop i.toNat = tmarks a d → d < k → (l.length : Int) ≤ 1000000000000 → -1000000000000 ≤ a → a + 2 * d ≤ 5000000000000 → laws_heldThreadS.l0 k l a i = some (a + 2 * d) := by
  induction d with
  | zero =>
    intro k l a i h0 hi hd hk hl ha hb
    obtain ⟨k, rfl⟩ : ∃ m, k = m + 1 := ⟨k - 1, by omega⟩
    rw [laws_heldThreadS.l0, if_neg (by omega)]; simp
  | succ d ih =>
    intro k l a i h0 hi hd hk hl ha hb
    obtain ⟨k, rfl⟩ : ∃ m, k = m + 1 := ⟨k - 1, by omega⟩
    have e2 := List.drop_eq_getElem_cons (show i.toNat < l.length by omega)
    rw [e2, ← rdT_get h0 (by omega)] at hd
    simp only [tmarks, List.cons.injEq] at hd
    rw [laws_heldThreadS.l0, if_pos (by omega), if_pos h0, hd.1, if_pos rfl, wrap_id (x := a + 1) (by omega) (by omega), if_pos rfl, wrap_id (x := a + 1 + 1) (by omega) (by omega), wrap_id (x := i + 1) (by omega) (by omega)]
    rw [ih k l (a + 1 + 1) (i + 1) (by omega) (by omega) (by rw [show (i + 1).toNat = i.toNat + 1 by omega]; exact hd.2) (by omega) hl (by omega) (by omega)]
    congr 1
    omega
theorem heldThreadS_f {n k : Nat} (hn : (n : Int) ≤ 1000000000000) (hk : n < k) {a : Int} (ha : -1000000000000 ≤ a) (hb : a ≤ 2000000000000) : laws_heldThreadS.f k (tmarks a n) a = some (a + 2 * n) := by
  unfold laws_heldThreadS.f
  exact heldThreadS_l0 n k (tmarks a n) a 0 (by omega) (by rw [tmarks_len]; omega) (by simp) hk (by rw [tmarks_len]; exact hn) ha (by omega)
theorem close_ArtThreads (a : Int) (r : List S26 × Bool) (hr : (r.1.length : Int) ≤ 1000) (hs : ∀ k, 1000 < k → spec_ArtThreads.f k a = some r) (hi : ∀ k, 1000 < k → impl_ArtThreads.f k a = some r) : ∃ k, laws_FnExactArtThreads.f k a = some true := by
  obtain ⟨k, hk⟩ : ∃ k : Nat, k = 2000 := ⟨_, rfl⟩
  refine ⟨k + 1 + 1, ?_⟩
  unfold laws_FnExactArtThreads.f
  rw [hs _ (by omega), hi _ (by omega)]
  simp only [Option.bind_some]
  rw [eqThreadS_self (by omega) (by omega)]
  simp only [Option.bind_some, if_true, bne_self_eq_false]
  rw [laws_FnExactArtThreads.j0, if_neg (by decide), markThreadS_f (by omega) (by omega) (by omega) (by omega)]
  simp only [Option.bind_some]
  rw [heldThreadS_f (by omega) (by omega) (by omega) (by omega)]
  simp only [Option.bind_some]
  rw [if_neg (by omega)]
  simp only [if_true]
  rw [hi _ (by omega)]
  simp only [Option.bind_some]
  rw [eqThreadS_self (by omega) (by omega)]
  simp only [Option.bind_some, if_true, bne_self_eq_false]
  rw [laws_FnExactArtThreads.j1, if_neg (by decide), heldThreadS_f (by omega) (by omega) (by omega) (by omega)]
  simp only [Option.bind_some]
  rw [if_neg (by omega)]
  simp only [if_true]
theorem art_both (a : Int) (ha : 1 ≤ a ∧ a ≤ 30) (d : Nat) : ∀ (o : List S26) (i : Int), 1 ≤ i → i + d = a + 1 → (o.length : Int) = i - 1 →
    ∃ r : List S26, (r.length : Int) ≤ 30 ∧ ∀ k : Nat, d < k → spec_ArtThreads.l0 k a o i = some (r, true) ∧ impl_ArtThreads.l0 k a o i = some (r, true) := by
  induction d with
  | zero =>
    intro o i h0 hi ho
    refine ⟨o, by omega, ?_⟩
    intro k hk
    obtain ⟨k, rfl⟩ : ∃ m, k = m + 1 := ⟨k - 1, by omega⟩
    rw [spec_ArtThreads.l0, impl_ArtThreads.l0, if_neg (by omega), if_neg (by omega)]
    exact ⟨rfl, rfl⟩
  | succ d ih =>
    intro o i h0 hi ho
    obtain ⟨r, hrl, hrr⟩ := ih (o ++ [(⟨i, wrap64 ((wrap64 (a + 1)) - i)⟩ : S26)]) (i + 1) (by omega) (by omega) (by simp; omega)
    refine ⟨r, hrl, ?_⟩
    intro k hk
    obtain ⟨k, rfl⟩ : ∃ m, k = m + 1 := ⟨k - 1, by omega⟩
    have := hrr k (by omega)
    rw [spec_ArtThreads.l0, impl_ArtThreads.l0, if_pos (by omega), if_pos (by omega), wrap_id (x := i + 1) (by omega) (by omega), if_pos (by omega), if_pos (by omega)]
    exact this
theorem FnExactArtThreads : laws_FnExactArtThreads.Pure := by
  intro a _
  by_cases h : rg a 1 30 = true
  · have hb := rg_true.1 h
    obtain ⟨r, hrl, hrr⟩ := art_both a hb a.toNat [] 1 (by omega) (by omega) (by simp)
    refine close_ArtThreads a (r, true) (by simp; omega) ?_ ?_
    · intro k hk
      unfold spec_ArtThreads.f
      rw [l1In_rg, h]
      simp only [Option.bind_some, if_true]
      exact (hrr k (by omega)).1
    · intro k hk
      unfold impl_ArtThreads.f
      rw [within_rg, h]
      simp only [Option.bind_some, if_true]
      exact (hrr k (by omega)).2
  · simp only [Bool.not_eq_true] at h
    refine close_ArtThreads a ([], false) (by simp) ?_ ?_
    · intro k hk
      unfold spec_ArtThreads.f
      rw [l1In_rg, h]; rfl
    · intro k hk
      unfold impl_ArtThreads.f
      rw [within_rg, h]; rfl

end Go.Proofs.Yteielocamgkabaa.Pure
