/- What is proved: the pure statement of the law FnExactTableCrossings, about numbers and lists alone; no condition. -/
import Derived.Test.YtejchneeheeldaaPx42
namespace Go.Proofs.Ytejchneeheeldaa.Pure
open Go.RowKit Go.Proofs.Ytejchneeheeldaa.P Go.Proofs.YtejchneeheeldaaW.PrintWords Go.Proofs.YtejchneeheeldaaW.PrintLast
set_option linter.unusedVariables false
set_option linter.unusedSimpArgs false

theorem wrap_id {x : Int} (h : -9000000000000000000 ≤ x) (h2 : x ≤ 9000000000000000000) : wrap64 x = x := by unfold wrap64; omega
theorem rdC_get {l : List S59} {i : Int} (h0 : 0 ≤ i) (h1 : i < (l.length : Int)) : rd_T59 l i = l[i.toNat]'(by omega) := by
  simp [rd_T59, List.getD_eq_getElem?_getD, List.getElem?_eq_getElem (show i.toNat < l.length by omega)]
theorem l1In_eq (n lo hi : Int) : spec_l1In.f n lo hi = some (inR n lo hi) := by
  unfold spec_l1In.f inR
  by_cases h : n ≥ lo
  · rw [if_pos h]; congr 1; simp only [decide_eq_decide]; omega
  · rw [if_neg h]; congr 1; exact (decide_eq_false (by omega)).symm
theorem wrap_one {n lo hi : Int} (h : inR n lo hi = true) (h1 : -1000000 ≤ lo) (h2 : hi ≤ 1000000) : wrap64 (n - 1) = n - 1 := by
  have := inR_true.1 h
  unfold wrap64
  omega
/-- A table. -/
def tabOk (n f : Int) : Bool := inR n 3 60 && inR f 0 (n - 1)
theorem tabOk_true {n f : Int} : tabOk n f = true ↔ 3 ≤ n ∧ n ≤ 60 ∧ 0 ≤ f ∧ f ≤ n - 1 := by
  simp only [tabOk, Bool.and_eq_true, inR_true]
  omega
theorem srPoints_eq (n : Int) : spec_srPoints.f n = some (inR n 3 60) := by
  unfold spec_srPoints.f; rw [l1In_eq]; rfl
theorem step_eq {n f p : Int} (h : tabOk n f = true) (h0 : 0 ≤ p) (h1 : p ≤ 60) : Int.tmod (wrap64 (p * f)) n = p * f % n := by
  have hb := tabOk_true.1 h
  have hm : 0 ≤ p * f := Int.mul_nonneg h0 (by omega)
  have hm2 : p * f ≤ 60 * 60 := by
    have := Int.mul_le_mul h1 (show f ≤ 60 by omega) (by omega) (by omega)
    omega
  rw [wrap_id (by omega) (by omega), Int.tmod_eq_emod_of_nonneg hm]
theorem step_bd {n f p : Int} (h : tabOk n f = true) : 0 ≤ p * f % n ∧ p * f % n < n := by
  have hb := tabOk_true.1 h
  exact ⟨Int.emod_nonneg _ (by omega), Int.emod_lt_of_pos _ (by omega)⟩
theorem taGood_eq (n f : Int) : spec_taGood.f n f = some (tabOk n f) := by
  unfold spec_taGood.f tabOk
  rw [srPoints_eq]
  simp only [Option.bind_some]
  by_cases h : inR n 3 60 = true
  · rw [if_pos h, wrap_one h (by omega) (by omega), l1In_eq, h]; rfl
  · rw [if_neg h]; simp only [Bool.not_eq_true] at h; rw [h]; rfl
theorem isTable_nil (n f : Int) : impl_isTable.f n f [] = some (tabOk n f) := by
  simp [impl_isTable.f, tabOk]
theorem isTable_one (n f p : Int) : impl_isTable.f n f [p] = some (tabOk n f && inR p 0 (n - 1)) := by
  simp [impl_isTable.f, tabOk]
/-- The points to which the lines of i, i + 1, .. (d of them) lead. -/
def rowD (n f i : Int) : Nat → List Int
  | 0 => []
  | d + 1 => (i * f % n) :: rowD n f (i + 1) d
theorem rowD_len (n f i : Int) (d : Nat) : (rowD n f i d).length = d := by
  induction d generalizing i with
  | zero => rfl
  | succ d ih => simp [rowD, ih]
theorem rowD_at (n f : Int) (d : Nat) : ∀ (i : Int) (j : Nat), j < d → (rowD n f i d).getD j 0 = (i + j) * f % n := by
  induction d with
  | zero => intro i j h; omega
  | succ d ih =>
    intro i j h
    cases j with
    | zero => simp [rowD]
    | succ j =>
      simp only [rowD, List.getD_cons_succ]
      rw [ih (i + 1) j (by omega)]
      congr 2
      omega
theorem rd_row (n f x : Int) (h0 : 0 ≤ x) (h1 : x < n) : rd (rowD n f 0 n.toNat) x = x * f % n := by
  unfold rd
  rw [rowD_at n f n.toNat 0 x.toNat (by omega)]
  congr 2
  omega
theorem taRow_l0 (n f : Int) (h : tabOk n f = true) (d : Nat) : ∀ (k : Nat) (l : List Int) (i : Int), 0 ≤ i → i + d = n → d < k → (l.length : Int) + d ≤ 1000 →
    spec_taRow.l0 k n f l i = some (l ++ rowD n f i d) := by
  have hb := tabOk_true.1 h
  induction d with
  | zero =>
    intro k l i hi hd hk _
    obtain ⟨k, rfl⟩ : ∃ m, k = m + 1 := ⟨k - 1, by omega⟩
    rw [spec_taRow.l0, if_neg (by omega)]
    simp [rowD]
  | succ d ih =>
    intro k l i hi hd hk hl
    obtain ⟨k, rfl⟩ : ∃ m, k = m + 1 := ⟨k - 1, by omega⟩
    rw [spec_taRow.l0, if_pos (by omega), if_neg (by omega), if_pos (by omega), step_eq h hi (by omega), wrap_id (x := i + 1) (by omega) (by omega), ih k _ (i + 1) (by omega) (by omega) (by omega) (by simp; omega)]
    simp [rowD]
theorem taRow_f (n f : Int) (h : tabOk n f = true) (k : Nat) (hk : 61 ≤ k) : spec_taRow.f k n f = some (rowD n f 0 n.toNat) := by
  have hb := tabOk_true.1 h
  unfold spec_taRow.f
  rw [taRow_l0 n f h n.toNat k [] 0 (by omega) (by omega) (by omega) (by simp; omega)]
  simp
theorem timesRow_l0 (n f : Int) (h : tabOk n f = true) (d : Nat) : ∀ (k : Nat) (l : List Int) (i : Int), 0 ≤ i → i + d = n → d < k → (l.length : Int) + d ≤ 1000 →
    impl_timesRow.l0 k n f l n i = some (l ++ rowD n f i d) := by
  have hb := tabOk_true.1 h
  induction d with
  | zero =>
    intro k l i hi hd hk _
    obtain ⟨k, rfl⟩ : ∃ m, k = m + 1 := ⟨k - 1, by omega⟩
    rw [impl_timesRow.l0, if_neg (by omega)]
    simp [rowD]
  | succ d ih =>
    intro k l i hi hd hk hl
    obtain ⟨k, rfl⟩ : ∃ m, k = m + 1 := ⟨k - 1, by omega⟩
    rw [impl_timesRow.l0, if_pos (by omega), if_neg (by omega), if_pos (by omega), step_eq h hi (by omega), wrap_id (x := i + 1) (by omega) (by omega), ih k _ (i + 1) (by omega) (by omega) (by omega) (by simp; omega)]
    simp [rowD]
/-- A chord comes before another. -/
def lessC (x y : S59) : Bool := decide (x.f0 < y.f0 ∨ x.f0 = y.f0 ∧ x.f1 < y.f1)
theorem lessC_iff (x y : S59) : lessC x y = true ↔ x.f0 < y.f0 ∨ x.f0 = y.f0 ∧ x.f1 < y.f1 := by unfold lessC; simp
/-- A chord laid into its place, if it isn't there. -/
def insD : List S59 → S59 → List S59
  | [], t => [t]
  | x :: r, t => if lessC x t = true then x :: insD r t else if (x.f0 == t.f0 && (x.f1 == t.f1)) = true then x :: r else t :: x :: r
theorem insD_cons (x : S59) (r : List S59) (t : S59) : insD (x :: r) t = if lessC x t = true then x :: insD r t else if (x.f0 == t.f0 && (x.f1 == t.f1)) = true then x :: r else t :: x :: r := rfl
theorem eqC {x t : S59} : (x.f0 == t.f0 && (x.f1 == t.f1)) = true ↔ x = t := by
  cases x; cases t; simp
theorem insD_len : ∀ (l : List S59) (t : S59), (insD l t).length ≤ l.length + 1
  | [], t => by simp [insD]
  | x :: r, t => by
    have := insD_len r t
    unfold insD
    repeat' split
    all_goals simp
    all_goals omega
theorem insD_mem {y : S59} : ∀ {l : List S59} {t : S59}, y ∈ insD l t ↔ y = t ∨ y ∈ l
  | [], t => by simp [insD]
  | x :: r, t => by
    unfold insD
    split
    · rw [List.mem_cons, insD_mem, List.mem_cons]
      constructor
      · rintro (h | h | h) <;> simp [h]
      · rintro (h | h | h) <;> simp [h]
    · split
      · rename_i h
        rw [eqC] at h
        subst h
        simp
      · simp
theorem insD_sorted : ∀ (l : List S59) (t : S59), l.Pairwise (fun a b => lessC a b = true) → (insD l t).Pairwise (fun a b => lessC a b = true)
  | [], t, _ => by simp [insD]
  | x :: r, t, h => by
    obtain ⟨h1, h2⟩ := List.pairwise_cons.1 h
    unfold insD
    split
    · rename_i hx
      refine List.pairwise_cons.2 ⟨fun y hy => ?_, insD_sorted r t h2⟩
      rcases insD_mem.1 hy with rfl | hy
      · exact hx
      · exact h1 y hy
    · split
      · exact h
      · rename_i hx hn
        have hx2 : lessC t x = true := by
          rw [lessC_iff] at hx ⊢
          rw [eqC] at hn
          have : ¬ (x.f0 = t.f0 ∧ x.f1 = t.f1) := fun e => hn (by cases x; cases t; simp only at e; rw [e.1, e.2])
          omega
        refine List.pairwise_cons.2 ⟨fun y hy => ?_, h⟩
        rcases List.mem_cons.1 hy with rfl | hy
        · exact hx2
        · have := h1 y hy
          rw [lessC_iff] at this hx2 ⊢
          omega
theorem foldD : ∀ (l o : List S59), o.Pairwise (fun a b => lessC a b = true) → (l.foldl insD o).Pairwise (fun a b => lessC a b = true) ∧ (∀ y, y ∈ l.foldl insD o ↔ y ∈ o ∨ y ∈ l) ∧ (l.foldl insD o).length ≤ o.length + l.length
  | [], o, h => ⟨h, by simp, by simp⟩
  | x :: l, o, h => by
    obtain ⟨h1, h2, h3⟩ := foldD l (insD o x) (insD_sorted o x h)
    refine ⟨h1, fun y => ?_, ?_⟩
    · rw [List.foldl_cons, h2, insD_mem, List.mem_cons]
      constructor
      · rintro ((e | e) | e) <;> simp [e]
      · rintro (e | e | e) <;> simp [e]
    · have := insD_len o x
      rw [List.foldl_cons, List.length_cons]; omega
/-- Two ascending lists with the same members are one. -/
theorem ascC_ext : ∀ {l m : List S59}, l.Pairwise (fun a b => lessC a b = true) → m.Pairwise (fun a b => lessC a b = true) → (∀ x, x ∈ l ↔ x ∈ m) → l = m
  | [], [], _, _, _ => rfl
  | [], y :: m, _, _, h => absurd ((h y).2 List.mem_cons_self) (by simp)
  | x :: l, [], _, _, h => absurd ((h x).1 List.mem_cons_self) (by simp)
  | x :: l, y :: m, hl, hm, h => by
    have irr : ∀ z : S59, ¬ lessC z z = true := fun z hz => by rw [lessC_iff] at hz; omega
    obtain ⟨hl1, hl2⟩ := List.pairwise_cons.1 hl
    obtain ⟨hm1, hm2⟩ := List.pairwise_cons.1 hm
    have e : x = y := by
      have h1 := (h x).1 List.mem_cons_self
      have h2 := (h y).2 List.mem_cons_self
      rcases List.mem_cons.1 h1 with h1 | h1
      · exact h1
      · rcases List.mem_cons.1 h2 with h2 | h2
        · exact h2.symm
        · have a1 := hm1 x h1; have a2 := hl1 y h2
          rw [lessC_iff] at a1 a2; omega
    subst e
    congr 1
    refine ascC_ext hl2 hm2 fun z => ?_
    constructor
    · intro hz
      rcases List.mem_cons.1 ((h z).1 (List.mem_cons_of_mem _ hz)) with e | e
      · have := hl1 z hz; rw [e] at this; exact absurd this (irr _)
      · exact e
    · intro hz
      rcases List.mem_cons.1 ((h z).2 (List.mem_cons_of_mem _ hz)) with e | e
      · have := hm1 z hz; rw [e] at this; exact absurd this (irr _)
      · exact e
theorem compact_uptoC (d : Array S59) (hd : ∀ i j, i ≤ j → j < d.size → ¬ lessC d[j]! d[i]! = true) : ∀ m, m ≤ d.size →
    (Go.Lib.compactUpTo d m).Pairwise (fun a b => lessC a b = true) ∧ (∀ x, x ∈ Go.Lib.compactUpTo d m ↔ ∃ j, j < m ∧ d[j]! = x)
  | 0, _ => ⟨by simp [Go.Lib.compactUpTo], by simp [Go.Lib.compactUpTo]⟩
  | m + 1, hm => by
    obtain ⟨h1, h2⟩ := compact_uptoC d hd m (by omega)
    rw [Go.Lib.compactUpTo_succ]
    by_cases hk : m = 0 ∨ d[m]! ≠ d[m - 1]!
    · have e : Go.Lib.keeps d m = true := by unfold Go.Lib.keeps; exact decide_eq_true hk
      rw [e, if_pos rfl]
      constructor
      · rw [List.pairwise_append]
        refine ⟨h1, by simp, fun x hx y hy => ?_⟩
        obtain ⟨j, hj, rfl⟩ := (h2 x).1 hx
        obtain rfl := List.mem_singleton.1 hy
        rcases hk with hk | hk
        · omega
        · have a1 := hd j (m - 1) (by omega) (by omega)
          have a2 := hd (m - 1) m (by omega) (by omega)
          have a3 : ¬ (d[m]!.f0 = d[m - 1]!.f0 ∧ d[m]!.f1 = d[m - 1]!.f1) := fun e => hk (by
            generalize d[m]! = p at e ⊢
            generalize d[m - 1]! = q at e ⊢
            cases p; cases q; simp only at e; rw [e.1, e.2])
          rw [lessC_iff] at a1 a2 ⊢
          omega
      · intro x
        rw [List.mem_append, h2, List.mem_singleton]
        constructor
        · rintro (⟨j, hj, rfl⟩ | rfl)
          · exact ⟨j, by omega, rfl⟩
          · exact ⟨m, by omega, rfl⟩
        · rintro ⟨j, hj, rfl⟩
          by_cases e : j = m
          · subst e; exact .inr rfl
          · exact .inl ⟨j, by omega, rfl⟩
    · have e : Go.Lib.keeps d m = false := by unfold Go.Lib.keeps; exact decide_eq_false hk
      rw [e]
      simp only [Bool.false_eq_true, if_false, List.append_nil]
      refine ⟨h1, fun x => ?_⟩
      rw [h2]
      constructor
      · rintro ⟨j, hj, rfl⟩; exact ⟨j, by omega, rfl⟩
      · rintro ⟨j, hj, rfl⟩
        by_cases e : j = m
        · subst e
          exact ⟨j - 1, by omega, by
            rcases Decidable.em (d[j]! = d[j - 1]!) with h | h
            · exact h.symm
            · exact absurd (Or.inr h) hk⟩
        · exact ⟨j, by omega, rfl⟩
theorem ltC' (x y : S59) : Go.Proofs.ltOf cmpC x y = lessC x y := by rw [ltC]; rfl
theorem compactC_sorted (l : List S59) : (Go.Lib.compact (l.mergeSort fun x y => !(Go.Proofs.ltOf cmpC) y x)).Pairwise (fun a b => lessC a b = true) ∧ ∀ x, x ∈ Go.Lib.compact (l.mergeSort fun x y => !(Go.Proofs.ltOf cmpC) y x) ↔ x ∈ l := by
  have hp := List.pairwise_mergeSort (le := fun x y : S59 => !(Go.Proofs.ltOf cmpC) y x) (fun a b c h1 h2 => by
    simp only [ltC', Bool.not_eq_true', ← Bool.not_eq_true, lessC_iff] at *; omega) (fun a b => by
    simp only [ltC', Bool.or_eq_true, Bool.not_eq_true', ← Bool.not_eq_true, lessC_iff]; omega) l
  have hm := fun x => List.mem_mergeSort (le := fun x y : S59 => !(Go.Proofs.ltOf cmpC) y x) (a := x) (l := l)
  generalize (l.mergeSort fun x y => !(Go.Proofs.ltOf cmpC) y x) = s at hp hm
  have hd : ∀ i j, i ≤ j → j < s.toArray.size → ¬ lessC s.toArray[j]! s.toArray[i]! = true := by
    intro i j hij hj
    have hj' : j < s.length := by simpa using hj
    rw [getElem!_pos s.toArray i (by simp; omega), getElem!_pos s.toArray j hj]
    simp only [List.getElem_toArray]
    rcases Nat.lt_or_eq_of_le hij with h | h
    · have := List.pairwise_iff_getElem.1 hp i j (by omega) hj' h
      rw [ltC'] at this
      simpa using this
    · subst h; rw [lessC_iff]; omega
  obtain ⟨h1, h2⟩ := compact_uptoC s.toArray hd s.length (by simp)
  refine ⟨h1, fun x => ?_⟩
  unfold Go.Lib.compact
  rw [h2, ← hm, List.mem_iff_getElem]
  constructor
  · rintro ⟨j, hj, rfl⟩
    exact ⟨j, hj, by rw [getElem!_pos s.toArray j (by simpa using hj)]; simp⟩
  · rintro ⟨j, hj, rfl⟩
    exact ⟨j, hj, by rw [getElem!_pos s.toArray j (by simpa using hj)]; simp⟩
theorem ordered_f (l : List S59) (hl : (l.length : Int) ≤ 1000) : impl_ordered.f l = some (l.foldl insD []) := by
  unfold impl_ordered.f impl_Chord_87.f impl_Chord_89.f
  rw [if_pos (by omega)]
  simp only [Option.bind_some]
  rw [if_pos (by simp; omega)]
  simp only [Option.bind_some]
  congr 1
  obtain ⟨h1, h2⟩ := compactC_sorted l
  obtain ⟨h3, h4, _⟩ := foldD l [] List.Pairwise.nil
  refine ascC_ext h1 h3 fun x => ?_
  rw [h2, h4]; simp
theorem putC_l0 (l : List S59) (a b : Int) (hl : (l.length : Int) ≤ 1000) (d : Nat) : ∀ (k : Nat) (i : Int), 0 ≤ i → i + d = l.length → d < k →
    spec_srPut.l0 k l i a b = some (l.take i.toNat ++ insD (l.drop i.toNat) ⟨a, b⟩) := by
  induction d with
  | zero =>
    intro k i h0 hi hk
    obtain ⟨k, rfl⟩ : ∃ m, k = m + 1 := ⟨k - 1, by omega⟩
    have e : i.toNat = l.length := by omega
    rw [spec_srPut.l0, if_neg (by omega)]
    simp only [Option.bind_some]
    rw [if_pos h0, if_pos (by omega)]
    simp only [e, List.take_length, List.drop_length, List.nil_append, List.length_nil, List.append_nil, List.length_append, List.length_cons, Nat.zero_add, Nat.add_zero, insD]
    rw [if_pos (by omega), if_pos (by omega), if_pos (by omega)]
  | succ d ih =>
    intro k i h0 hi hk
    obtain ⟨k, rfl⟩ : ∃ m, k = m + 1 := ⟨k - 1, by omega⟩
    have hlt : i.toNat < l.length := by omega
    have e1 : l.drop i.toNat = rd_T59 l i :: l.drop (i + 1).toNat := by
      rw [List.drop_eq_getElem_cons hlt, ← rdC_get h0 (by omega), show (i + 1).toNat = i.toNat + 1 by omega]
    have e2 : l.take (i + 1).toNat = l.take i.toNat ++ [rd_T59 l i] := by
      rw [show (i + 1).toNat = i.toNat + 1 by omega, List.take_succ_eq_append_getElem hlt, ← rdC_get h0 (by omega)]
    have e3 : l.take i.toNat ++ rd_T59 l i :: l.drop (i + 1).toNat = l := by rw [← e1, List.take_append_drop]
    have el : spec_srLess.f (rd_T59 l i).f0 (rd_T59 l i).f1 a b = some (lessC (rd_T59 l i) ⟨a, b⟩) := by
      unfold spec_srLess.f lessC
      repeat' split
      all_goals (congr 1; first | (rw [eq_comm, decide_eq_true_iff]; simp only; omega) | (rw [eq_comm, decide_eq_false_iff_not]; simp only; omega) | (rw [decide_eq_decide]; simp only; omega))
    rw [spec_srPut.l0, if_pos (show i < (l.length : Int) by omega), if_pos h0, el]
    simp only [Option.bind_some]
    rw [e1]
    by_cases h : lessC (rd_T59 l i) ⟨a, b⟩ = true
    · rw [if_pos h, wrap_id (x := i + 1) (by omega) (by omega), ih k (i + 1) (by omega) (by omega) (by omega), e2]
      rw [insD_cons, if_pos h]
      simp
    · rw [if_neg h, insD_cons, if_neg h]
      by_cases h2 : ((rd_T59 l i).f0 == a && ((rd_T59 l i).f1 == b)) = true
      · rw [if_pos h2, if_pos h2, e3]
      · rw [if_neg h2, if_neg h2, if_pos (by omega)]
        have ht : (l.take i.toNat).length ≤ l.length := by rw [List.length_take]; omega
        simp only [List.nil_append, List.length_nil, Nat.zero_add, List.length_append, List.length_cons]
        rw [if_pos (by omega), if_pos (by omega), ← e1, List.length_drop, if_pos (by omega), e1]
        simp
theorem putC_f (l : List S59) (a b : Int) (hl : (l.length : Int) ≤ 1000) {k : Nat} (hk : l.length < k) : spec_srPut.f k l a b = some (insD l ⟨a, b⟩) := by
  unfold spec_srPut.f
  rw [putC_l0 l a b hl l.length k 0 (by omega) (by omega) hk]
  simp
/-- The chord of two points. -/
def chC (a b : Int) : S59 := ⟨mn a b, mx a b⟩
theorem srChord_eq (a b : Int) : spec_srChord.f a b = some (mn a b, mx a b) := by
  unfold spec_srChord.f spec_l1Least.f spec_l1Most.f mn mx
  by_cases h : a < b
  · rw [if_pos h, if_neg (by omega)]
    simp only [Option.bind_some, Option.some.injEq, Prod.mk.injEq]
    constructor <;> split <;> omega
  · by_cases h2 : b < a
    · rw [if_neg h, if_pos (by omega)]
      simp only [Option.bind_some, Option.some.injEq, Prod.mk.injEq]
      constructor <;> split <;> omega
    · rw [if_neg h, if_neg (by omega)]
      simp only [Option.bind_some, Option.some.injEq, Prod.mk.injEq]
      constructor <;> split <;> omega
/-- The chords along the lines of i, i + 1, .. (d of them). -/
def chL (r : List Int) (i : Int) : Nat → List S59
  | 0 => []
  | d + 1 => if i = rd r i then chL r (i + 1) d else chC i (rd r i) :: chL r (i + 1) d
theorem chL_len (r : List Int) : ∀ (d : Nat) (i : Int), (chL r i d).length ≤ d
  | 0, i => Nat.le_refl _
  | d + 1, i => by
    have := chL_len r d (i + 1)
    unfold chL
    split
    · omega
    · simp; omega
theorem taChords_l0 (r : List Int) (hr : (r.length : Int) ≤ 60) (d : Nat) : ∀ (k : Nat) (o : List S59) (i : Int), 0 ≤ i → i + d = r.length → d + 200 < k → (o.length : Int) ≤ i →
    spec_taChords.l0 k o r (r.length : Int) i = some ((chL r i d).foldl insD o) := by
  induction d with
  | zero =>
    intro k o i h0 hi hk ho
    obtain ⟨k, rfl⟩ : ∃ m, k = m + 1 := ⟨k - 1, by omega⟩
    rw [spec_taChords.l0, if_neg (by omega)]; rfl
  | succ d ih =>
    intro k o i h0 hi hk ho
    obtain ⟨k, rfl⟩ : ∃ m, k = m + 1 := ⟨k - 1, by omega⟩
    rw [spec_taChords.l0, if_pos (show i < (r.length : Int) by omega), if_pos h0, if_pos (show i < (r.length : Int) by omega), wrap_id (x := i + 1) (by omega) (by omega)]
    by_cases h : i = rd r i
    · rw [if_pos h, ih k o (i + 1) (by omega) (by omega) (by omega) (by omega), chL, if_pos h]
    · rw [if_neg h, srChord_eq]
      simp only [Option.bind_some]
      rw [putC_f _ _ _ (by omega) (by omega)]
      simp only [Option.bind_some]
      have hl := insD_len o ⟨mn i (rd r i), mx i (rd r i)⟩
      rw [ih k _ (i + 1) (by omega) (by omega) (by omega) (by omega), chL, if_neg h]
      rfl
theorem timesChords_l0 (r : List Int) (hr : (r.length : Int) ≤ 60) (d : Nat) : ∀ (k : Nat) (o : List S59) (i : Int), 0 ≤ i → i + d = r.length → d < k → (o.length : Int) ≤ i →
    impl_timesChords.l0 k o r (r.length : Int) i = some ((o ++ chL r i d).foldl insD []) := by
  induction d with
  | zero =>
    intro k o i h0 hi hk ho
    obtain ⟨k, rfl⟩ : ∃ m, k = m + 1 := ⟨k - 1, by omega⟩
    rw [impl_timesChords.l0, if_neg (by omega), ordered_f _ (by omega)]
    simp [chL]
  | succ d ih =>
    intro k o i h0 hi hk ho
    obtain ⟨k, rfl⟩ : ∃ m, k = m + 1 := ⟨k - 1, by omega⟩
    rw [impl_timesChords.l0, if_pos (show i < (r.length : Int) by omega), if_pos h0, if_pos (show i < (r.length : Int) by omega), wrap_id (x := i + 1) (by omega) (by omega)]
    by_cases h : i = rd r i
    · rw [if_pos h, ih k o (i + 1) (by omega) (by omega) (by omega) (by omega), chL, if_pos h]
    · rw [if_neg h]
      unfold impl_chord.f
      simp only [Option.bind_some]
      rw [if_pos (by omega), ih k _ (i + 1) (by omega) (by omega) (by omega) (by simp; omega), chL, if_neg h]
      simp [chC]
/-- The chords of a table. -/
def tabC (n f : Int) : List S59 := (chL (rowD n f 0 n.toNat) 0 n.toNat).foldl insD []
theorem tabC_len (n f : Int) : (tabC n f).length ≤ n.toNat := by
  have h1 := (foldD (chL (rowD n f 0 n.toNat) 0 n.toNat) [] List.Pairwise.nil).2.2
  have h2 := chL_len (rowD n f 0 n.toNat) n.toNat 0
  unfold tabC
  simp at h1; omega
theorem taChords_f (n f : Int) (h : tabOk n f = true) {k : Nat} (hk : 300 ≤ k) : spec_taChords.f k n f = some (tabC n f) := by
  have hb := tabOk_true.1 h
  have hl := rowD_len n f 0 n.toNat
  unfold spec_taChords.f
  rw [taRow_f n f h k (by omega)]
  simp only [Option.bind_some]
  rw [taChords_l0 (rowD n f 0 n.toNat) (by omega) n.toNat k [] 0 (by omega) (by omega) (by omega) (by simp)]
  rfl
theorem timesChords_f (n f : Int) (h : tabOk n f = true) {k : Nat} (hk : 300 ≤ k) : impl_timesChords.f k n f = some (tabC n f) := by
  have hb := tabOk_true.1 h
  have hl := rowD_len n f 0 n.toNat
  unfold impl_timesChords.f impl_timesRow.f
  rw [timesRow_l0 n f h n.toNat k [] 0 (by omega) (by omega) (by omega) (by simp; omega)]
  simp only [Option.bind_some, List.nil_append]
  rw [timesChords_l0 (rowD n f 0 n.toNat) (by omega) n.toNat k [] 0 (by omega) (by omega) (by omega) (by simp)]
  rfl
/-- Two chords cross. -/
def crB (a b c d : Int) : Bool := decide (a < c ∧ c < b ∧ b < d ∨ c < a ∧ a < d ∧ d < b)
theorem cross_i (a b c d : Int) : impl_crossing.f a b c d = some (crB a b c d) := by
  unfold impl_crossing.f crB
  repeat' split
  all_goals (congr 1; first | (rw [eq_comm, decide_eq_true_iff]; omega) | (rw [eq_comm, decide_eq_false_iff_not]; omega) | (rw [decide_eq_decide]; omega))
theorem cross_s {a b c d : Int} (h1 : a < b) (h2 : c < d) : spec_srCross.f a b c d = some (crB a b c d) := by
  have e1 : (((decide (c < b)) != (decide (d < b))) = true) = (¬ (c < b ↔ d < b)) := by
    rw [bne_iff_ne, ne_eq, decide_eq_decide]
  have e2 : (((decide (c < b)) != false) = true) = (c < b) := by simp
  have e3 : ((false != (decide (d < b))) = true) = (d < b) := by simp
  unfold spec_srCross.f crB
  simp only [e1, e2, e3]
  repeat' split
  all_goals (congr 1; rw [Bool.eq_iff_iff]; simp only [Bool.not_true, Bool.not_eq_true', beq_eq_false_iff_ne, ne_eq, Bool.false_eq_true, false_iff, decide_eq_true_eq]; omega)
def crC (x y : S59) : Bool := crB x.f0 x.f1 y.f0 y.f1
theorem crC_comm (x y : S59) : crC x y = crC y x := by
  unfold crC crB
  rw [decide_eq_decide]
  omega
/-- How many pairs cross. -/
def prs : List S59 → Nat
  | [] => 0
  | c :: r => r.countP (crC c) + prs r
theorem prs_snoc (c : S59) : ∀ l : List S59, prs (l ++ [c]) = prs l + l.countP (crC c)
  | [] => by simp [prs]
  | x :: r => by
    rw [List.cons_append, prs, prs_snoc c r, prs, List.countP_append]
    simp only [List.countP_cons, List.countP_nil]
    rw [crC_comm c x]
    omega
theorem prs_bd : ∀ l : List S59, prs l ≤ l.length * l.length
  | [] => Nat.le_refl _
  | c :: r => by
    have h1 := prs_bd r
    have h2 := List.countP_le_length (p := crC c) (l := r)
    rw [prs, List.length_cons, Nat.mul_add, Nat.add_mul]
    omega
theorem count_l1 (l : List S59) (X8 : List S59) (n i : Int) (y : List S59) (c : S59) (hc : c.f0 < c.f1) (hy : ∀ x ∈ y, x.f0 < x.f1) (hl : (y.length : Int) ≤ 100) (d : Nat) : ∀ (k : Nat) (x3 : Int) (j : Int), 0 ≤ j → j + d = y.length → 0 ≤ x3 → x3 ≤ 100000 + j →
    spec_srCount.l1 (k + d + 1) l x3 X8 n i y (y.length : Int) j c.f0 c.f1 = spec_srCount.l0 k l (x3 + ((y.drop j.toNat).countP (crC c) : Nat)) X8 n (wrap64 (i + 1)) := by
  induction d with
  | zero =>
    intro k x3 j h0 hj hx hx2
    rw [spec_srCount.l1, if_neg (by omega), List.drop_eq_nil_of_le (by omega)]
    simp
  | succ d ih =>
    intro k x3 j h0 hj hx hx2
    have e : y.drop j.toNat = rd_T59 y j :: y.drop (j + 1).toNat := by
      rw [List.drop_eq_getElem_cons (show j.toNat < y.length by omega), ← rdC_get h0 (by omega), show j.toNat + 1 = (j + 1).toNat by omega]
    have hm : rd_T59 y j ∈ y := by rw [rdC_get h0 (by omega)]; exact List.getElem_mem _
    rw [show k + (d + 1) + 1 = (k + d + 1) + 1 by omega, spec_srCount.l1, if_pos (show j < (y.length : Int) by omega), if_pos h0, if_pos (show j < (y.length : Int) by omega), cross_s hc (hy _ hm), wrap_id (x := j + 1) (by omega) (by omega), wrap_id (x := x3 + 1) (by omega) (by omega)]
    simp only [Option.bind_some]
    rw [e, List.countP_cons]
    have e2 : crB c.f0 c.f1 (rd_T59 y j).f0 (rd_T59 y j).f1 = crC c (rd_T59 y j) := rfl
    rw [e2]
    by_cases h : crC c (rd_T59 y j) = true
    · rw [if_pos h, if_pos h, ih k (x3 + 1) (j + 1) (by omega) (by omega) (by omega) (by omega)]
      congr 1
      omega
    · rw [if_neg h, if_neg h, ih k x3 (j + 1) (by omega) (by omega) (by omega) (by omega)]
      congr 1
theorem count_l0 (l : List S59) (hy : ∀ x ∈ l, x.f0 < x.f1) (hl : (l.length : Int) ≤ 60) (d : Nat) : ∀ (k : Nat) (x3 : Int) (i : Int), 0 ≤ i → i + d = l.length → 0 ≤ x3 → x3 + 60 * d ≤ 3600 → 70 * d + 100 ≤ k →
    spec_srCount.l0 k l x3 l (l.length : Int) i = some (x3 + (prs (l.drop i.toNat) : Nat)) := by
  induction d with
  | zero =>
    intro k x3 i h0 hi hx hx2 hk
    obtain ⟨k, rfl⟩ : ∃ m, k = m + 1 := ⟨k - 1, by omega⟩
    rw [spec_srCount.l0, if_neg (by omega), List.drop_eq_nil_of_le (by omega)]
    simp [prs]
  | succ d ih =>
    intro k x3 i h0 hi hx hx2 hk
    obtain ⟨k, rfl⟩ : ∃ m, k = m + 1 := ⟨k - 1, by omega⟩
    have e : l.drop i.toNat = rd_T59 l i :: l.drop (i + 1).toNat := by
      rw [List.drop_eq_getElem_cons (show i.toNat < l.length by omega), ← rdC_get h0 (by omega), show i.toNat + 1 = (i + 1).toNat by omega]
    have hm : rd_T59 l i ∈ l := by rw [rdC_get h0 (by omega)]; exact List.getElem_mem _
    rw [spec_srCount.l0, if_pos (show i < (l.length : Int) by omega), if_pos h0, if_pos (show i < (l.length : Int) by omega), wrap_id (x := i + 1) (by omega) (by omega), if_pos (by omega), if_pos (by omega)]
    simp only [Option.bind_some]
    have hd : (l.drop (i + 1).toNat).length = d := by rw [List.length_drop]; omega
    have hcp := List.countP_le_length (p := crC (rd_T59 l i)) (l := l.drop (i + 1).toNat)
    have h1 := count_l1 l l (l.length : Int) i (l.drop (i + 1).toNat) (rd_T59 l i) (hy _ hm) (fun x hx => hy x (List.mem_of_mem_drop hx)) (by omega) (l.drop (i + 1).toNat).length (k - (l.drop (i + 1).toNat).length - 1) x3 0 (by omega) (by omega) hx (by omega)
    rw [show k - (l.drop (i + 1).toNat).length - 1 + (l.drop (i + 1).toNat).length + 1 = k by omega] at h1
    rw [h1, wrap_id (x := i + 1) (by omega) (by omega), Int.toNat_zero, List.drop_zero, ih _ _ (i + 1) (by omega) (by omega) (by omega) (by omega) (by omega), e, prs]
    congr 1
    omega
theorem crossed_l0 (c : S59) (l : List S59) (hl : (l.length : Int) ≤ 100) (d : Nat) : ∀ (k : Nat) (x : Int) (i : Int), 0 ≤ i → i + d = l.length → d < k → 0 ≤ x → x ≤ i →
    impl_crossed.l0 k x l (l.length : Int) i c.f0 c.f1 = some (x + ((l.drop i.toNat).countP (crC c) : Nat)) := by
  induction d with
  | zero =>
    intro k x i h0 hi hk hx hx2
    obtain ⟨k, rfl⟩ : ∃ m, k = m + 1 := ⟨k - 1, by omega⟩
    rw [impl_crossed.l0, if_neg (by omega), List.drop_eq_nil_of_le (by omega)]
    simp
  | succ d ih =>
    intro k x i h0 hi hk hx hx2
    obtain ⟨k, rfl⟩ : ∃ m, k = m + 1 := ⟨k - 1, by omega⟩
    have e : l.drop i.toNat = rd_T59 l i :: l.drop (i + 1).toNat := by
      rw [List.drop_eq_getElem_cons (show i.toNat < l.length by omega), ← rdC_get h0 (by omega), show i.toNat + 1 = (i + 1).toNat by omega]
    have e2 : crB c.f0 c.f1 (rd_T59 l i).f0 (rd_T59 l i).f1 = crC c (rd_T59 l i) := rfl
    rw [impl_crossed.l0, if_pos (show i < (l.length : Int) by omega), if_pos h0, if_pos (show i < (l.length : Int) by omega), cross_i, wrap_id (x := i + 1) (by omega) (by omega), wrap_id (x := x + 1) (by omega) (by omega)]
    simp only [Option.bind_some]
    rw [e, List.countP_cons, e2]
    by_cases h : crC c (rd_T59 l i) = true
    · rw [if_pos h, if_pos h, ih k (x + 1) (i + 1) (by omega) (by omega) (by omega) (by omega) (by omega)]
      congr 1
      omega
    · rw [if_neg h, if_neg h, ih k x (i + 1) (by omega) (by omega) (by omega) (by omega) (by omega)]
      congr 1
theorem crossings_l0 (l : List S59) (hl : (l.length : Int) ≤ 60) (d : Nat) : ∀ (k : Nat) (i : Int), 0 ≤ i → i + d = l.length → d + 100 < k →
    impl_crossings.l0 k l (prs (l.take i.toNat) : Nat) l (l.length : Int) i = some ((prs l : Nat) : Int) := by
  induction d with
  | zero =>
    intro k i h0 hi hk
    obtain ⟨k, rfl⟩ : ∃ m, k = m + 1 := ⟨k - 1, by omega⟩
    rw [impl_crossings.l0, if_neg (by omega), List.take_of_length_le (by omega)]
  | succ d ih =>
    intro k i h0 hi hk
    obtain ⟨k, rfl⟩ : ∃ m, k = m + 1 := ⟨k - 1, by omega⟩
    have e2 : l.take (i + 1).toNat = l.take i.toNat ++ [rd_T59 l i] := by
      rw [show (i + 1).toNat = i.toNat + 1 by omega, List.take_succ_eq_append_getElem (show i.toNat < l.length by omega), ← rdC_get h0 (by omega)]
    have ht : (l.take i.toNat).length ≤ 60 := by rw [List.length_take]; omega
    have hp := prs_bd (l.take i.toNat)
    have hp2 : (l.take i.toNat).length * (l.take i.toNat).length ≤ 60 * 60 := Nat.mul_le_mul ht ht
    have hcp := List.countP_le_length (p := crC (rd_T59 l i)) (l := l.take i.toNat)
    rw [impl_crossings.l0, if_pos (show i < (l.length : Int) by omega), if_pos h0, if_pos (show i < (l.length : Int) by omega), if_pos (by omega)]
    unfold impl_crossed.f
    rw [crossed_l0 (rd_T59 l i) (l.take i.toNat) (by omega) (l.take i.toNat).length k 0 0 (by omega) (by omega) (by omega) (by omega) (by omega)]
    simp only [Option.bind_some, Int.toNat_zero, List.drop_zero, Int.zero_add]
    rw [wrap_id (x := i + 1) (by omega) (by omega), wrap_id (by omega) (by omega)]
    have h1 := ih k (i + 1) (by omega) (by omega) (by omega)
    rw [e2, prs_snoc] at h1
    rw [← h1]
    congr 1
theorem chL_lt (r : List Int) : ∀ (d : Nat) (i : Int), ∀ x ∈ chL r i d, x.f0 < x.f1
  | 0, i, x, hx => by simp [chL] at hx
  | d + 1, i, x, hx => by
    unfold chL at hx
    split at hx
    · exact chL_lt r d (i + 1) x hx
    · rename_i h
      rcases List.mem_cons.1 hx with rfl | hx
      · unfold chC mn mx
        simp only
        split <;> split <;> omega
      · exact chL_lt r d (i + 1) x hx
theorem FnExactTableCrossings : laws_FnExactTableCrossings.Pure := by
  intro n f _ _
  have key : ∃ r : Int × Bool, spec_TableCrossings.f 5000 n f = some r ∧ impl_TableCrossings.f 5000 n f = some r := by
    unfold spec_TableCrossings.f impl_TableCrossings.f
    rw [taGood_eq, isTable_nil]
    simp only [Option.bind_some]
    by_cases h : tabOk n f = true
    · have hb := tabOk_true.1 h
      have hl := tabC_len n f
      have hlt : ∀ x ∈ tabC n f, x.f0 < x.f1 := by
        intro x hx
        have := ((foldD (chL (rowD n f 0 n.toNat) 0 n.toNat) [] List.Pairwise.nil).2.1 x).1 hx
        rcases this with h1 | h1
        · simp at h1
        · exact chL_lt _ _ _ x h1
      rw [if_pos h, if_pos h, taChords_f n f h (by omega), timesChords_f n f h (by omega)]
      simp only [Option.bind_some]
      unfold spec_srCount.f impl_crossings.f
      have h1 := crossings_l0 (tabC n f) (by omega) (tabC n f).length 5000 0 (by omega) (by omega) (by omega)
      simp only [Int.toNat_zero, List.take_zero, prs] at h1
      rw [count_l0 (tabC n f) hlt (by omega) (tabC n f).length 5000 0 0 (by omega) (by omega) (by omega) (by omega) (by omega)]
      refine ⟨(((prs (tabC n f) : Nat) : Int), true), by simp, ?_⟩
      have h2 : impl_crossings.l0 5000 (tabC n f) 0 (tabC n f) ((tabC n f).length : Int) 0 = some ((prs (tabC n f) : Nat) : Int) := h1
      rw [h2]
      rfl
    · rw [if_neg h, if_neg h]
      exact ⟨(0, false), rfl, rfl⟩
  obtain ⟨r, hs, hi⟩ := key
  refine ⟨5000, ?_⟩
  unfold laws_FnExactTableCrossings.f
  rw [hs, hi]
  simp

end Go.Proofs.Ytejchneeheeldaa.Pure
