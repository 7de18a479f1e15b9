/- A part of this seat's proofs: contracts of the translated functions, written by the session's own program (gp.py) out of the kit's print.py and the session's own contracts; no conditions of its own. -/
import Derived.Test.YtfpjakkjkakjoaaGreatDoorPx0
import Derived.Test.YtfpjakkjkakjoaaGreatDoorPx7
namespace Go.Proofs.YtfpjakkjkakjoaaGreatDoor.P
open Go.RowKit Go.Proofs.YtfpjakkjkakjoaaGreatDoorW.PrintWords Go.Proofs.YtfpjakkjkakjoaaGreatDoorW.PrintLast Go.Proofs.YtfpjakkjkakjoaaGreatDoorW.PrintMore
attribute [local go_sem] max2_int min2_int max_two min_two max_three min_three max_four min_four   -- for this text's walks alone
set_option linter.unusedVariables false
set_option linter.unusedSimpArgs false

/-! ### given: 72a_table.tpl -/
section
open Go.Maps Go.MapKept Go.WideElems Go.ChangeMaps
open Go.WideMaps (KeyLaw)
def wkV (x y d : Int) : Value := .agg #[.int .i64 x, .int .i64 y, .int .i64 d]
def wkL (x y d : Int) : Lit := .string (keyBytes [.int .i64 x, .int .i64 y, .int .i64 d])
theorem wk_law : Keyed Tryz.prog 51 := Keyed.of_law (deep_law_laid (by kernel_rfl) (m := 2) (by decide) (of_decide_eq_true (by kernel_rfl)) (by kernel_rfl) (by rw [Tryz.underlying51]))
theorem wk_type : Tryz.prog.keyType 51 = true := by kernel_rfl
theorem wk_cells : Tryz.prog.cellsOf 51 = 3 := by kernel_rfl
theorem wk_cells1 : Tryz.prog.cellsOf 3 = 1 := by kernel_rfl
theorem wk_size : ∃ m, Tryz.prog.types.size + 1 = m + 2 := ⟨Tryz.prog.types.size - 1, by
  have : 1 ≤ Tryz.prog.types.size := of_decide_eq_true (by kernel_rfl)
  omega⟩
theorem wk_key {x y d : Int} (hx : (Lit.int .i64 x).wf = true) (hy : (Lit.int .i64 y).wf = true) (hd : (Lit.int .i64 d).wf = true) : keyOf Tryz.prog 51 (wkV x y d) = some (wkL x y d) := by
  obtain ⟨m, hm⟩ := wk_size
  have h3 : ∀ n : Int, (Lit.int .i64 n).wf = true → Tryz.prog.keyLits (m + 1) 3 [.int .i64 n] = some [.int .i64 n] := by
    intro n hn
    unfold Program.keyLits
    rw [Tryz.underlying3]
    simp [hn]
  unfold keyOf wkV wkL
  rw [Tryz.underlying51]
  simp only [wk_type, Bool.true_and, Value.formed, Tryz.underlying51, wk_cells]
  rw [hm]
  unfold Program.keyLits
  rw [Tryz.underlying51]
  simp [Value.cells, wk_cells, wk_cells1, h3 x hx, h3 y hy, h3 d hd]
set_option maxRecDepth 100000 in
theorem wk_inv {key : Value} {kl : Lit} (h : keyOf Tryz.prog 51 key = some kl) : ∃ x y d : Int, key = wkV x y d ∧ kl = wkL x y d ∧ (Lit.int .i64 x).wf = true ∧ (Lit.int .i64 y).wf = true ∧ (Lit.int .i64 d).wf = true := by
  obtain ⟨m, hm⟩ := wk_size
  have h3 : ∀ (v : Value) (l : List Lit), Tryz.prog.keyLits (m + 1) 3 [v] = some l → ∃ n : Int, v = .int .i64 n ∧ l = [.int .i64 n] ∧ (Lit.int .i64 n).wf = true := by
    intro v l hl
    unfold Program.keyLits at hl
    rw [Tryz.underlying3] at hl
    cases v <;> simp at hl
    obtain ⟨⟨rfl, hw⟩, rfl⟩ := hl
    exact ⟨_, rfl, rfl, hw⟩
  unfold keyOf at h
  rw [Tryz.underlying51] at h
  simp only [wk_type, Bool.true_and] at h
  by_cases hf : key.formed Tryz.prog 51 = true
  · rw [if_pos hf] at h
    unfold Value.formed at hf
    rw [Tryz.underlying51] at hf
    cases key <;> simp [wk_cells] at hf
    rename_i cs
    obtain ⟨a, b, c, rfl⟩ : ∃ a b c, cs = #[a, b, c] := by
      obtain ⟨l⟩ := cs
      match l, hf with
      | [a, b, c], _ => exact ⟨a, b, c, rfl⟩
    rw [hm] at h
    unfold Program.keyLits at h
    rw [Tryz.underlying51] at h
    simp [Value.cells, wk_cells, wk_cells1] at h
    obtain ⟨la, ha, h⟩ := Option.bind_eq_some_iff.1 h
    obtain ⟨na, rfl, rfl, wa⟩ := h3 a la ha
    cases hb : Tryz.prog.keyLits (m + 1) 3 [b] with
    | none => simp [hb] at h
    | some lb =>
      obtain ⟨nb, rfl, rfl, wb⟩ := h3 b lb hb
      cases hc : Tryz.prog.keyLits (m + 1) 3 [c] with
      | none => simp [hb, hc] at h
      | some lc =>
        obtain ⟨nc, rfl, rfl, wc⟩ := h3 c lc hc
        simp [hb, hc] at h
        exact ⟨na, nb, nc, rfl, h.symm, wa, wb, wc⟩
  · rw [if_neg hf] at h
    cases h

/-- A walker, as a table's key. -/
abbrev WK := Int × Int × Int
def wkLit (k : WK) : Lit := wkL k.1 k.2.1 k.2.2
def okWK (k : WK) : Prop := (Lit.int .i64 k.1).wf = true ∧ (Lit.int .i64 k.2.1).wf = true ∧ (Lit.int .i64 k.2.2).wf = true
def encW (e : WK × Int) : Lit × DataW Unit := (wkLit e.1, .lit (.int .i64 e.2))
theorem wkLit_inj {a b : WK} (ha : okWK a) (hb : okWK b) (h : wkLit a = wkLit b) : a = b := by
  have e := wk_law.inj (wk_key ha.1 ha.2.1 ha.2.2) (show keyOf Tryz.prog 51 (wkV b.1 b.2.1 b.2.2) = some (wkLit a) by rw [h]; exact wk_key hb.1 hb.2.1 hb.2.2)
  obtain ⟨x, y, d⟩ := a
  obtain ⟨u, v, c⟩ := b
  unfold wkV at e
  simp only [Value.agg.injEq, Array.mk.injEq, List.cons.injEq, Value.int.injEq, and_true, true_and] at e
  obtain ⟨rfl, rfl, rfl⟩ := e
  rfl
theorem wk_same {a b : WK} (ha : okWK a) (hb : okWK b) : (wkLit a).sameKey (wkLit b) = decide (a = b) := by
  by_cases h : a = b
  · subst h
    rw [decide_eq_true rfl]
    unfold wkLit wkL Lit.sameKey
    simp
  · rw [decide_eq_false h]
    cases hs : (wkLit a).sameKey (wkLit b) with
    | false => rfl
    | true =>
      refine absurd (wkLit_inj ha hb ?_) h
      unfold wkLit wkL Lit.sameKey at hs
      unfold wkLit wkL
      rw [beq_iff_eq.1 hs]
/-- A map's entries are those of a list, no key twice. -/
def TabM (es : List (Lit × DataW Unit)) (m : List (WK × Int)) : Prop := es.Perm (m.map encW) ∧ m.Pairwise (fun a b => a.1 ≠ b.1) ∧ ∀ e ∈ m, okWK e.1
theorem dw_perm (x : Lit × DataW Unit) : ∀ l : List (Lit × DataW Unit), (DataW.insert x l).Perm (x :: l)
  | [] => List.Perm.refl _
  | y :: r => by
    unfold DataW.insert
    split
    · exact List.Perm.refl _
    · exact ((dw_perm x r).cons y).trans (List.Perm.swap _ _ _)
def putM (m : List (WK × Int)) (k : WK) (v : Int) : List (WK × Int) := (k, v) :: m.filter fun e => !decide (e.1 = k)
def getM (m : List (WK × Int)) (k : WK) : Int := match m.find? (fun e => decide (e.1 = k)) with | some e => e.2 | none => 0
theorem tab_empty : TabM [] [] := ⟨List.Perm.refl _, List.Pairwise.nil, fun _ h => by cases h⟩
theorem tab_put {es : List (Lit × DataW Unit)} {m : List (WK × Int)} (h : TabM es m) {k : WK} (hk : okWK k) (v : Int) : ∃ es', (DataW.map es).put (wkLit k) (.lit (.int .i64 v)) = .map es' ∧ TabM es' (putM m k v) := by
  obtain ⟨h1, h2, h3⟩ := h
  refine ⟨_, rfl, ?_, ?_, ?_⟩
  · refine (dw_perm _ _).trans ?_
    unfold putM
    rw [List.map_cons]
    refine List.Perm.cons _ ?_
    refine (h1.filter _).trans ?_
    rw [List.filter_map]
    have e : m.filter ((fun p : Lit × DataW Unit => !p.1.sameKey (wkLit k)) ∘ encW) = m.filter fun e => !decide (e.1 = k) := by
      refine List.filter_congr (fun e he => ?_)
      show (!(wkLit e.1).sameKey (wkLit k)) = _
      rw [wk_same (h3 e he) hk]
    rw [e]
  · unfold putM
    rw [List.pairwise_cons]
    refine ⟨fun e he => ?_, h2.sublist List.filter_sublist⟩
    have := (List.mem_filter.1 he).2
    intro hh
    simp [← hh] at this
  · intro e he
    rcases List.mem_cons.1 he with rfl | he
    · exact hk
    · exact h3 e (List.mem_filter.1 he).1
theorem find_key : ∀ {m : List (WK × Int)}, m.Pairwise (fun a b => a.1 ≠ b.1) → ∀ {e : WK × Int}, e ∈ m → getM m e.1 = e.2
  | [], _, e, h => by cases h
  | x :: m, hp, e, h => by
    have hp' := List.pairwise_cons.1 hp
    unfold getM
    rcases List.mem_cons.1 h with rfl | h
    · rw [List.find?_cons_of_pos (by simp)]
    · rw [List.find?_cons_of_neg (by simpa using hp'.1 e h)]
      exact find_key hp'.2 h
theorem getM_none {m : List (WK × Int)} {k : WK} (h : ∀ e ∈ m, e.1 ≠ k) : getM m k = 0 := by
  unfold getM
  rw [List.find?_eq_none.2 (fun e he => by simpa using h e he)]
theorem tab_get {es : List (Lit × DataW Unit)} {m : List (WK × Int)} (h : TabM es m) {k : WK} (hk : okWK k) : (DataW.map es).atKey (wkLit k) (.lit (.int .i64 0)) = .lit (.int .i64 (getM m k)) := by
  obtain ⟨h1, h2, h3⟩ := h
  unfold DataW.atKey
  dsimp only
  cases hf : es.find? (fun p => p.1.sameKey (wkLit k)) with
  | some p =>
    have hp := List.find?_some hf
    obtain ⟨e, he, rfl⟩ := List.mem_map.1 (h1.mem_iff.1 (List.mem_of_find?_eq_some hf))
    have hs : (wkLit e.1).sameKey (wkLit k) = true := hp
    rw [wk_same (h3 e he) hk] at hs
    have e1 : e.1 = k := of_decide_eq_true hs
    rw [← e1, find_key h2 he]
    rfl
  | none =>
    rw [getM_none (fun e he => ?_)]
    intro hh
    have := List.find?_eq_none.1 hf (encW e) (h1.mem_iff.2 (List.mem_map.2 ⟨e, he, rfl⟩))
    apply this
    show (wkLit e.1).sameKey (wkLit k) = true
    rw [wk_same (h3 e he) hk]
    exact decide_eq_true hh
theorem tab_has {es : List (Lit × DataW Unit)} {m : List (WK × Int)} (h : TabM es m) : ∀ e ∈ m, Maps.has (.map es) (wkLit e.1) = true := by
  intro e he
  refine List.any_eq_true.2 ⟨encW e, h.1.mem_iff.2 (List.mem_map.2 ⟨e, he, rfl⟩), ?_⟩
  show (wkLit e.1).sameKey (wkLit e.1) = true
  rw [wk_same (h.2.2 e he) (h.2.2 e he)]
  simp
/-- What a function tells of a table's keys, summed up. -/
def totM (f : WK → Int) : List (WK × Int) → Int
  | [] => 0
  | e :: m => e.2 * f e.1 + totM f m
theorem totM_split (f : WK → Int) (k : WK) : ∀ {m : List (WK × Int)}, m.Pairwise (fun a b => a.1 ≠ b.1) → totM f m = totM f (m.filter fun e => !decide (e.1 = k)) + getM m k * f k
  | [], _ => by unfold getM; simp [totM]
  | x :: m, hp => by
    have hp' := List.pairwise_cons.1 hp
    by_cases h : x.1 = k
    · have e1 : m.filter (fun e => !decide (e.1 = k)) = m := List.filter_eq_self.2 (fun e he => by
        have := hp'.1 e he
        rw [h] at this
        simpa using Ne.symm this)
      have e2 : getM (x :: m) k = x.2 := by
        unfold getM
        rw [List.find?_cons_of_pos (by simpa using h)]
      rw [List.filter_cons_of_neg (by simpa using h), e1, e2, totM, h]; omega
    · have e2 : getM (x :: m) k = getM m k := by
        unfold getM
        rw [List.find?_cons_of_neg (by simpa using h)]
      rw [List.filter_cons_of_pos (by simpa using h), e2, totM, totM, totM_split f k hp'.2]; omega
theorem totM_put (f : WK → Int) {m : List (WK × Int)} (hp : m.Pairwise (fun a b => a.1 ≠ b.1)) (k : WK) (n : Int) : totM f (putM m k (getM m k + n)) = totM f m + n * f k := by
  rw [totM_split f k hp]
  unfold putM
  rw [totM, Int.add_mul]
  dsimp only
  omega
def doneM (m : List (WK × Int)) (left : Lit → Bool) : List (WK × Int) := m.filter fun e => !left (wkLit e.1)
theorem done_step (f : WK → Int) (left : Lit → Bool) {k : WK} {v : Int} (hk : okWK k) (hl : left (wkLit k) = true) : ∀ {m : List (WK × Int)}, m.Pairwise (fun a b => a.1 ≠ b.1) → (∀ e ∈ m, okWK e.1) → (k, v) ∈ m →
    totM f (doneM m fun z => left z && !z.sameKey (wkLit k)) = totM f (doneM m left) + v * f k
  | [], _, _, h => by cases h
  | x :: m, hp, ho, h => by
    have hp' := List.pairwise_cons.1 hp
    have hs := wk_same (ho x (by simp)) hk
    rcases List.mem_cons.1 h with rfl | h
    · have e1 : doneM m (fun z => left z && !z.sameKey (wkLit k)) = doneM m left := by
        unfold doneM
        refine List.filter_congr (fun e he => ?_)
        dsimp only
        rw [wk_same (ho e (by simp [he])) hk, decide_eq_false (Ne.symm (hp'.1 e he))]
        simp
      unfold doneM at e1 ⊢
      rw [List.filter_cons_of_pos (by simp [hs]), List.filter_cons_of_neg (by simpa using hl), e1, totM]
      dsimp only
      omega
    · have hne : x.1 ≠ k := hp'.1 (k, v) h
      have ih := done_step f left hk hl hp'.2 (fun e he => ho e (by simp [he])) h
      unfold doneM at ih ⊢
      by_cases hx : left (wkLit x.1) = true
      · rw [List.filter_cons_of_neg (by simp [hs, hx, hne]), List.filter_cons_of_neg (by simp [hx]), ih]
      · rw [List.filter_cons_of_pos (by simp [hx]), List.filter_cons_of_pos (by simp [hx]), totM, totM, ih]; omega
theorem done_start {es : List (Lit × DataW Unit)} {m : List (WK × Int)} (h : TabM es m) : doneM m (Maps.has (.map es)) = [] := by
  unfold doneM
  rw [List.filter_eq_nil_iff]
  intro e he
  simp [tab_has h e he]
theorem done_end {m : List (WK × Int)} {left : Lit → Bool} (h : ∀ z, left z = false) : doneM m left = m := by
  unfold doneM
  exact List.filter_eq_self.2 (fun e _ => by rw [h]; rfl)

/-- A walker behind a sign; what three signs tell of it; so many times. -/
def kF (g c : Int) (k : WK) : WK := doW k.1 k.2.1 k.2.2 g c
def stF (g : Int) (f : WK → Int) (k : WK) : Int := f (kF g 70 k) + f (kF g 76 k) + f (kF g 82 k)
def itF (g : Int) : Nat → (WK → Int) → WK → Int
  | 0, f => f
  | n + 1, f => itF g n (stF g f)
def pw3 : Nat → Int
  | 0 => 1
  | n + 1 => 3 * pw3 n
theorem pw3_10 : ∀ {n : Nat}, n ≤ 10 → 1 ≤ pw3 n ∧ pw3 n ≤ 59049 := by
  intro n h
  have : n = 0 ∨ n = 1 ∨ n = 2 ∨ n = 3 ∨ n = 4 ∨ n = 5 ∨ n = 6 ∨ n = 7 ∨ n = 8 ∨ n = 9 ∨ n = 10 := by omega
  rcases this with rfl | rfl | rfl | rfl | rfl | rfl | rfl | rfl | rfl | rfl | rfl <;> decide
def rangeK (g : Int) (i : Nat) (k : WK) : Prop := -(i : Int) ≤ k.1 ∧ k.1 ≤ i ∧ -(i : Int) ≤ k.2.1 ∧ k.2.1 ≤ i ∧ 0 ≤ k.2.2 ∧ k.2.2 < g
theorem rangeK_ok {g : Int} {i : Nat} {k : WK} (hg : g = 4 ∨ g = 6) (hi : i ≤ 1000) (h : rangeK g i k) : okWK k := by
  unfold rangeK at h
  have e0 : IntKind.i64.min = -9223372036854775808 := rfl
  have e1 : IntKind.i64.max = 9223372036854775807 := rfl
  unfold okWK
  simp only [Lit.wf, Bool.and_eq_true, decide_eq_true_eq, e0, e1]
  omega
theorem way_bd (g d : Int) : -1 ≤ wayX g d ∧ wayX g d ≤ 1 ∧ -1 ≤ wayY g d ∧ wayY g d ≤ 1 := by
  unfold wayX wayY
  refine ⟨?_, ?_, ?_, ?_⟩ <;> repeat' split
  all_goals omega
theorem kF_range {g c : Int} {i : Nat} {k : WK} (hg : g = 4 ∨ g = 6) (h : rangeK g i k) : rangeK g (i + 1) (kF g c k) := by
  have hw := way_bd g k.2.2
  unfold rangeK at *
  unfold kF doW
  by_cases h1 : c = 70
  · rw [if_pos h1]; dsimp only; omega
  · rw [if_neg h1]
    by_cases h2 : c = 76
    · rw [if_pos h2]; dsimp only
      rcases hg with rfl | rfl <;> omega
    · rw [if_neg h2]
      by_cases h3 : c = 82
      · rw [if_pos h3]; dsimp only
        rcases hg with rfl | rfl <;> omega
      · rw [if_neg h3]; dsimp only; omega
theorem itF_one (g : Int) : ∀ (n : Nat) (c : Int) (k : WK), itF g n (fun _ => c) k = pw3 n * c
  | 0, c, k => by rw [itF, pw3]; omega
  | n + 1, c, k => by
    rw [itF, show stF g (fun _ => c) = fun _ => 3 * c from funext (fun k => by unfold stF; dsimp only; omega), itF_one g n, pw3, Int.mul_assoc, Int.mul_left_comm]
theorem val_le : ∀ {m : List (WK × Int)}, (∀ e ∈ m, 1 ≤ e.2) → (m.length : Int) ≤ totM (fun _ => 1) m ∧ ∀ k, 0 ≤ getM m k ∧ getM m k ≤ totM (fun _ => 1) m
  | [], _ => ⟨by simp [totM], fun k => by unfold getM; simp [totM]⟩
  | x :: m, h => by
    obtain ⟨h1, h2⟩ := val_le (m := m) (fun e he => h e (by simp [he]))
    have hx := h x (by simp)
    refine ⟨by rw [List.length_cons, totM]; omega, fun k => ?_⟩
    have := h2 k
    have hl : (0 : Int) ≤ (m.length : Int) := by omega
    rw [totM]
    by_cases hk : x.1 = k
    · have e : getM (x :: m) k = x.2 := by
        unfold getM
        rw [List.find?_cons_of_pos (by simpa using hk)]
      rw [e]; omega
    · have e : getM (x :: m) k = getM m k := by
        unfold getM
        rw [List.find?_cons_of_neg (by simpa using hk)]
      rw [e]; omega
theorem done_le {m : List (WK × Int)} (h : ∀ e ∈ m, 1 ≤ e.2) (left : Lit → Bool) : totM (fun _ => 1) (doneM m left) ≤ totM (fun _ => 1) m := by
  induction m with
  | nil => exact Int.le_refl _
  | cons x m ih =>
    have ih := ih (fun e he => h e (by simp [he]))
    have hx := h x (by simp)
    unfold doneM at ih ⊢
    by_cases hl : left (wkLit x.1) = true
    · rw [List.filter_cons_of_neg (by simp [hl]), totM]; omega
    · rw [List.filter_cons_of_pos (by simp [hl]), totM, totM]; omega
/-- A table behind i signs. -/
def goodM (g : Int) (i : Nat) (m : List (WK × Int)) : Prop := (∀ f, totM f m = itF g i f (0, 0, 0)) ∧ ∀ e ∈ m, rangeK g i e.1 ∧ 1 ≤ e.2
/-- A table that is being filled: the keys that are done, and so much of one more. -/
def partM (g : Int) (i : Nat) (m : List (WK × Int)) (left : Lit → Bool) (ex : (WK → Int) → Int) (m2 : List (WK × Int)) : Prop :=
  (∀ f, totM f m2 = totM (stF g f) (doneM m left) + ex f) ∧ ∀ e ∈ m2, rangeK g (i + 1) e.1 ∧ 1 ≤ e.2
theorem good_start (g : Int) (hg : g = 4 ∨ g = 6) : goodM g 0 [((0, 0, 0), 1)] := by
  refine ⟨fun f => by simp [totM, itF], fun e he => ?_⟩
  obtain rfl : e = ((0, 0, 0), 1) := by simpa using he
  unfold rangeK
  dsimp only
  omega
theorem part_start {g : Int} {i : Nat} {es : List (Lit × DataW Unit)} {m : List (WK × Int)} (h : TabM es m) : partM g i m (Maps.has (.map es)) (fun _ => 0) [] := by
  refine ⟨fun f => ?_, fun e he => by cases he⟩
  rw [done_start h]; rfl
theorem part_put {g : Int} {i : Nat} {m m2 : List (WK × Int)} {left : Lit → Bool} {ex : (WK → Int) → Int} (hg : g = 4 ∨ g = 6) (h : partM g i m left ex m2) (hp : m2.Pairwise (fun a b => a.1 ≠ b.1)) {k : WK} (hk : rangeK g i k) {v : Int} (hv : 1 ≤ v) (c : Int) :
    partM g i m left (fun f => ex f + v * f (kF g c k)) (putM m2 (kF g c k) (getM m2 (kF g c k) + v)) := by
  refine ⟨fun f => by rw [totM_put f hp, h.1]; dsimp only; omega, fun e he => ?_⟩
  unfold putM at he
  rcases List.mem_cons.1 he with rfl | he
  · have := (val_le (fun e he => (h.2 e he).2)).2 (kF g c k)
    exact ⟨kF_range hg hk, by dsimp only; omega⟩
  · exact h.2 e (List.mem_filter.1 he).1
theorem part_next {g : Int} {i : Nat} {m m2 : List (WK × Int)} {left : Lit → Bool} (hm : m.Pairwise (fun a b => a.1 ≠ b.1)) (ho : ∀ e ∈ m, okWK e.1) {k : WK} {v : Int} (hk : okWK k) (hl : left (wkLit k) = true) (hin : (k, v) ∈ m)
    (h : partM g i m left (fun f => 0 + v * f (kF g 70 k) + v * f (kF g 76 k) + v * f (kF g 82 k)) m2) : partM g i m (fun z => left z && !z.sameKey (wkLit k)) (fun _ => 0) m2 := by
  refine ⟨fun f => ?_, h.2⟩
  rw [h.1, done_step _ left hk hl hm ho hin]
  unfold stF
  rw [Int.mul_add, Int.mul_add]
  dsimp only
  omega
theorem part_end {g : Int} {i : Nat} {m m2 : List (WK × Int)} {left : Lit → Bool} (hm : goodM g i m) (h : partM g i m left (fun _ => 0) m2) (hl : ∀ z, left z = false) : goodM g (i + 1) m2 := by
  refine ⟨fun f => ?_, h.2⟩
  rw [h.1, done_end hl, hm.1, itF]
  dsimp only
  omega
theorem good_bd {g : Int} {i : Nat} {m : List (WK × Int)} (hi : i ≤ 10) (h : goodM g i m) : (m.length : Int) ≤ 59049 ∧ ∀ k, 0 ≤ getM m k ∧ getM m k ≤ 59049 := by
  have e : totM (fun _ => 1) m = pw3 i := by rw [h.1, itF_one]; omega
  have h3 := pw3_10 hi
  obtain ⟨h1, h2⟩ := val_le (fun e he => (h.2 e he).2)
  refine ⟨by omega, fun k => ?_⟩
  have := h2 k
  omega
theorem home_get {m : List (WK × Int)} (hp : m.Pairwise (fun a b => a.1 ≠ b.1)) (k : WK) : totM (fun z => if z = k then 1 else 0) m = getM m k := by
  rw [totM_split _ k hp, if_pos rfl]
  have : totM (fun z => if z = k then 1 else 0) (m.filter fun e => !decide (e.1 = k)) = 0 := by
    induction m with
    | nil => rfl
    | cons x m ih =>
      have ih := ih (List.pairwise_cons.1 hp).2
      by_cases h : x.1 = k
      · rw [List.filter_cons_of_neg (by simpa using h)]; exact ih
      · rw [List.filter_cons_of_pos (by simpa using h), totM, ih, if_neg h]; omega
  rw [this]; omega
theorem wk_klaw : KeyLaw Tryz.prog 51 := deep_law_laid (by kernel_rfl) (m := 2) (by decide) (of_decide_eq_true (by kernel_rfl)) (by kernel_rfl) (by rw [Tryz.underlying51])
theorem own_tight {w : World} {b n : Nat} {es : List (Lit × DataW Unit)} (h : w.ownsMap Tryz.prog 51 (plainElem Tryz.prog 3) b n (.map es)) : w.ownsMap Tryz.prog 51 (plainElem Tryz.prog 3) b es.length (.map es) := by
  obtain ⟨e, c, hb, F, hs, hD⟩ := h
  refine ⟨e, c, hb, F, ?_, hD⟩
  injection hD with hD
  rw [hD, length_read]
  exact Nat.le_refl _
theorem own_len {w : World} {b n : Nat} {es : List (Lit × DataW Unit)} {m : List (WK × Int)} (h : w.ownsMap Tryz.prog 51 (plainElem Tryz.prog 3) b n (.map es)) (ht : TabM es m) : w.ownsMap Tryz.prog 51 (plainElem Tryz.prog 3) b m.length (.map es) := by
  have h1 := own_tight h
  rw [ht.1.length_eq, List.length_map] at h1
  exact h1
theorem zero_int (w : World) : (zeroValue 3).run Tryz.prog w = .ok (.int .i64 0) w := by kernel_rfl
theorem map_und : Tryz.prog.underlying 64 = some (.map 51 3) := Tryz.underlying64
theorem elem_int {v : Int} (h : (Lit.int .i64 v).wf = true) : plainElem (H := Unit) Tryz.prog 3 (.int .i64 v) = some (.lit (.int .i64 v), []) := plainElem_int Tryz.underlying3 h
theorem modify_same {es : Array MapEntry} {j : Nat} {e0 : MapEntry} (h : es[j]? = some e0) (f : MapEntry → MapEntry) (hf : f e0 = e0) : es.modify j f = es := by
  apply Array.ext (by simp)
  intro i h1 h2
  rw [Array.getElem_modify]
  split
  · rename_i hij
    subst hij
    have e : es[j] = e0 := by
      have := Array.getElem?_eq_getElem (xs := es) h2
      rw [h] at this
      exact (Option.some.inj this).symm
    rw [e, hf]
  · rfl
theorem lit_inj {a b : Int} (h : (DataW.lit (Lit.int .i64 a) : DataW Unit) = .lit (.int .i64 b)) : a = b := by
  simp only [DataW.lit.injEq, Lit.int.injEq, true_and] at h
  exact h
set_option maxHeartbeats 400000 in
set_option maxRecDepth 100000 in
/-- 'next[k] += v': what the table gives, in whatever order it is asked; the entry; the store. -/
theorem put_step {W : World} {b n : Nat} {es : List (Lit × DataW Unit)} {m : List (WK × Int)} (ho : W.ownsMap Tryz.prog 51 (plainElem Tryz.prog 3) b n (.map es)) (ht : TabM es m) (hm : m.length < 1000000) {x y d : Int} (hk : okWK (x, y, d)) {v : Int} (hv : (Lit.int .i64 (getM m (x, y, d) + v)).wf = true) :
    ∃ (v0 : Value) (st : Int) (W2 W3 : World) (es3 : List (Lit × DataW Unit)),
      (Instr.lookup 64 (.map (some b)) (wkV x y d) false).run Tryz.prog W = .ok (.int .i64 (getM m (x, y, d))) W ∧
      (Instr.mapEntry 64 (.map (some b)) (wkV x y d)).run Tryz.prog W = .ok (.tuple #[v0, .int .i64 st]) W2 ∧
      (Instr.lookup 64 (.map (some b)) (wkV x y d) false).run Tryz.prog W2 = .ok (.int .i64 (getM m (x, y, d))) W2 ∧
      (Instr.entryStore 64 (.map (some b)) (.int .i64 st) (.int .i64 (getM m (x, y, d) + v))).run Tryz.prog W2 = .ok () W3 ∧
      W3.ownsMap Tryz.prog 51 (plainElem Tryz.prog 3) b (m.length + 1) (.map es3) ∧ TabM es3 (putM m (x, y, d) (getM m (x, y, d) + v)) ∧ W.grownBy W3 (some b) := by
  have hkey : keyOf Tryz.prog 51 (wkV x y d) = some (wkL x y d) := wk_key hk.1 hk.2.1 hk.2.2
  have hown := own_len ho ht
  have hlook : ∀ (W : World) (n : Nat) (D : DataW Unit), W.ownsMap Tryz.prog 51 (plainElem Tryz.prog 3) b n D → D.atKey (wkL x y d) (.lit (.int .i64 0)) = .lit (.int .i64 (getM m (x, y, d))) → (Instr.lookup 64 (.map (some b)) (wkV x y d) false).run Tryz.prog W = .ok (.int .i64 (getM m (x, y, d))) W := by
    intro W n D hD hat
    obtain ⟨c, hrun, hc, _⟩ := hD.lookup_int wk_law map_und Tryz.underlying3 (zero_int W) hkey
    rw [hat] at hc
    rw [hrun, lit_inj hc]
  have hget : (DataW.map es).atKey (wkL x y d) (.lit (.int .i64 0)) = .lit (.int .i64 (getM m (x, y, d))) := tab_get (k := (x, y, d)) ht hk
  have hmx : m.length < maxLen := by unfold maxLen; omega
  obtain ⟨W3, hU, hO3, hG3⟩ := hown.update wk_law map_und hmx hkey (elem_int hv)
  obtain ⟨es3, he3, hT3⟩ := tab_put (k := (x, y, d)) ht hk (getM m (x, y, d) + v)
  rw [show (DataW.map es).put (wkL x y d) (.lit (.int .i64 (getM m (x, y, d) + v))) = .map es3 from he3] at hO3
  obtain ⟨es0, clock, hb, F, hs, hD⟩ := id hown
  obtain ⟨v0, st, es1, clock1, hE, _, hS⟩ := entry_then_store wk_klaw map_und (fun u => zero_int u) hb F hkey
  obtain ⟨es', clock', hS1, hU1⟩ := hS (setBlock W b (.map es1 clock1)) (.int .i64 (getM m (x, y, d) + v)) (heap_setBlock_same hb _)
  have hW3 : setBlock (setBlock W b (.map es1 clock1)) b (.map es' clock') = W3 := by
    rw [hU] at hU1
    injection hU1 with _ h1
    rw [h1]
    unfold setBlock
    simp
  rw [hW3] at hS1
  refine ⟨v0, (st : Int), _, W3, es3, hlook W _ _ hown hget, hE, ?_, hS1, hO3, hT3, hG3⟩
  rcases wk_klaw.find W hkey es0.toList F.keys with ⟨h1, h2⟩ | ⟨j, e0, h1, h2, h3⟩
  · obtain ⟨W4, hU4, hO4, _⟩ := hown.update wk_law map_und hmx hkey (elem_int (v := 0) (by decide))
    have hE2 : (Instr.mapEntry 64 (.map (some b)) (wkV x y d)).run Tryz.prog W = .ok (.tuple #[.int .i64 0, goInt clock]) (setBlock W b (.map (es0.push ⟨wkV x y d, .int .i64 0, clock⟩) (clock + 1))) := by
      simp [Instr.mapEntry, run_underlying map_und, Go.MapKept.run_getObj_map hb, wk_klaw.check W false hkey, h1, zero_int, Go.MapKept.run_setObj_map _ hb, Result.andThen, setBlock]
    have hU2 : (Instr.mapUpdate 64 (.map (some b)) (wkV x y d) (.int .i64 0)).run Tryz.prog W = .ok () (setBlock W b (.map (es0.push ⟨wkV x y d, .int .i64 0, clock⟩) (clock + 1))) := by
      simp [Instr.mapUpdate, run_underlying map_und, Go.MapKept.run_getObj_map hb, wk_klaw.check W false hkey, h1, Go.MapKept.run_setObj_map _ hb, Result.andThen, setBlock]
    have e2 := (Result.ok.inj (hE.symm.trans hE2)).2
    have e4 := (Result.ok.inj (hU4.symm.trans hU2)).2
    rw [e2, ← e4]
    obtain ⟨es4, he4, hT4⟩ := tab_put (k := (x, y, d)) ht hk 0
    rw [show (DataW.map es).put (wkL x y d) (.lit (.int .i64 0)) = .map es4 from he4] at hO4
    refine hlook _ _ _ hO4 ?_
    have h0 : getM m (x, y, d) = 0 := by
      rcases Maps.fit_look false wk_law map_und (zero_int W) hb F hkey with ⟨_, _, hat⟩ | ⟨e0, y0, he0, hk0, _⟩
      · have h5 := hat (.lit (.int .i64 0))
        rw [← hD, hget] at h5
        exact lit_inj h5
      · exact absurd hk0 (h2 e0 he0)
    have h6 : (DataW.map es4).atKey (wkL x y d) (.lit (.int .i64 0)) = .lit (.int .i64 (getM (putM m (x, y, d) 0) (x, y, d))) := tab_get (k := (x, y, d)) hT4 hk
    rw [h6, h0]
    unfold putM getM
    rw [List.find?_cons_of_pos (by simp)]
  · have hj : es0[j]? = some e0 := by simpa using h2
    have hE2 : (Instr.mapEntry 64 (.map (some b)) (wkV x y d)).run Tryz.prog W = .ok (.tuple #[e0.val, goInt e0.born]) (setBlock W b (.map es0 clock)) := by
      simp [Instr.mapEntry, run_underlying map_und, Go.MapKept.run_getObj_map hb, wk_klaw.check W false hkey, h1, hj, h3, wk_klaw.stays W hkey, modify_same hj (fun e => { e with key := wkV x y d }) (by rw [← h3]), Go.MapKept.run_setObj_map _ hb, Result.andThen, setBlock]
    have e2 := (Result.ok.inj (hE.symm.trans hE2)).2
    rw [e2]
    exact hlook _ _ _ ⟨es0, clock, heap_setBlock_same hb _, F, hs, hD⟩ hget
end

end Go.Proofs.YtfpjakkjkakjoaaGreatDoor.P
