/- What is proved: the pure statement of the law FnExactAreInGear, about numbers and lists alone; no condition. -/
import Derived.Test.YtljlfdhocaikeaaPx7
namespace Go.Proofs.Ytljlfdhocaikeaa.Pure
open Go.RowKit Go.Proofs.Ytljlfdhocaikeaa.P Go.Proofs.YtljlfdhocaikeaaW.PrintWords Go.Proofs.YtljlfdhocaikeaaW.PrintLast
set_option linter.unusedVariables false
set_option linter.unusedSimpArgs false

theorem l1In_eq (n lo hi : Int) : spec_l1In.f n lo hi = some (inR n lo hi) := by
  unfold spec_l1In.f inR
  by_cases h : n ≥ lo
  · rw [if_pos h]; congr 1; simp only [decide_eq_decide]; omega
  · rw [if_neg h]; congr 1; exact (decide_eq_false (by omega)).symm
theorem wrap_one {n lo hi : Int} (h : inR n lo hi = true) (h1 : -1000000 ≤ lo) (h2 : hi ≤ 1000000) : wrap64 (n - 1) = n - 1 := by
  have := inR_true.1 h
  unfold wrap64
  omega
theorem wrap_id {x : Int} (h : -9000000000000000000 ≤ x) (h2 : x ≤ 9000000000000000000) : wrap64 x = x := by unfold wrap64; omega
theorem eqIntS_l0 (l : List Int) (hl : (l.length : Int) ≤ 1000000000000) : ∀ (d k : Nat) (i : Int), 0 ≤ i → i + d = l.length → d < k → laws_eqIntS.l0 k l l i = some true
  | 0, k + 1, i, h0, hi, _ => by
    unfold laws_eqIntS.l0
    rw [if_neg (by omega)]
  | d + 1, k + 1, i, h0, hi, hk => by
    unfold laws_eqIntS.l0
    rw [if_pos (by omega), if_pos h0, if_pos (by omega), if_pos rfl, wrap_id (by omega) (by omega)]
    exact eqIntS_l0 l hl d k (i + 1) (by omega) (by omega) (by omega)
theorem eqIntS_self {l : List Int} (hl : (l.length : Int) ≤ 1000000000000) {k : Nat} (hk : l.length < k) : laws_eqIntS.f k l l = some true := by
  unfold laws_eqIntS.f
  rw [if_pos rfl]
  exact eqIntS_l0 l hl l.length k 0 (by omega) (by omega) hk
theorem rd_get {l : List Int} {i : Int} (h0 : 0 ≤ i) (h1 : i < (l.length : Int)) : rd l i = l[i.toNat]'(by omega) := by
  simp [rd, List.getD_eq_getElem?_getD, List.getElem?_eq_getElem (show i.toNat < l.length by omega)]
theorem toIntS_l0 (l : List Int) (hl : (l.length : Int) ≤ 1000000000000) (d : Nat) : ∀ (k : Nat) (r : List Int) (i : Int), 0 ≤ i → i + d = l.length → r.length = l.length → r.take i.toNat = l.take i.toNat → d < k → laws_toIntS.l0 k l r i = some l := by
  induction d with
  | zero =>
    intro k r i h0 hi hr ht hk
    obtain ⟨k, rfl⟩ : ∃ m, k = m + 1 := ⟨k - 1, by omega⟩
    rw [laws_toIntS.l0, if_neg (by omega)]
    rw [List.take_of_length_le (by omega), List.take_of_length_le (by omega)] at ht
    rw [ht]
  | succ d ih =>
    intro k r i h0 hi hr ht hk
    obtain ⟨k, rfl⟩ : ∃ m, k = m + 1 := ⟨k - 1, by omega⟩
    rw [laws_toIntS.l0, if_pos (by omega), if_pos h0, if_pos (by omega), wrap_id (by omega) (by omega)]
    refine ih k _ (i + 1) (by omega) (by omega) (by rw [List.length_set]; exact hr) ?_ (by omega)
    rw [show (i + 1).toNat = i.toNat + 1 by omega, List.take_succ_eq_append_getElem (by rw [List.length_set]; omega), List.take_set_of_le (Nat.le_refl _), ht,
      List.take_succ_eq_append_getElem (show i.toNat < l.length by omega), rd_get h0 (by omega)]
    simp
theorem toIntS_f {l : List Int} {k : Nat} (hl : (l.length : Int) ≤ 1048576) (hk : 1048577 < k) : laws_toIntS.f k l = some l := by
  unfold laws_toIntS.f
  rw [if_pos (by omega), if_pos (by simp; omega)]
  exact toIntS_l0 l (by omega) l.length k _ 0 (by omega) (by omega) (by simp) (by simp) (by omega)
/-- A train. -/
def trainOk (l : List Int) : Bool := inR l.length 2 6 && l.all fun x => inR x 1 300
theorem trainOk_true {l : List Int} (h : trainOk l = true) : 2 ≤ (l.length : Int) ∧ (l.length : Int) ≤ 6 ∧ ∀ i : Int, 0 ≤ i → i < l.length → 1 ≤ rd l i ∧ rd l i ≤ 300 := by
  simp only [trainOk, Bool.and_eq_true, inR_true, List.all_eq_true] at h
  refine ⟨h.1.1, h.1.2, ?_⟩
  intro i h0 h1
  rw [rd_get h0 h1]
  exact h.2 _ (List.getElem_mem _)
theorem l1All_l0 (l : List Int) (lo hj : Int) (hl : (l.length : Int) ≤ 1000000000000) (d : Nat) : ∀ (k : Nat) (i : Int), 0 ≤ i → i + d = l.length → d < k → spec_l1All.l0 k lo hj l (l.length : Int) i = some ((l.drop i.toNat).all fun x => inR x lo hj) := by
  induction d with
  | zero =>
    intro k i h0 hi hk
    obtain ⟨k, rfl⟩ : ∃ m, k = m + 1 := ⟨k - 1, by omega⟩
    rw [spec_l1All.l0, if_neg (by omega), List.drop_eq_nil_of_le (by omega)]; rfl
  | succ d ih =>
    intro k i h0 hi hk
    obtain ⟨k, rfl⟩ : ∃ m, k = m + 1 := ⟨k - 1, by omega⟩
    rw [spec_l1All.l0, if_pos (by omega), if_pos h0, if_pos (by omega), l1In_eq, List.drop_eq_getElem_cons (by omega), List.all_cons, ← rd_get h0 (by omega)]
    simp only [Option.bind_some]
    by_cases hq : inR (rd l i) lo hj = true
    · rw [if_pos hq, wrap_id (by omega) (by omega), ih k (i + 1) (by omega) (by omega) (by omega), hq, show (i + 1).toNat = i.toNat + 1 by omega]; rfl
    · rw [if_neg hq]; simp only [Bool.not_eq_true] at hq; rw [hq]; rfl
theorem geTrain_eq {l : List Int} {k : Nat} (hl : (l.length : Int) ≤ 1048576) (hk : 1048577 < k) : spec_geTrain.f k l = some (trainOk l) := by
  unfold spec_geTrain.f spec_l1All.f trainOk
  rw [l1In_eq]
  simp only [Option.bind_some]
  by_cases h : inR l.length 2 6 = true
  · rw [if_pos h, l1All_l0 l 1 300 (by omega) l.length k 0 (by omega) (by omega) (by omega), h]; simp
  · rw [if_neg h]; simp only [Bool.not_eq_true] at h; rw [h]; rfl
theorem isTrain_eq (l : List Int) : impl_isTrain.f l = some (trainOk l) := rfl
/-- From some number of rounds on. -/
def Ev {α : Type} (f : Nat → Option α) (r : α) : Prop := ∃ K, ∀ k, K ≤ k → f k = some r
theorem Ev.succ {α : Type} {f g : Nat → Option α} {r : α} (h : Ev g r) (e : ∀ k, f (k + 1) = g k) : Ev f r := by
  obtain ⟨K, h⟩ := h
  refine ⟨K + 1, fun k hk => ?_⟩
  obtain ⟨k, rfl⟩ : ∃ m, k = m + 1 := ⟨k - 1, by omega⟩
  rw [e]; exact h k (by omega)
theorem Ev.succ2 {α : Type} {f g : Nat → Option α} {r : α} (h : Ev g r) (e : ∀ k, f (k + 1 + 1) = g k) : Ev f r := by
  obtain ⟨K, h⟩ := h
  refine ⟨K + 2, fun k hk => ?_⟩
  obtain ⟨k, rfl⟩ : ∃ m, k = m + 1 + 1 := ⟨k - 2, by omega⟩
  rw [e]; exact h k (by omega)
theorem Ev.one {α : Type} {f : Nat → Option α} {r : α} (e : ∀ k, f (k + 1) = some r) : Ev f r :=
  ⟨1, fun k hk => by obtain ⟨k, rfl⟩ : ∃ m, k = m + 1 := ⟨k - 1, by omega⟩; exact e k⟩
theorem Ev.two {α : Type} {f : Nat → Option α} {r : α} (e : ∀ k, f (k + 1 + 1) = some r) : Ev f r :=
  ⟨2, fun k hk => by obtain ⟨k, rfl⟩ : ∃ m, k = m + 1 + 1 := ⟨k - 2, by omega⟩; exact e k⟩
theorem Ev.congr {α : Type} {f g : Nat → Option α} {r : α} (h : Ev g r) (K : Nat) (e : ∀ k, K ≤ k → f k = g k) : Ev f r := by
  obtain ⟨L, h⟩ := h
  exact ⟨K + L, fun k hk => by rw [e k (by omega)]; exact h k (by omega)⟩
theorem Ev.lift {α : Type} {f : Nat → Option α} {r : α} (h : Ev f r) : ∃ K, ∀ k, K ≤ k → f k = some r := h
theorem close_AreInGear {l m : List Int} (hl : ¬ (l.length : Int) > 1048576) (hm : ¬ (m.length : Int) > 1048576) (r : Bool × Bool) (hs : Ev (fun k => spec_AreInGear.f k l m) r) (hi : Ev (fun k => impl_AreInGear.f k l m) r) : ∃ k, laws_FnExactAreInGear.f k l m = some true := by
  obtain ⟨K, hs⟩ := hs
  obtain ⟨L, hi⟩ := hi
  simp only at hs hi
  refine ⟨1048579 + K + L + 1, ?_⟩
  unfold laws_FnExactAreInGear.f
  rw [if_neg hl, if_neg hm, toIntS_f (by omega) (by omega)]
  simp only [Option.bind_some]
  rw [toIntS_f (by omega) (by omega)]
  simp only [Option.bind_some]
  rw [hs _ (by omega), hi _ (by omega)]
  simp only [Option.bind_some, bne_self_eq_false]
  rw [if_neg (by decide), laws_FnExactAreInGear.j0, if_neg (by decide), toIntS_f (by omega) (by omega)]
  simp only [Option.bind_some]
  rw [eqIntS_self (by omega) (by omega)]
  simp only [Option.bind_some, if_true]
  rw [toIntS_f (by omega) (by omega)]
  simp only [Option.bind_some]
  rw [eqIntS_self (by omega) (by omega)]
  rfl
/-- The steps that a tooth tells. -/
def sg (m : List Int) (i : Int) : Int := if Int.tmod i 2 = 1 then -(rd m i) else rd m i
theorem gear_l2 {l m s : List Int} (hlm : m.length = l.length) (hsm : s.length = l.length) (hl : (l.length : Int) ≤ 6) (hr : ∀ i : Int, 0 ≤ i → i < l.length → 1 ≤ rd l i ∧ rd l i ≤ 300)
    (ht : ∀ i : Int, 0 ≤ i → i < l.length → 0 ≤ rd m i ∧ rd m i ≤ 300) (hg : ∀ i : Int, 0 ≤ i → i < l.length → rd s i = sg m i) (i : Int) (hi0 : 0 ≤ i) (hi : i < l.length)
    (hc : ∃ r, Ev (fun k => spec_AreInGear.l1 k l m (l.length : Int) (i + 1)) r ∧ Ev (fun k => impl_AreInGear.l1 k l s (l.length : Int) (i + 1)) r) (d : Nat) : ∀ (j : Int), 0 ≤ j → j + d = i →
    ∃ r, Ev (fun k => spec_AreInGear.l2 k l m i (l.length : Int) i i j) r ∧ Ev (fun k => impl_AreInGear.l2 k l s i (l.length : Int) i i j) r := by
  induction d with
  | zero =>
    intro j hj hd
    obtain ⟨r, h1, h2⟩ := hc
    refine ⟨r, Ev.succ h1 ?_, Ev.succ h2 ?_⟩
    · intro k
      (try simp only)
      rw [spec_AreInGear.l2, if_neg (by omega), wrap_id (by omega) (by omega)]
    · intro k
      (try simp only)
      rw [impl_AreInGear.l2, if_neg (by omega), wrap_id (by omega) (by omega)]
  | succ d ih =>
    intro j hj hd
    have r1 := hr i hi0 (by omega)
    have r2 := hr j hj (by omega)
    have t1 := ht i hi0 (by omega)
    have t2 := ht j hj (by omega)
    have g1 := hg i hi0 (by omega)
    have g2 := hg j hj (by omega)
    have hgc := gcdGo_bd (a := rd l i) (b := rd l j) (by omega) (by omega)
    have b1 : -300 ≤ sg m i ∧ sg m i ≤ 300 := by unfold sg; split <;> omega
    have b2 : -300 ≤ sg m j ∧ sg m j ≤ 300 := by unfold sg; split <;> omega
    have es : ∀ k, spec_AreInGear.l2 (k + 1 + 1) l m i (l.length : Int) i i j = if Int.tmod (sg m i - sg m j) (gcdGo (rd l i) (rd l j)) = 0 then spec_AreInGear.l2 k l m i (l.length : Int) i i (j + 1) else some (false, true) := by
      intro k
      rw [spec_AreInGear.l2, if_pos (by omega), if_pos hi0, if_pos (by omega), if_pos hj, if_pos (by omega), spec_AreInGear.j4, spec_AreInGear.j4]
      unfold spec_srCommon.f sg
      simp only [Option.bind_some]
      rw [if_neg (show ¬ gcdGo (rd l i) (rd l j) = 0 by omega), wrap_id (x := j + 1) (by omega) (by omega), wrap_id (x := -(rd m i)) (by omega) (by omega), wrap_id (x := -(rd m j)) (by omega) (by omega)]
      by_cases h1 : Int.tmod i 2 = 1 <;> by_cases h2 : Int.tmod j 2 = 1 <;> simp only [h1, h2, if_true, if_false] <;> (rw [if_pos hi0, if_pos hi, if_pos hj, if_pos (by omega), wrap_id (by omega) (by omega)]) <;> (try rw [if_neg (show ¬ gcdGo (rd l i) (rd l j) = 0 by omega)])
    have ei : ∀ k, impl_AreInGear.l2 (k + 1) l s i (l.length : Int) i i j = if Int.tmod (sg m i - sg m j) (gcdGo (rd l i) (rd l j)) = 0 then impl_AreInGear.l2 k l s i (l.length : Int) i i (j + 1) else some (false, true) := by
      intro k
      rw [impl_AreInGear.l2, if_pos (by omega), if_pos hi0, if_pos (by omega), if_pos hj, if_pos (by omega), if_pos (by omega), if_pos (by omega)]
      unfold impl_divisor.f
      simp only [Option.bind_some]
      rw [if_neg (show ¬ gcdGo (rd l i) (rd l j) = 0 by omega), wrap_id (x := j + 1) (by omega) (by omega), g1, g2, wrap_id (by omega) (by omega)]
    by_cases hq : Int.tmod (sg m i - sg m j) (gcdGo (rd l i) (rd l j)) = 0
    · obtain ⟨r, h1, h2⟩ := ih (j + 1) (by omega) (by omega)
      refine ⟨r, Ev.succ2 h1 ?_, Ev.succ h2 ?_⟩
      · intro k; (try simp only); rw [es, if_pos hq]
      · intro k; (try simp only); rw [ei, if_pos hq]
    · refine ⟨(false, true), Ev.two ?_, Ev.one ?_⟩
      · intro k; (try simp only); rw [es, if_neg hq]
      · intro k; (try simp only); rw [ei, if_neg hq]
theorem gear_l1 {l m s : List Int} (hlm : m.length = l.length) (hsm : s.length = l.length) (hl : (l.length : Int) ≤ 6) (hr : ∀ i : Int, 0 ≤ i → i < l.length → 1 ≤ rd l i ∧ rd l i ≤ 300)
    (ht : ∀ i : Int, 0 ≤ i → i < l.length → 0 ≤ rd m i ∧ rd m i ≤ 300) (hg : ∀ i : Int, 0 ≤ i → i < l.length → rd s i = sg m i) (d : Nat) : ∀ (i : Int), 0 ≤ i → i + d = l.length →
    ∃ r, Ev (fun k => spec_AreInGear.l1 k l m (l.length : Int) i) r ∧ Ev (fun k => impl_AreInGear.l1 k l s (l.length : Int) i) r := by
  induction d with
  | zero =>
    intro i hi hd
    refine ⟨(true, true), Ev.one ?_, Ev.one ?_⟩
    · intro k; (try simp only); rw [spec_AreInGear.l1, if_neg (by omega)]
    · intro k; (try simp only); rw [impl_AreInGear.l1, if_neg (by omega)]
  | succ d ih =>
    intro i hi hd
    obtain ⟨r, h1, h2⟩ := gear_l2 hlm hsm hl hr ht hg i hi (by omega) (ih (i + 1) (by omega) (by omega)) i.toNat 0 (by omega) (by omega)
    refine ⟨r, Ev.succ h1 ?_, Ev.succ h2 ?_⟩
    · intro k; (try simp only)
      rw [spec_AreInGear.l1, if_pos (by omega), if_pos hi, if_pos (by omega), show ((l.take (i : Int).toNat).length : Int) = i by rw [List.length_take]; omega]
    · intro k; (try simp only)
      rw [impl_AreInGear.l1, if_pos (by omega)]
theorem rd_app {l : List Int} {x i : Int} (h0 : 0 ≤ i) (h : i < l.length) : rd (l ++ [x]) i = rd l i := by
  simp [rd, List.getD_eq_getElem?_getD, List.getElem?_append_left (show i.toNat < l.length by omega)]
theorem rd_new {l : List Int} {x i : Int} (h : i = l.length) : rd (l ++ [x]) i = x := by
  subst h; simp [rd]
theorem gear_l0 {l m : List Int} (hlm : m.length = l.length) (hl : (l.length : Int) ≤ 6) (hr : ∀ i : Int, 0 ≤ i → i < l.length → 1 ≤ rd l i ∧ rd l i ≤ 300) (d : Nat) : ∀ (s : List Int) (i : Int), 0 ≤ i → i + d = l.length → (s.length : Int) = i →
    (∀ j : Int, 0 ≤ j → j < i → 0 ≤ rd m j ∧ rd m j ≤ 300) → (∀ j : Int, 0 ≤ j → j < i → rd s j = sg m j) →
    ∃ r, Ev (fun k => spec_AreInGear.l0 k l m m (l.length : Int) i) r ∧ Ev (fun k => impl_AreInGear.l0 k l s m (l.length : Int) i) r := by
  induction d with
  | zero =>
    intro s i hi hd hs ht hg
    obtain ⟨r, h1, h2⟩ := gear_l1 (s := s) hlm (by omega) hl hr (fun j h0 hj => ht j h0 (by omega)) (fun j h0 hj => hg j h0 (by omega)) l.length 0 (by omega) (by omega)
    refine ⟨r, Ev.succ h1 ?_, Ev.succ h2 ?_⟩
    · intro k; (try simp only); rw [spec_AreInGear.l0, if_neg (by omega)]
    · intro k; (try simp only); rw [impl_AreInGear.l0, if_neg (by omega)]
  | succ d ih =>
    intro s i hi hd hs ht hg
    have r1 := hr i hi (by omega)
    have ew : wrap64 (rd l i - 1) = rd l i - 1 := wrap_id (by omega) (by omega)
    by_cases hq : inR (rd m i) 0 (rd l i - 1) = true
    · have hb := inR_true.1 hq
      have eg : sg m i = if Int.tmod i 2 = 1 then -(rd m i) else rd m i := rfl
      obtain ⟨r, h1, h2⟩ := ih (s ++ [sg m i]) (i + 1) (by omega) (by omega) (by simp; omega) (by
        intro j h0 hj
        rcases Int.lt_or_le j i with h | h
        · exact ht j h0 h
        · obtain rfl : j = i := by omega
          omega) (by
        intro j h0 hj
        rcases Int.lt_or_le j i with h | h
        · rw [rd_app h0 (by omega)]; exact hg j h0 h
        · obtain rfl : j = i := by omega
          exact rd_new hs.symm)
      refine ⟨r, Ev.succ h1 ?_, Ev.succ h2 ?_⟩
      · intro k; (try simp only)
        rw [spec_AreInGear.l0, if_pos (by omega), if_pos hi, if_pos (by omega), if_pos (by omega), ew, l1In_eq, hq]
        simp only [Option.bind_some, if_true]
        rw [wrap_id (by omega) (by omega)]
      · intro k; (try simp only)
        rw [impl_AreInGear.l0, if_pos (by omega), if_pos hi, if_pos (by omega), if_pos (by omega), ew, within_eq, hq, eg]
        simp only [Option.bind_some, if_true]
        rw [wrap_id (x := i + 1) (by omega) (by omega), wrap_id (x := -(rd m i)) (by omega) (by omega), if_pos (show (s.length : Nat) < 17592186044416 by omega)]
        by_cases h1 : Int.tmod i 2 = 1
        · rw [if_pos h1, if_pos h1]
        · rw [if_neg h1, if_neg h1, if_pos (show (s.length : Nat) < 17592186044416 by omega)]
    · refine ⟨(false, false), Ev.one ?_, Ev.one ?_⟩
      · intro k; (try simp only)
        rw [spec_AreInGear.l0, if_pos (by omega), if_pos hi, if_pos (by omega), if_pos (by omega), ew, l1In_eq]
        simp only [Option.bind_some]
        rw [if_neg hq]
      · intro k; (try simp only)
        rw [impl_AreInGear.l0, if_pos (by omega), if_pos hi, if_pos (by omega), if_pos (by omega), ew, within_eq]
        simp only [Option.bind_some]
        rw [if_neg hq]
theorem FnExactAreInGear : laws_FnExactAreInGear.Pure := by
  intro l m _ _ _ _ _ _
  by_cases hl : (l.length : Int) > 1048576
  · refine ⟨0, ?_⟩
    unfold laws_FnExactAreInGear.f
    rw [if_pos hl]
  by_cases hm : (m.length : Int) > 1048576
  · refine ⟨0, ?_⟩
    unfold laws_FnExactAreInGear.f
    rw [if_neg hl, if_pos hm]
  have es : ∀ k, 1048577 ≤ k → spec_AreInGear.f (k + 1) l m = spec_AreInGear.j0 (k + 1) l m (!(trainOk l && decide ((m.length : Int) = l.length))) := by
    intro k hk
    unfold spec_AreInGear.f
    rw [geTrain_eq (by omega) (by omega)]
    simp only [Option.bind_some]
    by_cases h : trainOk l = true
    · rw [if_pos h, h]
      by_cases e : (m.length : Int) = l.length
      · simp [e]
      · simp only [e, decide_false, Bool.and_false, Bool.not_false]; rw [show ((m.length : Int) != (l.length : Int)) = true by simpa using e]
    · rw [if_neg h]; simp only [Bool.not_eq_true] at h; rw [h]; rfl
  have ei : ∀ k, impl_AreInGear.f (k + 1) l m = impl_AreInGear.j0 (k + 1) l m (!(trainOk l && decide ((m.length : Int) = l.length))) := by
    intro k
    unfold impl_AreInGear.f
    rw [isTrain_eq]
    simp only [Option.bind_some]
    by_cases h : trainOk l = true
    · rw [if_pos h, h]
      by_cases e : (m.length : Int) = l.length
      · simp [e]
      · simp only [e, decide_false, Bool.and_false, Bool.not_false]; rw [show ((m.length : Int) != (l.length : Int)) = true by simpa using e]
    · rw [if_neg h]; simp only [Bool.not_eq_true] at h; rw [h]; rfl
  by_cases hq : (trainOk l && decide ((m.length : Int) = l.length)) = true
  · have hq' := hq
    simp only [Bool.and_eq_true, decide_eq_true_eq] at hq'
    have hb := trainOk_true hq'.1
    obtain ⟨r, ⟨K, h1⟩, ⟨L, h2⟩⟩ := gear_l0 (l := l) (m := m) (by omega) (by omega) hb.2.2 l.length [] 0 (by omega) (by omega) (by simp) (fun j h0 hj => by omega) (fun j h0 hj => by omega)
    simp only at h1 h2
    refine close_AreInGear hl hm r ⟨1048578 + K, ?_⟩ ⟨1 + L, ?_⟩
    · intro k hk
      obtain ⟨k, rfl⟩ : ∃ m, k = m + 1 := ⟨k - 1, by omega⟩
      (try simp only)
      rw [es k (by omega), hq, Bool.not_true, spec_AreInGear.j0, if_neg (by decide), hq'.2]
      exact h1 k (by omega)
    · intro k hk
      obtain ⟨k, rfl⟩ : ∃ m, k = m + 1 := ⟨k - 1, by omega⟩
      (try simp only)
      rw [ei k, hq, Bool.not_true, impl_AreInGear.j0, if_neg (by decide), hq'.2]
      exact h2 k (by omega)
  · simp only [Bool.not_eq_true] at hq
    refine close_AreInGear hl hm (false, false) ⟨1048578, ?_⟩ ⟨1, ?_⟩
    · intro k hk
      obtain ⟨k, rfl⟩ : ∃ m, k = m + 1 := ⟨k - 1, by omega⟩
      (try simp only)
      rw [es k (by omega), hq, Bool.not_false, spec_AreInGear.j0, if_pos rfl]
    · intro k hk
      obtain ⟨k, rfl⟩ : ∃ m, k = m + 1 := ⟨k - 1, by omega⟩
      (try simp only)
      rw [ei k, hq, Bool.not_false, impl_AreInGear.j0, if_pos rfl]

end Go.Proofs.Ytljlfdhocaikeaa.Pure
