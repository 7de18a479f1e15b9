/- What is proved: the pure statement of the law FnGearsMeet, about numbers and lists alone; no condition. -/
import Derived.Test.YtafjmkjljhiigaaPx5
import Derived.WalkSmall
namespace Go.Proofs.Ytafjmkjljhiigaa.Pure
open Go.RowKit Go.Proofs.Ytafjmkjljhiigaa.P Go.Proofs.YtafjmkjljhiigaaW.PrintWords Go.Proofs.YtafjmkjljhiigaaW.PrintLast
set_option linter.unusedVariables false
set_option linter.unusedSimpArgs false

theorem wrap_id {x : Int} (h : -9000000000000000000 ≤ x) (h2 : x ≤ 9000000000000000000) : wrap64 x = x := by unfold wrap64; omega
theorem u64w (x : Int) : 0 ≤ IntKind.u64.wrap x ∧ IntKind.u64.wrap x ≤ 18446744073709551615 := by
  have e : IntKind.u64.wrap x = x % 18446744073709551616 := rfl
  rw [e]; omega
theorem byte_and {x : Int} (h0 : 0 ≤ x) (h1 : x ≤ 18446744073709551615) : 0 ≤ Go.bits .and .u64 x 255 ∧ Go.bits .and .u64 x 255 ≤ 255 := by
  have h := Go.bits_and_u64_nat x.toNat 255 (by omega) (by omega)
  rw [Int.toNat_of_nonneg h0] at h
  have h2 : x.toNat &&& 255 ≤ 255 := Nat.and_le_right
  have h3 : Go.bits .and .u64 x 255 = ((x.toNat &&& 255 : Nat) : Int) := h
  rw [h3]; omega
/-- Bytes. -/
def Bytes (s : List Int) : Prop := (s.length : Int) ≤ 1048576 ∧ ∀ x ∈ s, 0 ≤ x ∧ x ≤ 255
theorem Bytes.at {s : List Int} (h : Bytes s) {i : Int} (h0 : 0 ≤ i) (h1 : i < s.length) : 0 ≤ rd s i ∧ rd s i ≤ 255 := by
  have : rd s i = s[i.toNat]'(by omega) := by
    simp [rd, List.getD_eq_getElem?_getD, List.getElem?_eq_getElem (show i.toNat < s.length by omega)]
  rw [this]; exact h.2 _ (List.getElem_mem _)
theorem Bytes.of {s : List Int} (hl : (s.length : Int) ≤ 1048576) (h : ∀ x ∈ s, (Lit.int .u8 x).wf = true) : Bytes s := by
  refine ⟨hl, fun x hx => ?_⟩
  have := h x hx
  have e0 : IntKind.u8.min = 0 := rfl
  have e1 : IntKind.u8.max = 255 := rfl
  simp [Lit.wf] at this
  omega
theorem next_tot {s : List Int} (hs : Bytes s) {a sd : Int} (h0 : 0 ≤ a) (h1 : a ≤ 1000000) : ∃ b sd', spec_l1Cur_next.f s a sd = some (b, a + 1, sd') ∧ 0 ≤ b ∧ b ≤ 255 := by
  unfold spec_l1Cur_next.f
  rw [wrap_id (x := a + 1) (by omega) (by omega)]
  by_cases h : a < (s.length : Int)
  · have hr := hs.at h0 h
    rw [if_pos h, if_pos h0, if_pos (by omega), wrap_id (x := rd s a) (by omega) (by omega)]
    exact ⟨_, _, rfl, hr⟩
  · rw [if_neg h, if_neg (by omega)]
    refine ⟨_, _, rfl, ?_⟩
    have hu := u64w (IntKind.u64.wrap (IntKind.u64.wrap (sd * 6364136223846793005)) + 1442695040888963407)
    have hb := byte_and (x := IntKind.u64.wrap (IntKind.u64.wrap (IntKind.u64.wrap (sd * 6364136223846793005)) + 1442695040888963407) / 1099511627776) (by omega) (by omega)
    rw [wrap_id (by omega) (by omega)]
    exact hb
theorem pick_tot {s : List Int} (hs : Bytes s) {a sd : Int} (n : Int) (h0 : 0 ≤ a) (h1 : a ≤ 900000) : ∃ v a' sd', spec_l1Cur_pick.f s a sd n = some (v, a', sd') ∧ a ≤ a' ∧ a' ≤ a + 2 ∧ 0 ≤ v ∧ (1 ≤ n → v < n) ∧ (n ≤ 1 → v = 0) := by
  unfold spec_l1Cur_pick.f
  by_cases h : n ≤ 1
  · rw [if_pos h]; exact ⟨0, a, sd, rfl, by omega, by omega, by omega, by omega, fun _ => rfl⟩
  · rw [if_neg h]
    obtain ⟨b, sd1, e1, b0, b1⟩ := next_tot hs (sd := sd) h0 (by omega)
    rw [e1]
    simp only [Option.bind_some]
    by_cases h2 : n > 200
    · rw [if_pos h2]
      obtain ⟨c, sd2, e2, c0, c1⟩ := next_tot hs (a := a + 1) (sd := sd1) (by omega) (by omega)
      rw [e2]
      simp only [Option.bind_some]
      rw [if_neg (by omega), wrap_id (x := b * 256) (by omega) (by omega), wrap_id (x := b * 256 + c) (by omega) (by omega), Int.tmod_eq_emod_of_nonneg (by omega)]
      exact ⟨_, _, _, rfl, by omega, by omega, Int.emod_nonneg _ (by omega), fun _ => Int.emod_lt_of_pos _ (by omega), by omega⟩
    · rw [if_neg h2, if_neg (by omega), Int.tmod_eq_emod_of_nonneg (by omega)]
      exact ⟨_, _, _, rfl, by omega, by omega, Int.emod_nonneg _ (by omega), fun _ => Int.emod_lt_of_pos _ (by omega), by omega⟩
theorem one_tot {s : List Int} (hs : Bytes s) {a sd : Int} (n : Int) (h0 : 0 ≤ a) (h1 : a ≤ 900000) : ∃ v a' sd', spec_l1Cur_one.f s a sd n = some (v, a', sd') ∧ a ≤ a' ∧ a' ≤ a + 2 := by
  unfold spec_l1Cur_one.f
  obtain ⟨v, a', sd', e, q1, q2, _⟩ := pick_tot hs (sd := sd) n h0 h1
  rw [e]
  exact ⟨_, _, _, rfl, q1, q2⟩
theorem among_tot {s : List Int} (hs : Bytes s) {a sd : Int} (l : List Int) (hl : 1 ≤ (l.length : Int)) (h0 : 0 ≤ a) (h1 : a ≤ 900000) : ∃ v a' sd', spec_l1Cur_among.f s a sd l = some (v, a', sd') ∧ a ≤ a' ∧ a' ≤ a + 2 := by
  unfold spec_l1Cur_among.f
  obtain ⟨v, a', sd', e, q1, q2, q3, q4, _⟩ := pick_tot hs (sd := sd) (l.length : Int) h0 h1
  rw [e]
  simp only [Option.bind_some]
  rw [if_pos q3, if_pos (q4 hl)]
  exact ⟨_, _, _, rfl, q1, q2⟩
theorem gears_tot {s : List Int} (hs : Bytes s) {a sd : Int} (h0 : 0 ≤ a) (h1 : a ≤ 800000) : ∃ n m a' sd', spec_l1Cur_gears.f s a sd = some (n, m, a', sd') ∧ a ≤ a' ∧ a' ≤ a + 6 := by
  unfold spec_l1Cur_gears.f
  obtain ⟨v, a1, sd1, e, q1, q2⟩ := one_tot hs (sd := sd) 12 h0 (by omega)
  rw [e]
  simp only [Option.bind_some]
  by_cases h : v = true
  · rw [if_pos h]
    obtain ⟨x, a2, sd2, e2, q3, q4⟩ := among_tot hs (a := a1) (sd := sd1) [0, 2, 3, 300, 301, (-1), 4611686018427387904] (by simp) (by omega) (by omega)
    rw [e2]
    simp only [Option.bind_some]
    obtain ⟨y, a3, sd3, e3, q5, q6⟩ := among_tot hs (a := a2) (sd := sd2) [0, 1, 2, 60, 299, 300, (-1)] (by simp) (by omega) (by omega)
    rw [e3]
    exact ⟨_, _, a3, _, rfl, by omega, by omega⟩
  · rw [if_neg h]
    obtain ⟨x, a2, sd2, e2, q3, q4, _⟩ := pick_tot hs (a := a1) (sd := sd1) 22 (by omega) (by omega)
    rw [e2]
    simp only [Option.bind_some]
    obtain ⟨y, a3, sd3, e3, q5, q6, _⟩ := pick_tot hs (a := a2) (sd := sd2) (wrap64 (wrap64 (3 + x) - 1)) (by omega) (by omega)
    rw [e3]
    exact ⟨_, _, a3, _, rfl, by omega, by omega⟩
theorem l1In_eq (n lo hi : Int) : spec_l1In.f n lo hi = some (inR n lo hi) := by
  unfold spec_l1In.f inR
  by_cases h : n ≥ lo
  · rw [if_pos h]; congr 1; simp only [decide_eq_decide]; omega
  · rw [if_neg h]; congr 1; exact (decide_eq_false (by omega)).symm
theorem wrap_one {n lo hi : Int} (h : inR n lo hi = true) (h1 : -1000000 ≤ lo) (h2 : hi ≤ 1000000) : wrap64 (n - 1) = n - 1 := by
  have := inR_true.1 h
  unfold wrap64
  omega
/-- A ring and a wheel. -/
def gearOk (a b : Int) : Bool := inR a 3 300 && inR b 1 (a - 1)
theorem gearOk_true {a b : Int} : gearOk a b = true ↔ 3 ≤ a ∧ a ≤ 300 ∧ 1 ≤ b ∧ b ≤ a - 1 := by
  simp only [gearOk, Bool.and_eq_true, inR_true]
  omega
theorem geGood_eq (a b : Int) : spec_geGood.f a b = some (gearOk a b) := by
  unfold spec_geGood.f gearOk
  rw [l1In_eq]
  simp only [Option.bind_some]
  by_cases h : inR a 3 300 = true
  · rw [if_pos h, wrap_one h (by omega) (by omega), l1In_eq, h]; rfl
  · rw [if_neg h]; simp only [Bool.not_eq_true] at h; rw [h]; rfl
theorem areGears_one (a b : Int) : impl_areGears.f a [b] = some (gearOk a b) := by
  simp [impl_areGears.f, gearOk]
theorem rd_get {l : List Int} {i : Int} (h0 : 0 ≤ i) (h1 : i < (l.length : Int)) : rd l i = l[i.toNat]'(by omega) := by
  simp [rd, List.getD_eq_getElem?_getD, List.getElem?_eq_getElem (show i.toNat < l.length by omega)]
/-- A train. -/
def trainOk (l : List Int) : Bool := inR l.length 2 6 && l.all fun x => inR x 1 300
theorem trainOk_true {l : List Int} (h : trainOk l = true) : 2 ≤ (l.length : Int) ∧ (l.length : Int) ≤ 6 ∧ ∀ i : Int, 0 ≤ i → i < l.length → 1 ≤ rd l i ∧ rd l i ≤ 300 := by
  simp only [trainOk, Bool.and_eq_true, inR_true, List.all_eq_true] at h
  refine ⟨h.1.1, h.1.2, ?_⟩
  intro i h0 h1
  rw [rd_get h0 h1]
  exact h.2 _ (List.getElem_mem _)
theorem l1All_l0 (l : List Int) (lo hj : Int) (hl : (l.length : Int) ≤ 1000000000000) (d : Nat) : ∀ (k : Nat) (i : Int), 0 ≤ i → i + d = l.length → d < k → spec_l1All.l0 k lo hj l (l.length : Int) i = some ((l.drop i.toNat).all fun x => inR x lo hj) := by
  induction d with
  | zero =>
    intro k i h0 hi hk
    obtain ⟨k, rfl⟩ : ∃ m, k = m + 1 := ⟨k - 1, by omega⟩
    rw [spec_l1All.l0, if_neg (by omega), List.drop_eq_nil_of_le (by omega)]; rfl
  | succ d ih =>
    intro k i h0 hi hk
    obtain ⟨k, rfl⟩ : ∃ m, k = m + 1 := ⟨k - 1, by omega⟩
    rw [spec_l1All.l0, if_pos (by omega), if_pos h0, if_pos (by omega), l1In_eq, List.drop_eq_getElem_cons (by omega), List.all_cons, ← rd_get h0 (by omega)]
    simp only [Option.bind_some]
    by_cases hq : inR (rd l i) lo hj = true
    · rw [if_pos hq, wrap_id (by omega) (by omega), ih k (i + 1) (by omega) (by omega) (by omega), hq, show (i + 1).toNat = i.toNat + 1 by omega]; rfl
    · rw [if_neg hq]; simp only [Bool.not_eq_true] at hq; rw [hq]; rfl
theorem geTrain_eq {l : List Int} {k : Nat} (hl : (l.length : Int) ≤ 1048576) (hk : 1048577 < k) : spec_geTrain.f k l = some (trainOk l) := by
  unfold spec_geTrain.f spec_l1All.f trainOk
  rw [l1In_eq]
  simp only [Option.bind_some]
  by_cases h : inR l.length 2 6 = true
  · rw [if_pos h, l1All_l0 l 1 300 (by omega) l.length k 0 (by omega) (by omega) (by omega), h]; simp
  · rw [if_neg h]; simp only [Bool.not_eq_true] at h; rw [h]; rfl
theorem isTrain_eq (l : List Int) : impl_isTrain.f l = some (trainOk l) := rfl
theorem trainl_tot {s : List Int} (hs : Bytes s) (d : Nat) : ∀ (k : Nat) (l : List Int) (a sd : Int), d < k → 0 ≤ a → a + 2 * d ≤ 900000 → (l.length : Int) + d ≤ 1000 → ∃ l' a' sd', spec_l1Cur_train.l0 k l (d : Int) s a sd = some (l', a', sd') ∧ (l'.length : Int) ≤ l.length + d ∧ a ≤ a' ∧ a' ≤ a + 2 * d := by
  induction d with
  | zero =>
    intro k l a sd hk h0 h1 hl
    obtain ⟨k, rfl⟩ : ∃ m, k = m + 1 := ⟨k - 1, by omega⟩
    rw [spec_l1Cur_train.l0, if_neg (by omega)]
    exact ⟨_, a, _, rfl, by omega, by omega, by omega⟩
  | succ d ih =>
    intro k l a sd hk h0 h1 hl
    obtain ⟨k, rfl⟩ : ∃ m, k = m + 1 := ⟨k - 1, by omega⟩
    obtain ⟨v, a1, sd1, e1, q1, q2, _⟩ := pick_tot hs (sd := sd) 20 h0 (by omega)
    rw [spec_l1Cur_train.l0, if_pos (by omega), e1]
    simp only [Option.bind_some]
    rw [if_pos (by omega), show wrap64 (((d + 1 : Nat) : Int) - 1) = (d : Int) by rw [wrap_id (by omega) (by omega)]; omega]
    obtain ⟨l', a', sd', e2, q3, q4, q5⟩ := ih k (l ++ [wrap64 (1 + v)]) a1 sd1 (by omega) (by omega) (by omega) (by simp; omega)
    refine ⟨l', a', sd', e2, ?_, by omega, by omega⟩
    rw [List.length_append] at q3; simp at q3; omega
theorem train_tot {s : List Int} (hs : Bytes s) {a sd : Int} (h0 : 0 ≤ a) (h1 : a ≤ 800000) {k : Nat} (hk : 10 ≤ k) : ∃ l a' sd', spec_l1Cur_train.f k s a sd = some (l, a', sd') ∧ (l.length : Int) ≤ 7 ∧ a ≤ a' ∧ a' ≤ a + 20 := by
  unfold spec_l1Cur_train.f
  obtain ⟨v, a1, sd1, e, q1, q2⟩ := one_tot hs (sd := sd) 12 h0 (by omega)
  rw [e]
  simp only [Option.bind_some]
  by_cases h : v = true
  · rw [if_pos h]
    obtain ⟨x, a2, sd2, e2, q3, q4, q5, q6, _⟩ := pick_tot hs (a := a1) (sd := sd1) 7 (by omega) (by omega)
    rw [e2]
    simp only [Option.bind_some]
    have q7 := q6 (by omega)
    rw [if_pos q5, if_pos (by simp; omega)]
    refine ⟨_, a2, _, rfl, ?_, by omega, by omega⟩
    have hx : x = 0 ∨ x = 1 ∨ x = 2 ∨ x = 3 ∨ x = 4 ∨ x = 5 ∨ x = 6 := by omega
    rcases hx with rfl | rfl | rfl | rfl | rfl | rfl | rfl <;> simp [rd_L3]
  · rw [if_neg h]
    obtain ⟨x, a2, sd2, e2, q3, q4, q5, q6, _⟩ := pick_tot hs (a := a1) (sd := sd1) 4 (by omega) (by omega)
    rw [e2]
    simp only [Option.bind_some]
    have q7 := q6 (by omega)
    obtain ⟨l', a', sd', e3, q8, q9, q10⟩ := trainl_tot hs (2 + x).toNat k [] a2 sd2 (by omega) (by omega) (by omega) (by simp; omega)
    rw [show (((2 + x).toNat : Nat) : Int) = wrap64 (2 + x) by rw [wrap_id (by omega) (by omega)]; omega] at e3
    rw [e3]
    refine ⟨_, a', _, rfl, ?_, by omega, by omega⟩
    simp at q8; omega
theorem drawTurns {s : List Int} (hs : Bytes s) {k : Nat} (hk : 10 ≤ k) : ∃ l a, spec_DrawTrainTurns.f k s = some (l, a) ∧ (l.length : Int) ≤ 7 := by
  obtain ⟨l, a, sd, e, q1, q2, q3⟩ := train_tot hs (a := 0) (sd := 0) (by omega) (by omega) hk
  obtain ⟨v, a1, sd1, e1, _⟩ := among_tot hs (a := a) (sd := sd) [0, 1, 2, (-1), (-3), 1000, 1001, (-1001)] (by simp) (by omega) (by omega)
  exact ⟨l, v, by unfold spec_DrawTrainTurns.f spec_DrawTrainTurns_w.f; rw [e]; simp only [Option.bind_some]; rw [e1]; rfl, q1⟩
theorem drawTeeth {s : List Int} (hs : Bytes s) {k : Nat} (hk : 10 ≤ k) : ∃ l a, spec_DrawTrainTeeth.f k s = some (l, a) ∧ (l.length : Int) ≤ 7 := by
  obtain ⟨l, a, sd, e, q1, q2, q3⟩ := train_tot hs (a := 0) (sd := 0) (by omega) (by omega) hk
  obtain ⟨v, a1, sd1, e1, _⟩ := among_tot hs (a := a) (sd := sd) [0, 1, 2, 7, 30, 1000, 1000000, 1000001, (-1)] (by simp) (by omega) (by omega)
  exact ⟨l, v, by unfold spec_DrawTrainTeeth.f spec_DrawTrainTeeth_w.f; rw [e]; simp only [Option.bind_some]; rw [e1]; rfl, q1⟩
theorem drawPeriod {s : List Int} (hs : Bytes s) {k : Nat} (hk : 10 ≤ k) : ∃ l, spec_DrawTrainPeriod.f k s = some l ∧ (l.length : Int) ≤ 7 := by
  obtain ⟨l, a, sd, e, q1, q2, q3⟩ := train_tot hs (a := 0) (sd := 0) (by omega) (by omega) hk
  exact ⟨l, by unfold spec_DrawTrainPeriod.f spec_DrawTrainPeriod_w.f; rw [e]; rfl, q1⟩
theorem drawMeet {s : List Int} (hs : Bytes s) {k : Nat} (hk : 10 ≤ k) : ∃ n m a b, spec_DrawFirstMeeting.f k s = some (n, m, a, b) := by
  obtain ⟨k, rfl⟩ : ∃ m, k = m + 1 := ⟨k - 1, by omega⟩
  obtain ⟨n, m, a, sd, e, q1, q2⟩ := gears_tot hs (a := 0) (sd := 0) (by omega) (by omega)
  have hj : ∀ (b : Bool) (a sd : Int), 0 ≤ a → a ≤ 100 → ∃ x y a' sd', spec_DrawDoMeet_w.j0 (k + 1) n m b s a sd = some (n, m, x, y, a', sd') := by
    intro b a sd h0 h1
    cases b with
    | true =>
      rw [spec_DrawDoMeet_w.j0, if_pos rfl]
      obtain ⟨v, a1, sd1, e1, q3, q4⟩ := among_tot hs (a := a) (sd := sd) [(-1), 0, 1, n] (by simp) (by omega) (by omega)
      rw [e1]
      simp only [Option.bind_some]
      obtain ⟨v2, a2, sd2, e2, q5, q6⟩ := among_tot hs (a := a1) (sd := sd1) [(-1), 0, 1, m] (by simp) (by omega) (by omega)
      rw [e2]; exact ⟨_, _, _, _, rfl⟩
    | false =>
      rw [spec_DrawDoMeet_w.j0, if_neg (by decide)]
      obtain ⟨v, a1, sd1, e1, q3, q4, _⟩ := pick_tot hs (a := a) (sd := sd) n (by omega) (by omega)
      rw [e1]
      simp only [Option.bind_some]
      obtain ⟨v2, a2, sd2, e2, q5, q6, _⟩ := pick_tot hs (a := a1) (sd := sd1) m (by omega) (by omega)
      rw [e2]; exact ⟨_, _, _, _, rfl⟩
  unfold spec_DrawFirstMeeting.f spec_DrawDoMeet.f spec_DrawDoMeet_w.f
  rw [e]
  simp only [Option.bind_some]
  rw [geGood_eq]
  simp only [Option.bind_some]
  by_cases h : gearOk n m = true
  · rw [if_pos h]
    obtain ⟨v, a1, sd1, e1, q3, q4⟩ := one_tot hs (a := a) (sd := sd) 14 (by omega) (by omega)
    rw [e1]
    simp only [Option.bind_some]
    obtain ⟨x, y, a', sd', e2⟩ := hj v a1 sd1 (by omega) (by omega)
    rw [e2]; exact ⟨_, _, _, _, rfl⟩
  · rw [if_neg h]
    obtain ⟨x, y, a', sd', e2⟩ := hj true a sd (by omega) (by omega)
    rw [e2]; exact ⟨_, _, _, _, rfl⟩
theorem isSteps_eq (n : Int) : impl_isSteps.f n = some (inR n 0 1000000) := by
  unfold impl_isSteps.f; rw [within_eq]; rfl
/-- From some number of rounds on. -/
def Ev {α : Type} (f : Nat → Option α) (r : α) : Prop := ∃ K, ∀ k, K ≤ k → f k = some r
theorem Ev.succ {α : Type} {f g : Nat → Option α} {r : α} (h : Ev g r) (e : ∀ k, f (k + 1) = g k) : Ev f r := by
  obtain ⟨K, h⟩ := h
  refine ⟨K + 1, fun k hk => ?_⟩
  obtain ⟨k, rfl⟩ : ∃ m, k = m + 1 := ⟨k - 1, by omega⟩
  rw [e]; exact h k (by omega)
theorem Ev.succ2 {α : Type} {f g : Nat → Option α} {r : α} (h : Ev g r) (e : ∀ k, f (k + 1 + 1) = g k) : Ev f r := by
  obtain ⟨K, h⟩ := h
  refine ⟨K + 2, fun k hk => ?_⟩
  obtain ⟨k, rfl⟩ : ∃ m, k = m + 1 + 1 := ⟨k - 2, by omega⟩
  rw [e]; exact h k (by omega)
theorem Ev.one {α : Type} {f : Nat → Option α} {r : α} (e : ∀ k, f (k + 1) = some r) : Ev f r :=
  ⟨1, fun k hk => by obtain ⟨k, rfl⟩ : ∃ m, k = m + 1 := ⟨k - 1, by omega⟩; exact e k⟩
theorem Ev.two {α : Type} {f : Nat → Option α} {r : α} (e : ∀ k, f (k + 1 + 1) = some r) : Ev f r :=
  ⟨2, fun k hk => by obtain ⟨k, rfl⟩ : ∃ m, k = m + 1 + 1 := ⟨k - 2, by omega⟩; exact e k⟩
theorem Ev.congr {α : Type} {f g : Nat → Option α} {r : α} (h : Ev g r) (K : Nat) (e : ∀ k, K ≤ k → f k = g k) : Ev f r := by
  obtain ⟨L, h⟩ := h
  exact ⟨K + L, fun k hk => by rw [e k (by omega)]; exact h k (by omega)⟩
theorem Ev.lift {α : Type} {f : Nat → Option α} {r : α} (h : Ev f r) : ∃ K, ∀ k, K ≤ k → f k = some r := h
theorem Ev.succK {α : Type} {f g : Nat → Option α} {r : α} (h : Ev g r) (L : Nat) (e : ∀ k, L ≤ k → f (k + 1) = g k) : Ev f r := by
  obtain ⟨K, h⟩ := h
  refine ⟨K + L + 1, fun k hk => ?_⟩
  obtain ⟨k, rfl⟩ : ∃ m, k = m + 1 := ⟨k - 1, by omega⟩
  rw [e k (by omega)]; exact h k (by omega)
/-- The tooth of a wheel behind so many steps. -/
def toothOf (l : List Int) (a i : Int) : Int := if Int.tmod i 2 = 1 then Int.tmod (rd l i - Int.tmod a (rd l i)) (rd l i) else Int.tmod a (rd l i)
theorem rd_app {l : List Int} {x i : Int} (h0 : 0 ≤ i) (h : i < l.length) : rd (l ++ [x]) i = rd l i := by
  simp [rd, List.getD_eq_getElem?_getD, List.getElem?_append_left (show i.toNat < l.length by omega)]
theorem rd_new {l : List Int} {x i : Int} (h : i = l.length) : rd (l ++ [x]) i = x := by
  subst h; simp [rd]
theorem rd_app_all {l : List Int} {x : Int} {P : Int → Int → Prop} {i : Int} (hi : (l.length : Int) = i) (h : ∀ j : Int, 0 ≤ j → j < i → P j (rd l j)) (hx : P i x) : ∀ j : Int, 0 ≤ j → j < i + 1 → P j (rd (l ++ [x]) j) := by
  intro j h0 hj
  rcases Int.lt_or_le j i with h1 | h1
  · rw [rd_app h0 (by omega)]; exact h j h0 h1
  · obtain rfl : j = i := by omega
    rw [rd_new hi.symm]; exact hx
theorem teeth_told (l : List Int) (a : Int) (hl : (l.length : Int) ≤ 6) (ha : 0 ≤ a) (hr : ∀ i : Int, 0 ≤ i → i < l.length → 1 ≤ rd l i ∧ rd l i ≤ 300) (d : Nat) : ∀ (o : List Int) (i : Int), 0 ≤ i → i + d = l.length → (o.length : Int) = i → (∀ j : Int, 0 ≤ j → j < i → rd o j = toothOf l a j) →
    ∃ r : List Int, r.length = l.length ∧ (∀ j : Int, 0 ≤ j → j < l.length → rd r j = toothOf l a j) ∧ ∀ k : Nat, d < k → spec_geTrained.l0 k a o l (l.length : Int) i = some r ∧ impl_TrainTeeth.l0 k a o l (l.length : Int) i = some (r, true) := by
  induction d with
  | zero =>
    intro o i h0 hi ho ht
    refine ⟨o, by omega, fun j hj0 hj => ht j hj0 (by omega), ?_⟩
    intro k hk
    obtain ⟨k, rfl⟩ : ∃ m, k = m + 1 := ⟨k - 1, by omega⟩
    rw [spec_geTrained.l0, impl_TrainTeeth.l0, if_neg (by omega), if_neg (by omega)]
    exact ⟨rfl, rfl⟩
  | succ d ih =>
    intro o i h0 hi ho ht
    have hr' := hr i h0 (by omega)
    have hm0 : 0 ≤ Int.tmod a (rd l i) := by rw [Int.tmod_eq_emod_of_nonneg ha]; exact Int.emod_nonneg _ (by omega)
    have hm1 : Int.tmod a (rd l i) < rd l i := Int.tmod_lt_of_pos _ (by omega)
    by_cases hq : Int.tmod i 2 = 1
    · obtain ⟨r, hrl, hrt, hrr⟩ := ih (o ++ [Int.tmod (rd l i - Int.tmod a (rd l i)) (rd l i)]) (i + 1) (by omega) (by omega) (by simp; omega)
        (rd_app_all (P := fun j x => x = toothOf l a j) ho ht (by unfold toothOf; rw [if_pos hq]))
      refine ⟨r, hrl, hrt, ?_⟩
      intro k hk
      obtain ⟨k, rfl⟩ : ∃ m, k = m + 1 := ⟨k - 1, by omega⟩
      have := hrr k (by omega)
      rw [spec_geTrained.l0, impl_TrainTeeth.l0, if_pos (by omega), if_pos h0, if_pos (by omega), if_neg (by omega), if_pos hq, if_pos (by omega), wrap_id (x := i + 1) (by omega) (by omega), wrap_id (x := rd l i - Int.tmod a (rd l i)) (by omega) (by omega), if_pos (by omega), if_pos h0, if_pos (by omega), if_neg (by omega), if_pos hq, if_pos (by omega)]
      exact this
    · obtain ⟨r, hrl, hrt, hrr⟩ := ih (o ++ [Int.tmod a (rd l i)]) (i + 1) (by omega) (by omega) (by simp; omega)
        (rd_app_all (P := fun j x => x = toothOf l a j) ho ht (by unfold toothOf; rw [if_neg hq]))
      refine ⟨r, hrl, hrt, ?_⟩
      intro k hk
      obtain ⟨k, rfl⟩ : ∃ m, k = m + 1 := ⟨k - 1, by omega⟩
      have := hrr k (by omega)
      rw [spec_geTrained.l0, impl_TrainTeeth.l0, if_pos (by omega), if_pos h0, if_pos (by omega), if_neg (by omega), if_neg hq, if_pos (by omega), wrap_id (x := i + 1) (by omega) (by omega), if_pos (by omega), if_pos h0, if_pos (by omega), if_neg (by omega), if_neg hq, if_pos (by omega)]
      exact this
/-- What both sides tell of a train's teeth. -/
theorem trainTeeth (l : List Int) (a : Int) (hl : (l.length : Int) ≤ 1048576) : ∃ r : List Int, (r.length : Int) ≤ 6 ∧ ((trainOk l && inR a 0 1000000) = true → r.length = l.length ∧ ∀ j : Int, 0 ≤ j → j < l.length → rd r j = toothOf l a j) ∧
    ∀ k, 1048600 ≤ k → spec_TrainTeeth.f k l a = some (r, trainOk l && inR a 0 1000000) ∧ impl_TrainTeeth.f k l a = some (r, trainOk l && inR a 0 1000000) := by
  by_cases h : trainOk l = true
  · have hb := trainOk_true h
    by_cases hq : inR a 0 1000000 = true
    · have ha := inR_true.1 hq
      obtain ⟨r, hrl, hrt, hrr⟩ := teeth_told l a (by omega) (by omega) hb.2.2 l.length [] 0 (by omega) (by omega) (by simp) (fun j h0 h1 => by omega)
      refine ⟨r, by omega, fun _ => ⟨hrl, hrt⟩, ?_⟩
      intro k hk
      obtain ⟨k, rfl⟩ : ∃ m, k = m + 1 := ⟨k - 1, by omega⟩
      rw [h, hq]
      constructor
      · unfold spec_TrainTeeth.f spec_geTrained.f
        rw [geTrain_eq (by omega) (by omega), h]
        simp only [Option.bind_some, if_true]
        rw [l1In_eq, hq]
        simp only [Option.bind_some, if_true]
        rw [(hrr _ (by omega)).1]
        rfl
      · unfold impl_TrainTeeth.f
        rw [isTrain_eq, h]
        simp only [Option.bind_some, if_true]
        rw [isSteps_eq, hq]
        simp only [Option.bind_some, Bool.not_true]
        rw [impl_TrainTeeth.j0, if_neg (by decide), (hrr k (by omega)).2]
        rfl
    · simp only [Bool.not_eq_true] at hq
      refine ⟨[], by simp, fun h' => by rw [hq] at h'; simp at h', ?_⟩
      intro k hk
      obtain ⟨k, rfl⟩ : ∃ m, k = m + 1 := ⟨k - 1, by omega⟩
      rw [h, hq]
      constructor
      · unfold spec_TrainTeeth.f
        rw [geTrain_eq (by omega) (by omega), h]
        simp only [Option.bind_some, if_true]
        rw [l1In_eq, hq]
        rfl
      · unfold impl_TrainTeeth.f
        rw [isTrain_eq, h]
        simp only [Option.bind_some, if_true]
        rw [isSteps_eq, hq]
        simp only [Option.bind_some, Bool.not_false]
        rw [impl_TrainTeeth.j0, if_pos rfl]
        rfl
  · simp only [Bool.not_eq_true] at h
    refine ⟨[], by simp, fun h' => by rw [h] at h'; simp at h', ?_⟩
    intro k hk
    obtain ⟨k, rfl⟩ : ∃ m, k = m + 1 := ⟨k - 1, by omega⟩
    rw [h]
    constructor
    · unfold spec_TrainTeeth.f
      rw [geTrain_eq (by omega) (by omega), h]
      rfl
    · unfold impl_TrainTeeth.f
      rw [isTrain_eq, h]
      simp only [Option.bind_some, Bool.false_eq_true, if_false]
      rw [impl_TrainTeeth.j0, if_pos rfl]
      rfl
theorem up {α : Type} {f : Nat → Option α} (hm : ∀ k, LeO (f k) (f (k + 1))) {k0 : Nat} {r : α} (h : f k0 = some r) : ∀ k, k0 ≤ k → f k = some r := by
  intro k hk
  obtain ⟨d, rfl⟩ : ∃ d, k = k0 + d := ⟨k - k0, by omega⟩
  clear hk
  induction d with
  | zero => exact h
  | succ d ih => exact hm (k0 + d) _ ih
theorem per_step {x t : Int} (hx : 1 ≤ x) (hx2 : x ≤ 10000000000000) (ht : 1 ≤ t) (ht2 : t ≤ 300) : gcdGo x t ≠ 0 ∧ ∃ y, x ≤ y ∧ y ≤ x * 300 ∧ wrap64 (wrap64 (Int.tdiv x (gcdGo x t)) * t) = y := by
  have hg := gcdGo_bd (a := x) (b := t) (by omega) (by omega)
  refine ⟨by omega, x / gcdGo x t * t, ?_, ?_, ?_⟩
  · have hp : ∃ p, x = gcdGo x t * p := by
      rw [gcdGo_of (by omega) (by omega)]
      obtain ⟨p, hp⟩ := Nat.gcd_dvd_left x.toNat t.toNat
      exact ⟨p, by rw [← Int.natCast_mul, ← hp]; omega⟩
    have hq : ∃ p, t = gcdGo x t * p := by
      rw [gcdGo_of (by omega) (by omega)]
      obtain ⟨p, hp⟩ := Nat.gcd_dvd_right x.toNat t.toNat
      exact ⟨p, by rw [← Int.natCast_mul, ← hp]; omega⟩
    obtain ⟨p, hp⟩ := hp
    obtain ⟨q, hq⟩ := hq
    generalize gcdGo x t = g at *
    have e : x / g = p := by rw [hp]; exact Int.mul_ediv_cancel_left _ (by omega)
    have hp0 : 0 ≤ p := by rw [← e]; exact Int.ediv_nonneg (by omega) (by omega)
    have hgt : g ≤ t := by
      have : 0 < q := by
        rcases Int.lt_or_le 0 q with h | h
        · exact h
        · have := Int.mul_le_mul_of_nonneg_left h (show 0 ≤ g by omega)
          omega
      have := Int.mul_le_mul_of_nonneg_left (show 1 ≤ q by omega) (show 0 ≤ g by omega)
      omega
    rw [e, hp]
    calc g * p = p * g := Int.mul_comm _ _
      _ ≤ p * t := Int.mul_le_mul_of_nonneg_left hgt hp0
  · have h1 : x / gcdGo x t ≤ x := Int.ediv_le_self _ (by omega)
    have h0 : 0 ≤ x / gcdGo x t := Int.ediv_nonneg (by omega) (by omega)
    exact Int.mul_le_mul h1 ht2 (by omega) (by omega)
  · have h1 : x / gcdGo x t ≤ x := Int.ediv_le_self _ (by omega)
    have h0 : 0 ≤ x / gcdGo x t := Int.ediv_nonneg (by omega) (by omega)
    have h2 : x / gcdGo x t * t ≤ x * 300 := Int.mul_le_mul h1 ht2 (by omega) (by omega)
    have h3 : 0 ≤ x / gcdGo x t * t := Int.mul_nonneg h0 (by omega)
    rw [Int.tdiv_eq_ediv_of_nonneg (by omega), show wrap64 (x / gcdGo x t) = x / gcdGo x t from wrap_id (by omega) (by omega), wrap_id (by omega) (by omega)]
theorem per_far (l : List Int) (hl : (l.length : Int) ≤ 6) (hr : ∀ i : Int, 0 ≤ i → i < l.length → 1 ≤ rd l i ∧ rd l i ≤ 300) (d : Nat) : ∀ (k : Nat) (x i : Int), 0 ≤ i → i + d = l.length → d < k → 1000000000000 < x → x * 300 ^ d ≤ 729000000000000 → impl_TrainPeriod.l0 k x l (l.length : Int) i = some (0, false) := by
  induction d with
  | zero =>
    intro k x i h0 hi hk hx hb
    obtain ⟨k, rfl⟩ : ∃ m, k = m + 1 := ⟨k - 1, by omega⟩
    rw [impl_TrainPeriod.l0, if_neg (by omega), if_pos (by omega)]
  | succ d ih =>
    intro k x i h0 hi hk hx hb
    obtain ⟨k, rfl⟩ : ∃ m, k = m + 1 := ⟨k - 1, by omega⟩
    have hr' := hr i h0 (by omega)
    have hp : (1 : Int) ≤ 300 ^ d := Int.pow_pos (by omega)
    have e : x * 300 ^ (d + 1) = x * 300 * 300 ^ d := by rw [Int.pow_succ]; grind
    have h3 : x * 300 * 1 ≤ x * 300 * 300 ^ d := Int.mul_le_mul_of_nonneg_left hp (by omega)
    obtain ⟨hg, y, h1, h2, h4⟩ := per_step (x := x) (t := rd l i) (by omega) (by omega) hr'.1 hr'.2
    rw [impl_TrainPeriod.l0, if_pos (by omega), if_pos h0, if_pos (by omega)]
    unfold impl_divisor.f
    simp only [Option.bind_some]
    rw [if_neg hg, h4, wrap_id (by omega) (by omega)]
    refine ih k y (i + 1) (by omega) (by omega) (by omega) (by omega) ?_
    have := Int.mul_le_mul_of_nonneg_right h2 (show (0 : Int) ≤ 300 ^ d by omega)
    omega
theorem per_mult {x t : Int} (hx : 1 ≤ x) (ht : 1 ≤ t) : x ∣ (x / gcdGo x t * t) := by
  have hp : ∃ p, x = gcdGo x t * p := by
    rw [gcdGo_of (by omega) (by omega)]
    obtain ⟨p, hp⟩ := Nat.gcd_dvd_left x.toNat t.toNat
    exact ⟨p, by rw [← Int.natCast_mul, ← hp]; omega⟩
  have hq : ∃ p, t = gcdGo x t * p := by
    rw [gcdGo_of (by omega) (by omega)]
    obtain ⟨p, hp⟩ := Nat.gcd_dvd_right x.toNat t.toNat
    exact ⟨p, by rw [← Int.natCast_mul, ← hp]; omega⟩
  have hg := gcdGo_bd (a := x) (b := t) (by omega) (by omega)
  obtain ⟨p, hp⟩ := hp
  obtain ⟨q, hq⟩ := hq
  generalize gcdGo x t = g at *
  have e : x / g = p := by rw [hp]; exact Int.mul_ediv_cancel_left _ (by omega)
  rw [e, hq, hp]
  exact ⟨q, by grind⟩
theorem per_step2 {x t : Int} (hx : 1 ≤ x) (hx2 : x ≤ 10000000000000) (ht : 1 ≤ t) (ht2 : t ≤ 300) : gcdGo x t ≠ 0 ∧ ∃ y, x ≤ y ∧ y ≤ x * 300 ∧ wrap64 (wrap64 (Int.tdiv x (gcdGo x t)) * t) = y ∧ x ∣ y ∧ t ∣ y := by
  obtain ⟨h0, y, h1, h2, h3⟩ := per_step hx hx2 ht ht2
  have hg := gcdGo_bd (a := x) (b := t) (by omega) (by omega)
  have a1 : x / gcdGo x t ≤ x := Int.ediv_le_self _ (by omega)
  have a0 : 0 ≤ x / gcdGo x t := Int.ediv_nonneg (by omega) (by omega)
  have a2 : x / gcdGo x t * t ≤ x * 300 := Int.mul_le_mul a1 ht2 (by omega) (by omega)
  have a3 : 0 ≤ x / gcdGo x t * t := Int.mul_nonneg a0 (by omega)
  have e : y = x / gcdGo x t * t := by
    rw [← h3, Int.tdiv_eq_ediv_of_nonneg (by omega), show wrap64 (x / gcdGo x t) = x / gcdGo x t from wrap_id (by omega) (by omega), wrap_id (by omega) (by omega)]
  refine ⟨h0, y, h1, h2, h3, ?_, ?_⟩
  · rw [e]; exact per_mult hx ht
  · rw [e]; exact Int.dvd_mul_left _ _
theorem per_both2 (l : List Int) (hl : (l.length : Int) ≤ 6) (hr : ∀ i : Int, 0 ≤ i → i < l.length → 1 ≤ rd l i ∧ rd l i ≤ 300) (d : Nat) : ∀ (x i : Int), 0 ≤ i → i + d = l.length → 1 ≤ x → x ≤ 1000000000000 → x * 300 ^ d ≤ 729000000000000 → (∀ j : Int, 0 ≤ j → j < i → rd l j ∣ x) →
    ∃ r : Int × Bool, (r.2 = true → 1 ≤ r.1 ∧ r.1 ≤ 1000000000000 ∧ ∀ j : Int, 0 ≤ j → j < l.length → rd l j ∣ r.1) ∧ (r.2 = false → r.1 = 0) ∧ ∀ k : Nat, d < k → spec_gePeriod.l0 k x l (l.length : Int) i = some r ∧ impl_TrainPeriod.l0 k x l (l.length : Int) i = some r := by
  induction d with
  | zero =>
    intro x i h0 hi hx hx2 hb hd
    refine ⟨(x, true), fun _ => ⟨hx, hx2, fun j h1 h2 => hd j h1 (by omega)⟩, fun h => by simp at h, ?_⟩
    intro k hk
    obtain ⟨k, rfl⟩ : ∃ m, k = m + 1 := ⟨k - 1, by omega⟩
    rw [spec_gePeriod.l0, impl_TrainPeriod.l0, if_neg (by omega), if_neg (by omega), if_neg (by omega)]
    exact ⟨rfl, rfl⟩
  | succ d ih =>
    intro x i h0 hi hx hx2 hb hd
    have hr' := hr i h0 (by omega)
    have hp : (1 : Int) ≤ 300 ^ d := Int.pow_pos (by omega)
    have e : x * 300 ^ (d + 1) = x * 300 * 300 ^ d := by rw [Int.pow_succ]; grind
    obtain ⟨hg, y, h1, h2, h4, hxy, hty⟩ := per_step2 (x := x) (t := rd l i) (by omega) (by omega) hr'.1 hr'.2
    have h5 := Int.mul_le_mul_of_nonneg_right h2 (show (0 : Int) ≤ 300 ^ d by omega)
    by_cases hy : y > 1000000000000
    · refine ⟨(0, false), fun h => by simp at h, fun _ => rfl, ?_⟩
      intro k hk
      obtain ⟨k, rfl⟩ : ∃ m, k = m + 1 := ⟨k - 1, by omega⟩
      rw [spec_gePeriod.l0, impl_TrainPeriod.l0, if_pos (by omega), if_pos h0, if_pos (by omega)]
      unfold impl_divisor.f spec_srCommon.f
      simp only [Option.bind_some]
      rw [if_neg hg, h4, wrap_id (by omega) (by omega), if_pos hy]
      refine ⟨rfl, ?_⟩
      rw [if_pos (by omega), if_pos h0, if_pos (by omega), if_neg hg]
      exact per_far l hl hr d k y (i + 1) (by omega) (by omega) (by omega) hy (by omega)
    · obtain ⟨r, hr1, hr2, hrr⟩ := ih y (i + 1) (by omega) (by omega) (by omega) (by omega) (by omega) (by
        intro j hj0 hj
        rcases Int.lt_or_le j i with h | h
        · exact Int.dvd_trans (hd j hj0 h) hxy
        · obtain rfl : j = i := by omega
          exact hty)
      refine ⟨r, hr1, hr2, ?_⟩
      intro k hk
      obtain ⟨k, rfl⟩ : ∃ m, k = m + 1 := ⟨k - 1, by omega⟩
      rw [spec_gePeriod.l0, impl_TrainPeriod.l0, if_pos (by omega), if_pos h0, if_pos (by omega)]
      unfold impl_divisor.f spec_srCommon.f
      simp only [Option.bind_some]
      rw [if_neg hg, h4, wrap_id (by omega) (by omega), if_neg hy, if_pos (by omega), if_pos h0, if_pos (by omega), if_neg hg]
      exact hrr k (by omega)
theorem period2 (l : List Int) (hl : (l.length : Int) ≤ 1048576) : ∃ r : Int × Bool, (r.2 = true → trainOk l = true ∧ 1 ≤ r.1 ∧ r.1 ≤ 1000000000000 ∧ ∀ j : Int, 0 ≤ j → j < l.length → rd l j ∣ r.1) ∧ ∀ k : Nat, 1048577 < k → spec_TrainPeriod.f k l = some r ∧ impl_TrainPeriod.f k l = some r ∧
    spec_LeastTurns.f k l = some (if r.2 = true then (wrap64 (Int.tdiv r.1 (rd l 0)), true) else (0, false)) ∧ impl_LeastTurns.f k l = some (if r.2 = true then (wrap64 (Int.tdiv r.1 (rd l 0)), true) else (0, false)) := by
  by_cases h : trainOk l = true
  · have hb := trainOk_true h
    have hd : (1 : Int) * 300 ^ l.length ≤ 729000000000000 := by
      have h3 : l.length = 2 ∨ l.length = 3 ∨ l.length = 4 ∨ l.length = 5 ∨ l.length = 6 := by omega
      rcases h3 with e | e | e | e | e <;> rw [e] <;> decide
    obtain ⟨r, hr1, hr2, hr⟩ := per_both2 l (by omega) hb.2.2 l.length 1 0 (by omega) (by omega) (by omega) (by omega) hd (fun j h0 h1 => by omega)
    have h0 := hb.2.2 0 (by omega) (by omega)
    refine ⟨r, fun h1 => ⟨h, hr1 h1⟩, ?_⟩
    intro k hk
    have hk' := hr k (by omega)
    have hi : impl_TrainPeriod.f k l = some r := by
      unfold impl_TrainPeriod.f
      rw [isTrain_eq, h]
      exact hk'.2
    refine ⟨?_, hi, ?_, ?_⟩
    · unfold spec_TrainPeriod.f spec_gePeriod.f
      rw [geTrain_eq (by omega) hk, h]
      simp only [Option.bind_some, if_true]
      rw [hk'.1]; rfl
    · unfold spec_LeastTurns.f spec_gePeriod.f
      rw [geTrain_eq (by omega) hk, h]
      simp only [Option.bind_some, if_true]
      rw [hk'.1]
      simp only [Option.bind_some]
      rw [if_pos (show (0 : Int) < l.length by omega), if_neg (show ¬ rd l 0 = 0 by omega)]
      split <;> rfl
    · unfold impl_LeastTurns.f
      rw [hi]
      simp only [Option.bind_some]
      rw [if_pos (show (0 : Int) < l.length by omega), if_neg (show ¬ rd l 0 = 0 by omega)]
      split <;> rfl
  · simp only [Bool.not_eq_true] at h
    refine ⟨(0, false), fun h1 => by simp at h1, ?_⟩
    intro k hk
    refine ⟨?_, ?_, ?_, ?_⟩
    · unfold spec_TrainPeriod.f; rw [geTrain_eq (by omega) hk, h]; rfl
    · unfold impl_TrainPeriod.f; rw [isTrain_eq, h]; rfl
    · unfold spec_LeastTurns.f; rw [geTrain_eq (by omega) hk, h]; rfl
    · unfold impl_LeastTurns.f impl_TrainPeriod.f; rw [isTrain_eq, h]; rfl
/-- The sign of a wheel. -/
def sn (i : Int) : Int := if Int.tmod i 2 = 1 then -1 else 1
theorem sn_next {i : Int} (h : 0 ≤ i) : wrap64 (-(sn i)) = sn (i + 1) := by
  unfold sn
  rw [Int.tmod_eq_emod_of_nonneg h, Int.tmod_eq_emod_of_nonneg (by omega)]
  by_cases h1 : i % 2 = 1
  · rw [if_pos h1, if_neg (by omega)]; exact wrap_id (by omega) (by omega)
  · rw [if_neg h1, if_pos (by omega)]; exact wrap_id (by omega) (by omega)
theorem l1Abs_eq {x : Int} (h : -1000000 ≤ x) (h2 : x ≤ 1000000) : spec_l1Abs.f x = some (x.natAbs : Int) := by
  unfold spec_l1Abs.f spec_l1Most.f
  rw [wrap_id (by omega) (by omega)]
  by_cases h : x > -x
  · rw [if_pos h]; simp only [Option.bind_some]; congr 1; omega
  · rw [if_neg h]; simp only [Option.bind_some]; congr 1; omega
theorem gcdP {a b : Int} (ha : 0 ≤ a) (hb : 0 < b) : 1 ≤ gcdGo a b ∧ gcdGo a b ≤ b ∧ (∃ p, a = gcdGo a b * p) ∧ ∃ q, b = gcdGo a b * q := by
  rw [gcdGo_of ha (by omega)]
  have h1 : 0 < Nat.gcd a.toNat b.toNat := Nat.gcd_pos_of_pos_right _ (by omega)
  have h2 : Nat.gcd a.toNat b.toNat ≤ b.toNat := Nat.le_of_dvd (by omega) (Nat.gcd_dvd_right _ _)
  refine ⟨by omega, by omega, ?_, ?_⟩
  · obtain ⟨p, hp⟩ := Nat.gcd_dvd_left a.toNat b.toNat
    exact ⟨p, by rw [← Int.natCast_mul, ← hp]; omega⟩
  · obtain ⟨p, hp⟩ := Nat.gcd_dvd_right a.toNat b.toNat
    exact ⟨p, by rw [← Int.natCast_mul, ← hp]; omega⟩
/-- What is told of turns: so many, of so many. -/
def turnOk (l : List Int) (M : Int) (j x y : Int) : Prop := 1 ≤ y ∧ y ≤ 300 ∧ -300000 ≤ x ∧ x ≤ 300000 ∧ x * rd l j = sn j * M * y
theorem turn_step {l : List Int} {M j : Int} (hM : -300000 ≤ M ∧ M ≤ 300000) (hr : 1 ≤ rd l j ∧ rd l j ≤ 300) : 1 ≤ gcdGo (M.natAbs : Int) (rd l j) ∧ turnOk l M j (wrap64 (Int.tdiv (sn j * M) (gcdGo (M.natAbs : Int) (rd l j)))) (wrap64 (Int.tdiv (rd l j) (gcdGo (M.natAbs : Int) (rd l j)))) := by
  obtain ⟨h1, h2, ⟨p, hp⟩, q, hq⟩ := gcdP (a := (M.natAbs : Int)) (b := rd l j) (by omega) (by omega)
  refine ⟨h1, ?_⟩
  generalize gcdGo (M.natAbs : Int) (rd l j) = g at *
  have hq1 : 1 ≤ q := by
    rcases Int.lt_or_le q 1 with h | h
    · have : g * q ≤ g * 0 := Int.mul_le_mul_of_nonneg_left (by omega) (by omega)
      omega
    · exact h
  have hq2 : q ≤ 300 := by
    have : 1 * q ≤ g * q := Int.mul_le_mul_of_nonneg_right (by omega) (by omega)
    omega
  have hp0 : 0 ≤ p := by
    rcases Int.lt_or_le p 0 with h | h
    · have : g * p ≤ g * (-1) := Int.mul_le_mul_of_nonneg_left (by omega) (by omega)
      omega
    · exact h
  have hp2 : p ≤ 300000 := by
    have : 1 * p ≤ g * p := Int.mul_le_mul_of_nonneg_right (by omega) (by omega)
    omega
  have hsn : sn j = 1 ∨ sn j = -1 := by unfold sn; split <;> omega
  have ed : Int.tdiv (rd l j) g = q := by rw [hq]; exact Int.mul_tdiv_cancel_left _ (by omega)
  have hMs : ∃ s, sn j * M = g * s ∧ -300000 ≤ s ∧ s ≤ 300000 := by
    rcases hsn with e | e <;> rw [e]
    · rcases Int.natAbs_eq M with h | h
      · exact ⟨p, by rw [← hp]; omega, by omega, by omega⟩
      · exact ⟨-p, by rw [Int.mul_neg, ← hp]; omega, by omega, by omega⟩
    · rcases Int.natAbs_eq M with h | h
      · exact ⟨-p, by rw [Int.mul_neg, ← hp]; omega, by omega, by omega⟩
      · exact ⟨p, by rw [← hp]; omega, by omega, by omega⟩
  obtain ⟨s, hs, hs1, hs2⟩ := hMs
  have en : Int.tdiv (sn j * M) g = s := by rw [hs]; exact Int.mul_tdiv_cancel_left _ (by omega)
  rw [ed, en, wrap_id (x := q) (by omega) (by omega), wrap_id (x := s) (by omega) (by omega)]
  refine ⟨hq1, hq2, hs1, hs2, ?_⟩
  rw [hs, hq]; grind
theorem rd_app_all2 {o p l : List Int} {x y M i : Int} (hi : (o.length : Int) = i) (hi2 : (p.length : Int) = i) (h : ∀ j : Int, 0 ≤ j → j < i → turnOk l M j (rd o j) (rd p j)) (hx : turnOk l M i x y) : ∀ j : Int, 0 ≤ j → j < i + 1 → turnOk l M j (rd (o ++ [x]) j) (rd (p ++ [y]) j) := by
  intro j h0 hj
  rcases Int.lt_or_le j i with h1 | h1
  · rw [rd_app h0 (by omega), rd_app h0 (by omega)]; exact h j h0 h1
  · obtain rfl : j = i := by omega
    rw [rd_new hi.symm, rd_new hi2.symm]; exact hx
theorem turns_told (l : List Int) (a M : Int) (hl : (l.length : Int) ≤ 6) (hl0 : 0 < (l.length : Int)) (hMe : a * rd l 0 = M) (hM : -300000 ≤ M ∧ M ≤ 300000) (hr : ∀ i : Int, 0 ≤ i → i < l.length → 1 ≤ rd l i ∧ rd l i ≤ 300) (d : Nat) : ∀ (o p : List Int) (i : Int), 0 ≤ i → i + d = l.length → (o.length : Int) = i → (p.length : Int) = i → (∀ j : Int, 0 ≤ j → j < i → turnOk l M j (rd o j) (rd p j)) →
    ∃ o' p' : List Int, o'.length = l.length ∧ p'.length = l.length ∧ (∀ j : Int, 0 ≤ j → j < l.length → turnOk l M j (rd o' j) (rd p' j)) ∧ ∀ k : Nat, d < k → spec_TrainTurns.l0 k l a o p (sn i) l (l.length : Int) i = some (o', p', true) ∧ impl_TrainTurns.l0 k l a o p l (l.length : Int) i = some (o', p', true) := by
  induction d with
  | zero =>
    intro o p i h0 hi ho hp ht
    refine ⟨o, p, by omega, by omega, fun j h1 h2 => ht j h1 (by omega), ?_⟩
    intro k hk
    obtain ⟨k, rfl⟩ : ∃ m, k = m + 1 := ⟨k - 1, by omega⟩
    rw [spec_TrainTurns.l0, impl_TrainTurns.l0, if_neg (by omega), if_neg (by omega)]
    exact ⟨rfl, rfl⟩
  | succ d ih =>
    intro o p i h0 hi ho hp ht
    have hr' := hr i h0 (by omega)
    obtain ⟨hG, hT⟩ := turn_step (l := l) (j := i) hM hr'
    obtain ⟨o', p', hr1, hr2, hr3, hrr⟩ := ih (o ++ [wrap64 (Int.tdiv (sn i * M) (gcdGo (M.natAbs : Int) (rd l i)))]) (p ++ [wrap64 (Int.tdiv (rd l i) (gcdGo (M.natAbs : Int) (rd l i)))]) (i + 1) (by omega) (by omega) (by simp; omega) (by simp; omega) (rd_app_all2 ho hp ht hT)
    refine ⟨o', p', hr1, hr2, hr3, ?_⟩
    intro k hk
    obtain ⟨k, rfl⟩ : ∃ m, k = m + 1 := ⟨k - 1, by omega⟩
    have hsn : sn i = 1 ∨ sn i = -1 := by unfold sn; split <;> omega
    have hs1 : wrap64 (sn i * M) = sn i * M := by
      rcases hsn with e | e <;> rw [e] <;> refine wrap_id ?_ ?_ <;> omega
    obtain ⟨g1, g2⟩ := hrr k (by omega)
    constructor
    · rw [spec_TrainTurns.l0, if_pos (by omega), if_pos h0, if_pos (by omega), if_pos hl0, hMe, wrap_id (x := M) (by omega) (by omega), l1Abs_eq (by omega) (by omega)]
      unfold spec_srCommon.f
      simp only [Option.bind_some]
      rw [if_neg (by omega), if_pos (by omega), if_pos (by omega), hs1, sn_next h0, wrap_id (x := i + 1) (by omega) (by omega)]
      exact g1
    · rw [impl_TrainTurns.l0, if_pos (by omega), if_pos h0, if_pos (by omega), if_pos hl0, hMe, wrap_id (x := M) (by omega) (by omega), wrap_id (x := -M) (by omega) (by omega), wrap_id (x := - -M) (by omega) (by omega)]
      unfold impl_divisor.f
      simp only [Option.bind_some]
      have e1 : mx (-M) (- -M) = (M.natAbs : Int) := by unfold mx; split <;> omega
      have e2 : mx M (-M) = (M.natAbs : Int) := by unfold mx; split <;> omega
      rw [e1, e2, wrap_id (x := i + 1) (by omega) (by omega)]
      by_cases hq : Int.tmod i 2 = 1
      · rw [if_pos hq, if_neg (by omega), if_pos (by omega), if_pos (by omega)]
        have : sn i * M = -M := by unfold sn; rw [if_pos hq]; omega
        rw [this] at g2
        exact g2
      · rw [if_neg hq, if_neg (by omega), if_pos (by omega), if_pos (by omega)]
        have : sn i * M = M := by unfold sn; rw [if_neg hq]; omega
        rw [this] at g2
        exact g2
theorem trainTurns (l : List Int) (a : Int) (hl : (l.length : Int) ≤ 1048576) : ∃ o p : List Int, (o.length : Int) ≤ 6 ∧ (p.length : Int) ≤ 6 ∧ ((trainOk l && inR a (-1000) 1000) = true → o.length = l.length ∧ p.length = l.length ∧ ∀ j : Int, 0 ≤ j → j < l.length → turnOk l (a * rd l 0) j (rd o j) (rd p j)) ∧
    ∀ k, 1048600 ≤ k → spec_TrainTurns.f k l a = some (o, p, trainOk l && inR a (-1000) 1000) ∧ impl_TrainTurns.f k l a = some (o, p, trainOk l && inR a (-1000) 1000) := by
  have es : ∀ k, 1048577 ≤ k → spec_TrainTurns.f (k + 1) l a = spec_TrainTurns.j0 (k + 1) l a (!(trainOk l && inR a (-1000) 1000)) := by
    intro k hk
    unfold spec_TrainTurns.f
    rw [geTrain_eq (by omega) (by omega), l1In_eq]
    simp only [Option.bind_some]
    by_cases h : trainOk l = true
    · rw [if_pos h, h]; rfl
    · rw [if_neg h]; simp only [Bool.not_eq_true] at h; rw [h]; rfl
  have ei : ∀ k, impl_TrainTurns.f (k + 1) l a = impl_TrainTurns.j0 (k + 1) l a (!(trainOk l && inR a (-1000) 1000)) := by
    intro k
    unfold impl_TrainTurns.f
    rw [isTrain_eq, within_eq]
    simp only [Option.bind_some]
    by_cases h : trainOk l = true
    · rw [if_pos h, h]; rfl
    · rw [if_neg h]; simp only [Bool.not_eq_true] at h; rw [h]; rfl
  by_cases hq : (trainOk l && inR a (-1000) 1000) = true
  · have hq' := hq
    simp only [Bool.and_eq_true, inR_true] at hq'
    have hb := trainOk_true hq'.1
    have hr0 := hb.2.2 0 (by omega) (by omega)
    have hM : -300000 ≤ a * rd l 0 ∧ a * rd l 0 ≤ 300000 := by
      have h1 : a * rd l 0 ≤ 1000 * rd l 0 := Int.mul_le_mul_of_nonneg_right hq'.2.2 (by omega)
      have h2 : -1000 * rd l 0 ≤ a * rd l 0 := Int.mul_le_mul_of_nonneg_right hq'.2.1 (by omega)
      omega
    obtain ⟨o, p, hr1, hr2, hr3, hrr⟩ := turns_told l a (a * rd l 0) (by omega) (by omega) rfl hM hb.2.2 l.length [] [] 0 (by omega) (by omega) (by simp) (by simp) (fun j h0 h1 => by omega)
    refine ⟨o, p, by omega, by omega, fun _ => ⟨hr1, hr2, hr3⟩, ?_⟩
    intro k hk
    obtain ⟨k, rfl⟩ : ∃ m, k = m + 1 := ⟨k - 1, by omega⟩
    rw [es k (by omega), ei k, hq, Bool.not_true, spec_TrainTurns.j0, impl_TrainTurns.j0, if_neg (by decide), if_neg (by decide)]
    exact hrr k (by omega)
  · simp only [Bool.not_eq_true] at hq
    refine ⟨[], [], by simp, by simp, fun h => by rw [hq] at h; simp at h, ?_⟩
    intro k hk
    obtain ⟨k, rfl⟩ : ∃ m, k = m + 1 := ⟨k - 1, by omega⟩
    rw [es k (by omega), ei k, hq, Bool.not_false, spec_TrainTurns.j0, impl_TrainTurns.j0, if_pos rfl, if_pos rfl]
    exact ⟨rfl, rfl⟩
/-- The steps that a tooth tells. -/
def sg (m : List Int) (i : Int) : Int := if Int.tmod i 2 = 1 then -(rd m i) else rd m i
theorem gear_l2 {l m s : List Int} (hlm : m.length = l.length) (hsm : s.length = l.length) (hl : (l.length : Int) ≤ 6) (hr : ∀ i : Int, 0 ≤ i → i < l.length → 1 ≤ rd l i ∧ rd l i ≤ 300)
    (ht : ∀ i : Int, 0 ≤ i → i < l.length → 0 ≤ rd m i ∧ rd m i ≤ 300) (hg : ∀ i : Int, 0 ≤ i → i < l.length → rd s i = sg m i) (i : Int) (hi0 : 0 ≤ i) (hi : i < l.length)
    (hc : ∃ r, Ev (fun k => spec_AreInGear.l1 k l m (l.length : Int) (i + 1)) r ∧ Ev (fun k => impl_AreInGear.l1 k l s (l.length : Int) (i + 1)) r) (d : Nat) : ∀ (j : Int), 0 ≤ j → j + d = i →
    ∃ r, Ev (fun k => spec_AreInGear.l2 k l m i (l.length : Int) i i j) r ∧ Ev (fun k => impl_AreInGear.l2 k l s i (l.length : Int) i i j) r := by
  induction d with
  | zero =>
    intro j hj hd
    obtain ⟨r, h1, h2⟩ := hc
    refine ⟨r, Ev.succ h1 ?_, Ev.succ h2 ?_⟩
    · intro k
      (try simp only)
      rw [spec_AreInGear.l2, if_neg (by omega), wrap_id (by omega) (by omega)]
    · intro k
      (try simp only)
      rw [impl_AreInGear.l2, if_neg (by omega), wrap_id (by omega) (by omega)]
  | succ d ih =>
    intro j hj hd
    have r1 := hr i hi0 (by omega)
    have r2 := hr j hj (by omega)
    have t1 := ht i hi0 (by omega)
    have t2 := ht j hj (by omega)
    have g1 := hg i hi0 (by omega)
    have g2 := hg j hj (by omega)
    have hgc := gcdGo_bd (a := rd l i) (b := rd l j) (by omega) (by omega)
    have b1 : -300 ≤ sg m i ∧ sg m i ≤ 300 := by unfold sg; split <;> omega
    have b2 : -300 ≤ sg m j ∧ sg m j ≤ 300 := by unfold sg; split <;> omega
    have es : ∀ k, spec_AreInGear.l2 (k + 1 + 1) l m i (l.length : Int) i i j = if Int.tmod (sg m i - sg m j) (gcdGo (rd l i) (rd l j)) = 0 then spec_AreInGear.l2 k l m i (l.length : Int) i i (j + 1) else some (false, true) := by
      intro k
      rw [spec_AreInGear.l2, if_pos (by omega), if_pos hi0, if_pos (by omega), if_pos hj, if_pos (by omega), spec_AreInGear.j4, spec_AreInGear.j4]
      unfold spec_srCommon.f sg
      simp only [Option.bind_some]
      rw [if_neg (show ¬ gcdGo (rd l i) (rd l j) = 0 by omega), wrap_id (x := j + 1) (by omega) (by omega), wrap_id (x := -(rd m i)) (by omega) (by omega), wrap_id (x := -(rd m j)) (by omega) (by omega)]
      by_cases h1 : Int.tmod i 2 = 1 <;> by_cases h2 : Int.tmod j 2 = 1 <;> simp only [h1, h2, if_true, if_false] <;> (rw [if_pos hi0, if_pos hi, if_pos hj, if_pos (by omega), wrap_id (by omega) (by omega)]) <;> (try rw [if_neg (show ¬ gcdGo (rd l i) (rd l j) = 0 by omega)])
    have ei : ∀ k, impl_AreInGear.l2 (k + 1) l s i (l.length : Int) i i j = if Int.tmod (sg m i - sg m j) (gcdGo (rd l i) (rd l j)) = 0 then impl_AreInGear.l2 k l s i (l.length : Int) i i (j + 1) else some (false, true) := by
      intro k
      rw [impl_AreInGear.l2, if_pos (by omega), if_pos hi0, if_pos (by omega), if_pos hj, if_pos (by omega), if_pos (by omega), if_pos (by omega)]
      unfold impl_divisor.f
      simp only [Option.bind_some]
      rw [if_neg (show ¬ gcdGo (rd l i) (rd l j) = 0 by omega), wrap_id (x := j + 1) (by omega) (by omega), g1, g2, wrap_id (by omega) (by omega)]
    by_cases hq : Int.tmod (sg m i - sg m j) (gcdGo (rd l i) (rd l j)) = 0
    · obtain ⟨r, h1, h2⟩ := ih (j + 1) (by omega) (by omega)
      refine ⟨r, Ev.succ2 h1 ?_, Ev.succ h2 ?_⟩
      · intro k; (try simp only); rw [es, if_pos hq]
      · intro k; (try simp only); rw [ei, if_pos hq]
    · refine ⟨(false, true), Ev.two ?_, Ev.one ?_⟩
      · intro k; (try simp only); rw [es, if_neg hq]
      · intro k; (try simp only); rw [ei, if_neg hq]
theorem gear_l1 {l m s : List Int} (hlm : m.length = l.length) (hsm : s.length = l.length) (hl : (l.length : Int) ≤ 6) (hr : ∀ i : Int, 0 ≤ i → i < l.length → 1 ≤ rd l i ∧ rd l i ≤ 300)
    (ht : ∀ i : Int, 0 ≤ i → i < l.length → 0 ≤ rd m i ∧ rd m i ≤ 300) (hg : ∀ i : Int, 0 ≤ i → i < l.length → rd s i = sg m i) (d : Nat) : ∀ (i : Int), 0 ≤ i → i + d = l.length →
    ∃ r, Ev (fun k => spec_AreInGear.l1 k l m (l.length : Int) i) r ∧ Ev (fun k => impl_AreInGear.l1 k l s (l.length : Int) i) r := by
  induction d with
  | zero =>
    intro i hi hd
    refine ⟨(true, true), Ev.one ?_, Ev.one ?_⟩
    · intro k; (try simp only); rw [spec_AreInGear.l1, if_neg (by omega)]
    · intro k; (try simp only); rw [impl_AreInGear.l1, if_neg (by omega)]
  | succ d ih =>
    intro i hi hd
    obtain ⟨r, h1, h2⟩ := gear_l2 hlm hsm hl hr ht hg i hi (by omega) (ih (i + 1) (by omega) (by omega)) i.toNat 0 (by omega) (by omega)
    refine ⟨r, Ev.succ h1 ?_, Ev.succ h2 ?_⟩
    · intro k; (try simp only)
      rw [spec_AreInGear.l1, if_pos (by omega), if_pos hi, if_pos (by omega), show ((l.take (i : Int).toNat).length : Int) = i by rw [List.length_take]; omega]
    · intro k; (try simp only)
      rw [impl_AreInGear.l1, if_pos (by omega)]
theorem gear_l0 {l m : List Int} (hlm : m.length = l.length) (hl : (l.length : Int) ≤ 6) (hr : ∀ i : Int, 0 ≤ i → i < l.length → 1 ≤ rd l i ∧ rd l i ≤ 300) (d : Nat) : ∀ (s : List Int) (i : Int), 0 ≤ i → i + d = l.length → (s.length : Int) = i →
    (∀ j : Int, 0 ≤ j → j < i → 0 ≤ rd m j ∧ rd m j ≤ 300) → (∀ j : Int, 0 ≤ j → j < i → rd s j = sg m j) →
    ∃ r, Ev (fun k => spec_AreInGear.l0 k l m m (l.length : Int) i) r ∧ Ev (fun k => impl_AreInGear.l0 k l s m (l.length : Int) i) r := by
  induction d with
  | zero =>
    intro s i hi hd hs ht hg
    obtain ⟨r, h1, h2⟩ := gear_l1 (s := s) hlm (by omega) hl hr (fun j h0 hj => ht j h0 (by omega)) (fun j h0 hj => hg j h0 (by omega)) l.length 0 (by omega) (by omega)
    refine ⟨r, Ev.succ h1 ?_, Ev.succ h2 ?_⟩
    · intro k; (try simp only); rw [spec_AreInGear.l0, if_neg (by omega)]
    · intro k; (try simp only); rw [impl_AreInGear.l0, if_neg (by omega)]
  | succ d ih =>
    intro s i hi hd hs ht hg
    have r1 := hr i hi (by omega)
    have ew : wrap64 (rd l i - 1) = rd l i - 1 := wrap_id (by omega) (by omega)
    by_cases hq : inR (rd m i) 0 (rd l i - 1) = true
    · have hb := inR_true.1 hq
      have eg : sg m i = if Int.tmod i 2 = 1 then -(rd m i) else rd m i := rfl
      obtain ⟨r, h1, h2⟩ := ih (s ++ [sg m i]) (i + 1) (by omega) (by omega) (by simp; omega) (by
        intro j h0 hj
        rcases Int.lt_or_le j i with h | h
        · exact ht j h0 h
        · obtain rfl : j = i := by omega
          omega) (by
        intro j h0 hj
        rcases Int.lt_or_le j i with h | h
        · rw [rd_app h0 (by omega)]; exact hg j h0 h
        · obtain rfl : j = i := by omega
          exact rd_new hs.symm)
      refine ⟨r, Ev.succ h1 ?_, Ev.succ h2 ?_⟩
      · intro k; (try simp only)
        rw [spec_AreInGear.l0, if_pos (by omega), if_pos hi, if_pos (by omega), if_pos (by omega), ew, l1In_eq, hq]
        simp only [Option.bind_some, if_true]
        rw [wrap_id (by omega) (by omega)]
      · intro k; (try simp only)
        rw [impl_AreInGear.l0, if_pos (by omega), if_pos hi, if_pos (by omega), if_pos (by omega), ew, within_eq, hq, eg]
        simp only [Option.bind_some, if_true]
        rw [wrap_id (x := i + 1) (by omega) (by omega), wrap_id (x := -(rd m i)) (by omega) (by omega), if_pos (show (s.length : Nat) < 17592186044416 by omega)]
        by_cases h1 : Int.tmod i 2 = 1
        · rw [if_pos h1, if_pos h1]
        · rw [if_neg h1, if_neg h1, if_pos (show (s.length : Nat) < 17592186044416 by omega)]
    · refine ⟨(false, false), Ev.one ?_, Ev.one ?_⟩
      · intro k; (try simp only)
        rw [spec_AreInGear.l0, if_pos (by omega), if_pos hi, if_pos (by omega), if_pos (by omega), ew, l1In_eq]
        simp only [Option.bind_some]
        rw [if_neg hq]
      · intro k; (try simp only)
        rw [impl_AreInGear.l0, if_pos (by omega), if_pos hi, if_pos (by omega), if_pos (by omega), ew, within_eq]
        simp only [Option.bind_some]
        rw [if_neg hq]
theorem inGear_both (l m : List Int) (hl : (l.length : Int) ≤ 1048576) (hm : (m.length : Int) ≤ 1048576) : ∃ r : Bool × Bool, ∃ K, ∀ k, K ≤ k → spec_AreInGear.f k l m = some r ∧ impl_AreInGear.f k l m = some r := by
  have es : ∀ k, 1048577 ≤ k → spec_AreInGear.f (k + 1) l m = spec_AreInGear.j0 (k + 1) l m (!(trainOk l && decide ((m.length : Int) = l.length))) := by
    intro k hk
    unfold spec_AreInGear.f
    rw [geTrain_eq (by omega) (by omega)]
    simp only [Option.bind_some]
    by_cases h : trainOk l = true
    · rw [if_pos h, h]
      by_cases e : (m.length : Int) = l.length
      · simp [e]
      · simp only [e, decide_false, Bool.and_false, Bool.not_false]; rw [show ((m.length : Int) != (l.length : Int)) = true by simpa using e]
    · rw [if_neg h]; simp only [Bool.not_eq_true] at h; rw [h]; rfl
  have ei : ∀ k, impl_AreInGear.f (k + 1) l m = impl_AreInGear.j0 (k + 1) l m (!(trainOk l && decide ((m.length : Int) = l.length))) := by
    intro k
    unfold impl_AreInGear.f
    rw [isTrain_eq]
    simp only [Option.bind_some]
    by_cases h : trainOk l = true
    · rw [if_pos h, h]
      by_cases e : (m.length : Int) = l.length
      · simp [e]
      · simp only [e, decide_false, Bool.and_false, Bool.not_false]; rw [show ((m.length : Int) != (l.length : Int)) = true by simpa using e]
    · rw [if_neg h]; simp only [Bool.not_eq_true] at h; rw [h]; rfl
  by_cases hq : (trainOk l && decide ((m.length : Int) = l.length)) = true
  · have hq' := hq
    simp only [Bool.and_eq_true, decide_eq_true_eq] at hq'
    have hb := trainOk_true hq'.1
    obtain ⟨r, ⟨K, h1⟩, ⟨L, h2⟩⟩ := gear_l0 (l := l) (m := m) (by omega) (by omega) hb.2.2 l.length [] 0 (by omega) (by omega) (by simp) (fun j h0 hj => by omega) (fun j h0 hj => by omega)
    (try simp only at h1 h2)
    refine ⟨r, 1048579 + K + L, ?_⟩
    intro k hk
    obtain ⟨k, rfl⟩ : ∃ m, k = m + 1 := ⟨k - 1, by omega⟩
    rw [es k (by omega), ei k, hq, Bool.not_true, spec_AreInGear.j0, impl_AreInGear.j0, if_neg (by decide), if_neg (by decide), hq'.2]
    exact ⟨h1 k (by omega), h2 k (by omega)⟩
  · simp only [Bool.not_eq_true] at hq
    refine ⟨(false, false), 1048578, ?_⟩
    intro k hk
    obtain ⟨k, rfl⟩ : ∃ m, k = m + 1 := ⟨k - 1, by omega⟩
    rw [es k (by omega), ei k, hq, Bool.not_false, spec_AreInGear.j0, impl_AreInGear.j0, if_pos rfl, if_pos rfl]
    exact ⟨rfl, rfl⟩
theorem geart_l2 {l m s : List Int} (hsm : s.length = l.length) (hl : (l.length : Int) ≤ 6) (hr : ∀ i : Int, 0 ≤ i → i < l.length → 1 ≤ rd l i ∧ rd l i ≤ 300)
    (ht : ∀ i : Int, 0 ≤ i → i < l.length → 0 ≤ rd m i ∧ rd m i ≤ 300) (hg : ∀ i : Int, 0 ≤ i → i < l.length → rd s i = sg m i)
    (hok : ∀ i j : Int, 0 ≤ i → i < l.length → 0 ≤ j → j < l.length → Int.tmod (sg m i - sg m j) (gcdGo (rd l i) (rd l j)) = 0) (i : Int) (hi0 : 0 ≤ i) (hi : i < l.length)
    (hc : Ev (fun k => impl_AreInGear.l1 k l s (l.length : Int) (i + 1)) (true, true)) (d : Nat) : ∀ (j : Int), 0 ≤ j → j + d = i → Ev (fun k => impl_AreInGear.l2 k l s i (l.length : Int) i i j) (true, true) := by
  induction d with
  | zero =>
    intro j hj hd
    refine Ev.succ hc ?_
    intro k
    (try simp only)
    rw [impl_AreInGear.l2, if_neg (by omega), wrap_id (by omega) (by omega)]
  | succ d ih =>
    intro j hj hd
    have r1 := hr i hi0 (by omega)
    have r2 := hr j hj (by omega)
    have t1 := ht i hi0 (by omega)
    have t2 := ht j hj (by omega)
    have g1 := hg i hi0 (by omega)
    have g2 := hg j hj (by omega)
    have hgc := gcdGo_bd (a := rd l i) (b := rd l j) (by omega) (by omega)
    have b1 : -300 ≤ sg m i ∧ sg m i ≤ 300 := by unfold sg; split <;> omega
    have b2 : -300 ≤ sg m j ∧ sg m j ≤ 300 := by unfold sg; split <;> omega
    refine Ev.succ (ih (j + 1) (by omega) (by omega)) ?_
    intro k
    (try simp only)
    rw [impl_AreInGear.l2, if_pos (by omega), if_pos hi0, if_pos (by omega), if_pos hj, if_pos (by omega), if_pos (by omega), if_pos (by omega)]
    unfold impl_divisor.f
    simp only [Option.bind_some]
    rw [if_neg (show ¬ gcdGo (rd l i) (rd l j) = 0 by omega), wrap_id (x := j + 1) (by omega) (by omega), g1, g2, wrap_id (by omega) (by omega), if_pos (hok i j hi0 hi hj (by omega))]
theorem geart_l1 {l m s : List Int} (hsm : s.length = l.length) (hl : (l.length : Int) ≤ 6) (hr : ∀ i : Int, 0 ≤ i → i < l.length → 1 ≤ rd l i ∧ rd l i ≤ 300)
    (ht : ∀ i : Int, 0 ≤ i → i < l.length → 0 ≤ rd m i ∧ rd m i ≤ 300) (hg : ∀ i : Int, 0 ≤ i → i < l.length → rd s i = sg m i)
    (hok : ∀ i j : Int, 0 ≤ i → i < l.length → 0 ≤ j → j < l.length → Int.tmod (sg m i - sg m j) (gcdGo (rd l i) (rd l j)) = 0) (d : Nat) : ∀ (i : Int), 0 ≤ i → i + d = l.length → Ev (fun k => impl_AreInGear.l1 k l s (l.length : Int) i) (true, true) := by
  induction d with
  | zero =>
    intro i hi hd
    refine Ev.one ?_
    intro k; (try simp only); rw [impl_AreInGear.l1, if_neg (by omega)]
  | succ d ih =>
    intro i hi hd
    refine Ev.succ (geart_l2 hsm hl hr ht hg hok i hi (by omega) (ih (i + 1) (by omega) (by omega)) i.toNat 0 (by omega) (by omega)) ?_
    intro k; (try simp only)
    rw [impl_AreInGear.l1, if_pos (by omega)]
theorem geart_l0 {l m : List Int} (hlm : m.length = l.length) (hl : (l.length : Int) ≤ 6) (hr : ∀ i : Int, 0 ≤ i → i < l.length → 1 ≤ rd l i ∧ rd l i ≤ 300)
    (hin : ∀ i : Int, 0 ≤ i → i < l.length → 0 ≤ rd m i ∧ rd m i ≤ rd l i - 1)
    (hok : ∀ i j : Int, 0 ≤ i → i < l.length → 0 ≤ j → j < l.length → Int.tmod (sg m i - sg m j) (gcdGo (rd l i) (rd l j)) = 0) (d : Nat) : ∀ (s : List Int) (i : Int), 0 ≤ i → i + d = l.length → (s.length : Int) = i →
    (∀ j : Int, 0 ≤ j → j < i → rd s j = sg m j) → Ev (fun k => impl_AreInGear.l0 k l s m (l.length : Int) i) (true, true) := by
  induction d with
  | zero =>
    intro s i hi hd hs hg
    refine Ev.succ (geart_l1 (s := s) (by omega) hl hr (fun j h0 hj => by have := hin j h0 hj; have := hr j h0 hj; omega) (fun j h0 hj => hg j h0 (by omega)) hok l.length 0 (by omega) (by omega)) ?_
    intro k; (try simp only); rw [impl_AreInGear.l0, if_neg (by omega)]
  | succ d ih =>
    intro s i hi hd hs hg
    have r1 := hr i hi (by omega)
    have hb := hin i hi (by omega)
    have ew : wrap64 (rd l i - 1) = rd l i - 1 := wrap_id (by omega) (by omega)
    have hq : inR (rd m i) 0 (rd l i - 1) = true := inR_true.2 hb
    have eg : sg m i = if Int.tmod i 2 = 1 then -(rd m i) else rd m i := rfl
    refine Ev.succ (ih (s ++ [sg m i]) (i + 1) (by omega) (by omega) (by simp; omega) (by
        intro j h0 hj
        rcases Int.lt_or_le j i with h | h
        · rw [rd_app h0 (by omega)]; exact hg j h0 h
        · obtain rfl : j = i := by omega
          exact rd_new hs.symm)) ?_
    intro k; (try simp only)
    rw [impl_AreInGear.l0, if_pos (by omega), if_pos hi, if_pos (by omega), if_pos (by omega), ew, within_eq, hq, eg]
    simp only [Option.bind_some, if_true]
    rw [wrap_id (x := i + 1) (by omega) (by omega), wrap_id (x := -(rd m i)) (by omega) (by omega), if_pos (show (s.length : Nat) < 17592186044416 by omega)]
    by_cases h1 : Int.tmod i 2 = 1
    · rw [if_pos h1, if_pos h1]
    · rw [if_neg h1, if_neg h1, if_pos (show (s.length : Nat) < 17592186044416 by omega)]
theorem sg_tooth {l m : List Int} {a i : Int} (hr : 1 ≤ rd l i ∧ rd l i ≤ 300) (ha : 0 ≤ a) (h : rd m i = toothOf l a i) : (∃ s, sg m i = a + rd l i * s) ∧ 0 ≤ rd m i ∧ rd m i ≤ rd l i - 1 := by
  have e1 : Int.tmod a (rd l i) = a - rd l i * Int.tdiv a (rd l i) := Int.tmod_def _ _
  have m0 : 0 ≤ Int.tmod a (rd l i) := by rw [Int.tmod_eq_emod_of_nonneg ha]; exact Int.emod_nonneg _ (by omega)
  have m1 : Int.tmod a (rd l i) < rd l i := Int.tmod_lt_of_pos _ (by omega)
  have e2 : Int.tmod (rd l i - Int.tmod a (rd l i)) (rd l i) = rd l i - Int.tmod a (rd l i) - rd l i * Int.tdiv (rd l i - Int.tmod a (rd l i)) (rd l i) := Int.tmod_def _ _
  have m2 : 0 ≤ Int.tmod (rd l i - Int.tmod a (rd l i)) (rd l i) := by rw [Int.tmod_eq_emod_of_nonneg (by omega)]; exact Int.emod_nonneg _ (by omega)
  have m3 : Int.tmod (rd l i - Int.tmod a (rd l i)) (rd l i) < rd l i := Int.tmod_lt_of_pos _ (by omega)
  unfold sg
  rw [h]
  unfold toothOf
  by_cases hq : Int.tmod i 2 = 1
  · rw [if_pos hq, if_pos hq]
    generalize Int.tdiv (rd l i - Int.tmod a (rd l i)) (rd l i) = u at e2
    generalize Int.tdiv a (rd l i) = v at e1
    refine ⟨⟨u - 1 - v, ?_⟩, m2, by omega⟩
    rw [e2, e1]; grind
  · rw [if_neg hq, if_neg hq]
    generalize Int.tdiv a (rd l i) = v at e1
    refine ⟨⟨-v, ?_⟩, m0, by omega⟩
    rw [e1]; grind
theorem gcdGo_dvd2 {a b : Int} (ha : 0 ≤ a) (hb : 0 ≤ b) : (∃ p, a = gcdGo a b * p) ∧ ∃ p, b = gcdGo a b * p := by
  rw [gcdGo_of ha hb]
  obtain ⟨p, hp⟩ := Nat.gcd_dvd_left a.toNat b.toNat
  obtain ⟨q, hq⟩ := Nat.gcd_dvd_right a.toNat b.toNat
  exact ⟨⟨p, by rw [← Int.natCast_mul, ← hp]; omega⟩, ⟨q, by rw [← Int.natCast_mul, ← hq]; omega⟩⟩
/-- Trains are in gear as they go. -/
theorem inGear_teeth {l m : List Int} {a : Int} (h : trainOk l = true) (hlm : m.length = l.length) (ha : 0 ≤ a) (ht : ∀ j : Int, 0 ≤ j → j < l.length → rd m j = toothOf l a j) : ∃ K, ∀ k, K ≤ k → impl_AreInGear.f k l m = some (true, true) := by
  have hb := trainOk_true h
  obtain ⟨K, hk⟩ := geart_l0 (l := l) (m := m) hlm (by omega) hb.2.2 (fun i h0 h1 => (sg_tooth (hb.2.2 i h0 h1) ha (ht i h0 h1)).2) (by
    intro i j hi0 hi hj0 hj
    obtain ⟨⟨s, hs⟩, _⟩ := sg_tooth (hb.2.2 i hi0 hi) ha (ht i hi0 hi)
    obtain ⟨⟨u, hu⟩, _⟩ := sg_tooth (hb.2.2 j hj0 hj) ha (ht j hj0 hj)
    have r1 := hb.2.2 i hi0 hi
    have r2 := hb.2.2 j hj0 hj
    obtain ⟨⟨p, hp⟩, q, hq⟩ := gcdGo_dvd2 (a := rd l i) (b := rd l j) (by omega) (by omega)
    rw [← Int.dvd_iff_tmod_eq_zero, hs, hu]
    generalize gcdGo (rd l i) (rd l j) = g at *
    rw [hp, hq]
    exact ⟨p * s - q * u, by grind⟩) l.length [] 0 (by omega) (by omega) (by simp) (fun j h0 h1 => by omega)
  (try simp only at hk)
  refine ⟨K + 1, ?_⟩
  intro k hk'
  obtain ⟨k, rfl⟩ : ∃ m, k = m + 1 := ⟨k - 1, by omega⟩
  unfold impl_AreInGear.f
  rw [isTrain_eq, h]
  simp only [Option.bind_some, if_true]
  rw [show ((m.length : Int) != (l.length : Int)) = false by simp [hlm], impl_AreInGear.j0, if_neg (by decide), show (m.length : Int) = (l.length : Int) by omega]
  exact hk k (by omega)
theorem gcdF_bez : ∀ (k : Nat) (a b : Int), ∃ x y : Int, gcdF k a b = a * x + b * y
  | 0, a, b => ⟨1, 0, by simp [gcdF]⟩
  | k + 1, a, b => by
    unfold gcdF
    by_cases h : b > 0
    · rw [if_pos h]
      obtain ⟨x, y, hxy⟩ := gcdF_bez k b (Int.tmod a b)
      rw [Int.tmod_def] at hxy
      exact ⟨y, x - Int.tdiv a b * y, by rw [Int.tmod_def, hxy]; grind⟩
    · rw [if_neg h]; exact ⟨1, 0, by omega⟩
theorem gcdGo_bez (a b : Int) : ∃ x y : Int, gcdGo a b = a * x + b * y := gcdF_bez _ _ _
theorem gcdGo_l {a b : Int} (ha : 0 ≤ a) (hb : 0 ≤ b) : ∃ p, a = gcdGo a b * p := by
  rw [gcdGo_of ha hb]
  obtain ⟨p, hp⟩ := Nat.gcd_dvd_left a.toNat b.toNat
  refine ⟨p, ?_⟩
  rw [← Int.natCast_mul, ← hp]; omega
theorem gcdGo_r {a b : Int} (ha : 0 ≤ a) (hb : 0 ≤ b) : ∃ p, b = gcdGo a b * p := by
  rw [gcdGo_of ha hb]
  obtain ⟨p, hp⟩ := Nat.gcd_dvd_right a.toNat b.toNat
  refine ⟨p, ?_⟩
  rw [← Int.natCast_mul, ← hp]; omega
theorem geTeeth_eq (a b c d : Int) : spec_geTeeth.f a b c d = some (gearOk a b && inR c 0 (a - 1) && inR d 0 (b - 1)) := by
  unfold spec_geTeeth.f
  rw [geGood_eq]
  simp only [Option.bind_some]
  by_cases h : gearOk a b = true
  · have hb := gearOk_true.1 h
    rw [if_pos h, h, show wrap64 (a - 1) = a - 1 by unfold wrap64; omega, show wrap64 (b - 1) = b - 1 by unfold wrap64; omega, l1In_eq, l1In_eq]
    cases inR c 0 (a - 1) <;> rfl
  · rw [if_neg h]; simp only [Bool.not_eq_true] at h; rw [h]; rfl
/-- Teeth a and b meet when the ring has gone around j times. -/
def meetAt (n m a b j : Int) : Prop := (a + j * n) % m = b
theorem meet_ex {n m a b : Int} (hn : 0 < n) (hm : 0 < m) (ha : 0 ≤ a) (hb : 0 ≤ b) (hbm : b < m) : Int.tmod (a - b) (gcdGo n m) = 0 ↔ ∃ j, 0 ≤ j ∧ j < m ∧ meetAt n m a b j := by
  obtain ⟨x, y, hxy⟩ := gcdGo_bez n m
  obtain ⟨p, hp⟩ := gcdGo_l (a := n) (b := m) (by omega) (by omega)
  obtain ⟨q, hq⟩ := gcdGo_r (a := n) (b := m) (by omega) (by omega)
  rw [← Int.dvd_iff_tmod_eq_zero]
  constructor
  · rintro ⟨t, ht⟩
    refine ⟨(-x * t) % m, Int.emod_nonneg _ (by omega), Int.emod_lt_of_pos _ hm, ?_⟩
    unfold meetAt
    have e : a + (-x * t) % m * n = b + m * (t * y - (-x * t) / m * n) := by
      have := Int.emod_add_mul_ediv (-x * t) m
      have h2 : (-x * t) % m = -x * t - m * ((-x * t) / m) := by omega
      rw [h2, show a = b + gcdGo n m * t by omega, hxy]
      grind
    rw [e, Int.add_mul_emod_self_left, Int.emod_eq_of_lt hb hbm]
  · rintro ⟨j, _, _, hj⟩
    unfold meetAt at hj
    have := Int.emod_add_mul_ediv (a + j * n) m
    rw [hj] at this
    generalize (a + j * n) / m = s at this
    generalize gcdGo n m = g at *
    exact ⟨q * s - j * p, by rw [Int.mul_sub]; grind⟩
theorem meet_no {n m a b : Int} (hn0 : 3 ≤ n) (hn : n ≤ 300) (hm0 : 1 ≤ m) (hm : m ≤ 300) (ha : 0 ≤ a) (han : a < n) : ∀ (d k : Nat) (i : Int), 0 ≤ i → i + d = m → d < k → (∀ j, i ≤ j → j < m → ¬ meetAt n m a b j) → spec_geMeet.l0 k n m b (a + i * n) = some (-1)
  | 0, k + 1, i, hi, hd, hk, h => by
    have e : i = m := by omega
    subst e
    have h1 : i * n ≤ 300 * 300 := Int.mul_le_mul hm hn (by omega) (by omega)
    have h0 : 0 ≤ i * n := Int.mul_nonneg (by omega) (by omega)
    rw [spec_geMeet.l0, show wrap64 (n * i) = i * n by rw [Int.mul_comm]; unfold wrap64; omega, if_neg (by omega)]
  | d + 1, k + 1, i, hi, hd, hk, h => by
    have h1 : m * n ≤ 300 * 300 := Int.mul_le_mul hm hn (by omega) (by omega)
    have h0 : 0 ≤ i * n := Int.mul_nonneg (by omega) (by omega)
    have h2 : (i + 1) * n ≤ m * n := Int.mul_le_mul_of_nonneg_right (by omega) (by omega)
    have h3 : (i + 1) * n = i * n + n := by rw [Int.add_mul]; omega
    have h4 := h i (by omega) (by omega)
    unfold meetAt at h4
    rw [spec_geMeet.l0, show wrap64 (n * m) = m * n by rw [Int.mul_comm]; unfold wrap64; omega, if_pos (by omega), if_neg (by omega), Int.tmod_eq_emod_of_nonneg (by omega), if_neg h4,
      show wrap64 (a + i * n + n) = a + (i + 1) * n by unfold wrap64; omega]
    exact meet_no hn0 hn hm0 hm ha han d k (i + 1) (by omega) (by omega) (by omega) (fun j hj hjm => h j (by omega) hjm)
theorem meet_yes {n m a b : Int} (hn0 : 3 ≤ n) (hn : n ≤ 300) (hm0 : 1 ≤ m) (hm : m ≤ 300) (ha : 0 ≤ a) (han : a < n) : ∀ (d : Nat) (i : Int), 0 ≤ i → i + d = m → (∃ j, i ≤ j ∧ j < m ∧ meetAt n m a b j) → ∃ r, 0 ≤ r ∧ ∀ k : Nat, d < k → spec_geMeet.l0 k n m b (a + i * n) = some r
  | 0, i, hi, hd, h => by obtain ⟨j, _, _, _⟩ := h; omega
  | d + 1, i, hi, hd, h => by
    have h1 : m * n ≤ 300 * 300 := Int.mul_le_mul hm hn (by omega) (by omega)
    have h0 : 0 ≤ i * n := Int.mul_nonneg (by omega) (by omega)
    have h2 : (i + 1) * n ≤ m * n := Int.mul_le_mul_of_nonneg_right (by omega) (by omega)
    have h3 : (i + 1) * n = i * n + n := by rw [Int.add_mul]; omega
    by_cases h4 : meetAt n m a b i
    · refine ⟨a + i * n, by omega, ?_⟩
      intro k hk
      obtain ⟨k, rfl⟩ : ∃ q, k = q + 1 := ⟨k - 1, by omega⟩
      unfold meetAt at h4
      rw [spec_geMeet.l0, show wrap64 (n * m) = m * n by rw [Int.mul_comm]; unfold wrap64; omega, if_pos (by omega), if_neg (by omega), Int.tmod_eq_emod_of_nonneg (by omega), if_pos h4]
    · obtain ⟨r, hr, hk⟩ := meet_yes hn0 hn hm0 hm ha han d (i + 1) (by omega) (by omega) (by
        obtain ⟨j, h5, h6, h7⟩ := h
        rcases Int.lt_or_eq_of_le h5 with h8 | h8
        · exact ⟨j, by omega, h6, h7⟩
        · subst h8; exact absurd h7 h4)
      refine ⟨r, hr, ?_⟩
      intro k hd
      obtain ⟨k, rfl⟩ : ∃ q, k = q + 1 := ⟨k - 1, by omega⟩
      unfold meetAt at h4
      rw [spec_geMeet.l0, show wrap64 (n * m) = m * n by rw [Int.mul_comm]; unfold wrap64; omega, if_pos (by omega), if_neg (by omega), Int.tmod_eq_emod_of_nonneg (by omega), if_neg h4,
        show wrap64 (a + i * n + n) = a + (i + 1) * n by unfold wrap64; omega]
      exact hk k (by omega)
/-- What the reference's search for a meeting tells. -/
theorem meet_f {n m a b : Int} (hn0 : 3 ≤ n) (hn : n ≤ 300) (hm0 : 1 ≤ m) (hm : m ≤ 300) (ha : 0 ≤ a) (han : a < n) (hb : 0 ≤ b) (hbm : b < m) :
    ∃ r, (decide (r ≥ 0) = (Int.tmod (a - b) (gcdGo n m) == 0)) ∧ (r < 0 → r = -1) ∧ ∀ k : Nat, 301 < k → spec_geMeet.f k n m a b = some r := by
  have hx := meet_ex (n := n) (m := m) (a := a) (b := b) (by omega) (by omega) ha hb hbm
  by_cases h : ∃ j, 0 ≤ j ∧ j < m ∧ meetAt n m a b j
  · obtain ⟨r, h0, hk⟩ := meet_yes hn0 hn hm0 hm ha han m.toNat 0 (by omega) (by omega) h
    refine ⟨r, ?_, by omega, ?_⟩
    · rw [hx.2 h]; simp; omega
    · intro k h1
      have := hk k (by omega)
      simpa [spec_geMeet.f] using this
  · refine ⟨-1, ?_, by omega, ?_⟩
    · have : ¬ Int.tmod (a - b) (gcdGo n m) = 0 := fun e => h (hx.1 e)
      simp [this]
    · intro k h1
      have := meet_no (b := b) hn0 hn hm0 hm ha han m.toNat k 0 (by omega) (by omega) (by omega) (fun j h2 h3 h4 => h ⟨j, h2, h3, h4⟩)
      simpa [spec_geMeet.f] using this
/-- The numbers i, i + 1, .. of the next d at which p holds. -/
def numsD (p : Int → Bool) (i : Int) : Nat → List Int
  | 0 => []
  | d + 1 => if p i = true then i :: numsD p (i + 1) d else numsD p (i + 1) d
theorem numsD_len (p : Int → Bool) (i : Int) (d : Nat) : (numsD p i d).length ≤ d := by
  induction d generalizing i with
  | zero => simp [numsD]
  | succ d ih =>
    have := ih (i + 1)
    simp only [numsD]
    split
    · simp; omega
    · omega
theorem numsD_congr {p q : Int → Bool} {i : Int} {d : Nat} (h : ∀ x, i ≤ x → x < i + d → p x = q x) : numsD p i d = numsD q i d := by
  induction d generalizing i with
  | zero => rfl
  | succ d ih =>
    have h0 := h i (by omega) (by omega)
    have h1 := ih (i := i + 1) (fun x hx hy => h x (by omega) (by omega))
    simp only [numsD, h0, h1]
theorem numsD_eq (p : Int → Bool) (i : Int) (d : Nat) : ((List.range d).map fun (j : Nat) => i + (j : Int)).filter p = numsD p i d := by
  induction d generalizing i with
  | zero => rfl
  | succ d ih =>
    rw [List.range_succ_eq_map, List.map_cons, List.map_map]
    have e : (fun (j : Nat) => i + (j : Int)) ∘ Nat.succ = fun (j : Nat) => (i + 1) + (j : Int) := by funext j; simp; omega
    rw [e, List.filter_cons, ih]
    simp [numsD]
theorem numsW_numsD (p : Int → Bool) (lo hi : Int) : numsW p lo hi = numsD p lo (hi + 1 - lo).toNat := numsD_eq p lo _
theorem numsW_len (p : Int → Bool) (lo hi : Int) : ((numsW p lo hi).length : Int) ≤ max 0 (hi + 1 - lo) := by
  rw [numsW_numsD]
  have := numsD_len p lo (hi + 1 - lo).toNat
  omega
theorem numsD_mem {p : Int → Bool} {a : Int} : ∀ {d : Nat} {i : Int}, a ∈ numsD p i d ↔ i ≤ a ∧ a < i + d ∧ p a = true
  | 0, i => by simp [numsD]; omega
  | d + 1, i => by
    simp only [numsD]
    split
    · rename_i h
      rw [List.mem_cons, numsD_mem (d := d) (i := i + 1)]
      constructor
      · rintro (rfl | ⟨h1, h2, h3⟩)
        · exact ⟨by omega, by omega, h⟩
        · exact ⟨by omega, by omega, h3⟩
      · rintro ⟨h1, h2, h3⟩
        rcases Int.lt_or_eq_of_le h1 with h4 | h4
        · exact Or.inr ⟨by omega, by omega, h3⟩
        · exact Or.inl h4.symm
    · rename_i h
      rw [numsD_mem (d := d) (i := i + 1)]
      constructor
      · rintro ⟨h1, h2, h3⟩; exact ⟨by omega, by omega, h3⟩
      · rintro ⟨h1, h2, h3⟩
        rcases Int.lt_or_eq_of_le h1 with h4 | h4
        · exact ⟨by omega, by omega, h3⟩
        · subst h4; exact absurd h3 h
theorem numsD_rises (p : Int → Bool) : ∀ (d : Nat) (i : Int), (numsD p i d).Pairwise (· < ·)
  | 0, i => by simp [numsD]
  | d + 1, i => by
    simp only [numsD]
    split
    · rw [List.pairwise_cons]
      exact ⟨fun a ha => by have := (numsD_mem.1 ha).1; omega, numsD_rises p d (i + 1)⟩
    · exact numsD_rises p d (i + 1)
theorem numsW_mem {p : Int → Bool} {lo hi a : Int} (h : lo ≤ hi + 1) : a ∈ numsW p lo hi ↔ lo ≤ a ∧ a ≤ hi ∧ p a = true := by
  rw [numsW_numsD, numsD_mem]
  constructor
  · rintro ⟨h1, h2, h3⟩; exact ⟨h1, by omega, h3⟩
  · rintro ⟨h1, h2, h3⟩; exact ⟨h1, by omega, h3⟩
theorem numsD_append (p : Int → Bool) : ∀ (d1 d2 : Nat) (i : Int), numsD p i (d1 + d2) = numsD p i d1 ++ numsD p (i + d1) d2
  | 0, d2, i => by simp [numsD]
  | d1 + 1, d2, i => by
    rw [show d1 + 1 + d2 = (d1 + d2) + 1 by omega]
    simp only [numsD]
    rw [numsD_append p d1 d2 (i + 1), show i + 1 + (d1 : Int) = i + ((d1 + 1 : Nat) : Int) by omega]
    split <;> simp
theorem numsD_none {p : Int → Bool} : ∀ {d : Nat} {i : Int}, (∀ x, i ≤ x → x < i + d → p x = false) → numsD p i d = []
  | 0, i, _ => rfl
  | d + 1, i, h => by
    simp only [numsD]
    rw [h i (by omega) (by omega), numsD_none (d := d) (i := i + 1) (fun x h1 h2 => h x (by omega) (by omega))]
    rfl
theorem dv_mod {a g i x : Int} (hg : 1 ≤ g) (h0 : i ≤ x) (h1 : x < i + g) : (Int.tmod (a - x) g == 0) = true ↔ x - i = (a - i) % g := by
  rw [beq_iff_eq, ← Int.dvd_iff_tmod_eq_zero]
  constructor
  · rintro ⟨t, ht⟩
    have : a - i = (x - i) + g * t := by omega
    rw [this, Int.add_mul_emod_self_left, Int.emod_eq_of_lt (by omega) (by omega)]
  · intro h
    have := Int.emod_add_mul_ediv (a - i) g
    rw [← h] at this
    exact ⟨(a - i) / g, by omega⟩
theorem count_block (a g i : Int) (hg : 1 ≤ g) : (numsD (fun x => Int.tmod (a - x) g == 0) i g.toNat).length = 1 := by
  have r0 : 0 ≤ (a - i) % g := Int.emod_nonneg _ (by omega)
  have r1 : (a - i) % g < g := Int.emod_lt_of_pos _ (by omega)
  obtain ⟨r, hr⟩ : ∃ r, r = (a - i) % g := ⟨_, rfl⟩
  rw [← hr] at r0 r1
  rw [show g.toNat = r.toNat + (1 + (g - r - 1).toNat) by omega, numsD_append, numsD_append,
    numsD_none (d := r.toNat) (fun x h1 h2 => by
      rw [← Bool.not_eq_true, dv_mod hg h1 (by omega)]; omega),
    numsD_none (d := (g - r - 1).toNat) (fun x h1 h2 => by
      rw [← Bool.not_eq_true, dv_mod (i := i) hg (by omega) (by omega)]; omega)]
  have : (Int.tmod (a - (i + (r.toNat : Int))) g == 0) = true := by
    rw [dv_mod (i := i) hg (by omega) (by omega)]; omega
  simp only [List.nil_append, List.append_nil, numsD]
  rw [if_pos this]; rfl
theorem count_all (a g : Int) (hg : 1 ≤ g) : ∀ (q : Nat) (i : Int), (numsD (fun x => Int.tmod (a - x) g == 0) i (g.toNat * q)).length = q
  | 0, i => by simp [numsD]
  | q + 1, i => by
    rw [Nat.mul_add, Nat.mul_one, Nat.add_comm, numsD_append, List.length_append, count_block a g i hg, count_all a g hg q]
    omega
theorem gear_num {n m : Int} (h : gearOk n m = true) : ∃ g p q x y : Int, gcdGo n m = g ∧ n = g * p ∧ m = g * q ∧ 1 ≤ g ∧ 1 ≤ q ∧ q < p ∧ p ≤ n ∧ n / g = p ∧ m / g = q ∧ p * x + q * y = 1 ∧ 3 ≤ n ∧ n ≤ 300 ∧ 1 ≤ m ∧ m < n := by
  have hb := gearOk_true.1 h
  have hg := gcdGo_bd (a := n) (b := m) (by omega) (by omega)
  obtain ⟨x, y, hxy⟩ := gcdGo_bez n m
  obtain ⟨p, hp⟩ := gcdGo_l (a := n) (b := m) (by omega) (by omega)
  obtain ⟨q, hq⟩ := gcdGo_r (a := n) (b := m) (by omega) (by omega)
  generalize gcdGo n m = g at *
  have ep : n / g = p := by rw [hp]; exact Int.mul_ediv_cancel_left _ (by omega)
  have eq : m / g = q := by rw [hq]; exact Int.mul_ediv_cancel_left _ (by omega)
  have h1 : p * x + q * y = 1 := by
    have : g * (p * x + q * y) = g * 1 := by grind
    exact Int.eq_of_mul_eq_mul_left (by omega) this
  have hq0 : 1 ≤ q := by
    rcases Int.lt_or_le q 1 with h | h
    · have : g * q ≤ g * 0 := Int.mul_le_mul_of_nonneg_left (by omega) (by omega)
      omega
    · exact h
  have hqp : q < p := by
    rcases Int.lt_or_le q p with h | h
    · exact h
    · have : g * p ≤ g * q := Int.mul_le_mul_of_nonneg_left h (by omega)
      omega
  have hpn : p ≤ n := by
    have : 1 * p ≤ g * p := Int.mul_le_mul_of_nonneg_right (by omega) (by omega)
    omega
  exact ⟨g, p, q, x, y, rfl, hp, hq, by omega, hq0, hqp, hpn, ep, eq, h1, by omega, by omega, by omega, by omega⟩
theorem teeth_eq (a b c d : Int) : impl_areTeeth.f a b c d = some (gearOk a b && inR c 0 (a - 1) && inR d 0 (b - 1)) := by
  unfold impl_areTeeth.f
  rw [areGears_one]
  simp only [Option.bind_some]
  by_cases h : gearOk a b = true
  · have hb := gearOk_true.1 h
    rw [if_pos h, h, show wrap64 (a - 1) = a - 1 by unfold wrap64; omega, show wrap64 (b - 1) = b - 1 by unfold wrap64; omega, within_eq, within_eq]
    cases inR c 0 (a - 1) <;> rfl
  · rw [if_neg h]
    simp only [Bool.not_eq_true] at h
    rw [h]; rfl
theorem meets_eq (a b c d : Int) (h0 : 3 ≤ a) (h1 : a ≤ 300) (h2 : 1 ≤ b) (h3 : b ≤ a) (hc : 0 ≤ c ∧ c ≤ 300) (hd : 0 ≤ d ∧ d ≤ 300) : impl_doMeet.f a b c d = some (Int.tmod (c - d) (gcdGo a b) == 0) := by
  unfold impl_doMeet.f impl_divisor.f
  have := gcdGo_bd (a := a) (b := b) (by omega) (by omega)
  simp only [Option.bind_some]
  rw [if_neg (by omega), show wrap64 (c - d) = c - d by unfold wrap64; omega]
theorem first_yes2 {n m a b : Int} (hn0 : 3 ≤ n) (hn : n ≤ 300) (hm0 : 1 ≤ m) (hm : m ≤ 300) (ha : 0 ≤ a) (han : a < n) : ∀ (d : Nat) (i : Int), 0 ≤ i → i + d = m → (∃ j, i ≤ j ∧ j < m ∧ meetAt n m a b j) →
    ∃ j, i ≤ j ∧ j < m ∧ meetAt n m a b j ∧ (∀ j', i ≤ j' → j' < j → ¬ meetAt n m a b j') ∧ ∀ k : Nat, d < k → spec_geMeet.l0 k n m b (a + i * n) = some (a + j * n) ∧ impl_FirstMeeting.l0 k n m b (a + i * n) = some (a + j * n, true)
  | 0, i, hi, hd, h => by obtain ⟨j, _, _, _⟩ := h; omega
  | d + 1, i, hi, hd, h => by
    have h1 : m * n ≤ 300 * 300 := Int.mul_le_mul hm hn (by omega) (by omega)
    have h0 : 0 ≤ i * n := Int.mul_nonneg (by omega) (by omega)
    have h2 : (i + 1) * n ≤ m * n := Int.mul_le_mul_of_nonneg_right (by omega) (by omega)
    have h3 : (i + 1) * n = i * n + n := by rw [Int.add_mul]; omega
    by_cases h4 : meetAt n m a b i
    · refine ⟨i, by omega, by omega, h4, fun j' h5 h6 => by omega, ?_⟩
      intro k hk
      obtain ⟨k, rfl⟩ : ∃ q, k = q + 1 := ⟨k - 1, by omega⟩
      unfold meetAt at h4
      rw [spec_geMeet.l0, impl_FirstMeeting.l0, show wrap64 (n * m) = m * n by rw [Int.mul_comm]; unfold wrap64; omega, if_pos (by omega), if_neg (by omega), Int.tmod_eq_emod_of_nonneg (by omega), if_pos h4]
      exact ⟨rfl, by rw [if_neg (by omega), if_pos h4]⟩
    · obtain ⟨j, hj1, hj2, hj3, hj4, hk⟩ := first_yes2 hn0 hn hm0 hm ha han d (i + 1) (by omega) (by omega) (by
        obtain ⟨j, h5, h6, h7⟩ := h
        rcases Int.lt_or_eq_of_le h5 with h8 | h8
        · exact ⟨j, by omega, h6, h7⟩
        · subst h8; exact absurd h7 h4)
      refine ⟨j, by omega, hj2, hj3, fun j' h5 h6 => ?_, ?_⟩
      · rcases Int.lt_or_eq_of_le h5 with h8 | h8
        · exact hj4 j' (by omega) h6
        · subst h8; exact h4
      intro k hd
      obtain ⟨k, rfl⟩ : ∃ q, k = q + 1 := ⟨k - 1, by omega⟩
      unfold meetAt at h4
      rw [spec_geMeet.l0, impl_FirstMeeting.l0, show wrap64 (n * m) = m * n by rw [Int.mul_comm]; unfold wrap64; omega, if_pos (by omega), if_neg (by omega), Int.tmod_eq_emod_of_nonneg (by omega), if_neg h4,
        show wrap64 (a + i * n + n) = a + (i + 1) * n by unfold wrap64; omega, if_neg (by omega), if_neg h4]
      exact hk k (by omega)
/-- The teeth of a ring and a wheel. -/
def teethOk (n m a b : Int) : Bool := gearOk n m && inR a 0 (n - 1) && inR b 0 (m - 1)
/-- What both sides tell of the first meeting, and of meetings. -/
theorem meeting_told (n m a b : Int) : ∃ r : Int, (teethOk n m a b = true → (Int.tmod (a - b) (gcdGo n m) == 0) = true → 0 ≤ r ∧ r % n = a ∧ r % m = b ∧ r < m / gcdGo n m * n) ∧
    ∀ k, 500 ≤ k → spec_FirstMeeting.f k n m a b = some (r, teethOk n m a b && (Int.tmod (a - b) (gcdGo n m) == 0)) ∧ impl_FirstMeeting.f k n m a b = some (r, teethOk n m a b && (Int.tmod (a - b) (gcdGo n m) == 0)) ∧
      spec_DoMeet.f k n m a b = some (teethOk n m a b && (Int.tmod (a - b) (gcdGo n m) == 0), teethOk n m a b) ∧ impl_DoMeet.f n m a b = some (teethOk n m a b && (Int.tmod (a - b) (gcdGo n m) == 0), teethOk n m a b) := by
  by_cases hq : teethOk n m a b = true
  · have hq' := hq
    unfold teethOk at hq'
    have hb := hq'
    have hgk : gearOk n m = true := by have h9 := hq'; simp only [Bool.and_eq_true] at h9; exact h9.1.1
    simp only [Bool.and_eq_true, inR_true, gearOk_true] at hb
    have hx := meet_ex (n := n) (m := m) (a := a) (b := b) (by omega) (by omega) (by omega) (by omega) (by omega)
    by_cases h : ∃ j, 0 ≤ j ∧ j < m ∧ meetAt n m a b j
    · obtain ⟨j, hj0, hj1, hj2, hj3, hk⟩ := first_yes2 (n := n) (m := m) (a := a) (b := b) (by omega) (by omega) (by omega) (by omega) (by omega) (by omega) m.toNat 0 (by omega) (by omega) h
      obtain ⟨g, p, q, x, y, e, hp, hqq, hg, hq0, hqp, hpn, ep, eq, h1, b1, b2, b3, b4⟩ := gear_num hgk
      have hz := hx.2 h
      have hjq : j < q := by
        rcases Int.lt_or_le j q with h5 | h5
        · exact h5
        · refine absurd ?_ (hj3 (j - q) (by omega) (by omega))
          unfold meetAt at hj2 ⊢
          have e5 : a + (j - q) * n = a + j * n + m * (-p) := by rw [hp, hqq]; grind
          rw [e5, Int.add_mul_emod_self_left, hj2]
      have hjn : 0 ≤ j * n := Int.mul_nonneg hj0 (by omega)
      have hjn2 : (j + 1) * n ≤ q * n := Int.mul_le_mul_of_nonneg_right (by omega) (by omega)
      have hjn3 : (j + 1) * n = j * n + n := by rw [Int.add_mul]; omega
      refine ⟨a + j * n, fun _ _ => ⟨by omega, ?_, ?_, by rw [e, eq]; omega⟩, ?_⟩
      · rw [Int.mul_comm, Int.add_mul_emod_self_left, Int.emod_eq_of_lt (by omega) (by omega)]
      · exact hj2
      intro k hk5
      obtain ⟨k, rfl⟩ : ∃ q, k = q + 1 := ⟨k - 1, by omega⟩
      have k1 := hk (k + 1) (by omega)
      have k2 := hk k (by omega)
      rw [Int.zero_mul, Int.add_zero] at k1 k2
      rw [hq, hz]
      unfold spec_FirstMeeting.f impl_FirstMeeting.f spec_DoMeet.f impl_DoMeet.f
      rw [geTeeth_eq, teeth_eq, hq', meets_eq _ _ _ _ (by omega) (by omega) (by omega) (by omega) (by omega) (by omega), hz]
      simp [spec_geMeet.f, k1.1, impl_FirstMeeting.j0, k2.2, show ¬ a + j * n < 0 by omega, show 0 ≤ a + j * n by omega]
    · have hd : ¬ Int.tmod (a - b) (gcdGo n m) = 0 := fun e => h (hx.1 e)
      have hdb : (Int.tmod (a - b) (gcdGo n m) == 0) = false := by simpa using hd
      refine ⟨0, fun _ h2 => by rw [hdb] at h2; simp at h2, ?_⟩
      intro k hk
      obtain ⟨k, rfl⟩ : ∃ q, k = q + 1 := ⟨k - 1, by omega⟩
      have hn := meet_no (n := n) (m := m) (a := a) (b := b) (by omega) (by omega) (by omega) (by omega) (by omega) (by omega) m.toNat (k + 1) 0 (by omega) (by omega) (by omega) (fun j h2 h3 h4 => h ⟨j, h2, h3, h4⟩)
      rw [Int.zero_mul, Int.add_zero] at hn
      rw [hq, hdb]
      unfold spec_FirstMeeting.f impl_FirstMeeting.f spec_DoMeet.f impl_DoMeet.f
      rw [geTeeth_eq, teeth_eq, hq', meets_eq _ _ _ _ (by omega) (by omega) (by omega) (by omega) (by omega) (by omega), hdb]
      simp [spec_geMeet.f, hn, impl_FirstMeeting.j0]
  · simp only [Bool.not_eq_true] at hq
    refine ⟨0, fun h => by rw [hq] at h; simp at h, ?_⟩
    intro k hk
    obtain ⟨k, rfl⟩ : ∃ q, k = q + 1 := ⟨k - 1, by omega⟩
    rw [hq]
    unfold teethOk at hq
    unfold spec_FirstMeeting.f impl_FirstMeeting.f spec_DoMeet.f impl_DoMeet.f
    rw [geTeeth_eq, teeth_eq, hq]
    simp [impl_FirstMeeting.j0]
theorem meetings_l0 (n m a : Int) (hn0 : 3 ≤ n) (hn : n ≤ 300) (hm0 : 1 ≤ m) (hm : m ≤ 300) (ha : 0 ≤ a) (han : a < n) (d : Nat) : ∀ (k : Nat) (l : List Int) (i : Int), 0 ≤ i → i + d = m → d + 302 < k → (l.length : Int) + d ≤ 1000 →
    spec_MeetingsOf.l0 k n m a l i = some (l ++ numsD (fun x => Int.tmod (a - x) (gcdGo n m) == 0) i d, true) := by
  induction d with
  | zero =>
    intro k l i hi hd hk _
    obtain ⟨k, rfl⟩ : ∃ m, k = m + 1 := ⟨k - 1, by omega⟩
    rw [spec_MeetingsOf.l0, if_neg (by omega)]
    simp [numsD]
  | succ d ih =>
    intro k l i hi hd hk hl
    obtain ⟨k, rfl⟩ : ∃ m, k = m + 1 := ⟨k - 1, by omega⟩
    obtain ⟨r, h1, h2, h3⟩ := meet_f (n := n) (m := m) (a := a) (b := i) (by omega) (by omega) (by omega) (by omega) (by omega) (by omega) (by omega) (by omega)
    rw [spec_MeetingsOf.l0, if_pos (by omega), h3 _ (by omega)]
    simp only [Option.bind_some]
    rw [wrap_id (by omega) (by omega)]
    by_cases hq : r ≥ 0
    · have h4 : (Int.tmod (a - i) (gcdGo n m) == 0) = true := by rw [← h1]; simp [hq]
      rw [if_pos hq, if_pos (by omega), ih k (l ++ [i]) (i + 1) (by omega) (by omega) (by omega) (by simp; omega)]
      simp only [numsD, h4]; simp
    · have h4 : (Int.tmod (a - i) (gcdGo n m) == 0) = false := by rw [← h1]; simp; omega
      rw [if_neg hq, ih k l (i + 1) (by omega) (by omega) (by omega) (by omega)]
      simp only [numsD, h4]; simp
/-- The meetings of a tooth, as both sides tell them. -/
def mofR (n m a : Int) : List Int × Bool := if (inR n 3 300 && inR m 1 (n - 1) && inR a 0 (n - 1)) = true then (numsW (fun x => Int.tmod (a - x) (gcdGo n m) == 0) 0 (m - 1), true) else ([], false)
theorem mofI (n m a : Int) : impl_MeetingsOf.f n m a = some (mofR n m a) := rfl
theorem mofS (n m a : Int) {k : Nat} (hk : 700 ≤ k) : spec_MeetingsOf.f k n m a = some (mofR n m a) := by
  have e0 : (gearOk n m && inR a 0 (n - 1) && inR 0 0 (m - 1)) = (inR n 3 300 && inR m 1 (n - 1) && inR a 0 (n - 1)) := by
    unfold gearOk
    by_cases h : (inR n 3 300 && inR m 1 (n - 1) && inR a 0 (n - 1)) = true
    · have hb := h
      simp only [Bool.and_eq_true, inR_true] at hb
      rw [h, show inR 0 0 (m - 1) = true from inR_true.2 (by omega)]; rfl
    · simp only [Bool.not_eq_true] at h
      rw [h]; rfl
  unfold mofR spec_MeetingsOf.f
  rw [geTeeth_eq, e0]
  simp only [Option.bind_some]
  by_cases hq : (inR n 3 300 && inR m 1 (n - 1) && inR a 0 (n - 1)) = true
  · have hb := hq
    simp only [Bool.and_eq_true, inR_true] at hb
    rw [if_pos hq, if_pos hq, meetings_l0 n m a (by omega) (by omega) (by omega) (by omega) (by omega) (by omega) m.toNat k [] 0 (by omega) (by omega) (by omega) (by simp; omega), numsW_numsD]
    simp
  · rw [if_neg hq, if_neg hq]
theorem mof_len (n m a : Int) : ((mofR n m a).1.length : Int) ≤ 300 := by
  unfold mofR
  by_cases hq : (inR n 3 300 && inR m 1 (n - 1) && inR a 0 (n - 1)) = true
  · have hb := hq
    simp only [Bool.and_eq_true, inR_true] at hb
    rw [if_pos hq]
    have := numsW_len (fun x => Int.tmod (a - x) (gcdGo n m) == 0) 0 (m - 1)
    simp only; omega
  · rw [if_neg hq]; simp
theorem mof_ok {n m a b : Int} (h : teethOk n m a b = true) : (mofR n m a).2 = true ∧ (mofR n m a).1 = numsW (fun x => Int.tmod (a - x) (gcdGo n m) == 0) 0 (m - 1) ∧ ((mofR n m a).1.length : Int) = m / gcdGo n m ∧ (mofR n m a).1.Pairwise (· < ·) ∧ ((mofR n m a).1.any fun x => x == b) = (Int.tmod (a - b) (gcdGo n m) == 0) := by
  unfold teethOk at h
  have hb := h
  have hgk : gearOk n m = true := by have h9 := h; simp only [Bool.and_eq_true] at h9; exact h9.1.1
  simp only [Bool.and_eq_true, inR_true, gearOk_true] at hb
  have hq : (inR n 3 300 && inR m 1 (n - 1) && inR a 0 (n - 1)) = true := by
    simp only [Bool.and_eq_true, inR_true]; omega
  obtain ⟨g, p, q, x, y, e, hp, hqq, hg, hq0, hqp, hpn, ep, eq, h1, b1, b2, b3, b4⟩ := gear_num hgk
  have eM : mofR n m a = (numsW (fun x => Int.tmod (a - x) (gcdGo n m) == 0) 0 (m - 1), true) := by unfold mofR; rw [if_pos hq]
  rw [eM]
  refine ⟨rfl, rfl, ?_, ?_, ?_⟩
  · simp only
    rw [numsW_numsD, e, eq, show (m - 1 + 1 - 0).toNat = g.toNat * q.toNat by
      have : g.toNat * q.toNat = (g * q).toNat := by
        have h2 : ((g.toNat * q.toNat : Nat) : Int) = g * q := by rw [Int.natCast_mul, Int.toNat_of_nonneg (by omega), Int.toNat_of_nonneg (by omega)]
        omega
      rw [this, ← hqq]; congr 1; omega, count_all a g hg]
    omega
  · simp only
    rw [numsW_numsD]; exact numsD_rises _ _ _
  · simp only
    rw [Bool.eq_iff_iff, List.any_eq_true]
    constructor
    · rintro ⟨z, hz, hzb⟩
      rw [beq_iff_eq] at hzb
      subst hzb
      exact ((numsW_mem (by omega)).1 hz).2.2
    · intro h
      exact ⟨b, (numsW_mem (by omega)).2 ⟨by omega, by omega, h⟩, by simp⟩
theorem drawGear {s : List Int} (hs : Bytes s) : ∃ l m, (l.length : Int) ≤ 7 ∧ (m.length : Int) ≤ 7 ∧ ∀ k, 1048700 ≤ k → spec_DrawAreInGear.f k s = some (l, m) := by
  have hst : ∃ l m, (l.length : Int) ≤ 7 ∧ (m.length : Int) ≤ 7 ∧ spec_DrawAreInGear.f 1048700 s = some (l, m) := by
    obtain ⟨l, a, sd, e, q1, q2, q3⟩ := train_tot hs (a := 0) (sd := 0) (by omega) (by omega) (k := 1048700) (by omega)
    have hj1 : ∀ (a sd : Int), 0 ≤ a → a ≤ 100 → ∃ x a' sd', spec_DrawAreInGear_w.j0 1048700 l true s a sd = some (l, [0, x], a', sd') := by
      intro a sd h0 h1
      rw [show (1048700 : Nat) = 1048699 + 1 from rfl, spec_DrawAreInGear_w.j0, if_pos rfl]
      obtain ⟨v, a1, sd1, e1, _⟩ := among_tot hs (a := a) (sd := sd) [(-1), 0, 1, 400] (by simp) (by omega) (by omega)
      rw [e1]; exact ⟨_, _, _, rfl⟩
    have hj2 : trainOk l = true → ∀ (a sd : Int), 0 ≤ a → a ≤ 100 → ∃ m a' sd', (m.length : Int) ≤ 7 ∧ spec_DrawAreInGear_w.j0 1048700 l false s a sd = some (l, m, a', sd') := by
      intro hok a sd h0 h1
      have hb := trainOk_true hok
      rw [show (1048700 : Nat) = 1048699 + 1 from rfl, spec_DrawAreInGear_w.j0, if_neg (by decide)]
      obtain ⟨v, a1, sd1, e1, q4, q5, q6, _⟩ := pick_tot hs (a := a) (sd := sd) 200 (by omega) (by omega)
      rw [e1]
      simp only [Option.bind_some]
      obtain ⟨r, hrl, hrt, hrr⟩ := teeth_told l v (by omega) (by omega) hb.2.2 l.length [] 0 (by omega) (by omega) (by simp) (fun j h0 h1 => by omega)
      unfold spec_geTrained.f
      rw [(hrr _ (by omega)).1]
      simp only [Option.bind_some]
      obtain ⟨b, a2, sd2, e2, q7, q8⟩ := one_tot hs (a := a1) (sd := sd1) 2 (by omega) (by omega)
      rw [e2]
      simp only [Option.bind_some]
      by_cases h : b = true
      · rw [if_pos h]
        obtain ⟨x, a3, sd3, e3, q9, q10, q11, q12, _⟩ := pick_tot hs (a := a2) (sd := sd2) (r.length : Int) (by omega) (by omega)
        have q13 := q12 (by omega)
        rw [e3]
        simp only [Option.bind_some]
        rw [if_pos q11, if_pos (by omega)]
        obtain ⟨y, a4, sd4, e4, _⟩ := pick_tot hs (a := a3) (sd := sd3) (rd l x) (by omega) (by omega)
        rw [e4]
        simp only [Option.bind_some]
        rw [if_pos q13]
        exact ⟨_, _, _, by rw [List.length_set]; omega, rfl⟩
      · rw [if_neg h]; exact ⟨_, _, _, by omega, rfl⟩
    unfold spec_DrawAreInGear.f spec_DrawAreInGear_w.f
    rw [e]
    simp only [Option.bind_some]
    rw [geTrain_eq (by omega) (by omega)]
    simp only [Option.bind_some]
    by_cases h : trainOk l = true
    · rw [if_pos h]
      obtain ⟨b, a1, sd1, e1, q4, q5⟩ := one_tot hs (a := a) (sd := sd) 12 (by omega) (by omega)
      rw [e1]
      simp only [Option.bind_some]
      cases b with
      | true =>
        obtain ⟨x, a', sd', e2⟩ := hj1 a1 sd1 (by omega) (by omega)
        rw [e2]; exact ⟨_, _, q1, by simp, rfl⟩
      | false =>
        obtain ⟨m, a', sd', hm, e2⟩ := hj2 h a1 sd1 (by omega) (by omega)
        rw [e2]; exact ⟨_, _, q1, hm, rfl⟩
    · rw [if_neg h]
      obtain ⟨x, a', sd', e2⟩ := hj1 a sd (by omega) (by omega)
      rw [e2]; exact ⟨_, _, q1, by simp, rfl⟩
  obtain ⟨l, m, h1, h2, h3⟩ := hst
  exact ⟨l, m, h1, h2, up (fun k => spec_DrawAreInGear.mono s k) h3⟩
theorem drawTurnsU {s : List Int} (hs : Bytes s) : ∃ l a, (l.length : Int) ≤ 7 ∧ ∀ k, 10 ≤ k → spec_DrawTrainTurns.f k s = some (l, a) := by
  obtain ⟨l, a, h1, h2⟩ := drawTurns hs (k := 10) (by omega)
  exact ⟨l, a, h2, up (fun k => spec_DrawTrainTurns.mono s k) h1⟩
theorem drawTeethU {s : List Int} (hs : Bytes s) : ∃ l a, (l.length : Int) ≤ 7 ∧ ∀ k, 10 ≤ k → spec_DrawTrainTeeth.f k s = some (l, a) := by
  obtain ⟨l, a, h1, h2⟩ := drawTeeth hs (k := 10) (by omega)
  exact ⟨l, a, h2, up (fun k => spec_DrawTrainTeeth.mono s k) h1⟩
theorem drawPeriodU {s : List Int} (hs : Bytes s) : ∃ l, (l.length : Int) ≤ 7 ∧ ∀ k, 10 ≤ k → spec_DrawTrainPeriod.f k s = some l := by
  obtain ⟨l, h1, h2⟩ := drawPeriod hs (k := 10) (by omega)
  exact ⟨l, h2, up (fun k => spec_DrawTrainPeriod.mono s k) h1⟩
theorem uSame_l0 (l : List Int) (hl : (l.length : Int) ≤ 1000000) (d : Nat) : ∀ (k : Nat) (i : Int), 0 ≤ i → i + d = l.length → d < k → laws_uSame.l0 k l l (l.length : Int) i = some true := by
  induction d with
  | zero =>
    intro k i h0 hi hk
    obtain ⟨k, rfl⟩ : ∃ m, k = m + 1 := ⟨k - 1, by omega⟩
    rw [laws_uSame.l0, if_neg (by omega)]
  | succ d ih =>
    intro k i h0 hi hk
    obtain ⟨k, rfl⟩ : ∃ m, k = m + 1 := ⟨k - 1, by omega⟩
    rw [laws_uSame.l0, if_pos (show i < (l.length : Int) by omega), if_pos h0, if_pos (show i < (l.length : Int) by omega), if_pos (show i < (l.length : Int) by omega), if_pos rfl, wrap_id (by omega) (by omega)]
    exact ih k (i + 1) (by omega) (by omega) (by omega)
theorem uSame_self {l : List Int} (hl : (l.length : Int) ≤ 1000000) {k : Nat} (hk : l.length < k) : laws_uSame.f k l l = some true := by
  unfold laws_uSame.f
  rw [if_pos rfl]
  exact uSame_l0 l hl l.length k 0 (by omega) (by omega) hk
theorem uHas_l0 (l : List Int) (a : Int) (hl : (l.length : Int) ≤ 1000000) (d : Nat) : ∀ (k : Nat) (i : Int), 0 ≤ i → i + d = l.length → d < k → laws_uHas.l0 k a l (l.length : Int) i = some ((l.drop i.toNat).any fun x => x == a) := by
  induction d with
  | zero =>
    intro k i h0 hi hk
    obtain ⟨k, rfl⟩ : ∃ m, k = m + 1 := ⟨k - 1, by omega⟩
    rw [laws_uHas.l0, if_neg (by omega), List.drop_eq_nil_of_le (by omega)]; rfl
  | succ d ih =>
    intro k i h0 hi hk
    obtain ⟨k, rfl⟩ : ∃ m, k = m + 1 := ⟨k - 1, by omega⟩
    rw [laws_uHas.l0, if_pos (show i < (l.length : Int) by omega), if_pos h0, if_pos (show i < (l.length : Int) by omega), wrap_id (x := i + 1) (by omega) (by omega), List.drop_eq_getElem_cons (by omega), List.any_cons, ← rd_get h0 (by omega), show i.toNat + 1 = (i + 1).toNat by omega]
    by_cases h : rd l i = a
    · rw [if_pos h, show (rd l i == a) = true by simpa using h]; rfl
    · rw [if_neg h, ih k (i + 1) (by omega) (by omega) (by omega), show (rd l i == a) = false by simpa using h]; rfl
theorem uHas_f {l : List Int} (a : Int) (hl : (l.length : Int) ≤ 1000000) {k : Nat} (hk : l.length < k) : laws_uHas.f k l a = some (l.any fun x => x == a) := by
  unfold laws_uHas.f
  rw [uHas_l0 l a hl l.length k 0 (by omega) (by omega) hk]; simp
theorem uRises_l0 (l : List Int) (hl : (l.length : Int) ≤ 1000000) (hp : l.Pairwise (· < ·)) (d : Nat) : ∀ (k : Nat) (i : Int), 1 ≤ i → (l.length : Int) ≤ i + d → d < k → laws_uRises.l0 k l i = some true := by
  induction d with
  | zero =>
    intro k i h0 hi hk
    obtain ⟨k, rfl⟩ : ∃ m, k = m + 1 := ⟨k - 1, by omega⟩
    rw [laws_uRises.l0, if_neg (by omega)]
  | succ d ih =>
    intro k i h0 hi hk
    obtain ⟨k, rfl⟩ : ∃ m, k = m + 1 := ⟨k - 1, by omega⟩
    by_cases h : i < (l.length : Int)
    · have := (List.pairwise_iff_getElem.1 hp) (i - 1).toNat i.toNat (by omega) (by omega) (by omega)
      rw [laws_uRises.l0, if_pos h, wrap_id (x := i - 1) (by omega) (by omega), if_pos (by omega), if_pos (by omega), if_pos (by omega), wrap_id (by omega) (by omega), rd_get (i := i - 1) (by omega) (by omega), rd_get (i := i) (by omega) (by omega), if_neg (by omega)]
      exact ih k (i + 1) (by omega) (by omega) (by omega)
    · rw [laws_uRises.l0, if_neg h]
theorem uRises_f {l : List Int} (hl : (l.length : Int) ≤ 1000000) (hp : l.Pairwise (· < ·)) {k : Nat} (hk : l.length < k) : laws_uRises.f k l = some true := by
  unfold laws_uRises.f
  exact uRises_l0 l hl hp l.length k 1 (by omega) (by omega) hk
theorem rounds_i (a b : Int) : impl_RoundsOf.f a b = some (if gearOk a b = true then (b / gcdGo a b, true) else (0, false)) := by
  unfold impl_RoundsOf.f impl_divisor.f
  rw [areGears_one]
  simp only [Option.bind_some]
  by_cases h : gearOk a b = true
  · have hb := gearOk_true.1 h
    have hg := gcdGo_bd (a := a) (b := b) (by omega) (by omega)
    rw [if_pos h, if_pos h, if_neg (by omega), Int.tdiv_eq_ediv_of_nonneg (by omega)]
    have : b / gcdGo a b ≤ b := Int.ediv_le_self _ (by omega)
    have h0 : 0 ≤ b / gcdGo a b := Int.ediv_nonneg (by omega) (by omega)
    rw [show wrap64 (b / gcdGo a b) = b / gcdGo a b by unfold wrap64; omega]
  · rw [if_neg h, if_neg h]
theorem petals_i (a b : Int) : impl_PetalsOf.f a b = some (if gearOk a b = true then (a / gcdGo a b, true) else (0, false)) := by
  unfold impl_PetalsOf.f impl_divisor.f
  rw [areGears_one]
  simp only [Option.bind_some]
  by_cases h : gearOk a b = true
  · have hb := gearOk_true.1 h
    have hg := gcdGo_bd (a := a) (b := b) (by omega) (by omega)
    rw [if_pos h, if_pos h, if_neg (by omega), Int.tdiv_eq_ediv_of_nonneg (by omega)]
    have : a / gcdGo a b ≤ a := Int.ediv_le_self _ (by omega)
    have h0 : 0 ≤ a / gcdGo a b := Int.ediv_nonneg (by omega) (by omega)
    rw [show wrap64 (a / gcdGo a b) = a / gcdGo a b by unfold wrap64; omega]
  · rw [if_neg h, if_neg h]
theorem meet_l2 (l : List Int) (hl : (l.length : Int) ≤ 6) (hz : ∀ j : Int, 0 ≤ j → j < l.length → rd l j = 0) (d : Nat) : ∀ (k : Nat) (i : Int), 0 ≤ i → i + d = l.length → d < k → laws_FnGearsMeet.l2 k l (l.length : Int) i = some true := by
  induction d with
  | zero =>
    intro k i h0 hi hk
    obtain ⟨k, rfl⟩ : ∃ m, k = m + 1 := ⟨k - 1, by omega⟩
    rw [laws_FnGearsMeet.l2, if_neg (by omega)]
  | succ d ih =>
    intro k i h0 hi hk
    obtain ⟨k, rfl⟩ : ∃ m, k = m + 1 := ⟨k - 1, by omega⟩
    rw [laws_FnGearsMeet.l2, if_pos (show i < (l.length : Int) by omega), if_pos h0, if_pos (show i < (l.length : Int) by omega), if_pos (hz i h0 (by omega)), wrap_id (by omega) (by omega)]
    exact ih k (i + 1) (by omega) (by omega) (by omega)
theorem meet_l1 (l : List Int) (n : Int) (h : trainOk l = true) (hn : 1 ≤ n) (hd : ∀ j : Int, 0 ≤ j → j < l.length → rd l j ∣ n) (d : Nat) : ∀ (k : Nat) (i : Int), 0 ≤ i → i + d = l.length → 1049000 + d < k → laws_FnGearsMeet.l1 k l n l (l.length : Int) i = some true := by
  have hb := trainOk_true h
  induction d with
  | zero =>
    intro k i h0 hi hk
    obtain ⟨k, rfl⟩ : ∃ m, k = m + 1 := ⟨k - 1, by omega⟩
    rw [laws_FnGearsMeet.l1, if_neg (by omega)]
    by_cases hq : n ≤ 1000000
    · rw [if_pos hq]
      obtain ⟨r, hr1, hr2, hr3⟩ := trainTeeth l n (by omega)
      have ho : (trainOk l && inR n 0 1000000) = true := by rw [h, inR_true.2 (show 0 ≤ n ∧ n ≤ 1000000 by omega)]; rfl
      obtain ⟨hrl, hrt⟩ := hr2 ho
      rw [(hr3 k (by omega)).2, ho]
      simp only [Option.bind_some, if_true]
      refine meet_l2 r (by omega) ?_ r.length k 0 (by omega) (by omega) (by omega)
      intro j hj0 hj
      have hz : Int.tmod n (rd l j) = 0 := Int.dvd_iff_tmod_eq_zero.1 (hd j hj0 (by omega))
      rw [hrt j hj0 (by omega)]
      unfold toothOf
      rw [hz, Int.sub_zero, Int.tmod_self]
      split <;> rfl
    · rw [if_neg hq]
  | succ d ih =>
    intro k i h0 hi hk
    obtain ⟨k, rfl⟩ : ∃ m, k = m + 1 := ⟨k - 1, by omega⟩
    have hr := hb.2.2 i h0 (by omega)
    rw [laws_FnGearsMeet.l1, if_pos (show i < (l.length : Int) by omega), if_pos h0, if_pos (show i < (l.length : Int) by omega), if_neg (by omega), if_pos (Int.dvd_iff_tmod_eq_zero.1 (hd i h0 (by omega))), wrap_id (by omega) (by omega)]
    exact ih k (i + 1) (by omega) (by omega) (by omega)
theorem meet_j6 (l : List Int) (r : Int × Bool) (hr : r.2 = true → trainOk l = true ∧ 1 ≤ r.1 ∧ r.1 ≤ 1000000000000 ∧ ∀ j : Int, 0 ≤ j → j < l.length → rd l j ∣ r.1) :
    ∀ k, 1050000 ≤ k → laws_FnGearsMeet.j5 k l r.1 r.2 (if r.2 = true then (wrap64 (Int.tdiv r.1 (rd l 0)), true) else (0, false)).1 = some true := by
  intro k hk
  obtain ⟨k, rfl⟩ : ∃ m, k = m + 1 := ⟨k - 1, by omega⟩
  rw [laws_FnGearsMeet.j5]
  by_cases hq : r.2 = true
  · obtain ⟨h1, h2, h3, h4⟩ := hr hq
    have hb := trainOk_true h1
    have hr0 := hb.2.2 0 (by omega) (by omega)
    rw [if_pos hq, if_pos hq, if_neg (by omega), if_pos (by omega)]
    obtain ⟨t, ht⟩ := h4 0 (by omega) (by omega)
    have et : Int.tdiv r.1 (rd l 0) = t := by rw [ht]; exact Int.mul_tdiv_cancel_left _ (by omega)
    have ht0 : 0 ≤ t := by
      rcases Int.lt_or_le t 0 with h | h
      · have : rd l 0 * t ≤ rd l 0 * (-1) := Int.mul_le_mul_of_nonneg_left (by omega) (by omega)
        omega
      · exact h
    have ht1 : t ≤ 1000000000000 := by
      have : 1 * t ≤ rd l 0 * t := Int.mul_le_mul_of_nonneg_right (by omega) (by omega)
      omega
    simp only
    rw [et, wrap_id (x := t) (by omega) (by omega), Int.mul_comm, ← ht, wrap_id (x := r.1) (by omega) (by omega), if_pos rfl]
    exact meet_l1 l r.1 h1 h2 h4 l.length k 0 (by omega) (by omega) (by omega)
  · rw [if_neg hq]
theorem meet_l0 (l : List Int) (a : Int) (o p lH rH : List Int) (okH : Bool) (lP : List Int) (n : Int) (okP : Bool) (least : Int) (K : Nat) (hj : ∀ k, K ≤ k → laws_FnGearsMeet.j4 k lH rH okH lP n okP least = some true)
    (h : trainOk l = true) (ha : -1000 ≤ a ∧ a ≤ 1000) (ho : o.length = l.length) (hp : p.length = l.length) (ht : ∀ j : Int, 0 ≤ j → j < l.length → turnOk l (a * rd l 0) j (rd o j) (rd p j)) (d : Nat) :
    ∀ (k : Nat) (i : Int), 0 ≤ i → i + d = l.length → K + d < k → laws_FnGearsMeet.l0 k l a p lH rH okH lP n okP least (sn i) o (o.length : Int) i = some true := by
  have hb := trainOk_true h
  have hr0 := hb.2.2 0 (by omega) (by omega)
  induction d with
  | zero =>
    intro k i h0 hi hk
    obtain ⟨k, rfl⟩ : ∃ m, k = m + 1 := ⟨k - 1, by omega⟩
    rw [laws_FnGearsMeet.l0, if_neg (by omega)]
    exact hj k (by omega)
  | succ d ih =>
    intro k i h0 hi hk
    obtain ⟨k, rfl⟩ : ∃ m, k = m + 1 := ⟨k - 1, by omega⟩
    obtain ⟨t1, t2, t3, t4, t5⟩ := ht i h0 (by omega)
    have hM : -300000 ≤ a * rd l 0 ∧ a * rd l 0 ≤ 300000 := by
      have h1 : a * rd l 0 ≤ 1000 * rd l 0 := Int.mul_le_mul_of_nonneg_right ha.2 (by omega)
      have h2 : -1000 * rd l 0 ≤ a * rd l 0 := Int.mul_le_mul_of_nonneg_right ha.1 (by omega)
      omega
    have hsn : sn i = 1 ∨ sn i = -1 := by unfold sn; split <;> omega
    have w1 : wrap64 (sn i * a) = sn i * a := by rcases hsn with e | e <;> rw [e] <;> refine wrap_id ?_ ?_ <;> omega
    have w2 : wrap64 (sn i * a * rd l 0) = sn i * (a * rd l 0) := by
      rw [Int.mul_assoc]
      rcases hsn with e | e <;> rw [e] <;> refine wrap_id ?_ ?_ <;> omega
    rw [laws_FnGearsMeet.l0, if_pos (show i < (o.length : Int) by omega), if_pos h0, if_pos (show i < (o.length : Int) by omega), if_pos (show i < (p.length : Int) by omega), if_neg (show ¬ rd p i < 1 by omega), if_pos (show i < (l.length : Int) by omega), if_pos (show 0 < (l.length : Int) by omega), w1, w2, t5, if_pos rfl, sn_next h0, wrap_id (x := i + 1) (by omega) (by omega)]
    exact ih k (i + 1) (by omega) (by omega) (by omega)
theorem meet_j2 {s : List Int} (hs : Bytes s) : ∃ K, ∀ k, K ≤ k → laws_FnGearsMeet.j2 k s = some true := by
  obtain ⟨lT, aT, hT1, hT⟩ := drawTurnsU hs
  obtain ⟨lH, aH, hH1, hH⟩ := drawTeethU hs
  obtain ⟨lP, hP1, hP⟩ := drawPeriodU hs
  obtain ⟨lG, mG, hG1, hG2, hG⟩ := drawGear hs
  obtain ⟨o, p, ho, hp, hop, hopr⟩ := trainTurns lT aT (by omega)
  obtain ⟨r, hr, hrt, hrr⟩ := trainTeeth lH aH (by omega)
  obtain ⟨z, hz, hzz⟩ := period2 lP (by omega)
  obtain ⟨g, Kg, hg⟩ := inGear_both lG mG (by omega) (by omega)
  have hin : ∃ Kt, (trainOk lH && inR aH 0 1000000) = true → ∀ k, Kt ≤ k → impl_AreInGear.f k lH r = some (true, true) := by
    by_cases hq : (trainOk lH && inR aH 0 1000000) = true
    · obtain ⟨h1, h2⟩ := hrt hq
      simp only [Bool.and_eq_true, inR_true] at hq
      obtain ⟨K, hk⟩ := inGear_teeth hq.1 h1 (by omega) h2
      exact ⟨K, fun _ => hk⟩
    · exact ⟨0, fun h => absurd h hq⟩
  obtain ⟨Kt, hin⟩ := hin
  have hj5 : ∀ k, 1060000 + Kt ≤ k → laws_FnGearsMeet.j4 k lH r (trainOk lH && inR aH 0 1000000) lP z.1 z.2 (if z.2 = true then (wrap64 (Int.tdiv z.1 (rd lP 0)), true) else (0, false)).1 = some true := by
    intro k hk
    obtain ⟨k, rfl⟩ : ∃ m, k = m + 1 := ⟨k - 1, by omega⟩
    rw [laws_FnGearsMeet.j4]
    by_cases hq : (trainOk lH && inR aH 0 1000000) = true
    · obtain ⟨h1, h2⟩ := hrt hq
      rw [if_pos hq, hin hq k (by omega)]
      simp only [Option.bind_some, if_true]
      rw [if_pos (by omega)]
      exact meet_j6 lP z hz k (by omega)
    · rw [if_neg hq]
      exact meet_j6 lP z hz k (by omega)
  refine ⟨1200000 + Kt + Kg, ?_⟩
  intro k hk
  obtain ⟨k, rfl⟩ : ∃ m, k = m + 1 := ⟨k - 1, by omega⟩
  rw [laws_FnGearsMeet.j2, hT _ (by omega)]
  simp only [Option.bind_some]
  rw [(hopr _ (by omega)).2]
  simp only [Option.bind_some]
  rw [(hopr _ (by omega)).1]
  simp only [Option.bind_some]
  rw [hH _ (by omega)]
  simp only [Option.bind_some]
  rw [(hrr _ (by omega)).2]
  simp only [Option.bind_some]
  rw [(hrr _ (by omega)).1]
  simp only [Option.bind_some]
  rw [hP _ (by omega)]
  simp only [Option.bind_some]
  rw [(hzz _ (by omega)).2.1]
  simp only [Option.bind_some]
  rw [(hzz _ (by omega)).1]
  simp only [Option.bind_some]
  rw [(hzz _ (by omega)).2.2.2]
  simp only [Option.bind_some]
  rw [(hzz _ (by omega)).2.2.1]
  simp only [Option.bind_some]
  rw [hG _ (by omega)]
  simp only [Option.bind_some]
  rw [(hg _ (by omega)).2]
  simp only [Option.bind_some]
  rw [(hg _ (by omega)).1]
  simp only [Option.bind_some, bne_self_eq_false, Bool.false_eq_true, if_false, if_true]
  rw [uSame_self (by omega) (by omega)]
  simp only [Option.bind_some, if_true]
  rw [uSame_self (by omega) (by omega)]
  simp only [Option.bind_some, if_true]
  rw [uSame_self (by omega) (by omega)]
  simp only [Option.bind_some, if_true]
  have ez : ((if z.2 = true then (wrap64 (Int.tdiv z.1 (rd lP 0)), true) else ((0 : Int), false)).2 != z.2) = false := by
    by_cases h : z.2 = true
    · rw [if_pos h, h]; rfl
    · rw [if_neg h]; simp only [Bool.not_eq_true] at h; rw [h]; rfl
  rw [ez, if_neg (by decide)]
  by_cases hq : (trainOk lT && inR aT (-1000) 1000) = true
  · obtain ⟨h1, h2, h3⟩ := hop hq
    rw [if_pos hq]
    simp only [Bool.and_eq_true, inR_true] at hq
    have := meet_l0 lT aT o p lH r (trainOk lH && inR aH 0 1000000) lP z.1 z.2 _ (1060000 + Kt) hj5 hq.1 hq.2 h1 h2 h3 lT.length k 0 (by omega) (by omega) (by have := (trainOk_true hq.1).2.1; omega)
    exact this
  · rw [if_neg hq]
    exact hj5 k (by omega)
theorem FnGearsMeet : laws_FnGearsMeet.Pure := by
  intro l0 l1 _ _ hw0 _ _ hw1
  by_cases hl : (l0.length : Int) > 1048576
  · refine ⟨0, ?_⟩
    unfold laws_FnGearsMeet.f laws_big.f
    rw [if_pos hl]; rfl
  by_cases hl1 : (l1.length : Int) > 1048576 - l0.length
  · refine ⟨0, ?_⟩
    unfold laws_FnGearsMeet.f laws_big.f
    rw [if_neg hl, wrap_id (by omega) (by omega), decide_eq_true hl1]; rfl
  have hs0 := Bytes.of (by omega) hw0
  have hs1 := Bytes.of (by omega) hw1
  obtain ⟨K, hj2⟩ := meet_j2 hs1
  obtain ⟨n, m, a, b, hd⟩ := drawMeet hs0 (k := 10) (by omega)
  have hd := up (fun k => spec_DrawFirstMeeting.mono l0 k) hd
  obtain ⟨r, hr, hrr⟩ := meeting_told n m a b
  have hlen := mof_len n m a
  refine ⟨K + 3000 + 1 + 1, ?_⟩
  unfold laws_FnGearsMeet.f laws_big.f
  rw [if_neg hl, wrap_id (by omega) (by omega), decide_eq_false hl1]
  simp only [Option.bind_some, Bool.false_eq_true, if_false]
  rw [hd _ (by omega)]
  simp only [Option.bind_some]
  rw [(hrr _ (by omega)).2.1]
  simp only [Option.bind_some]
  rw [(hrr _ (by omega)).1]
  simp only [Option.bind_some]
  rw [(hrr 500 (by omega)).2.2.2]
  simp only [Option.bind_some]
  rw [(hrr _ (by omega)).2.2.1]
  simp only [Option.bind_some]
  rw [mofI]
  simp only [Option.bind_some]
  rw [mofS _ _ _ (by omega)]
  simp only [Option.bind_some, bne_self_eq_false, Bool.false_eq_true, if_false, if_true]
  rw [uSame_self (by omega) (by omega)]
  simp only [Option.bind_some, if_true]
  by_cases ht : teethOk n m a b = true
  · obtain ⟨h1, h2, h3, h4, h5⟩ := mof_ok ht
    have hr := hr ht
    have hq := ht
    unfold teethOk at hq
    have hgk : gearOk n m = true := by simp only [Bool.and_eq_true] at hq; exact hq.1.1
    simp only [Bool.and_eq_true, inR_true] at hq
    obtain ⟨g, p, q, x, y, e, hp, hqq, hg, hq0, hqp, hpn, ep, eq, hxy, b1, b2, b3, b4⟩ := gear_num hgk
    have hj1 : ∀ k, K + 1000 ≤ k → laws_FnGearsMeet.j1 k l1 n m true (mofR n m a).1 = some true := by
      intro k hk
      obtain ⟨k, rfl⟩ : ∃ m, k = m + 1 := ⟨k - 1, by omega⟩
      rw [laws_FnGearsMeet.j1, if_pos rfl, petals_i, if_pos hgk]
      simp only [Option.bind_some, if_true]
      rw [uRises_f (by omega) h4 (by omega)]
      simp only [Option.bind_some, if_true]
      rw [h3, e, ep, eq, if_pos (by congr 1; rw [hp, hqq]; grind)]
      exact hj2 k (by omega)
    rw [ht, h1]
    simp only [if_true, Bool.true_and, bne_self_eq_false, Bool.false_eq_true, if_false]
    rw [uHas_f b (by omega) (by omega), h5]
    simp only [Option.bind_some, bne_self_eq_false]
    rw [laws_FnGearsMeet.j0, if_neg (by decide)]
    by_cases hz : (Int.tmod (a - b) (gcdGo n m) == 0) = true
    · obtain ⟨g1, g2, g3, g4⟩ := hr hz
      rw [e, eq] at g4
      have hqn : q * n ≤ 300 * 300 := Int.mul_le_mul (by omega) (by omega) (by omega) (by omega)
      have hT : impl_TeethAt.f n m r = some (a, b, true) := by
        unfold impl_TeethAt.f
        rw [areGears_one, isSteps_eq, hgk]
        simp only [Option.bind_some, if_true]
        rw [if_pos (inR_true.2 (by omega)), if_neg (by omega), if_neg (by omega), Int.tmod_eq_emod_of_nonneg g1, Int.tmod_eq_emod_of_nonneg g1, g2, g3]
      rw [if_pos hz, hT]
      simp only [Option.bind_some]
      rw [rounds_i, if_pos hgk]
      simp only [Option.bind_some, if_true]
      rw [e, eq, wrap_id (x := q * n) (by omega) (by omega), if_neg (by omega)]
      exact hj1 _ (by omega)
    · rw [if_neg hz]
      exact hj1 _ (by omega)
  · simp only [Bool.not_eq_true] at ht
    rw [ht]
    simp only [Bool.false_and, Bool.false_eq_true, if_false, bne_self_eq_false]
    rw [laws_FnGearsMeet.j0, if_neg (by decide), if_neg (by decide), laws_FnGearsMeet.j1, if_neg (by decide)]
    exact hj2 _ (by omega)

end Go.Proofs.Ytafjmkjljhiigaa.Pure
