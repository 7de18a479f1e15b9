/- What is proved: the pure statement of the law FnExactMeetingOf, about numbers and lists alone; no condition. -/
import Derived.Test.YteielocamgkabaaPx7
namespace Go.Proofs.Yteielocamgkabaa.Pure
open Go.RowKit Go.Proofs.Yteielocamgkabaa.P Go.Proofs.YteielocamgkabaaW.PrintWords Go.Proofs.YteielocamgkabaaW.PrintLast
set_option linter.unusedVariables false
set_option linter.unusedSimpArgs false

/-- A number from lo to hi. -/
def rg (n lo hi : Int) : Bool := decide (lo ≤ n ∧ n ≤ hi)
theorem rg_true {n lo hi : Int} : rg n lo hi = true ↔ lo ≤ n ∧ n ≤ hi := by simp [rg]
theorem l1In_rg (n lo hi : Int) : spec_l1In.f n lo hi = some (rg n lo hi) := by
  unfold spec_l1In.f rg
  by_cases h : n ≥ lo
  · rw [if_pos h]; congr 1; simp only [decide_eq_decide]; omega
  · rw [if_neg h]; congr 1; exact (decide_eq_false (by omega)).symm
theorem within_rg (n lo hi : Int) : impl_within.f n lo hi = some (rg n lo hi) := by
  unfold impl_within.f rg
  by_cases h : n ≥ lo
  · rw [if_pos h]; congr 1; simp only [decide_eq_decide]; omega
  · rw [if_neg h]; congr 1; exact (decide_eq_false (by omega)).symm
/-- A thread. -/
def thrOk (a b : Int) : Bool := rg a 1 100 && rg b 1 100
theorem thrOk_true {a b : Int} : thrOk a b = true ↔ 1 ≤ a ∧ a ≤ 100 ∧ 1 ≤ b ∧ b ≤ 100 := by
  simp only [thrOk, Bool.and_eq_true, rg_true]; omega
theorem sgThread_eq (a b : Int) : spec_sgThread.f a b = some (thrOk a b) := by
  unfold spec_sgThread.f thrOk
  rw [l1In_rg, l1In_rg]
  cases rg a 1 100 <;> rfl
theorem isThread_eq (a b : Int) : impl_isThread.f a b = some (thrOk a b) := by
  unfold impl_isThread.f thrOk
  rw [within_rg, within_rg]
  cases rg a 1 100 <;> rfl
theorem wrap_id {x : Int} (h : -9000000000000000000 ≤ x) (h2 : x ≤ 9000000000000000000) : wrap64 x = x := by unfold wrap64; omega
theorem gcdGo_pos {a b : Int} (ha : 0 ≤ a) (hb : 0 < b) : 1 ≤ gcdGo a b ∧ gcdGo a b ≤ b := by
  rw [gcdGo_of ha (by omega)]
  have h1 : 0 < Nat.gcd a.toNat b.toNat := Nat.gcd_pos_of_pos_right _ (by omega)
  have h2 : Nat.gcd a.toNat b.toNat ≤ b.toNat := Nat.le_of_dvd (by omega) (Nat.gcd_dvd_right _ _)
  omega
/-- A fraction in lowest terms, as both sides tell it. -/
def lowOf (n d : Int) : Int × Int := (wrap64 (Int.tdiv n (gcdGo n d)), wrap64 (Int.tdiv d (gcdGo n d)))
theorem sgLow_eq {n d : Int} (hn : 0 ≤ n) (hd : 0 < d) : spec_sgLow.f n d = some (lowOf n d) := by
  have := gcdGo_pos hn hd
  unfold spec_sgLow.f spec_srCommon.f
  simp only [Option.bind_some]
  rw [if_neg (by omega)]; rfl
theorem lowest_pos {n d : Int} (hn : 0 ≤ n) (hd : 0 < d) : impl_lowest.f n d = some (lowOf n d) := by
  have := gcdGo_pos hn hd
  unfold impl_lowest.f impl_divisor.f
  simp only [Option.bind_some]
  rw [if_neg (by omega), if_neg (by omega)]; rfl
theorem lowest_neg {n d : Int} (hn : 0 ≤ -n) (hd : 0 < -d) (hn2 : -n ≤ 1000000000) (hd2 : -d ≤ 1000000000) : impl_lowest.f n d = some (lowOf (-n) (-d)) := by
  have := gcdGo_pos hn hd
  unfold impl_lowest.f impl_divisor.f
  rw [wrap_id (x := -n) (by omega) (by omega), wrap_id (x := -d) (by omega) (by omega)]
  simp only [Option.bind_some]
  rw [if_pos (by omega), if_neg (by omega)]; rfl
theorem mul_bd {a b A B : Int} (ha : 0 ≤ a) (haA : a ≤ A) (hb : 0 ≤ b) (hbB : b ≤ B) : 0 ≤ a * b ∧ a * b ≤ A * B :=
  ⟨Int.mul_nonneg ha hb, Int.mul_le_mul haA hbB hb (by omega)⟩
/-- Threads that cross. -/
def crossB (a b c d : Int) : Bool := decide (a > c ∧ b < d ∨ a < c ∧ b > d)
theorem sgMeet_eq (a b c d : Int) : spec_sgMeet.f a b c d = some (crossB a b c d) := by
  unfold spec_sgMeet.f crossB
  repeat' split
  all_goals (congr 1; first | (rw [eq_comm, decide_eq_true_iff]; omega) | (rw [eq_comm, decide_eq_false_iff_not]; omega) | (rw [decide_eq_decide]; omega))
theorem doMeetT_eq (a b c d : Int) : impl_doThreadsMeet.f a b c d = some (crossB a b c d) := by
  unfold impl_doThreadsMeet.f crossB
  repeat' split
  all_goals (congr 1; first | (rw [eq_comm, decide_eq_true_iff]; omega) | (rw [eq_comm, decide_eq_false_iff_not]; omega) | (rw [decide_eq_decide]; omega))
theorem crossB_true {a b c d : Int} : crossB a b c d = true ↔ a > c ∧ b < d ∨ a < c ∧ b > d := by simp [crossB]
/-- Where two threads meet. -/
theorem meeting_both {a b c d : Int} (h : thrOk a b = true) (h' : thrOk c d = true) (hx : crossB a b c d = true) : ∃ p q : Int × Int, spec_sgMeeting.f a b c d = some [p.1, p.2, q.1, q.2] ∧ impl_meeting.f a b c d = some [p.1, p.2, q.1, q.2] := by
  have hb := thrOk_true.1 h
  have hd := thrOk_true.1 h'
  rcases crossB_true.1 hx with h1 | h1
  · -- a > c, b < d
    have m1 := mul_bd (a := a) (b := d) (A := 100) (B := 100) (by omega) (by omega) (by omega) (by omega)
    have m2 := mul_bd (a := c) (b := b) (A := 100) (B := 100) (by omega) (by omega) (by omega) (by omega)
    have m3 := mul_bd (a := c) (b := a) (A := 100) (B := 100) (by omega) (by omega) (by omega) (by omega)
    have m4 := mul_bd (a := d) (b := b) (A := 100) (B := 100) (by omega) (by omega) (by omega) (by omega)
    have m5 := mul_bd (a := c * a) (b := d - b) (A := 10000) (B := 100) (by omega) (by omega) (by omega) (by omega)
    have m6 := mul_bd (a := d * b) (b := a - c) (A := 10000) (B := 100) (by omega) (by omega) (by omega) (by omega)
    have m7 := mul_bd (a := d - b) (b := a) (A := 100) (B := 100) (by omega) (by omega) (by omega) (by omega)
    have m8 := mul_bd (a := a - c) (b := b) (A := 100) (B := 100) (by omega) (by omega) (by omega) (by omega)
    have hden : 0 < a * d - c * b := by
      have i1 : c * d < a * d := Int.mul_lt_mul_of_pos_right (by omega) (by omega)
      have i2 : c * b < c * d := Int.mul_lt_mul_of_pos_left (by omega) (by omega)
      omega
    have e1 : (d - b) * a * c = c * a * (d - b) := by grind
    have e2 : (a - c) * b * d = d * b * (a - c) := by grind
    have e3 : b * c = c * b := Int.mul_comm _ _
    refine ⟨lowOf (c * a * (d - b)) (a * d - c * b), lowOf (d * b * (a - c)) (a * d - c * b), ?_, ?_⟩
    · unfold spec_sgMeeting.f
      rw [if_pos h1.1, wrap_id (x := c * a) (by omega) (by omega), wrap_id (x := d - b) (by omega) (by omega), wrap_id (x := a * d) (by omega) (by omega), wrap_id (x := c * b) (by omega) (by omega), wrap_id (x := d * b) (by omega) (by omega), wrap_id (x := a - c) (by omega) (by omega),
        wrap_id (x := c * a * (d - b)) (by omega) (by omega), wrap_id (x := d * b * (a - c)) (by omega) (by omega), wrap_id (x := a * d - c * b) (by omega) (by omega), sgLow_eq m5.1 hden]
      simp only [Option.bind_some]
      rw [sgLow_eq m6.1 hden]; rfl
    · unfold impl_meeting.f
      rw [e3, wrap_id (x := d - b) (by omega) (by omega), wrap_id (x := (d - b) * a) (by omega) (by omega), wrap_id (x := (d - b) * a * c) (by omega) (by omega), wrap_id (x := a - c) (by omega) (by omega), wrap_id (x := (a - c) * b) (by omega) (by omega), wrap_id (x := (a - c) * b * d) (by omega) (by omega),
        wrap_id (x := a * d) (by omega) (by omega), wrap_id (x := c * b) (by omega) (by omega), wrap_id (x := a * d - c * b) (by omega) (by omega), e1, e2, lowest_pos m5.1 hden]
      simp only [Option.bind_some]
      rw [lowest_pos m6.1 hden]; rfl
  · -- a < c, b > d
    have m1 := mul_bd (a := c) (b := b) (A := 100) (B := 100) (by omega) (by omega) (by omega) (by omega)
    have m2 := mul_bd (a := a) (b := d) (A := 100) (B := 100) (by omega) (by omega) (by omega) (by omega)
    have m3 := mul_bd (a := a) (b := c) (A := 100) (B := 100) (by omega) (by omega) (by omega) (by omega)
    have m4 := mul_bd (a := b) (b := d) (A := 100) (B := 100) (by omega) (by omega) (by omega) (by omega)
    have m5 := mul_bd (a := a * c) (b := b - d) (A := 10000) (B := 100) (by omega) (by omega) (by omega) (by omega)
    have m6 := mul_bd (a := b * d) (b := c - a) (A := 10000) (B := 100) (by omega) (by omega) (by omega) (by omega)
    have m7 := mul_bd (a := b - d) (b := a) (A := 100) (B := 100) (by omega) (by omega) (by omega) (by omega)
    have m8 := mul_bd (a := c - a) (b := b) (A := 100) (B := 100) (by omega) (by omega) (by omega) (by omega)
    have hden : 0 < c * b - a * d := by
      have i1 : a * b < c * b := Int.mul_lt_mul_of_pos_right (by omega) (by omega)
      have i2 : a * d < a * b := Int.mul_lt_mul_of_pos_left (by omega) (by omega)
      omega
    have e1 : (d - b) * a * c = -(a * c * (b - d)) := by grind
    have e2 : (a - c) * b * d = -(b * d * (c - a)) := by grind
    have e3 : b * c = c * b := Int.mul_comm _ _
    have e4 : (d - b) * a = -((b - d) * a) := by grind
    have e5 : (a - c) * b = -((c - a) * b) := by grind
    refine ⟨lowOf (a * c * (b - d)) (c * b - a * d), lowOf (b * d * (c - a)) (c * b - a * d), ?_, ?_⟩
    · unfold spec_sgMeeting.f
      rw [if_neg (by omega), wrap_id (x := a * c) (by omega) (by omega), wrap_id (x := b - d) (by omega) (by omega), wrap_id (x := c * b) (by omega) (by omega), wrap_id (x := a * d) (by omega) (by omega), wrap_id (x := b * d) (by omega) (by omega), wrap_id (x := c - a) (by omega) (by omega),
        wrap_id (x := a * c * (b - d)) (by omega) (by omega), wrap_id (x := b * d * (c - a)) (by omega) (by omega), wrap_id (x := c * b - a * d) (by omega) (by omega), sgLow_eq m5.1 hden]
      simp only [Option.bind_some]
      rw [sgLow_eq m6.1 hden]; rfl
    · unfold impl_meeting.f
      rw [e3, wrap_id (x := d - b) (by omega) (by omega), wrap_id (x := (d - b) * a) (by omega) (by omega), wrap_id (x := (d - b) * a * c) (by omega) (by omega), wrap_id (x := a - c) (by omega) (by omega), wrap_id (x := (a - c) * b) (by omega) (by omega), wrap_id (x := (a - c) * b * d) (by omega) (by omega),
        wrap_id (x := a * d) (by omega) (by omega), wrap_id (x := c * b) (by omega) (by omega), wrap_id (x := a * d - c * b) (by omega) (by omega), e1, e2,
        lowest_neg (by omega) (by omega) (by omega) (by omega)]
      simp only [Option.bind_some]
      rw [lowest_neg (by omega) (by omega) (by omega) (by omega)]
      simp only [Option.bind_some, Int.neg_neg]
      rw [show -(a * d - c * b) = c * b - a * d by omega]
theorem eqIntS_l0 (l : List Int) (hl : (l.length : Int) ≤ 1000000000000) : ∀ (d k : Nat) (i : Int), 0 ≤ i → i + d = l.length → d < k → laws_eqIntS.l0 k l l i = some true
  | 0, k + 1, i, h0, hi, _ => by
    unfold laws_eqIntS.l0
    rw [if_neg (by omega)]
  | d + 1, k + 1, i, h0, hi, hk => by
    unfold laws_eqIntS.l0
    rw [if_pos (by omega), if_pos h0, if_pos (by omega), if_pos rfl, wrap_id (by omega) (by omega)]
    exact eqIntS_l0 l hl d k (i + 1) (by omega) (by omega) (by omega)
theorem eqIntS_self {l : List Int} (hl : (l.length : Int) ≤ 1000000000000) {k : Nat} (hk : l.length < k) : laws_eqIntS.f k l l = some true := by
  unfold laws_eqIntS.f
  rw [if_pos rfl]
  exact eqIntS_l0 l hl l.length k 0 (by omega) (by omega) hk
/-- a, a + 1, .. -/
def marks (a : Int) : Nat → List Int
  | 0 => []
  | n + 1 => a :: marks (a + 1) n
theorem marks_len (a : Int) (n : Nat) : (marks a n).length = n := by
  induction n generalizing a with
  | zero => rfl
  | succ n ih => simp [marks, ih]

theorem rd_drop {l : List Int} {i : Int} {x : Int} {r : List Int} (h0 : 0 ≤ i) (h : l.drop i.toNat = x :: r) : rd l i = x ∧ l.drop (i + 1).toNat = r ∧ i.toNat < l.length := by
  have hl : i.toNat < l.length := by
    rcases Nat.lt_or_ge i.toNat l.length with h1 | h1
    · exact h1
    · rw [List.drop_eq_nil_of_le h1] at h; cases h
  have h3 := List.drop_eq_getElem_cons hl
  rw [h3] at h
  injection h with h4 h5
  refine ⟨by simp [rd, List.getD_eq_getElem?_getD, List.getElem?_eq_getElem hl, h4], ?_, hl⟩
  rw [show (i + 1).toNat = i.toNat + 1 by omega]; exact h5
theorem markIntS_l0 : ∀ (d k : Nat) (l : List Int) (a i : Int), 0 ≤ i → i + d = l.length → d < k → (l.length : Int) ≤ 1000000000000 → -1000000000000 ≤ a → a + d ≤ 3000000000000 → laws_markIntS.l0 k l a i = some (a + d, l.take i.toNat ++ marks a d)
  | 0, k + 1, l, a, i, h0, hi, _, hl, ha, hb => by
    unfold laws_markIntS.l0
    rw [if_neg (by omega), List.take_of_length_le (by omega)]
    simp [marks]
  | d + 1, k + 1, l, a, i, h0, hi, hk, hl, ha, hb => by
    unfold laws_markIntS.l0
    rw [if_pos (by omega), if_pos h0, wrap_id (by omega) (by omega), wrap_id (by omega) (by omega)]
    rw [markIntS_l0 d k (l.set i.toNat a) (a + 1) (i + 1) (by omega) (by rw [List.length_set]; omega) (by omega) (by rw [List.length_set]; omega) (by omega) (by omega)]
    have e : (l.set i.toNat a).take (i + 1).toNat = l.take i.toNat ++ [a] := by
      rw [show (i + 1).toNat = i.toNat + 1 by omega, List.take_succ_eq_append_getElem (by rw [List.length_set]; omega), List.take_set_of_le (Nat.le_refl _)]
      simp
    rw [e]
    simp only [marks, List.append_assoc, List.singleton_append]
    congr 2
    omega
theorem markIntS_f {l : List Int} (hl : (l.length : Int) ≤ 1000000000000) {k : Nat} (hk : l.length < k) {a : Int} (ha : -1000000000000 ≤ a) (hb : a ≤ 2000000000000) : laws_markIntS.f k l a = some (a + l.length, marks a l.length) := by
  unfold laws_markIntS.f
  rw [markIntS_l0 l.length k l a 0 (by omega) (by omega) hk hl ha (by omega)]
  simp
theorem heldIntS_l0 : ∀ (d k : Nat) (l : List Int) (a i : Int), 0 ≤ i → i + d = l.length → l.drop i.toNat = marks a d → d < k → (l.length : Int) ≤ 1000000000000 → -1000000000000 ≤ a → a + d ≤ 3000000000000 → laws_heldIntS.l0 k l a i = some (a + d)
  | 0, k + 1, l, a, i, h0, hi, _, _, hl, ha, hb => by
    unfold laws_heldIntS.l0
    rw [if_neg (by omega)]
    simp
  | d + 1, k + 1, l, a, i, h0, hi, hd, hk, hl, ha, hb => by
    obtain ⟨e1, e2, e3⟩ := rd_drop h0 (show l.drop i.toNat = a :: marks (a + 1) d from hd)
    unfold laws_heldIntS.l0
    rw [if_pos (by omega), if_pos h0, if_pos e1, wrap_id (by omega) (by omega), wrap_id (by omega) (by omega)]
    rw [heldIntS_l0 d k l (a + 1) (i + 1) (by omega) (by omega) e2 (by omega) hl (by omega) (by omega)]
    congr 1
    omega
theorem heldIntS_f {n k : Nat} (hn : (n : Int) ≤ 1000000000000) (hk : n < k) {a : Int} (ha : -1000000000000 ≤ a) (hb : a ≤ 2000000000000) : laws_heldIntS.f k (marks a n) a = some (a + n) := by
  unfold laws_heldIntS.f
  exact heldIntS_l0 n k (marks a n) a 0 (by omega) (by rw [marks_len]; omega) (by simp) hk (by rw [marks_len]; exact hn) ha (by omega)
theorem meetingOf_both (a b c d : Int) : ∃ r : List Int × Bool, (r.1.length : Int) ≤ 4 ∧ spec_MeetingOf.f a b c d = some r ∧ impl_MeetingOf.f a b c d = some r := by
  unfold spec_MeetingOf.f impl_MeetingOf.f impl_DoThreadsMeet.f
  rw [sgThread_eq, isThread_eq]
  simp only [Option.bind_some]
  by_cases h : thrOk a b = true
  · rw [h]
    simp only [if_true]
    rw [sgThread_eq, isThread_eq]
    simp only [Option.bind_some]
    by_cases h' : thrOk c d = true
    · rw [h']
      simp only [if_true]
      rw [sgMeet_eq, doMeetT_eq]
      simp only [Option.bind_some, if_true]
      by_cases hx : crossB a b c d = true
      · obtain ⟨p, q, e1, e2⟩ := meeting_both h h' hx
        rw [hx, e1, e2]
        exact ⟨_, by simp, rfl, rfl⟩
      · simp only [Bool.not_eq_true] at hx
        rw [hx]
        exact ⟨_, by simp, rfl, rfl⟩
    · simp only [Bool.not_eq_true] at h'
      rw [h']
      exact ⟨_, by simp, rfl, rfl⟩
  · simp only [Bool.not_eq_true] at h
    rw [h]
    exact ⟨_, by simp, rfl, rfl⟩
theorem FnExactMeetingOf : ∀ (a0_0 : Int) (a0_1 : Int) (a1_0 : Int) (a1_1 : Int), (Lit.int .i64 a0_0).wf = true → (Lit.int .i64 a0_1).wf = true → (Lit.int .i64 a1_0).wf = true → (Lit.int .i64 a1_1).wf = true → ∃ k, laws_FnExactMeetingOf.f k a0_0 a0_1 a1_0 a1_1 = some true := by
  intro a b c d _ _ _ _
  obtain ⟨r, hl, hs, hi⟩ := meetingOf_both a b c d
  obtain ⟨k, hk⟩ : ∃ k : Nat, k = 10 := ⟨_, rfl⟩
  refine ⟨k + 1 + 1, ?_⟩
  unfold laws_FnExactMeetingOf.f laws_toThread.f
  simp only [Option.bind_some]
  rw [hs, hi]
  simp only [Option.bind_some]
  rw [eqIntS_self (by omega) (by omega)]
  simp only [Option.bind_some, if_true, bne_self_eq_false]
  rw [laws_FnExactMeetingOf.j0, if_neg (by decide), markIntS_f (by omega) (by omega) (by omega) (by omega)]
  simp only [Option.bind_some]
  rw [heldIntS_f (by omega) (by omega) (by omega) (by omega)]
  simp only [Option.bind_some]
  rw [if_neg (by omega)]
  simp only [if_true]
  unfold laws_toThread.f
  simp only [Option.bind_some]
  rw [hi]
  simp only [Option.bind_some]
  rw [eqIntS_self (by omega) (by omega)]
  simp only [Option.bind_some, if_true, bne_self_eq_false]
  rw [laws_FnExactMeetingOf.j1, if_neg (by decide), heldIntS_f (by omega) (by omega) (by omega) (by omega)]
  simp only [Option.bind_some]
  rw [if_neg (by omega)]
  simp only [if_true]

end Go.Proofs.Yteielocamgkabaa.Pure
