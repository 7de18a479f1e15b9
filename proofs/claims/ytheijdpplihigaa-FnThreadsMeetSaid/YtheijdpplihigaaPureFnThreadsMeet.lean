/- What is proved: the pure statement of the law FnThreadsMeet, about numbers and lists alone; no condition. -/
import Derived.Test.YtheijdpplihigaaPx18
import Derived.WalkSmall
namespace Go.Proofs.Ytheijdpplihigaa.Pure
open Go.RowKit Go.Proofs.Ytheijdpplihigaa.P Go.Proofs.YtheijdpplihigaaW.PrintWords Go.Proofs.YtheijdpplihigaaW.PrintLast
set_option linter.unusedVariables false
set_option linter.unusedSimpArgs false

theorem wrap_id {x : Int} (h : -9000000000000000000 ≤ x) (h2 : x ≤ 9000000000000000000) : wrap64 x = x := by unfold wrap64; omega
theorem u64w (x : Int) : 0 ≤ IntKind.u64.wrap x ∧ IntKind.u64.wrap x ≤ 18446744073709551615 := by
 have e : IntKind.u64.wrap x = x % 18446744073709551616 := rfl
 rw [e]; omega
theorem byte_and {x : Int} (h0 : 0 ≤ x) (h1 : x ≤ 18446744073709551615) : 0 ≤ Go.bits .and .u64 x 255 ∧ Go.bits .and .u64 x 255 ≤ 255 := by
 have h := Go.bits_and_u64_nat x.toNat 255 (by omega) (by omega)
 rw [Int.toNat_of_nonneg h0] at h
 have h2 : x.toNat &&& 255 ≤ 255 := Nat.and_le_right
 have h3 : Go.bits .and .u64 x 255 = ((x.toNat &&& 255 : Nat) : Int) := h
 rw [h3]; omega
/-- Bytes. -/
def Bytes (s : List Int) : Prop := (s.length : Int) ≤ 1048576 ∧ ∀ x ∈ s, 0 ≤ x ∧ x ≤ 255
theorem Bytes.at {s : List Int} (h : Bytes s) {i : Int} (h0 : 0 ≤ i) (h1 : i < s.length) : 0 ≤ rd s i ∧ rd s i ≤ 255 := by
 have : rd s i = s[i.toNat]'(by omega) := by
  simp [rd, List.getD_eq_getElem?_getD, List.getElem?_eq_getElem (show i.toNat < s.length by omega)]
 rw [this]; exact h.2 _ (List.getElem_mem _)
theorem Bytes.of {s : List Int} (hl : (s.length : Int) ≤ 1048576) (h : ∀ x ∈ s, (Lit.int .u8 x).wf = true) : Bytes s := by
 refine ⟨hl, fun x hx => ?_⟩
 have := h x hx
 have e0 : IntKind.u8.min = 0 := rfl
 have e1 : IntKind.u8.max = 255 := rfl
 simp [Lit.wf] at this
 omega
theorem next_tot {s : List Int} (hs : Bytes s) {a sd : Int} (h0 : 0 ≤ a) (h1 : a ≤ 1000000) : ∃ b sd', spec_l1Cur_next.f s a sd = some (b, a + 1, sd') ∧ 0 ≤ b ∧ b ≤ 255 := by
 unfold spec_l1Cur_next.f
 rw [wrap_id (x := a + 1) (by omega) (by omega)]
 by_cases h : a < (s.length : Int)
 ·have hr := hs.at h0 h
  rw [if_pos h, if_pos h0, if_pos (by omega), wrap_id (x := rd s a) (by omega) (by omega)]
  exact ⟨_, _, rfl, hr⟩
 ·rw [if_neg h, if_neg (by omega)]
  refine ⟨_, _, rfl, ?_⟩
  have hu := u64w (IntKind.u64.wrap (IntKind.u64.wrap (sd * 6364136223846793005)) + 1442695040888963407)
  have hb := byte_and (x := IntKind.u64.wrap (IntKind.u64.wrap (IntKind.u64.wrap (sd * 6364136223846793005)) + 1442695040888963407) / 1099511627776) (by omega) (by omega)
  rw [wrap_id (by omega) (by omega)]
  exact hb
theorem pick_tot {s : List Int} (hs : Bytes s) {a sd : Int} (n : Int) (h0 : 0 ≤ a) (h1 : a ≤ 900000) : ∃ v a' sd', spec_l1Cur_pick.f s a sd n = some (v, a', sd') ∧ a ≤ a' ∧ a' ≤ a + 2 ∧ 0 ≤ v ∧ (1 ≤ n → v < n) ∧ (n ≤ 1 → v = 0) := by
 unfold spec_l1Cur_pick.f
 by_cases h : n ≤ 1
 ·rw [if_pos h]; exact ⟨0, a, sd, rfl, by omega, by omega, by omega, by omega, fun _ => rfl⟩
 ·rw [if_neg h]
  obtain ⟨b, sd1, e1, b0, b1⟩ := next_tot hs (sd := sd) h0 (by omega)
  rw [e1]
  simp only [Option.bind_some]
  by_cases h2 : n > 200
  ·rw [if_pos h2]
   obtain ⟨c, sd2, e2, c0, c1⟩ := next_tot hs (a := a + 1) (sd := sd1) (by omega) (by omega)
   rw [e2]
   simp only [Option.bind_some]
   rw [if_neg (by omega), wrap_id (x := b * 256) (by omega) (by omega), wrap_id (x := b * 256 + c) (by omega) (by omega), Int.tmod_eq_emod_of_nonneg (by omega)]
   exact ⟨_, _, _, rfl, by omega, by omega, Int.emod_nonneg _ (by omega), fun _ => Int.emod_lt_of_pos _ (by omega), by omega⟩
  ·rw [if_neg h2, if_neg (by omega), Int.tmod_eq_emod_of_nonneg (by omega)]
   exact ⟨_, _, _, rfl, by omega, by omega, Int.emod_nonneg _ (by omega), fun _ => Int.emod_lt_of_pos _ (by omega), by omega⟩
theorem one_tot {s : List Int} (hs : Bytes s) {a sd : Int} (n : Int) (h0 : 0 ≤ a) (h1 : a ≤ 900000) : ∃ v a' sd', spec_l1Cur_one.f s a sd n = some (v, a', sd') ∧ a ≤ a' ∧ a' ≤ a + 2 := by
 unfold spec_l1Cur_one.f
 obtain ⟨v, a', sd', e, q1, q2, _⟩ := pick_tot hs (sd := sd) n h0 h1
 rw [e]
 exact ⟨_, _, _, rfl, q1, q2⟩
theorem among_tot {s : List Int} (hs : Bytes s) {a sd : Int} (l : List Int) (hl : 1 ≤ (l.length : Int)) (h0 : 0 ≤ a) (h1 : a ≤ 900000) : ∃ v a' sd', spec_l1Cur_among.f s a sd l = some (v, a', sd') ∧ a ≤ a' ∧ a' ≤ a + 2 := by
 unfold spec_l1Cur_among.f
 obtain ⟨v, a', sd', e, q1, q2, q3, q4, _⟩ := pick_tot hs (sd := sd) (l.length : Int) h0 h1
 rw [e]
 simp only [Option.bind_some]
 rw [if_pos q3, if_pos (q4 hl)]
 exact ⟨_, _, _, rfl, q1, q2⟩
theorem thread_tot {s : List Int} (hs : Bytes s) {a sd : Int} (h0 : 0 ≤ a) (h1 : a ≤ 800000) : ∃ A B a' sd', spec_l1Cur_thread.f s a sd = some (A, B, a', sd') ∧ a ≤ a' ∧ a' ≤ a + 6 := by
 unfold spec_l1Cur_thread.f
 obtain ⟨v, a1, d1, e1, p1, q1⟩ := one_tot hs (sd := sd) 14 h0 (by omega)
 cases v with
 | true =>
  obtain ⟨x, a2, d2, e2, p2, q2⟩ := among_tot hs (a := a1) (sd := d1) [(-1), 0, 1, 100, 101, 4611686018427387904] (by decide) (by omega) (by omega)
  obtain ⟨y, a3, d3, e3, p3, q3⟩ := among_tot hs (a := a2) (sd := d2) [(-1), 0, 1, 100, 101] (by decide) (by omega) (by omega)
  simp only [e1, e2, e3, Option.bind_some, if_true]
  exact ⟨x, y, a3, d3, rfl, by omega, by omega⟩
 | false =>
  obtain ⟨x, a2, d2, e2, p2, q2, _⟩ := pick_tot hs (a := a1) (sd := d1) 9 (by omega) (by omega)
  obtain ⟨y, a3, d3, e3, p3, q3, _⟩ := pick_tot hs (a := a2) (sd := d2) 9 (by omega) (by omega)
  simp only [e1, e2, e3, Option.bind_some, Bool.false_eq_true, if_false]
  exact ⟨_, _, a3, d3, rfl, by omega, by omega⟩
theorem put_tot (l : List S25) (hl : (l.length : Int) ≤ 1000) (A B : Int) (d : Nat) : ∀ (K : Nat) (i : Int), 0 ≤ i → i + d = l.length → d < K → ∃ r, spec_sgPut.l0 K l i A B = some r ∧ r.length = l.length + 1 := by
 induction d with
 | zero =>
  intro K i h0 hi hK
  obtain ⟨K, rfl⟩ : ∃ q, K = q + 1 := ⟨K - 1, by omega⟩
  obtain rfl : i = (l.length : Int) := by omega
  rw [spec_sgPut.l0, if_neg (by omega)]
  simp only [Option.bind_some, List.length_nil, Int.toNat_natCast, List.take_length, List.drop_length, List.nil_append, List.length_append, List.length_singleton]
  rw [if_pos h0, if_pos (by omega), if_pos (by omega), if_pos (by omega), if_pos (by omega)]
  exact ⟨_, rfl, by simp⟩
 | succ d ih =>
  intro K i h0 hi hK
  obtain ⟨K, rfl⟩ : ∃ q, K = q + 1 := ⟨K - 1, by omega⟩
  have hsl : ∃ v, spec_sgLess.f ((rd_T25 l i).f0) ((rd_T25 l i).f1) A B = some v := ⟨_, rfl⟩
  obtain ⟨v, hv⟩ := hsl
  rw [spec_sgPut.l0, if_pos (by omega), if_pos h0, hv, Option.bind_some]
  cases v with
  | true =>
   rw [if_pos rfl, wrap_id (x := i + 1) (by omega) (by omega)]
   exact ih K (i + 1) (by omega) (by omega) (by omega)
  | false =>
   have e1 : (l.take i.toNat).length = i.toNat := by rw [List.length_take]; omega
   have e2 : (l.drop i.toNat).length = l.length - i.toNat := List.length_drop ..
   rw [if_neg (by decide)]
   simp only [Option.bind_some, List.length_nil, List.nil_append, List.length_append, List.length_singleton, e1, e2]
   rw [if_pos (by omega), if_pos (by omega), if_pos (by omega), if_pos (by omega)]
   exact ⟨_, rfl, by simp only [List.length_append, List.length_singleton, e1, e2]; omega⟩
theorem sure_l1 (s : List Int) (l : List S25) (hl : (l.length : Int) ≤ 1000) (x8 a sd A B : Int) (d : Nat) : ∀ (K : Nat) (b : Bool) (i : Int), 0 ≤ i → i + d = l.length → d + 1 ≤ K → ∃ (b' : Bool) (K' : Nat), K ≤ K' + d + 1 ∧
  spec_l1Cur_sureThreads.l1 K l x8 b l (l.length : Int) i s a sd A B = if b' = true then spec_l1Cur_sureThreads.l0 K' l (wrap64 (x8 - 1)) s a sd else ((spec_sgPut.f K' l A B).bind fun t => spec_l1Cur_sureThreads.l0 K' t (wrap64 (x8 - 1)) s a sd) := by
 induction d with
 | zero =>
  intro K b i h0 hi hK
  obtain ⟨K, rfl⟩ : ∃ q, K = q + 1 := ⟨K - 1, by omega⟩
  exact ⟨b, K, by omega, by rw [spec_l1Cur_sureThreads.l1, if_neg (by omega)]⟩
 | succ d ih =>
  intro K b i h0 hi hK
  obtain ⟨K, rfl⟩ : ∃ q, K = q + 1 := ⟨K - 1, by omega⟩
  rw [spec_l1Cur_sureThreads.l1, if_pos (by omega), if_pos h0, if_pos (by omega), wrap_id (x := i + 1) (by omega) (by omega)]
  cases b with
  | true =>
   obtain ⟨b', K', h1, h2⟩ := ih K true (i + 1) (by omega) (by omega) (by omega)
   exact ⟨b', K', by omega, by rw [if_pos rfl]; exact h2⟩
  | false =>
   obtain ⟨b', K', h1, h2⟩ := ih K (((rd_T25 l i).f0) == A && (((rd_T25 l i).f1) == B)) (i + 1) (by omega) (by omega) (by omega)
   exact ⟨b', K', by omega, by rw [if_neg (by decide)]; exact h2⟩
theorem sure_l0 {s : List Int} (hs : Bytes s) (m : Nat) : ∀ (K : Nat) (l : List S25) (a sd : Int), l.length + m ≤ 100 → 0 ≤ a → a + 4 * m ≤ 800000 → 300 * (m + 1) ≤ K → ∃ r a' sd', spec_l1Cur_sureThreads.l0 K l m s a sd = some (r, a', sd') ∧ r.length ≤ l.length + m ∧ 0 ≤ a' ∧ a' ≤ a + 4 * m := by
 induction m with
 | zero =>
  intro K l a sd hl h0 h1 hK
  obtain ⟨K, rfl⟩ : ∃ q, K = q + 1 := ⟨K - 1, by omega⟩
  exact ⟨l, a, sd, by rw [spec_l1Cur_sureThreads.l0, if_neg (by omega)], by omega, h0, by omega⟩
 | succ m ih =>
  intro K l a sd hl h0 h1 hK
  obtain ⟨K, rfl⟩ : ∃ q, K = q + 1 := ⟨K - 1, by omega⟩
  obtain ⟨x, a2, d2, e2, p2, q2, _⟩ := pick_tot hs (a := a) (sd := sd) 12 (by omega) (by omega)
  obtain ⟨y, a3, d3, e3, p3, q3, _⟩ := pick_tot hs (a := a2) (sd := d2) 12 (by omega) (by omega)
  have ew : wrap64 (((m + 1 : Nat) : Int) - 1) = (m : Int) := by rw [wrap_id (by omega) (by omega)]; omega
  rw [spec_l1Cur_sureThreads.l0, if_pos (by omega), e2, Option.bind_some, e3, Option.bind_some]
  obtain ⟨b', K', h2, h3⟩ := sure_l1 s l (by omega) ((m + 1 : Nat) : Int) a3 d3 (wrap64 (1 + x)) (wrap64 (1 + y)) l.length K false 0 (by omega) (by omega) (by omega)
  simp only at h3 ⊢
  rw [h3, ew]
  cases b' with
  | true =>
   obtain ⟨r, a', sd', e, r1, r2, r3⟩ := ih K' l a3 d3 (by omega) (by omega) (by omega) (by omega)
   exact ⟨r, a', sd', by rw [if_pos rfl]; exact e, by omega, r2, by omega⟩
  | false =>
   obtain ⟨t, e4, e5⟩ := put_tot l (by omega) (wrap64 (1 + x)) (wrap64 (1 + y)) l.length K' 0 (by omega) (by omega) (by omega)
   obtain ⟨r, a', sd', e, r1, r2, r3⟩ := ih K' t a3 d3 (by omega) (by omega) (by omega) (by omega)
   refine ⟨r, a', sd', ?_, by omega, r2, by omega⟩
   rw [if_neg (by decide)]
   unfold spec_sgPut.f
   rw [e4, Option.bind_some]; exact e
theorem art_l0 (n : Int) (hn : n ≤ 30) (d : Nat) : ∀ (K : Nat) (l : List S25) (i : Int), 1 ≤ i → i + d = n + 1 → (l.length : Int) + d ≤ 100 → d < K → ∃ r, spec_ArtThreads.l0 K n l i = some (r, true) ∧ r.length = l.length + d := by
 induction d with
 | zero =>
  intro K l i h1 hi hl hK
  obtain ⟨K, rfl⟩ : ∃ q, K = q + 1 := ⟨K - 1, by omega⟩
  exact ⟨l, by rw [spec_ArtThreads.l0, if_neg (by omega)], rfl⟩
 | succ d ih =>
  intro K l i h1 hi hl hK
  obtain ⟨K, rfl⟩ : ∃ q, K = q + 1 := ⟨K - 1, by omega⟩
  rw [spec_ArtThreads.l0, if_pos (by omega), if_pos (by omega), wrap_id (x := i + 1) (by omega) (by omega)]
  obtain ⟨r, e, e2⟩ := ih K (l ++ [(⟨i, wrap64 (wrap64 (n + 1) - i)⟩ : S25)]) (i + 1) (by omega) (by omega) (by rw [List.length_append, List.length_singleton]; omega) (by omega)
  exact ⟨r, e, by rw [e2, List.length_append, List.length_singleton]; omega⟩
theorem art_tot (n : Int) {K : Nat} (hK : 100 ≤ K) : ∃ r b, spec_ArtThreads.f K n = some (r, b) ∧ r.length ≤ 30 := by
 unfold spec_ArtThreads.f
 have h : ∃ b, spec_l1In.f n 1 30 = some b ∧ (b = true → 1 ≤ n ∧ n ≤ 30) := by
  unfold spec_l1In.f
  by_cases h : n ≥ 1
  ·rw [if_pos h]; exact ⟨_, rfl, fun e => ⟨h, of_decide_eq_true e⟩⟩
  ·rw [if_neg h]; exact ⟨_, rfl, fun e => by cases e⟩
 obtain ⟨b, hb, hb2⟩ := h
 rw [hb, Option.bind_some]
 cases b with
 | true =>
  obtain ⟨h1, h2⟩ := hb2 rfl
  obtain ⟨r, e, e2⟩ := art_l0 n h2 n.toNat K [] 1 (by omega) (by omega) (by simp; omega) (by omega)
  exact ⟨r, true, by rw [if_pos rfl]; exact e, by rw [e2]; simp; omega⟩
 | false => exact ⟨[], false, by rw [if_neg (by decide)], by simp⟩
theorem sure_tot {s : List Int} (hs : Bytes s) {a sd : Int} (h0 : 0 ≤ a) (h1 : a ≤ 700000) {K : Nat} (hK : 5000 ≤ K) : ∃ r a' sd', spec_l1Cur_sureThreads.f K s a sd 7 = some (r, a', sd') ∧ r.length ≤ 30 ∧ 0 ≤ a' ∧ a' ≤ a + 40 := by
 unfold spec_l1Cur_sureThreads.f
 obtain ⟨v, a1, d1, e1, p1, q1⟩ := one_tot hs (sd := sd) 5 h0 (by omega)
 obtain ⟨x, a2, d2, e2, p2, q2, x0, x1, _⟩ := pick_tot hs (a := a1) (sd := d1) 7 (by omega) (by omega)
 have x1 := x1 (by omega)
 cases v with
 | true =>
  obtain ⟨r, b, e3, e4⟩ := art_tot (wrap64 (1 + x)) (K := K) (by omega)
  simp only [e1, e2, e3, Option.bind_some, if_true]
  exact ⟨r, a2, d2, rfl, e4, by omega, by omega⟩
 | false =>
  simp only [e1, e2, Option.bind_some, Bool.false_eq_true, if_false]
  rw [wrap_id (x := 1 + x) (by omega) (by omega), show (1 + x : Int) = (((1 + x).toNat : Nat) : Int) by omega]
  obtain ⟨r, a', sd', e, r1, r2, r3⟩ := sure_l0 hs (1 + x).toNat K [] a2 d2 (by simp; omega) (by omega) (by omega) (by omega)
  exact ⟨r, a', sd', e, by simp at r1; omega, r2, by omega⟩
theorem thr_l0 {s : List Int} (hs : Bytes s) (m : Nat) : ∀ (K : Nat) (l : List S25) (a sd : Int), l.length ≤ 32 → 32 ≤ l.length + m → 0 ≤ a → a + 4 * m ≤ 800000 → m + 2 ≤ K → ∃ r a' sd', spec_l1Cur_threads.l0 K l s a sd = some (r, a', sd') ∧ r.length ≤ 32 ∧ 0 ≤ a' ∧ a' ≤ a + 4 * m + 4 := by
 induction m with
 | zero =>
  intro K l a sd hl hm h0 h1 hK
  obtain ⟨K, rfl⟩ : ∃ q, K = q + 1 := ⟨K - 1, by omega⟩
  obtain ⟨x, a2, d2, e2, p2, q2, x0, x1, _⟩ := pick_tot hs (a := a) (sd := sd) 2 (by omega) (by omega)
  have x1 := x1 (by omega)
  rw [spec_l1Cur_threads.l0, e2, Option.bind_some]
  simp only
  rw [wrap_id (x := 30 + x) (by omega) (by omega), if_neg (by omega)]
  exact ⟨l, a2, d2, rfl, hl, by omega, by omega⟩
 | succ m ih =>
  intro K l a sd hl hm h0 h1 hK
  obtain ⟨K, rfl⟩ : ∃ q, K = q + 1 := ⟨K - 1, by omega⟩
  obtain ⟨x, a2, d2, e2, p2, q2, x0, x1, _⟩ := pick_tot hs (a := a) (sd := sd) 2 (by omega) (by omega)
  have x1 := x1 (by omega)
  obtain ⟨y, a3, d3, e3, p3, q3, _⟩ := pick_tot hs (a := a2) (sd := d2) 50 (by omega) (by omega)
  rw [spec_l1Cur_threads.l0, e2, Option.bind_some]
  simp only
  rw [wrap_id (x := 30 + x) (by omega) (by omega)]
  by_cases h : (l.length : Int) < 30 + x
  ·rw [if_pos h, e3, Option.bind_some, if_pos (by omega)]
   obtain ⟨r, a', sd', e, r1, r2, r3⟩ := ih K (l ++ [(⟨wrap64 (20 + (l.length : Int)), wrap64 (1 + y)⟩ : S25)]) a3 d3 (by rw [List.length_append, List.length_singleton]; omega) (by rw [List.length_append, List.length_singleton]; omega) (by omega) (by omega) (by omega)
   exact ⟨r, a', sd', e, r1, r2, by omega⟩
  ·rw [if_neg h]
   exact ⟨l, a2, d2, rfl, hl, by omega, by omega⟩
theorem threads_tot {s : List Int} (hs : Bytes s) {a sd : Int} (h0 : 0 ≤ a) (h1 : a ≤ 600000) {K : Nat} (hK : 6000 ≤ K) : ∃ r a' sd', spec_l1Cur_threads.f K s a sd = some (r, a', sd') ∧ r.length ≤ 100 ∧ 0 ≤ a' ∧ a' ≤ a + 1000 := by
 unfold spec_l1Cur_threads.f
 obtain ⟨l, a1, d1, e1, l1, p1, q1⟩ := sure_tot hs (sd := sd) h0 (by omega) (K := K) (by omega)
 obtain ⟨x, a2, d2, e2, p2, q2, _⟩ := pick_tot hs (a := a1) (sd := d1) 18 (by omega) (by omega)
 rw [e1, Option.bind_some]
 simp only
 rw [e2, Option.bind_some]
 simp only
 by_cases h1 : x = 0
 ·rw [if_pos h1]; exact ⟨[], a2, d2, rfl, by simp, by omega, by omega⟩
 ·rw [if_neg h1]
  by_cases h2 : x = 1
  ·obtain ⟨A, B, a3, d3, e3, p3, q3⟩ := thread_tot hs (a := a2) (sd := d2) (by omega) (by omega)
   rw [if_pos h2, e3, Option.bind_some, if_pos (by omega)]
   exact ⟨_, _, _, rfl, by rw [List.length_append, List.length_singleton]; omega, by simp only; omega, by simp only; omega⟩
  ·rw [if_neg h2]
   by_cases h3 : x = 2
   ·rw [if_pos h3]
    obtain ⟨r, a', sd', e, r1, r2, r3⟩ := thr_l0 hs 32 K l a2 d2 (by omega) (by omega) (by omega) (by omega) (by omega)
    exact ⟨r, a', sd', e, by omega, r2, by omega⟩
   ·rw [if_neg h3]
    exact ⟨l, a2, d2, rfl, by omega, by omega, by omega⟩
theorem drawOn_tot {s : List Int} (hs : Bytes s) {K : Nat} (hK : 6000 ≤ K) : ∃ r k, spec_DrawMeetingsOnThread.f K s = some (r, k) ∧ r.length ≤ 100 := by
 unfold spec_DrawMeetingsOnThread.f spec_DrawMeetingsOnThread_w.f
 obtain ⟨l, a1, d1, e1, l1, p1, q1⟩ := threads_tot hs (a := 0) (sd := 0) (by omega) (by omega) hK
 rw [e1, Option.bind_some]
 simp only
 obtain ⟨x, a2, d2, e2, p2, q2, _⟩ := pick_tot hs (a := a1) (sd := d1) (wrap64 ((l.length : Int) + 1)) (by omega) (by omega)
 rw [e2, Option.bind_some]
 simp only
 obtain ⟨y, a3, d3, e3, p3, q3, _⟩ := pick_tot hs (a := a2) (sd := d2) 9 (by omega) (by omega)
 rw [e3, Option.bind_some, Option.bind_some]
 exact ⟨_, _, rfl, l1⟩
theorem drawHeight_tot {s : List Int} (hs : Bytes s) : ∃ A B x, spec_DrawHeightOf.f s = some (A, B, x) := by
 unfold spec_DrawHeightOf.f spec_DrawHeightOf_w.f
 obtain ⟨A, B, a1, d1, e1, p1, q1⟩ := thread_tot hs (a := 0) (sd := 0) (by omega) (by omega)
 rw [e1, Option.bind_some]
 simp only
 obtain ⟨x, a2, d2, e2, p2, q2⟩ := among_tot hs (a := a1) (sd := d1) [0, 1, 2, 3, 4, 5, 6, 100, 101, (-1)] (by decide) (by omega) (by omega)
 rw [e2, Option.bind_some, Option.bind_some]
 exact ⟨_, _, _, rfl⟩
theorem drawTwo_tot {s : List Int} (hs : Bytes s) : ∃ A B C D, spec_DrawMeetingOf.f s = some (A, B, C, D) := by
 unfold spec_DrawMeetingOf.f spec_DrawDoThreadsMeet.f spec_DrawDoThreadsMeet_w.f
 obtain ⟨A, B, a1, d1, e1, p1, q1⟩ := thread_tot hs (a := 0) (sd := 0) (by omega) (by omega)
 rw [e1, Option.bind_some]
 simp only
 obtain ⟨C, D, a2, d2, e2, p2, q2⟩ := thread_tot hs (a := a1) (sd := d1) (by omega) (by omega)
 rw [e2, Option.bind_some, Option.bind_some, Option.bind_some]
 exact ⟨_, _, _, _, rfl⟩
/-- A number from lo to hi. -/
def rg (n lo hi : Int) : Bool := decide (lo ≤ n ∧ n ≤ hi)
theorem rg_true {n lo hi : Int} : rg n lo hi = true ↔ lo ≤ n ∧ n ≤ hi := by simp [rg]
theorem l1In_rg (n lo hi : Int) : spec_l1In.f n lo hi = some (rg n lo hi) := by
 unfold spec_l1In.f rg
 by_cases h : n ≥ lo
 ·rw [if_pos h]; congr 1; simp only [decide_eq_decide]; omega
 ·rw [if_neg h]; congr 1; exact (decide_eq_false (by omega)).symm
theorem within_rg (n lo hi : Int) : impl_within.f n lo hi = some (rg n lo hi) := by
 unfold impl_within.f rg
 by_cases h : n ≥ lo
 ·rw [if_pos h]; congr 1; simp only [decide_eq_decide]; omega
 ·rw [if_neg h]; congr 1; exact (decide_eq_false (by omega)).symm
/-- A thread. -/
def thrOk (a b : Int) : Bool := rg a 1 100 && rg b 1 100
theorem thrOk_true {a b : Int} : thrOk a b = true ↔ 1 ≤ a ∧ a ≤ 100 ∧ 1 ≤ b ∧ b ≤ 100 := by
 simp only [thrOk, Bool.and_eq_true, rg_true]; omega
theorem sgThread_eq (a b : Int) : spec_sgThread.f a b = some (thrOk a b) := by
 unfold spec_sgThread.f thrOk
 rw [l1In_rg, l1In_rg]
 cases rg a 1 100 <;> rfl
theorem isThread_eq (a b : Int) : impl_isThread.f a b = some (thrOk a b) := by
 unfold impl_isThread.f thrOk
 rw [within_rg, within_rg]
 cases rg a 1 100 <;> rfl
theorem rdT_get {l : List S25} {i : Int} (h0 : 0 ≤ i) (h1 : i < (l.length : Int)) : rd_T25 l i = l[i.toNat]'(by omega) := by
 simp [rd_T25, List.getD_eq_getElem?_getD, List.getElem?_eq_getElem (show i.toNat < l.length by omega)]
/-- A thread that comes before another one. -/
def lessB (a b c d : Int) : Bool := decide (a < c ∨ a = c ∧ b < d)
theorem sgLess_eq (a b c d : Int) : spec_sgLess.f a b c d = some (lessB a b c d) := rfl
theorem cmpInt_eq (a b : Int) : cmp_Compare_int.f a b = some (if a < b then -1 else if a > b then 1 else 0) := by
 unfold cmp_Compare_int.f cmp_isNaN_int.f
 simp only [Option.bind_some, bne_self_eq_false]
 rw [if_neg (by decide), if_neg (by decide)]
 repeat' split
 all_goals rfl
theorem cmpOr_eq (a b : Int) {k : Nat} (hk : 3 ≤ k) : cmp_Or_int.f k [a, b] = some (if a = 0 then b else a) := by
 obtain ⟨k, rfl⟩ : ∃ m, k = m + 1 + 1 + 1 := ⟨k - 3, by omega⟩
 unfold cmp_Or_int.f
 rw [cmp_Or_int.l0, if_pos (by simp), if_pos (by omega), if_pos (by simp), wrap_id (by omega) (by omega)]
 have e0 : rd [a, b] 0 = a := rfl
 rw [e0]
 by_cases h : a = 0
 ·rw [if_pos h, if_pos h, cmp_Or_int.l0, if_pos (by simp), if_pos (by omega), if_pos (by simp), wrap_id (by omega) (by omega)]
  have e1 : rd [a, b] (0 + 1) = b := rfl
  rw [e1]
  by_cases h2 : b = 0
  ·rw [if_pos h2, cmp_Or_int.l0, if_neg (by simp), h2]
  ·rw [if_neg h2]
 ·rw [if_neg h, if_neg h]
theorem compareThreads_eq (a b c d : Int) {k : Nat} (hk : 3 ≤ k) : ∃ r : Int, impl_compareThreads.f k a b c d = some r ∧ (r < 0 ↔ lessB a b c d = true) ∧ (r = 0 ↔ a = c ∧ b = d) := by
 unfold impl_compareThreads.f
 rw [cmpInt_eq, cmpInt_eq]
 simp only [Option.bind_some]
 rw [cmpOr_eq _ _ hk]
 refine ⟨_, rfl, ?_, ?_⟩
 ·simp only [lessB, decide_eq_true_eq]
  repeat' split
  all_goals omega
 ·repeat' split
  all_goals omega
/-- Threads i, i + 1, .. of the next d, each behind the one before. -/
def chkD (l : List S25) (i : Int) : Nat → Bool
 | 0 => true
 | d + 1 => thrOk (rd_T25 l i).f0 (rd_T25 l i).f1 && (decide (i ≤ 0) || lessB (rd_T25 l (i - 1)).f0 (rd_T25 l (i - 1)).f1 (rd_T25 l i).f0 (rd_T25 l i).f1) && chkD l (i + 1) d
theorem chkD_thr {l : List S25} : ∀ {d : Nat} {i : Int}, chkD l i d = true → ∀ j, i ≤ j → j < i + d → thrOk (rd_T25 l j).f0 (rd_T25 l j).f1 = true
 | 0, i, _, j, h1, h2 => by omega
 | d + 1, i, h, j, h1, h2 => by
  simp only [chkD, Bool.and_eq_true] at h
  rcases Int.lt_or_eq_of_le h1 with h3 | h3
  ·exact chkD_thr h.2 j (by omega) (by omega)
  ·rw [← h3]; exact h.1.1
/-- Threads in order. -/
def goodT (l : List S25) : Bool := rg l.length 1 30 && chkD l 0 l.length
theorem goodT_true {l : List S25} (h : goodT l = true) : 1 ≤ (l.length : Int) ∧ (l.length : Int) ≤ 30 ∧ ∀ i : Int, 0 ≤ i → i < l.length → thrOk (rd_T25 l i).f0 (rd_T25 l i).f1 = true := by
 simp only [goodT, Bool.and_eq_true, rg_true] at h
 exact ⟨h.1.1, h.1.2, fun i h0 h1 => chkD_thr h.2 i h0 (by omega)⟩
theorem good_s_l0 (l : List S25) (hl : (l.length : Int) ≤ 1000000000000) (d : Nat) : ∀ (k : Nat) (i : Int), 0 ≤ i → i + d = l.length → d < k → spec_sgGood.l0 k l l (l.length : Int) i = some (chkD l i d) := by
 induction d with
 | zero =>
  intro k i h0 hi hk
  obtain ⟨k, rfl⟩ : ∃ m, k = m + 1 := ⟨k - 1, by omega⟩
  rw [spec_sgGood.l0, if_neg (by omega)]; rfl
 | succ d ih =>
  intro k i h0 hi hk
  obtain ⟨k, rfl⟩ : ∃ m, k = m + 1 := ⟨k - 1, by omega⟩
  rw [spec_sgGood.l0, if_pos (by omega), if_pos h0, if_pos (by omega), sgThread_eq, wrap_id (x := i + 1) (by omega) (by omega), wrap_id (x := i - 1) (by omega) (by omega), ih k (i + 1) (by omega) (by omega) (by omega)]
  simp only [Option.bind_some, chkD]
  by_cases h : thrOk (rd_T25 l i).f0 (rd_T25 l i).f1 = true
  ·rw [if_pos h, h]
   by_cases h2 : i > 0
   ·rw [if_pos h2, if_pos (by omega), if_pos (by omega), sgLess_eq, decide_eq_false (show ¬ i ≤ 0 by omega)]
    simp only [Option.bind_some]
    cases lessB (rd_T25 l (i - 1)).f0 (rd_T25 l (i - 1)).f1 (rd_T25 l i).f0 (rd_T25 l i).f1 <;> simp
   ·rw [if_neg h2, decide_eq_true (show i ≤ 0 by omega)]; simp
  ·rw [if_neg h]; simp only [Bool.not_eq_true] at h; rw [h]; rfl
theorem good_s {l : List S25} {k : Nat} (hl : (l.length : Int) ≤ 1048576) (hk : 1048577 < k) : spec_sgGood.f k l = some (goodT l) := by
 unfold spec_sgGood.f goodT
 rw [l1In_rg]
 simp only [Option.bind_some]
 by_cases h : rg l.length 1 30 = true
 ·rw [if_pos h, good_s_l0 l (by omega) l.length k 0 (by omega) (by omega) (by omega), h]; simp
 ·rw [if_neg h]; simp only [Bool.not_eq_true] at h; rw [h]; rfl
theorem good_i_l0 (l : List S25) (hl : (l.length : Int) ≤ 1000000000000) (d : Nat) : ∀ (k : Nat) (i : Int), 0 ≤ i → i + d = l.length → d + 4 < k → impl_AreThreads.l0 k l l (l.length : Int) i = some (chkD l i d && rg l.length 1 30) := by
 induction d with
 | zero =>
  intro k i h0 hi hk
  obtain ⟨k, rfl⟩ : ∃ m, k = m + 1 := ⟨k - 1, by omega⟩
  rw [impl_AreThreads.l0, if_neg (by omega), within_rg]; simp [chkD]
 | succ d ih =>
  intro k i h0 hi hk
  obtain ⟨k, rfl⟩ : ∃ m, k = m + 1 := ⟨k - 1, by omega⟩
  rw [impl_AreThreads.l0, if_pos (by omega), if_pos h0, if_pos (by omega), isThread_eq, wrap_id (x := i + 1) (by omega) (by omega), wrap_id (x := i - 1) (by omega) (by omega), ih k (i + 1) (by omega) (by omega) (by omega)]
  simp only [Option.bind_some, chkD]
  by_cases h : thrOk (rd_T25 l i).f0 (rd_T25 l i).f1 = true
  ·rw [if_pos h, h]
   by_cases h2 : i > 0
   ·obtain ⟨r, h3, h4, _⟩ := compareThreads_eq (rd_T25 l (i - 1)).f0 (rd_T25 l (i - 1)).f1 (rd_T25 l i).f0 (rd_T25 l i).f1 (k := k) (by omega)
    rw [if_pos h2, if_pos (by omega), if_pos (by omega), h3, decide_eq_false (show ¬ i ≤ 0 by omega)]
    simp only [Option.bind_some]
    by_cases h5 : r < 0
    ·rw [if_neg (by omega), h4.1 h5]; simp
    ·rw [if_pos (by omega)]
     have : lessB (rd_T25 l (i - 1)).f0 (rd_T25 l (i - 1)).f1 (rd_T25 l i).f0 (rd_T25 l i).f1 = false := by
      rw [← Bool.not_eq_true]; exact fun e => h5 (h4.2 e)
     rw [this]; simp
   ·rw [if_neg h2, decide_eq_true (show i ≤ 0 by omega)]; simp
  ·rw [if_neg h]; simp only [Bool.not_eq_true] at h; rw [h]; rfl
theorem good_i {l : List S25} {k : Nat} (hl : (l.length : Int) ≤ 1048576) (hk : 1048590 < k) : impl_AreThreads.f k l = some (goodT l) := by
 unfold impl_AreThreads.f goodT
 rw [good_i_l0 l (by omega) l.length k 0 (by omega) (by omega) (by omega), Bool.and_comm]
/-- Threads that cross. -/
def crossB (a b c d : Int) : Bool := decide (a > c ∧ b < d ∨ a < c ∧ b > d)
theorem sgMeet_eq (a b c d : Int) : spec_sgMeet.f a b c d = some (crossB a b c d) := rfl
theorem doMeetT_eq (a b c d : Int) : impl_doThreadsMeet.f a b c d = some (crossB a b c d) := rfl
theorem crossB_comm (a b c d : Int) : crossB a b c d = crossB c d a b := by
 unfold crossB; rw [decide_eq_decide]; omega
/-- Two threads that cross. -/
def cr (s t : S25) : Bool := crossB s.f0 s.f1 t.f0 t.f1
theorem cr_comm (s t : S25) : cr s t = cr t s := crossB_comm _ _ _ _
/-- How many pairs cross. -/
def prs : List S25 → Nat
 | [] => 0
 | x :: t => t.countP (cr x) + prs t
theorem prs_snoc (l : List S25) (x : S25) : prs (l ++ [x]) = prs l + l.countP (cr x) := by
 induction l with
 | nil => simp [prs]
 | cons y l ih =>
  simp only [List.cons_append, prs, ih, List.countP_append, List.countP_cons, List.countP_nil]
  rw [cr_comm y x]; omega
theorem prs_le (l : List S25) : prs l ≤ l.length * l.length := by
 induction l with
 | nil => simp [prs]
 | cons y l ih =>
  simp only [prs, List.length_cons]
  have := List.countP_le_length (p := cr y) (l := l)
  have e : (l.length + 1) * (l.length + 1) = l.length * l.length + 2 * l.length + 1 := by grind
  omega
theorem meet_in_s (s : S25) (l v x12 : List S25) (x13 x14 : Int) (hv : (v.length : Int) ≤ 1000000) (d : Nat) : ∀ (k : Nat) (c j : Int), 0 ≤ j → j + d = v.length → 0 ≤ c → c + d ≤ 1000000 →
  spec_CountMeetings.l1 (k + d + 1) l c x12 x13 x14 v (v.length : Int) j s.f0 s.f1 = spec_CountMeetings.l0 k l (c + ((v.drop j.toNat).countP (cr s) : Nat)) x12 x13 (wrap64 (x14 + 1)) := by
 induction d with
 | zero =>
  intro k c j hj hd hc hc2
  rw [Nat.add_zero, spec_CountMeetings.l1, if_neg (by omega), List.drop_eq_nil_of_le (by omega)]; simp
 | succ d ih =>
  intro k c j hj hd hc hc2
  rw [show k + (d + 1) + 1 = (k + d + 1) + 1 by omega, spec_CountMeetings.l1, if_pos (by omega), if_pos hj, if_pos (by omega), sgMeet_eq, wrap_id (x := j + 1) (by omega) (by omega), wrap_id (x := c + 1) (by omega) (by omega)]
  simp only [Option.bind_some]
  rw [List.drop_eq_getElem_cons (by omega), ← rdT_get hj (by omega), List.countP_cons, show crossB s.f0 s.f1 (rd_T25 v j).f0 (rd_T25 v j).f1 = cr s (rd_T25 v j) from rfl, show j.toNat + 1 = (j + 1).toNat by omega]
  by_cases h : cr s (rd_T25 v j) = true
  ·rw [if_pos h, ih k (c + 1) (j + 1) (by omega) (by omega) (by omega) (by omega), if_pos h]
   congr 1; omega
  ·rw [if_neg h, ih k c (j + 1) (by omega) (by omega) hc (by omega), if_neg h]; rfl
theorem meet_in_i (s : S25) (l v x12 : List S25) (x13 x14 : Int) (hv : (v.length : Int) ≤ 1000000) (d : Nat) : ∀ (k : Nat) (c j : Int), 0 ≤ j → j + d = v.length → 0 ≤ c → c + d ≤ 1000000 →
  impl_CountMeetings.l1 (k + d + 1) l c x12 x13 x14 v (v.length : Int) j s.f0 s.f1 = impl_CountMeetings.l0 k l (c + ((v.drop j.toNat).countP (cr s) : Nat)) x12 x13 (wrap64 (x14 + 1)) := by
 induction d with
 | zero =>
  intro k c j hj hd hc hc2
  rw [Nat.add_zero, impl_CountMeetings.l1, if_neg (by omega), List.drop_eq_nil_of_le (by omega)]; simp
 | succ d ih =>
  intro k c j hj hd hc hc2
  rw [show k + (d + 1) + 1 = (k + d + 1) + 1 by omega, impl_CountMeetings.l1, if_pos (by omega), if_pos hj, if_pos (by omega), doMeetT_eq, wrap_id (x := j + 1) (by omega) (by omega), wrap_id (x := c + 1) (by omega) (by omega)]
  simp only [Option.bind_some]
  rw [List.drop_eq_getElem_cons (by omega), ← rdT_get hj (by omega), List.countP_cons, show crossB s.f0 s.f1 (rd_T25 v j).f0 (rd_T25 v j).f1 = cr s (rd_T25 v j) from rfl, show j.toNat + 1 = (j + 1).toNat by omega]
  by_cases h : cr s (rd_T25 v j) = true
  ·rw [if_pos h, ih k (c + 1) (j + 1) (by omega) (by omega) (by omega) (by omega), if_pos h]
   congr 1; omega
  ·rw [if_neg h, ih k c (j + 1) (by omega) (by omega) hc (by omega), if_neg h]; rfl
theorem count_s (l : List S25) (hl : (l.length : Int) ≤ 30) (d : Nat) : ∀ (k : Nat) (c i : Int), 0 ≤ i → i + d = l.length → 32 * d < k → 0 ≤ c → c + (prs (l.drop i.toNat) : Nat) ≤ 900 → spec_CountMeetings.l0 k l c l (l.length : Int) i = some (c + (prs (l.drop i.toNat) : Nat), true) := by
 induction d with
 | zero =>
  intro k c i hi hd hk hc hc2
  obtain ⟨k, rfl⟩ : ∃ m, k = m + 1 := ⟨k - 1, by omega⟩
  rw [spec_CountMeetings.l0, if_neg (by omega), List.drop_eq_nil_of_le (by omega)]; simp [prs]
 | succ d ih =>
  intro k c i hi hd hk hc hc2
  obtain ⟨k, rfl⟩ : ∃ m, k = (m + d + 1) + 1 := ⟨k - d - 2, by omega⟩
  rw [spec_CountMeetings.l0, if_pos (by omega), if_pos hi, if_pos (by omega), wrap_id (x := i + 1) (by omega) (by omega), if_pos (by omega), if_pos (by omega)]
  simp only [Option.bind_some]
  have e : l.drop i.toNat = rd_T25 l i :: l.drop (i + 1).toNat := by
   rw [List.drop_eq_getElem_cons (by omega), ← rdT_get hi (by omega), show i.toNat + 1 = (i + 1).toNat by omega]
  have ev : ((l.drop (i + 1).toNat).length : Int) = d := by rw [List.length_drop]; omega
  rw [e] at hc2 ⊢
  simp only [prs] at hc2 ⊢
  rw [meet_in_s (rd_T25 l i) l (l.drop (i + 1).toNat) l _ i (by omega) d k c 0 (by omega) (by omega) hc (by omega), show ((0 : Int)).toNat = 0 from rfl, List.drop_zero, wrap_id (x := i + 1) (by omega) (by omega),
   ih k _ (i + 1) (by omega) (by omega) (by omega) (by omega) (by omega)]
  congr 2; omega
theorem count_i (l : List S25) (hl : (l.length : Int) ≤ 30) (d : Nat) : ∀ (k : Nat) (i : Int), 0 ≤ i → i + d = l.length → 32 * d < k → impl_CountMeetings.l0 k l ((prs (l.take i.toNat) : Nat) : Int) l (l.length : Int) i = some (((prs l : Nat) : Int), true) := by
 induction d with
 | zero =>
  intro k i hi hd hk
  obtain ⟨k, rfl⟩ : ∃ m, k = m + 1 := ⟨k - 1, by omega⟩
  rw [impl_CountMeetings.l0, if_neg (by omega), List.take_of_length_le (by omega)]
 | succ d ih =>
  intro k i hi hd hk
  obtain ⟨k, rfl⟩ : ∃ m, k = (m + i.toNat + 1) + 1 := ⟨k - i.toNat - 2, by omega⟩
  rw [impl_CountMeetings.l0, if_pos (by omega), if_pos hi, if_pos (by omega), if_pos (by omega)]
  simp only [Option.bind_some]
  have e : l.take (i + 1).toNat = l.take i.toNat ++ [rd_T25 l i] := by
   rw [show (i + 1).toNat = i.toNat + 1 by omega, List.take_succ_eq_append_getElem (by omega), ← rdT_get hi (by omega)]
  have ev : (l.take i.toNat).length = i.toNat := by rw [List.length_take]; omega
  have hp := prs_le (l.take i.toNat)
  rw [ev] at hp
  have hq : i.toNat * i.toNat ≤ 30 * 30 := Nat.mul_le_mul (by omega) (by omega)
  rw [meet_in_i (rd_T25 l i) l (l.take i.toNat) l _ i (by omega) i.toNat k _ 0 (by omega) (by omega) (by omega) (by omega), wrap_id (x := i + 1) (by omega) (by omega)]
  have h := ih k (i + 1) (by omega) (by omega) (by omega)
  rw [e, prs_snoc] at h
  rw [← h]
  congr 1
theorem count_both {l : List S25} (hl : (l.length : Int) ≤ 1048576) {K : Nat} (hK : 1049000 ≤ K) : ∃ r : Int × Bool, spec_CountMeetings.f K l = some r ∧ impl_CountMeetings.f K l = some r ∧ r.2 = goodT l ∧ (goodT l = true → r.1 = ((prs l : Nat) : Int) ∧ prs l ≤ 900) := by
 by_cases h : goodT l = true
 ·have hb := goodT_true h
  have hp := prs_le l
  have hq : l.length * l.length ≤ 30 * 30 := Nat.mul_le_mul (by omega) (by omega)
  refine ⟨(((prs l : Nat) : Int), true), ?_, ?_, h.symm, fun _ => ⟨rfl, by omega⟩⟩
  ·unfold spec_CountMeetings.f
   rw [good_s hl (by omega), h]
   simp only [Option.bind_some, if_true]
   rw [count_s l (by omega) l.length K 0 0 (by omega) (by omega) (by omega) (by omega) (by simp; omega)]
   simp
  ·unfold impl_CountMeetings.f
   rw [good_i hl (by omega), h]
   simp only [Option.bind_some, if_true]
   have := count_i l (by omega) l.length K 0 (by omega) (by omega) (by omega)
   simpa [prs] using this
 ·simp only [Bool.not_eq_true] at h
  refine ⟨(0, false), ?_, ?_, h.symm, fun e => by rw [h] at e; cases e⟩
  ·unfold spec_CountMeetings.f
   rw [good_s hl (by omega), h]; rfl
  ·unfold impl_CountMeetings.f
   rw [good_i hl (by omega), h]; rfl
theorem cr_self (s : S25) : cr s s = false := by unfold cr crossB; simp
/-- Each thread's meetings, added up: each pair is counted twice. -/
theorem sum_cr : ∀ l : List S25, (l.map fun x => l.countP (cr x)).sum = 2 * prs l
 | [] => rfl
 | y :: t => by
  have ih := sum_cr t
  have key : ∀ m : List S25, (m.map fun x => (y :: t).countP (cr x)).sum = m.countP (cr y) + (m.map fun x => t.countP (cr x)).sum := by
   intro m
   induction m with
   | nil => rfl
   | cons x m ihm =>
    simp only [List.map_cons, List.sum_cons, List.countP_cons] at ihm ⊢
    rw [ihm, cr_comm y x]
    omega
  rw [List.map_cons, List.sum_cons, key t, ih, List.countP_cons, cr_self]
  simp only [prs, Bool.false_eq_true, if_false]
  omega
theorem gcdGo_pos {a b : Int} (ha : 0 ≤ a) (hb : 0 < b) : 1 ≤ gcdGo a b ∧ gcdGo a b ≤ b := by
 rw [gcdGo_of ha (by omega)]
 have h1 : 0 < Nat.gcd a.toNat b.toNat := Nat.gcd_pos_of_pos_right _ (by omega)
 have h2 : Nat.gcd a.toNat b.toNat ≤ b.toNat := Nat.le_of_dvd (by omega) (Nat.gcd_dvd_right _ _)
 omega
/-- A fraction in lowest terms, as both sides tell it. -/
def lowOf (n d : Int) : Int × Int := (wrap64 (Int.tdiv n (gcdGo n d)), wrap64 (Int.tdiv d (gcdGo n d)))
theorem sgLow_eq {n d : Int} (hn : 0 ≤ n) (hd : 0 < d) : spec_sgLow.f n d = some (lowOf n d) := by
 have := gcdGo_pos hn hd
 unfold spec_sgLow.f spec_srCommon.f
 simp only [Option.bind_some]
 rw [if_neg (by omega)]; rfl
theorem lowest_pos {n d : Int} (hn : 0 ≤ n) (hd : 0 < d) : impl_lowest.f n d = some (lowOf n d) := by
 have := gcdGo_pos hn hd
 unfold impl_lowest.f impl_divisor.f
 simp only [Option.bind_some]
 rw [if_neg (by omega), if_neg (by omega)]; rfl
theorem lowest_neg {n d : Int} (hn : 0 ≤ -n) (hd : 0 < -d) (hn2 : -n ≤ 1000000000) (hd2 : -d ≤ 1000000000) : impl_lowest.f n d = some (lowOf (-n) (-d)) := by
 have := gcdGo_pos hn hd
 unfold impl_lowest.f impl_divisor.f
 rw [wrap_id (x := -n) (by omega) (by omega), wrap_id (x := -d) (by omega) (by omega)]
 simp only [Option.bind_some]
 rw [if_pos (by omega), if_neg (by omega)]; rfl
theorem mul_bd {a b A B : Int} (ha : 0 ≤ a) (haA : a ≤ A) (hb : 0 ≤ b) (hbB : b ≤ B) : 0 ≤ a * b ∧ a * b ≤ A * B :=
 ⟨Int.mul_nonneg ha hb, Int.mul_le_mul haA hbB hb (by omega)⟩
theorem crossB_true {a b c d : Int} : crossB a b c d = true ↔ a > c ∧ b < d ∨ a < c ∧ b > d := by simp [crossB]
/-- Where two threads meet. -/
theorem meeting_both {a b c d : Int} (h : thrOk a b = true) (h' : thrOk c d = true) (hx : crossB a b c d = true) : ∃ p q : Int × Int, spec_sgMeeting.f a b c d = some [p.1, p.2, q.1, q.2] ∧ impl_meeting.f a b c d = some [p.1, p.2, q.1, q.2] := by
 have hb := thrOk_true.1 h
 have hd := thrOk_true.1 h'
 rcases crossB_true.1 hx with h1 | h1
 ·have m1 := mul_bd (a := a) (b := d) (A := 100) (B := 100) (by omega) (by omega) (by omega) (by omega)
  have m2 := mul_bd (a := c) (b := b) (A := 100) (B := 100) (by omega) (by omega) (by omega) (by omega)
  have m3 := mul_bd (a := c) (b := a) (A := 100) (B := 100) (by omega) (by omega) (by omega) (by omega)
  have m4 := mul_bd (a := d) (b := b) (A := 100) (B := 100) (by omega) (by omega) (by omega) (by omega)
  have m5 := mul_bd (a := c * a) (b := d - b) (A := 10000) (B := 100) (by omega) (by omega) (by omega) (by omega)
  have m6 := mul_bd (a := d * b) (b := a - c) (A := 10000) (B := 100) (by omega) (by omega) (by omega) (by omega)
  have m7 := mul_bd (a := d - b) (b := a) (A := 100) (B := 100) (by omega) (by omega) (by omega) (by omega)
  have m8 := mul_bd (a := a - c) (b := b) (A := 100) (B := 100) (by omega) (by omega) (by omega) (by omega)
  have hden : 0 < a * d - c * b := by
   have i1 : c * d < a * d := Int.mul_lt_mul_of_pos_right (by omega) (by omega)
   have i2 : c * b < c * d := Int.mul_lt_mul_of_pos_left (by omega) (by omega)
   omega
  have e1 : (d - b) * a * c = c * a * (d - b) := by grind
  have e2 : (a - c) * b * d = d * b * (a - c) := by grind
  have e3 : b * c = c * b := Int.mul_comm _ _
  refine ⟨lowOf (c * a * (d - b)) (a * d - c * b), lowOf (d * b * (a - c)) (a * d - c * b), ?_, ?_⟩
  ·unfold spec_sgMeeting.f
   rw [if_pos h1.1, wrap_id (x := c * a) (by omega) (by omega), wrap_id (x := d - b) (by omega) (by omega), wrap_id (x := a * d) (by omega) (by omega), wrap_id (x := c * b) (by omega) (by omega), wrap_id (x := d * b) (by omega) (by omega), wrap_id (x := a - c) (by omega) (by omega),
    wrap_id (x := c * a * (d - b)) (by omega) (by omega), wrap_id (x := d * b * (a - c)) (by omega) (by omega), wrap_id (x := a * d - c * b) (by omega) (by omega), sgLow_eq m5.1 hden]
   simp only [Option.bind_some]
   rw [sgLow_eq m6.1 hden]; rfl
  ·unfold impl_meeting.f
   rw [e3, wrap_id (x := d - b) (by omega) (by omega), wrap_id (x := (d - b) * a) (by omega) (by omega), wrap_id (x := (d - b) * a * c) (by omega) (by omega), wrap_id (x := a - c) (by omega) (by omega), wrap_id (x := (a - c) * b) (by omega) (by omega), wrap_id (x := (a - c) * b * d) (by omega) (by omega),
    wrap_id (x := a * d) (by omega) (by omega), wrap_id (x := c * b) (by omega) (by omega), wrap_id (x := a * d - c * b) (by omega) (by omega), e1, e2, lowest_pos m5.1 hden]
   simp only [Option.bind_some]
   rw [lowest_pos m6.1 hden]; rfl
 ·have m1 := mul_bd (a := c) (b := b) (A := 100) (B := 100) (by omega) (by omega) (by omega) (by omega)
  have m2 := mul_bd (a := a) (b := d) (A := 100) (B := 100) (by omega) (by omega) (by omega) (by omega)
  have m3 := mul_bd (a := a) (b := c) (A := 100) (B := 100) (by omega) (by omega) (by omega) (by omega)
  have m4 := mul_bd (a := b) (b := d) (A := 100) (B := 100) (by omega) (by omega) (by omega) (by omega)
  have m5 := mul_bd (a := a * c) (b := b - d) (A := 10000) (B := 100) (by omega) (by omega) (by omega) (by omega)
  have m6 := mul_bd (a := b * d) (b := c - a) (A := 10000) (B := 100) (by omega) (by omega) (by omega) (by omega)
  have m7 := mul_bd (a := b - d) (b := a) (A := 100) (B := 100) (by omega) (by omega) (by omega) (by omega)
  have m8 := mul_bd (a := c - a) (b := b) (A := 100) (B := 100) (by omega) (by omega) (by omega) (by omega)
  have hden : 0 < c * b - a * d := by
   have i1 : a * b < c * b := Int.mul_lt_mul_of_pos_right (by omega) (by omega)
   have i2 : a * d < a * b := Int.mul_lt_mul_of_pos_left (by omega) (by omega)
   omega
  have e1 : (d - b) * a * c = -(a * c * (b - d)) := by grind
  have e2 : (a - c) * b * d = -(b * d * (c - a)) := by grind
  have e3 : b * c = c * b := Int.mul_comm _ _
  have e4 : (d - b) * a = -((b - d) * a) := by grind
  have e5 : (a - c) * b = -((c - a) * b) := by grind
  refine ⟨lowOf (a * c * (b - d)) (c * b - a * d), lowOf (b * d * (c - a)) (c * b - a * d), ?_, ?_⟩
  ·unfold spec_sgMeeting.f
   rw [if_neg (by omega), wrap_id (x := a * c) (by omega) (by omega), wrap_id (x := b - d) (by omega) (by omega), wrap_id (x := c * b) (by omega) (by omega), wrap_id (x := a * d) (by omega) (by omega), wrap_id (x := b * d) (by omega) (by omega), wrap_id (x := c - a) (by omega) (by omega),
    wrap_id (x := a * c * (b - d)) (by omega) (by omega), wrap_id (x := b * d * (c - a)) (by omega) (by omega), wrap_id (x := c * b - a * d) (by omega) (by omega), sgLow_eq m5.1 hden]
   simp only [Option.bind_some]
   rw [sgLow_eq m6.1 hden]; rfl
  ·unfold impl_meeting.f
   rw [e3, wrap_id (x := d - b) (by omega) (by omega), wrap_id (x := (d - b) * a) (by omega) (by omega), wrap_id (x := (d - b) * a * c) (by omega) (by omega), wrap_id (x := a - c) (by omega) (by omega), wrap_id (x := (a - c) * b) (by omega) (by omega), wrap_id (x := (a - c) * b * d) (by omega) (by omega),
    wrap_id (x := a * d) (by omega) (by omega), wrap_id (x := c * b) (by omega) (by omega), wrap_id (x := a * d - c * b) (by omega) (by omega), e1, e2,
    lowest_neg (by omega) (by omega) (by omega) (by omega)]
   simp only [Option.bind_some]
   rw [lowest_neg (by omega) (by omega) (by omega) (by omega)]
   simp only [Option.bind_some, Int.neg_neg]
   rw [show -(a * d - c * b) = c * b - a * d by omega]
/-- The numbers i, i + 1, .. of the next d at which p holds. -/
def numsD (p : Int → Bool) (i : Int) : Nat → List Int
 | 0 => []
 | d + 1 => if p i = true then i :: numsD p (i + 1) d else numsD p (i + 1) d
theorem numsD_len (p : Int → Bool) (i : Int) (d : Nat) : (numsD p i d).length ≤ d := by
 induction d generalizing i with
 | zero => simp [numsD]
 | succ d ih =>
  have := ih (i + 1)
  simp only [numsD]
  split
  ·simp; omega
  ·omega
theorem numsD_congr {p q : Int → Bool} {i : Int} {d : Nat} (h : ∀ x, i ≤ x → x < i + d → p x = q x) : numsD p i d = numsD q i d := by
 induction d generalizing i with
 | zero => rfl
 | succ d ih =>
  have h0 := h i (by omega) (by omega)
  have h1 := ih (i := i + 1) (fun x hx hy => h x (by omega) (by omega))
  simp only [numsD, h0, h1]
theorem numsD_eq (p : Int → Bool) (i : Int) (d : Nat) : ((List.range d).map fun (j : Nat) => i + (j : Int)).filter p = numsD p i d := by
 induction d generalizing i with
 | zero => rfl
 | succ d ih =>
  rw [List.range_succ_eq_map, List.map_cons, List.map_map]
  have e : (fun (j : Nat) => i + (j : Int)) ∘ Nat.succ = fun (j : Nat) => (i + 1) + (j : Int) := by funext j; simp; omega
  rw [e, List.filter_cons, ih]
  simp [numsD]
theorem numsW_numsD (p : Int → Bool) (lo hi : Int) : numsW p lo hi = numsD p lo (hi + 1 - lo).toNat := numsD_eq p lo _
theorem numsW_len (p : Int → Bool) (lo hi : Int) : ((numsW p lo hi).length : Int) ≤ max 0 (hi + 1 - lo) := by
 rw [numsW_numsD]
 have := numsD_len p lo (hi + 1 - lo).toNat
 omega
theorem low_told2 {n d : Int} (hn : 0 ≤ n) (hd : 0 < d) (hn2 : n ≤ 1000000000) (hd2 : d ≤ 1000000000) : 0 ≤ (lowOf n d).1 ∧ (lowOf n d).1 ≤ n ∧ 1 ≤ (lowOf n d).2 ∧ (lowOf n d).2 ≤ d := by
 have hp := gcdGo_pos hn hd
 have h1 : gcdGo n d ∣ n := by
  rw [gcdGo_of hn (by omega)]
  have := Int.natCast_dvd_natCast.2 (Nat.gcd_dvd_left n.toNat d.toNat)
  rwa [Int.toNat_of_nonneg hn] at this
 have h2 : gcdGo n d ∣ d := by
  rw [gcdGo_of hn (by omega)]
  have := Int.natCast_dvd_natCast.2 (Nat.gcd_dvd_right n.toNat d.toNat)
  rwa [Int.toNat_of_nonneg (show 0 ≤ d by omega)] at this
 obtain ⟨u, hu⟩ := h1
 obtain ⟨v, hv⟩ := h2
 have e1 : Int.tdiv n (gcdGo n d) = u := by
  conv => lhs; arg 1; rw [hu]
  exact Int.mul_tdiv_cancel_left _ (by omega)
 have e2 : Int.tdiv d (gcdGo n d) = v := by
  conv => lhs; arg 1; rw [hv]
  exact Int.mul_tdiv_cancel_left _ (by omega)
 generalize hg : gcdGo n d = g at *
 have hu0 : 0 ≤ u := by
  rcases Int.lt_or_le u 0 with h | h
  ·have : g * u < 0 := Int.mul_neg_of_pos_of_neg (by omega) h
   omega
  ·exact h
 have hv0 : 1 ≤ v := by
  rcases Int.lt_or_le v 1 with h | h
  ·have : g * v ≤ 0 := Int.mul_nonpos_of_nonneg_of_nonpos (by omega) (by omega)
   omega
  ·exact h
 have hun : u ≤ g * u := by
  have := Int.mul_le_mul_of_nonneg_right hp.1 hu0
  omega
 have hvn : v ≤ g * v := by
  have := Int.mul_le_mul_of_nonneg_right hp.1 (show 0 ≤ v by omega)
  omega
 have e : lowOf n d = (u, v) := by
  unfold lowOf
  rw [hg, e1, e2, wrap_id (by omega) (by omega), wrap_id (by omega) (by omega)]
 rw [e]
 exact ⟨hu0, by simp only; omega, hv0, by simp only; omega⟩
/-- Where two threads meet, as numbers of a bounded size. -/
theorem meet_told {a b c d : Int} (h : thrOk a b = true) (h' : thrOk c d = true) (hx : crossB a b c d = true) : ∃ r : List Int, spec_sgMeeting.f a b c d = some r ∧ impl_meeting.f a b c d = some r ∧ r.length = 4 ∧ 0 < rd r 1 ∧ rd r 1 ≤ 1000000000 ∧ -1000000000 ≤ rd r 0 ∧ rd r 0 ≤ 1000000000 := by
 obtain ⟨p, q, e1, e2⟩ := meeting_both h h' hx
 refine ⟨_, e1, e2, rfl, ?_⟩
 have hb := thrOk_true.1 h
 have hd := thrOk_true.1 h'
 show 0 < p.2 ∧ p.2 ≤ 1000000000 ∧ -1000000000 ≤ p.1 ∧ p.1 ≤ 1000000000
 unfold spec_sgMeeting.f at e1
 rcases crossB_true.1 hx with h1 | h1
 ·have m1 := mul_bd (a := a) (b := d) (A := 100) (B := 100) (by omega) (by omega) (by omega) (by omega)
  have m2 := mul_bd (a := c) (b := b) (A := 100) (B := 100) (by omega) (by omega) (by omega) (by omega)
  have m3 := mul_bd (a := c) (b := a) (A := 100) (B := 100) (by omega) (by omega) (by omega) (by omega)
  have m5 := mul_bd (a := c * a) (b := d - b) (A := 10000) (B := 100) (by omega) (by omega) (by omega) (by omega)
  have hden : 0 < a * d - c * b := by
   have i1 : c * d < a * d := Int.mul_lt_mul_of_pos_right (by omega) (by omega)
   have i2 : c * b < c * d := Int.mul_lt_mul_of_pos_left (by omega) (by omega)
   omega
  rw [if_pos h1.1, wrap_id (x := c * a) (by omega) (by omega), wrap_id (x := d - b) (by omega) (by omega), wrap_id (x := a * d) (by omega) (by omega), wrap_id (x := c * b) (by omega) (by omega),
   wrap_id (x := c * a * (d - b)) (by omega) (by omega), wrap_id (x := a * d - c * b) (by omega) (by omega), sgLow_eq m5.1 hden, Option.bind_some] at e1
  obtain ⟨t, _, e1⟩ := Option.bind_eq_some_iff.mp e1
  have e3 := Option.some.inj e1
  have k := low_told2 m5.1 hden (by omega) (by omega)
  injection e3 with f1 e3
  injection e3 with f2 e3
  rw [← f1, ← f2]
  omega
 ·have m1 := mul_bd (a := c) (b := b) (A := 100) (B := 100) (by omega) (by omega) (by omega) (by omega)
  have m2 := mul_bd (a := a) (b := d) (A := 100) (B := 100) (by omega) (by omega) (by omega) (by omega)
  have m3 := mul_bd (a := a) (b := c) (A := 100) (B := 100) (by omega) (by omega) (by omega) (by omega)
  have m5 := mul_bd (a := a * c) (b := b - d) (A := 10000) (B := 100) (by omega) (by omega) (by omega) (by omega)
  have hden : 0 < c * b - a * d := by
   have i1 : a * b < c * b := Int.mul_lt_mul_of_pos_right (by omega) (by omega)
   have i2 : a * d < a * b := Int.mul_lt_mul_of_pos_left (by omega) (by omega)
   omega
  rw [if_neg (by omega), wrap_id (x := a * c) (by omega) (by omega), wrap_id (x := b - d) (by omega) (by omega), wrap_id (x := c * b) (by omega) (by omega), wrap_id (x := a * d) (by omega) (by omega),
   wrap_id (x := a * c * (b - d)) (by omega) (by omega), wrap_id (x := c * b - a * d) (by omega) (by omega), sgLow_eq m5.1 hden, Option.bind_some] at e1
  obtain ⟨t, _, e1⟩ := Option.bind_eq_some_iff.mp e1
  have e3 := Option.some.inj e1
  have k := low_told2 m5.1 hden (by omega) (by omega)
  injection e3 with f1 e3
  injection e3 with f2 e3
  rw [← f1, ← f2]
  omega
/-- Two threads of a good list that meet. -/
theorem mtg_good {l : List S25} (h : goodT l = true) {k x : Int} (k0 : 0 ≤ k) (k1 : k < (l.length : Int)) (x0 : 0 ≤ x) (x1 : x < (l.length : Int)) (hm : mtgP l k x = true) :
  ∃ r, mtgL l k x = some r ∧ spec_sgMeeting.f ((rd_T25 l k).f0) ((rd_T25 l k).f1) ((rd_T25 l x).f0) ((rd_T25 l x).f1) = some r ∧ r.length = 4 ∧ 0 < rd r 1 ∧ rd r 1 ≤ 1000000000 ∧ -1000000000 ≤ rd r 0 ∧ rd r 0 ≤ 1000000000 := by
 obtain ⟨_, _, g⟩ := goodT_true h
 unfold mtgP at hm
 rw [doMeetT_eq] at hm
 have hc : crossB ((rd_T25 l k).f0) ((rd_T25 l k).f1) ((rd_T25 l x).f0) ((rd_T25 l x).f1) = true := by simpa using hm
 obtain ⟨r, e1, e2, e3⟩ := meet_told (g k k0 k1) (g x x0 x1) hc
 exact ⟨r, e2, e1, e3⟩
theorem mtgP_eq (l : List S25) (k x : Int) : spec_sgMeet.f ((rd_T25 l k).f0) ((rd_T25 l k).f1) ((rd_T25 l x).f0) ((rd_T25 l x).f1) = some (mtgP l k x) := by
 unfold mtgP
 rw [sgMeet_eq, doMeetT_eq]
 cases crossB ((rd_T25 l k).f0) ((rd_T25 l k).f1) ((rd_T25 l x).f0) ((rd_T25 l x).f1) <;> rfl
theorem mtg_ok {l : List S25} (h : goodT l = true) {k x : Int} (k0 : 0 ≤ k) (k1 : k < (l.length : Int)) (x0 : 0 ≤ x) (x1 : x < (l.length : Int)) (hm : mtgP l k x = true) : mtgG l k x := by
 obtain ⟨r, e1, _, e2⟩ := mtg_good h k0 k1 x0 x1 hm
 refine ⟨x0, x1, ?_⟩
 unfold mtgOk
 rw [e1]
 exact decide_eq_true e2
theorem mtgW_mem {l : List S25} {k x : Int} : x ∈ mtgW l k ↔ 0 ≤ x ∧ x < (l.length : Int) ∧ mtgP l k x = true := by
 unfold mtgW numsW
 rw [List.mem_filter, List.mem_map]
 constructor
 ·rintro ⟨⟨j, hj, rfl⟩, h⟩
  have := List.mem_range.1 hj
  exact ⟨by omega, by omega, h⟩
 ·rintro ⟨h0, h1, h⟩
  exact ⟨⟨x.toNat, List.mem_range.2 (by omega), by omega⟩, h⟩
theorem mtg_all {l : List S25} (h : goodT l = true) {k : Int} (k0 : 0 ≤ k) (k1 : k < (l.length : Int)) : mtgAll l k = true := by
 obtain ⟨_, hl, _⟩ := goodT_true h
 unfold mtgAll
 rw [Bool.and_eq_true, decide_eq_true_eq, List.all_eq_true]
 refine ⟨by omega, fun x hx => ?_⟩
 obtain ⟨x0, x1, hm⟩ := mtgW_mem.1 hx
 exact (mtg_ok h k0 k1 x0 x1 hm).2.2
/-- What the reference holds when it has come to a thread: the ones before it that meet, in order. -/
structure OutAt (l : List S25) (k : Int) (out : List Int) (i : Int) : Prop where
 mem : ∀ z, z ∈ out ↔ 0 ≤ z ∧ z < i ∧ mtgP l k z = true
 pw : out.Pairwise (lt2 (mtgC l k))
theorem OutAt.len {l : List S25} {k i : Int} {out : List Int} (h : OutAt l k out i) (hG : ∀ z ∈ out, mtgG l k z) (i0 : 0 ≤ i) : (out.length : Int) ≤ i := by
 have O := mtgC_ord l k
 have hn : out.Nodup := by
  rw [List.nodup_iff_pairwise_ne]
  exact h.pw.imp_of_mem (fun ha _ hab e => by subst e; exact lt2_irrefl O (hG _ ha) hab)
 have := hn.length_le_of_subset (l₂ := (List.range i.toNat).map fun (j : Nat) => (j : Int)) (fun z hz => by
  have := (h.mem z).1 hz
  exact List.mem_map.2 ⟨z.toNat, List.mem_range.2 (by omega), by omega⟩)
 rw [List.length_map, List.length_range] at this
 omega
theorem own_eq {xs : List Int} (h : xs.length < 17592186044416) : spec_l1Own.f xs = some xs := by
 unfold spec_l1Own.f
 simp [h]
theorem mo_l1 {l : List S25} (h : goodT l = true) {k i : Int} (k0 : 0 ≤ k) (k1 : k < (l.length : Int)) (i0 : 0 ≤ i) (i1 : i < (l.length : Int)) (hm : mtgP l k i = true) {m : List Int} (em : mtgL l k i = some m) (ml : m.length = 4) {out : List Int} (hO : OutAt l k out i) (ho : (out.length : Int) ≤ i) (j : Nat) : ∀ (K : Nat), j ≤ out.length → (∀ t, j ≤ t → t < out.length → 0 < mtgC l k (out.getD t 0) i) → j + 2 ≤ K →
  ∃ p K', p ≤ j ∧ K ≤ K' + j + 1 ∧ (0 < p → mtgC l k (out.getD (p - 1) 0) i ≤ 0) ∧ (∀ t, p ≤ t → t < out.length → 0 < mtgC l k (out.getD t 0) i) ∧
   spec_MeetingsOnThread.l1 K l k out i m (j : Int) l (l.length : Int) i = spec_MeetingsOnThread.l0 K' l k (out.take p ++ [i] ++ out.drop p) l (l.length : Int) (i + 1) := by
 have hl := (goodT_true h).2.1
 induction j with
 | zero =>
  intro K _ hj hK
  obtain ⟨K, rfl⟩ : ∃ q, K = q + 1 := ⟨K - 1, by omega⟩
  refine ⟨0, K, Nat.le_refl _, by omega, fun h => absurd h (Nat.lt_irrefl _), fun t _ ht => hj t (Nat.zero_le _) ht, ?_⟩
  rw [spec_MeetingsOnThread.l1, if_neg (by omega), if_pos (by omega), if_pos (by omega), own_eq (by rw [List.length_take]; omega), Option.bind_some, if_pos (by simp), Option.bind_some, Option.bind_some, if_pos (by simp; omega), wrap_id (x := i + 1) (by omega) (by omega)]
  simp
 | succ j ih =>
  intro K hjl hj hK
  obtain ⟨K, rfl⟩ : ∃ q, K = q + 1 := ⟨K - 1, by omega⟩
  have ew : wrap64 (((j + 1 : Nat) : Int) - 1) = (j : Int) := by rw [wrap_id (by omega) (by omega)]; omega
  have eo : rd out (j : Int) = out.getD j 0 := by simp [rd]
  have hmem : out.getD j 0 ∈ out := by rw [List.getD_eq_getElem?_getD, List.getElem?_eq_getElem (show j < out.length by omega)]; exact List.getElem_mem _
  obtain ⟨o0, o1, om⟩ := (hO.mem _).1 hmem
  obtain ⟨r, er, es, rl, _⟩ := mtg_good h k0 k1 o0 (by omega) om
  have hc := mtgC_told er em rl ml
  rw [cmpM_told rl ml] at hc
  have hc := Option.some.inj hc
  rw [spec_MeetingsOnThread.l1, if_pos (by omega), if_pos k0, if_pos k1, ew, if_pos (by omega), if_pos (by omega), eo, if_pos o0, if_pos (by omega), es, Option.bind_some, rl, ml, if_pos (by decide), if_pos (by decide), if_pos (by decide), if_pos (by decide)]
  by_cases hle : wrap64 (rd r 0 * rd m 1) ≤ wrap64 (rd m 0 * rd r 1)
  ·refine ⟨j + 1, K, Nat.le_refl _, by omega, fun _ => ?_, fun t h1 h2 => hj t h1 h2, ?_⟩
   ·rw [Nat.add_sub_cancel, ← hc]
    repeat' split
    all_goals omega
   ·rw [if_pos hle, if_pos (by omega), if_pos (by omega), own_eq (by rw [List.length_take]; omega), Option.bind_some, if_pos (by rw [List.length_take]; omega), Option.bind_some, Option.bind_some, if_pos (by rw [List.length_append, List.length_take, List.length_drop, List.length_singleton]; omega), wrap_id (x := i + 1) (by omega) (by omega), Int.toNat_natCast]
  ·rw [if_neg hle]
   obtain ⟨p, K', h1, h2, h3, h4, h5⟩ := ih K (by omega) (fun t t1 t2 => by
    by_cases e : t = j
    ·subst e
     rw [← hc]
     repeat' split
     all_goals omega
    ·exact hj t (by omega) t2) (by omega)
   exact ⟨p, K', by omega, by omega, h3, h4, h5⟩
theorem getD_get {xs : List Int} {t : Nat} (h : t < xs.length) : xs.getD t 0 = xs[t] := by simp [List.getD_eq_getElem?_getD, List.getElem?_eq_getElem h]
/-- One thread more, put in its place. -/
theorem OutAt.put {l : List S25} {k i : Int} {out : List Int} (hO : OutAt l k out i) (hG : ∀ z ∈ out, mtgG l k z) (gi : mtgG l k i) (hm : mtgP l k i = true) {p : Nat} (hp : p ≤ out.length) (h1 : 0 < p → mtgC l k (out.getD (p - 1) 0) i ≤ 0) (h2 : ∀ t, p ≤ t → t < out.length → 0 < mtgC l k (out.getD t 0) i) : OutAt l k (out.take p ++ [i] ++ out.drop p) (i + 1) := by
 have O := mtgC_ord l k
 have i0 := gi.1
 have hcut : out.take p ++ out.drop p = out := List.take_append_drop p out
 have ht : ∀ z ∈ out.take p, z ∈ out := fun z hz => List.mem_of_mem_take hz
 have hd : ∀ z ∈ out.drop p, z ∈ out := fun z hz => List.mem_of_mem_drop hz
 have pw := hO.pw
 rw [← hcut] at pw
 obtain ⟨pa, pb, pc⟩ := List.pairwise_append.1 pw
 have ha : ∀ z ∈ out.take p, lt2 (mtgC l k) z i := by
  intro z hz
  have hpp : 0 < p := by
   rcases Nat.eq_zero_or_pos p with e | e
   ·subst e; simp at hz
   ·exact e
  have hb := h1 hpp
  have hw : out.getD (p - 1) 0 ∈ out := by rw [getD_get (by omega)]; exact List.getElem_mem _
  have hwi := (hO.mem _).1 hw
  have hlt : lt2 (mtgC l k) (out.getD (p - 1) 0) i := by
   by_cases e : mtgC l k (out.getD (p - 1) 0) i < 0
   ·exact .inl e
   ·exact .inr ⟨by omega, by omega⟩
  obtain ⟨t, t1, rfl⟩ := List.getElem_of_mem hz
  rw [List.length_take] at t1
  rw [List.getElem_take]
  by_cases e : t = p - 1
  ·rw [← getD_get (show t < out.length by omega), e]; exact hlt
  ·have h3 := List.pairwise_iff_getElem.1 hO.pw t (p - 1) (by omega) (by omega) (by omega)
   rw [getD_get (show p - 1 < out.length by omega)] at hlt
   exact lt2_trans O (hG _ (List.getElem_mem _)) (hG _ (List.getElem_mem _)) gi h3 hlt
 have hb : ∀ z ∈ out.drop p, lt2 (mtgC l k) i z := by
  intro z hz
  obtain ⟨t, t1, rfl⟩ := List.getElem_of_mem hz
  rw [List.length_drop] at t1
  rw [List.getElem_drop]
  have h3 := h2 (p + t) (by omega) (by omega)
  rw [getD_get (show p + t < out.length by omega)] at h3
  exact .inl ((O.anti _ _ gi (hG _ (List.getElem_mem _))).2 h3)
 refine ⟨fun z => ?_, ?_⟩
 ·rw [List.mem_append, List.mem_append, List.mem_singleton]
  have e : z ∈ out ↔ z ∈ out.take p ∨ z ∈ out.drop p := by rw [← List.mem_append, hcut]
  have e2 := hO.mem z
  constructor
  ·rintro ((hz | rfl) | hz)
   ·have := e2.1 (ht z hz); exact ⟨this.1, by omega, this.2.2⟩
   ·exact ⟨i0, by omega, hm⟩
   ·have := e2.1 (hd z hz); exact ⟨this.1, by omega, this.2.2⟩
  ·rintro ⟨z0, z1, zm⟩
   by_cases ez : z = i
   ·exact .inl (.inr ez)
   ·rcases e.1 (e2.2 ⟨z0, by omega, zm⟩) with hz | hz
    ·exact .inl (.inl hz)
    ·exact .inr hz
 ·rw [List.append_assoc, List.pairwise_append]
  refine ⟨pa, ?_, fun x hx y hy => ?_⟩
  ·rw [List.singleton_append, List.pairwise_cons]
   exact ⟨hb, pb⟩
  ·rw [List.singleton_append, List.mem_cons] at hy
   rcases hy with rfl | hy
   ·exact ha x hx
   ·exact pc x hx y hy
theorem mo_l0 {l : List S25} (h : goodT l = true) {k : Int} (k0 : 0 ≤ k) (k1 : k < (l.length : Int)) (d : Nat) : ∀ (K : Nat) (out : List Int) (i : Int), 0 ≤ i → i + d = l.length → OutAt l k out i → 40 * (d + 1) ≤ K →
  ∃ r, spec_MeetingsOnThread.l0 K l k out l (l.length : Int) i = some (r, true) ∧ OutAt l k r (l.length : Int) := by
 have hl := (goodT_true h).2.1
 induction d with
 | zero =>
  intro K out i i0 hi hO hK
  obtain ⟨K, rfl⟩ : ∃ q, K = q + 1 := ⟨K - 1, by omega⟩
  obtain rfl : i = (l.length : Int) := by omega
  exact ⟨out, by rw [spec_MeetingsOnThread.l0, if_neg (by omega)], hO⟩
 | succ d ih =>
  intro K out i i0 hi hO hK
  obtain ⟨K, rfl⟩ : ∃ q, K = q + 1 := ⟨K - 1, by omega⟩
  have hG : ∀ z ∈ out, mtgG l k z := fun z hz => by
   have := (hO.mem z).1 hz
   exact mtg_ok h k0 k1 this.1 (by omega) this.2.2
  rw [spec_MeetingsOnThread.l0, if_pos (by omega), if_pos i0, if_pos (by omega), if_pos k0, if_pos k1, mtgP_eq, Option.bind_some]
  by_cases hm : mtgP l k i = true
  ·obtain ⟨m, em, es, ml, _⟩ := mtg_good h k0 k1 i0 (by omega) hm
   rw [if_pos hm, es, Option.bind_some]
   have ho := hO.len hG i0
   obtain ⟨p, K', h1, h2, h3, h4, h5⟩ := mo_l1 h k0 k1 i0 (by omega) hm em ml hO ho out.length K (Nat.le_refl _) (fun t t1 t2 => by omega) (by omega)
   rw [h5]
   exact ih K' _ (i + 1) (by omega) (by omega) (hO.put hG (mtg_ok h k0 k1 i0 (by omega) hm) hm h1 h3 h4) (by omega)
  ·rw [if_neg hm, wrap_id (x := i + 1) (by omega) (by omega)]
   refine ih K out (i + 1) (by omega) (by omega) ⟨fun z => ?_, hO.pw⟩ (by omega)
   rw [hO.mem z]
   constructor
   ·rintro ⟨a, b, c⟩; exact ⟨a, by omega, c⟩
   ·rintro ⟨a, b, c⟩
    refine ⟨a, ?_, c⟩
    by_cases e : z = i
    ·subst e; exact absurd c hm
    ·omega
theorem OutAt.sorted {l : List S25} (h : goodT l = true) {k : Int} (k0 : 0 ≤ k) (k1 : k < (l.length : Int)) {r : List Int} (hO : OutAt l k r (l.length : Int)) : r = isortC (mtgC l k) (mtgW l k) := by
 have O := mtgC_ord l k
 have hg : ∀ z ∈ mtgW l k, mtgG l k z := fun z hz => by
  obtain ⟨a, b, c⟩ := mtgW_mem.1 hz
  exact mtg_ok h k0 k1 a b c
 have hn : (mtgW l k).Nodup := by
  have := numsW_up (mtgP l k) 0 ((l.length : Int) - 1)
  exact List.Pairwise.imp (fun h => by omega) this
 refine pw_ext O (fun z hz => ?_) hO.pw (isortC_pw O hg hn) (fun z => by rw [hO.mem, isortC_mem, mtgW_mem])
 have := (hO.mem z).1 hz
 exact mtg_ok h k0 k1 this.1 this.2.1 this.2.2
/-- Both sides tell the meetings on a thread alike. -/
theorem meetOn_both {l : List S25} (hl : (l.length : Int) ≤ 1048576) (a : Int) {K : Nat} (hK : 1049000 ≤ K) : ∃ r : List Int × Bool, (r.1.length : Int) ≤ 30 ∧ spec_MeetingsOnThread.f K l a = some r ∧ impl_MeetingsOnThread.f K l a = some r ∧
  (r.2 = (goodT l && decide (0 ≤ a ∧ a < (l.length : Int)))) ∧ (r.2 = true → r.1 = isortC (mtgC l a) (mtgW l a)) := by
 obtain ⟨K, rfl⟩ : ∃ q, K = q + 1 := ⟨K - 1, by omega⟩
 unfold spec_MeetingsOnThread.f impl_MeetingsOnThread.f
 rw [good_s hl (by omega), good_i hl (by omega), Option.bind_some, Option.bind_some]
 by_cases h : goodT l = true
 ·have hb := goodT_true h
  rw [if_pos h, if_pos h, l1In_rg, within_rg, Option.bind_some, Option.bind_some, wrap_id (by omega) (by omega)]
  by_cases hr : rg a 0 ((l.length : Int) - 1) = true
  ·have hr2 := rg_true.1 hr
   have k1 : a < (l.length : Int) := by omega
   have o0 : OutAt l a [] 0 := ⟨fun z => by simp; omega, List.Pairwise.nil⟩
   rw [if_pos hr, if_pos (mtg_all h hr2.1 k1), hr]
   obtain ⟨r, e, hO⟩ := mo_l0 h hr2.1 k1 l.length K [] 0 (by omega) (by omega) o0 (by omega)
   have hs := hO.sorted h hr2.1 k1
   rw [spec_MeetingsOnThread.j0, if_neg (by decide), e]
   refine ⟨(r, true), ?_, rfl, by rw [hs], ?_, fun _ => hs⟩
   ·have := hO.len (fun z hz => by
     have := (hO.mem z).1 hz
     exact mtg_ok h hr2.1 k1 this.1 this.2.1 this.2.2) (by omega)
    show (r.length : Int) ≤ 30
    omega
   ·rw [h]
    simp only [Bool.true_and]
    rw [eq_comm, decide_eq_true_eq]; omega
  ·simp only [Bool.not_eq_true] at hr
   rw [if_neg (by rw [hr]; decide), hr, spec_MeetingsOnThread.j0, if_pos (by decide)]
   refine ⟨([], false), by simp, rfl, rfl, ?_, fun h => by cases h⟩
   rw [h]
   simp only [Bool.true_and]
   rw [eq_comm, decide_eq_false_iff_not]
   intro hh
   have := (rg_true (n := a) (lo := 0) (hi := (l.length : Int) - 1)).2 ⟨hh.1, by omega⟩
   rw [hr] at this; cases this
 ·rw [if_neg h, if_neg h, spec_MeetingsOnThread.j0, if_pos rfl]
  simp only [Bool.not_eq_true] at h
  exact ⟨([], false), by simp, rfl, rfl, by rw [h]; rfl, fun h => by cases h⟩
/-- A fraction in lowest terms: what it is of the one it came of. -/
theorem low_all {n d : Int} (hn : 0 ≤ n) (hd : 0 < d) (hn2 : n ≤ 1000000000) (hd2 : d ≤ 1000000000) : ∃ g : Int, 1 ≤ g ∧ n = (lowOf n d).1 * g ∧ d = (lowOf n d).2 * g ∧ 0 ≤ (lowOf n d).1 ∧ (lowOf n d).1 ≤ n ∧ 1 ≤ (lowOf n d).2 ∧ (lowOf n d).2 ≤ d ∧ (0 < n → 1 ≤ (lowOf n d).1) ∧ Nat.gcd (lowOf n d).1.toNat (lowOf n d).2.toNat = 1 := by
 have hp := gcdGo_pos hn hd
 have hG : gcdGo n d = ((Nat.gcd n.toNat d.toNat : Nat) : Int) := gcdGo_of hn (by omega)
 obtain ⟨u, hu⟩ := Nat.gcd_dvd_left n.toNat d.toNat
 obtain ⟨v, hv⟩ := Nat.gcd_dvd_right n.toNat d.toNat
 have hpos : 0 < Nat.gcd n.toNat d.toNat := Nat.gcd_pos_of_pos_right _ (by omega)
 have hc : Nat.gcd u v = 1 := by
  have h : Nat.gcd (Nat.gcd n.toNat d.toNat * u) (Nat.gcd n.toNat d.toNat * v) = Nat.gcd n.toNat d.toNat := by rw [← hu, ← hv]
  rw [Nat.gcd_mul_left] at h
  exact Nat.eq_of_mul_eq_mul_left hpos (by omega)
 generalize hg : Nat.gcd n.toNat d.toNat = G at *
 have en : n = (G : Int) * (u : Int) := by rw [← Int.natCast_mul, ← hu]; omega
 have ed : d = (G : Int) * (v : Int) := by rw [← Int.natCast_mul, ← hv]; omega
 have e1 : Int.tdiv n (gcdGo n d) = u := by
  rw [hG]
  conv => lhs; arg 1; rw [en]
  exact Int.mul_tdiv_cancel_left _ (by omega)
 have e2 : Int.tdiv d (gcdGo n d) = v := by
  rw [hG]
  conv => lhs; arg 1; rw [ed]
  exact Int.mul_tdiv_cancel_left _ (by omega)
 have hun : (u : Int) ≤ (G : Int) * (u : Int) := by
  have := Int.mul_le_mul_of_nonneg_right (show (1 : Int) ≤ (G : Int) by omega) (show (0 : Int) ≤ (u : Int) by omega)
  omega
 have hvn : (v : Int) ≤ (G : Int) * (v : Int) := by
  have := Int.mul_le_mul_of_nonneg_right (show (1 : Int) ≤ (G : Int) by omega) (show (0 : Int) ≤ (v : Int) by omega)
  omega
 have hv0 : 1 ≤ (v : Int) := by
  rcases Nat.eq_zero_or_pos v with h | h
  ·subst h; simp at ed; omega
  ·omega
 have e : lowOf n d = ((u : Int), (v : Int)) := by
  unfold lowOf
  rw [e1, e2, wrap_id (by omega) (by omega), wrap_id (by omega) (by omega)]
 rw [e]
 refine ⟨(G : Int), by omega, by simp only; rw [Int.mul_comm]; exact en, by simp only; rw [Int.mul_comm]; exact ed, by simp only; omega, by simp only; omega, hv0, by simp only; omega, fun h => ?_, ?_⟩
 ·simp only
  rcases Nat.eq_zero_or_pos u with h2 | h2
  ·subst h2; simp at en; omega
  ·omega
 ·simp only [Int.toNat_natCast]; exact hc
theorem gLow_l0 (n : Nat) : ∀ (K : Nat) (a b : Int), 0 ≤ a → 0 ≤ b → b ≤ n → n + 2 ≤ K → laws_gLow.l0 K a b = some (Nat.gcd a.toNat b.toNat == 1) := by
 induction n with
 | zero =>
  intro K a b ha hb hn hK
  obtain ⟨K, rfl⟩ : ∃ q, K = q + 1 := ⟨K - 1, by omega⟩
  obtain rfl : b = 0 := by omega
  rw [laws_gLow.l0, if_neg (by omega)]
  congr 1
  rw [Int.toNat_zero, Nat.gcd_zero_right, Bool.eq_iff_iff, beq_iff_eq, beq_iff_eq]
  omega
 | succ n ih =>
  intro K a b ha hb hn hK
  obtain ⟨K, rfl⟩ : ∃ q, K = q + 1 := ⟨K - 1, by omega⟩
  by_cases h : b > 0
  ·have hm := Int.emod_nonneg a (show b ≠ 0 by omega)
   have hl := Int.emod_lt_of_pos a h
   rw [laws_gLow.l0, if_pos h, if_neg (by omega), Int.tmod_eq_emod_of_nonneg ha, ih K b (a % b) hb hm (by omega) (by omega)]
   have e : (a % b).toNat = a.toNat % b.toNat := by
    have h1 : ((a.toNat % b.toNat : Nat) : Int) = a % b := by rw [Int.natCast_emod, Int.toNat_of_nonneg ha, Int.toNat_of_nonneg hb]
    omega
   rw [e, Nat.gcd_comm b.toNat, ← Nat.gcd_rec, Nat.gcd_comm]
  ·obtain rfl : b = 0 := by omega
   rw [laws_gLow.l0, if_neg (by omega)]
   congr 1
   rw [Int.toNat_zero, Nat.gcd_zero_right, Bool.eq_iff_iff, beq_iff_eq, beq_iff_eq]
   omega
theorem gLow_yes {K : Nat} {n d : Int} (hn : 0 ≤ n) (hd : 1 ≤ d) (hd2 : d ≤ 1000000) (hK : 1000010 ≤ K) (hg : Nat.gcd n.toNat d.toNat = 1) : laws_gLow.f K n d = some true := by
 obtain ⟨K, rfl⟩ : ∃ q, K = q + 1 := ⟨K - 1, by omega⟩
 unfold laws_gLow.f
 rw [if_neg (by omega), laws_gLow.j0, if_neg (by simp; omega), gLow_l0 1000000 K n d hn (by omega) (by omega) (by omega), hg]
 rfl
/-- Of two threads that meet: the numbers of which the point is told. -/
def mtX (a b c d : Int) : Int := if a > c then c * a * (d - b) else a * c * (b - d)
def mtD (a b c d : Int) : Int := if a > c then a * d - c * b else c * b - a * d
def mtY (a b c d : Int) : Int := if a > c then d * b * (a - c) else b * d * (c - a)
def mtR (a b c d : Int) : List Int := [(lowOf (mtX a b c d) (mtD a b c d)).1, (lowOf (mtX a b c d) (mtD a b c d)).2, (lowOf (mtY a b c d) (mtD a b c d)).1, (lowOf (mtY a b c d) (mtD a b c d)).2]
theorem mt_bds {a b c d : Int} (h : thrOk a b = true) (h' : thrOk c d = true) (hx : crossB a b c d = true) : 0 < mtX a b c d ∧ mtX a b c d ≤ 1000000 ∧ 0 < mtD a b c d ∧ mtD a b c d ≤ 10000 ∧ 0 < mtY a b c d ∧ mtY a b c d ≤ 1000000 := by
 have hb := thrOk_true.1 h
 have hd := thrOk_true.1 h'
 unfold mtX mtD mtY
 rcases crossB_true.1 hx with h1 | h1
 ·rw [if_pos h1.1, if_pos h1.1, if_pos h1.1]
  have m1 := mul_bd (a := a) (b := d) (A := 100) (B := 100) (by omega) (by omega) (by omega) (by omega)
  have m2 := mul_bd (a := c) (b := b) (A := 100) (B := 100) (by omega) (by omega) (by omega) (by omega)
  have m3 := mul_bd (a := c) (b := a) (A := 100) (B := 100) (by omega) (by omega) (by omega) (by omega)
  have m4 := mul_bd (a := d) (b := b) (A := 100) (B := 100) (by omega) (by omega) (by omega) (by omega)
  have p3 : 0 < c * a := Int.mul_pos (by omega) (by omega)
  have p4 : 0 < d * b := Int.mul_pos (by omega) (by omega)
  have p5 : 0 < c * a * (d - b) := Int.mul_pos p3 (by omega)
  have p6 : 0 < d * b * (a - c) := Int.mul_pos p4 (by omega)
  have m5 := mul_bd (a := c * a) (b := d - b) (A := 10000) (B := 100) (by omega) (by omega) (by omega) (by omega)
  have m6 := mul_bd (a := d * b) (b := a - c) (A := 10000) (B := 100) (by omega) (by omega) (by omega) (by omega)
  have i1 : c * d < a * d := Int.mul_lt_mul_of_pos_right (by omega) (by omega)
  have i2 : c * b < c * d := Int.mul_lt_mul_of_pos_left (by omega) (by omega)
  omega
 ·have hn : ¬ a > c := by omega
  rw [if_neg hn, if_neg hn, if_neg hn]
  have m1 := mul_bd (a := c) (b := b) (A := 100) (B := 100) (by omega) (by omega) (by omega) (by omega)
  have m2 := mul_bd (a := a) (b := d) (A := 100) (B := 100) (by omega) (by omega) (by omega) (by omega)
  have m3 := mul_bd (a := a) (b := c) (A := 100) (B := 100) (by omega) (by omega) (by omega) (by omega)
  have m4 := mul_bd (a := b) (b := d) (A := 100) (B := 100) (by omega) (by omega) (by omega) (by omega)
  have p3 : 0 < a * c := Int.mul_pos (by omega) (by omega)
  have p4 : 0 < b * d := Int.mul_pos (by omega) (by omega)
  have p5 : 0 < a * c * (b - d) := Int.mul_pos p3 (by omega)
  have p6 : 0 < b * d * (c - a) := Int.mul_pos p4 (by omega)
  have m5 := mul_bd (a := a * c) (b := b - d) (A := 10000) (B := 100) (by omega) (by omega) (by omega) (by omega)
  have m6 := mul_bd (a := b * d) (b := c - a) (A := 10000) (B := 100) (by omega) (by omega) (by omega) (by omega)
  have i1 : a * b < c * b := Int.mul_lt_mul_of_pos_right (by omega) (by omega)
  have i2 : a * d < a * b := Int.mul_lt_mul_of_pos_left (by omega) (by omega)
  omega
/-- The reference tells the point so. -/
theorem mt_spec {a b c d : Int} (h : thrOk a b = true) (h' : thrOk c d = true) (hx : crossB a b c d = true) : spec_sgMeeting.f a b c d = some (mtR a b c d) := by
 have hb := thrOk_true.1 h
 have hd := thrOk_true.1 h'
 have k := mt_bds h h' hx
 unfold mtR
 unfold mtX mtD mtY at *
 unfold spec_sgMeeting.f
 have m1 := mul_bd (a := a) (b := d) (A := 100) (B := 100) (by omega) (by omega) (by omega) (by omega)
 have m2 := mul_bd (a := c) (b := b) (A := 100) (B := 100) (by omega) (by omega) (by omega) (by omega)
 have m3 := mul_bd (a := c) (b := a) (A := 100) (B := 100) (by omega) (by omega) (by omega) (by omega)
 have m4 := mul_bd (a := d) (b := b) (A := 100) (B := 100) (by omega) (by omega) (by omega) (by omega)
 rcases crossB_true.1 hx with h1 | h1
 ·rw [if_pos h1.1, if_pos h1.1, if_pos h1.1] at k
  simp only [if_pos h1.1]
  rw [wrap_id (x := c * a) (by omega) (by omega), wrap_id (x := d - b) (by omega) (by omega), wrap_id (x := a * d) (by omega) (by omega), wrap_id (x := c * b) (by omega) (by omega), wrap_id (x := d * b) (by omega) (by omega), wrap_id (x := a - c) (by omega) (by omega),
   wrap_id (x := c * a * (d - b)) (by omega) (by omega), wrap_id (x := d * b * (a - c)) (by omega) (by omega), wrap_id (x := a * d - c * b) (by omega) (by omega), sgLow_eq (by omega) (by omega), Option.bind_some, sgLow_eq (by omega) (by omega)]
  rfl
 ·have hn : ¬ a > c := by omega
  rw [Int.mul_comm c a] at m3
  rw [Int.mul_comm d b] at m4
  rw [if_neg hn, if_neg hn, if_neg hn] at k
  simp only [if_neg hn]
  rw [wrap_id (x := a * c) (by omega) (by omega), wrap_id (x := b - d) (by omega) (by omega), wrap_id (x := c * b) (by omega) (by omega), wrap_id (x := a * d) (by omega) (by omega), wrap_id (x := b * d) (by omega) (by omega), wrap_id (x := c - a) (by omega) (by omega),
   wrap_id (x := a * c * (b - d)) (by omega) (by omega), wrap_id (x := b * d * (c - a)) (by omega) (by omega), wrap_id (x := c * b - a * d) (by omega) (by omega), sgLow_eq (by omega) (by omega), Option.bind_some, sgLow_eq (by omega) (by omega)]
  rfl
theorem gSame_l0 (l m : List Int) (he : l.length = m.length) (hl : (l.length : Int) ≤ 1000000) (d : Nat) : ∀ (k : Nat) (i : Int), 0 ≤ i → i + d = l.length → d < k → ∃ b, laws_gSame.l0 k l m (l.length : Int) i = some b ∧ (b = true → ∀ j : Int, i ≤ j → j < (l.length : Int) → rd l j = rd m j) ∧ (l = m → b = true) := by
 induction d with
 | zero =>
  intro k i h0 hi hk
  obtain ⟨k, rfl⟩ : ∃ q, k = q + 1 := ⟨k - 1, by omega⟩
  exact ⟨true, by rw [laws_gSame.l0, if_neg (by omega)], fun _ j h1 h2 => by omega, fun _ => rfl⟩
 | succ d ih =>
  intro k i h0 hi hk
  obtain ⟨k, rfl⟩ : ∃ q, k = q + 1 := ⟨k - 1, by omega⟩
  rw [laws_gSame.l0, if_pos (by omega), if_pos h0, if_pos (by omega), if_pos (by omega), wrap_id (x := i + 1) (by omega) (by omega)]
  by_cases h : rd l i = rd m i
  ·obtain ⟨b, e, e1, e2⟩ := ih k (i + 1) (by omega) (by omega) (by omega)
   exact ⟨b, by rw [if_pos h]; exact e, fun hb j h1 h2 => by
    by_cases hj : j = i
    ·subst hj; exact h
    ·exact e1 hb j (by omega) h2, e2⟩
  ·exact ⟨false, by rw [if_neg h], fun hb => absurd hb (by decide), fun hlm => by subst hlm; exact absurd rfl h⟩
theorem gSame_told {l m : List Int} (he : l.length = m.length) (hl : (l.length : Int) ≤ 1000000) {k : Nat} (hk : l.length < k) : ∃ b, laws_gSame.f k l m = some b ∧ (b = true → ∀ j : Int, 0 ≤ j → j < (l.length : Int) → rd l j = rd m j) ∧ (l = m → b = true) := by
 unfold laws_gSame.f
 rw [if_pos (by omega)]
 exact gSame_l0 l m he hl l.length k 0 (by omega) (by omega) hk
theorem gSame_self {l : List Int} (hl : (l.length : Int) ≤ 1000000) {k : Nat} (hk : l.length < k) : laws_gSame.f k l l = some true := by
 obtain ⟨b, e, _, e2⟩ := gSame_told (l := l) (m := l) rfl hl hk
 rw [e, e2 rfl]
theorem height_s {a b x : Int} (h : thrOk a b = true) (h0 : 0 ≤ x) (h1 : x ≤ a) : spec_sgHeight.f a b x = some (lowOf (b * (a - x)) a) := by
 have hb := thrOk_true.1 h
 have hm := mul_bd (a := b) (b := a - x) (A := 100) (B := 100) (by omega) (by omega) (by omega) (by omega)
 unfold spec_sgHeight.f
 rw [wrap_id (x := a - x) (by omega) (by omega), wrap_id (by omega) (by omega), sgLow_eq hm.1 (by omega)]
 rfl
theorem height_i {a b : Int} (x : Int) (h : thrOk a b = true) : impl_HeightOf.f a b x = some (if rg x 0 100 = true ∧ x ≤ a then ((lowOf (b * (a - x)) a).1, (lowOf (b * (a - x)) a).2, true) else (0, 0, false)) := by
 have hb := thrOk_true.1 h
 unfold impl_HeightOf.f impl_isNail.f
 rw [isThread_eq, within_rg, h]
 simp only [Option.bind_some, if_true]
 by_cases hq : rg x 0 100 = true
 ·have hx := rg_true.1 hq
  rw [if_pos hq]
  by_cases hg : x ≤ a
  ·have hm := mul_bd (a := b) (b := a - x) (A := 100) (B := 100) (by omega) (by omega) (by omega) (by omega)
   rw [if_neg (show ¬ x > a by omega), if_pos (show rg x 0 100 = true ∧ x ≤ a from ⟨hq, hg⟩), wrap_id (x := a - x) (by omega) (by omega), wrap_id (by omega) (by omega), lowest_pos hm.1 (by omega)]
   rfl
  ·rw [if_pos (show x > a by omega), if_neg (show ¬ (rg x 0 100 = true ∧ x ≤ a) from fun h => hg h.2)]
 ·rw [if_neg hq, if_neg (show ¬ (rg x 0 100 = true ∧ x ≤ a) from fun h => hq h.1)]
theorem mt_impl {a b c d : Int} (h : thrOk a b = true) (h' : thrOk c d = true) (hx : crossB a b c d = true) : impl_meeting.f a b c d = some (mtR a b c d) := by
 obtain ⟨p, q, e1, e2⟩ := meeting_both h h' hx
 rw [mt_spec h h' hx] at e1
 rw [e2, ← Option.some.inj e1]
/-- Three things asked of two threads. -/
def okT (a b c d : Int) : Bool := thrOk a b && thrOk c d && crossB a b c d
theorem okT_true {a b c d : Int} : okT a b c d = true ↔ thrOk a b = true ∧ thrOk c d = true ∧ crossB a b c d = true := by
 unfold okT; rw [Bool.and_eq_true, Bool.and_eq_true]; exact ⟨fun h => ⟨h.1.1, h.1.2, h.2⟩, fun h => ⟨⟨h.1, h.2.1⟩, h.2.2⟩⟩
theorem doT_both (a b c d : Int) : spec_DoThreadsMeet.f a b c d = some (okT a b c d, thrOk a b && thrOk c d) ∧ impl_DoThreadsMeet.f a b c d = some (okT a b c d, thrOk a b && thrOk c d) := by
 unfold spec_DoThreadsMeet.f impl_DoThreadsMeet.f okT
 rw [sgThread_eq, isThread_eq]
 simp only [Option.bind_some]
 cases thrOk a b
 ·simp
 ·simp only [if_true]
  rw [sgThread_eq, isThread_eq]
  simp only [Option.bind_some]
  cases thrOk c d
  ·simp
  ·simp only [if_true]
   rw [sgMeet_eq, doMeetT_eq]
   simp
theorem mofT_both (a b c d : Int) : spec_MeetingOf.f a b c d = some (if okT a b c d = true then mtR a b c d else [], okT a b c d) ∧ impl_MeetingOf.f a b c d = some (if okT a b c d = true then mtR a b c d else [], okT a b c d) := by
 obtain ⟨_, d2⟩ := doT_both a b c d
 unfold spec_MeetingOf.f impl_MeetingOf.f
 rw [d2, sgThread_eq]
 simp only [Option.bind_some]
 by_cases h : okT a b c d = true
 ·obtain ⟨h1, h2, h3⟩ := okT_true.1 h
  rw [h, h1, h2]
  simp only [if_true, Bool.and_self]
  rw [sgThread_eq, h2, mt_impl h1 h2 h3]
  simp only [Option.bind_some, if_true]
  rw [sgMeet_eq, h3, mt_spec h1 h2 h3]
  exact ⟨rfl, trivial⟩
 ·have hk := h
  simp only [Bool.not_eq_true] at h
  rw [h]
  refine ⟨?_, ?_⟩
  ·by_cases h1 : thrOk a b = true
   ·rw [if_pos h1, sgThread_eq, Option.bind_some]
    by_cases h2 : thrOk c d = true
    ·rw [if_pos h2, sgMeet_eq, Option.bind_some]
     have h3 : crossB a b c d = false := by
      by_cases h3 : crossB a b c d = true
      ·exact absurd (okT_true.2 ⟨h1, h2, h3⟩) hk
      ·simpa using h3
     rw [h3]; simp
    ·rw [if_neg h2]; simp
   ·rw [if_neg h1]; simp
  ·cases (thrOk a b && thrOk c d) <;> simp
theorem mt_turn {a b c d : Int} (hx : crossB a b c d = true) : mtR c d a b = mtR a b c d ∧ mtR b a d c = [rd (mtR a b c d) 2, rd (mtR a b c d) 3, rd (mtR a b c d) 0, rd (mtR a b c d) 1] := by
 have f : ∀ p q r s : Int, rd [p, q, r, s] 0 = p ∧ rd [p, q, r, s] 1 = q ∧ rd [p, q, r, s] 2 = r ∧ rd [p, q, r, s] 3 = s := fun p q r s => ⟨rfl, rfl, rfl, rfl⟩
 have e : mtX c d a b = mtX a b c d ∧ mtD c d a b = mtD a b c d ∧ mtY c d a b = mtY a b c d ∧ mtX b a d c = mtY a b c d ∧ mtD b a d c = mtD a b c d ∧ mtY b a d c = mtX a b c d := by
  unfold mtX mtD mtY
  rcases crossB_true.1 hx with h1 | h1
  ·have n1 : ¬ c > a := by omega
   have n2 : ¬ b > d := by omega
   rw [if_pos h1.1, if_pos h1.1, if_pos h1.1, if_neg n1, if_neg n1, if_neg n1, if_neg n2, if_neg n2, if_neg n2]
   exact ⟨rfl, rfl, rfl, by rw [Int.mul_comm b d], by rw [Int.mul_comm d a, Int.mul_comm b c], by rw [Int.mul_comm a c]⟩
  ·have n1 : ¬ a > c := by omega
   have p1 : c > a := h1.1
   have p2 : b > d := h1.2
   rw [if_neg n1, if_neg n1, if_neg n1, if_pos p1, if_pos p1, if_pos p1, if_pos p2, if_pos p2, if_pos p2]
   exact ⟨rfl, rfl, rfl, by rw [Int.mul_comm b d], by rw [Int.mul_comm d a, Int.mul_comm b c], by rw [Int.mul_comm a c]⟩
 obtain ⟨e1, e2, e3, e4, e5, e6⟩ := e
 unfold mtR
 obtain ⟨f0, f1, f2, f3⟩ := f (lowOf (mtX a b c d) (mtD a b c d)).1 (lowOf (mtX a b c d) (mtD a b c d)).2 (lowOf (mtY a b c d) (mtD a b c d)).1 (lowOf (mtY a b c d) (mtD a b c d)).2
 rw [e1, e2, e3, e4, e5, e6, f0, f1, f2, f3]
 exact ⟨rfl, rfl⟩
theorem okT_turn {a b c d : Int} (h : okT a b c d = true) : okT c d a b = true ∧ okT b a d c = true := by
 obtain ⟨h1, h2, h3⟩ := okT_true.1 h
 have k1 := thrOk_true.1 h1
 have k2 := thrOk_true.1 h2
 have k3 := crossB_true.1 h3
 exact ⟨okT_true.2 ⟨h2, h1, crossB_true.2 (by omega)⟩, okT_true.2 ⟨thrOk_true.2 (by omega), thrOk_true.2 (by omega), crossB_true.2 (by omega)⟩⟩
theorem eqn_low {X Y D x xd y yd g h A B : Int} (e1 : X = x * g) (e2 : D = xd * g) (e3 : Y = y * h) (e4 : D = yd * h) (hE : X * B + Y * A = A * B * D) (hg : 1 ≤ g) (hh : 1 ≤ h) : (x * yd) * B + (y * xd) * A = ((A * B) * xd) * yd := by
 have hgh : g * h ≠ 0 := by
  have := Int.mul_pos (show 0 < g by omega) (show 0 < h by omega)
  omega
 have key : ((x * yd) * B + (y * xd) * A) * (g * h) = (((A * B) * xd) * yd) * (g * h) := by
  subst e1 e3
  have e5 : xd * g = yd * h := by rw [← e2, ← e4]
  rw [e2] at hE
  grind
 exact Int.eq_of_mul_eq_mul_right hgh key
theorem bd12 {x y A : Int} (h0 : 0 ≤ x) (h1 : x ≤ 1000000) (h2 : 0 ≤ y) (h3 : y ≤ 10000) (h4 : 0 ≤ A) (h5 : A ≤ 100) : wrap64 (x * y) = x * y ∧ wrap64 (x * y * A) = x * y * A ∧ 0 ≤ x * y * A ∧ x * y * A ≤ 1000000000000 := by
 have m1 := mul_bd (a := x) (b := y) (A := 1000000) (B := 10000) h0 h1 h2 h3
 have m2 := mul_bd (a := x * y) (b := A) (A := 10000000000) (B := 100) m1.1 (by omega) h4 h5
 exact ⟨wrap_id (by omega) (by omega), wrap_id (by omega) (by omega), m2.1, by omega⟩
theorem bdR {A B u v : Int} (h0 : 0 ≤ A) (h1 : A ≤ 100) (h2 : 0 ≤ B) (h3 : B ≤ 100) (h4 : 0 ≤ u) (h5 : u ≤ 10000) (h6 : 0 ≤ v) (h7 : v ≤ 10000) : wrap64 (A * B) = A * B ∧ wrap64 (A * B * u) = A * B * u ∧ wrap64 (A * B * u * v) = A * B * u * v := by
 have m1 := mul_bd (a := A) (b := B) (A := 100) (B := 100) h0 h1 h2 h3
 have m2 := mul_bd (a := A * B) (b := u) (A := 10000) (B := 10000) m1.1 (by omega) h4 h5
 have m3 := mul_bd (a := A * B * u) (b := v) (A := 100000000) (B := 10000) m2.1 (by omega) h6 h7
 exact ⟨wrap_id (by omega) (by omega), wrap_id (by omega) (by omega), wrap_id (by omega) (by omega)⟩
theorem mt_eqn {a b c d : Int} (hx : crossB a b c d = true) : mtX a b c d * b + mtY a b c d * a = a * b * mtD a b c d ∧ mtX a b c d * d + mtY a b c d * c = c * d * mtD a b c d := by
 unfold mtX mtD mtY
 rcases crossB_true.1 hx with h1 | h1
 ·rw [if_pos h1.1, if_pos h1.1, if_pos h1.1]
  exact ⟨by grind, by grind⟩
 ·have n1 : ¬ a > c := by omega
  rw [if_neg n1, if_neg n1, if_neg n1]
  exact ⟨by grind, by grind⟩
theorem j0_told {a b c d : Int} (h : okT a b c d = true) (l1 : List Int) {K : Nat} (hK : 2000000 ≤ K) : laws_FnThreadsMeet.j0 (K + 1) l1 (mtR a b c d) true false a b c d = laws_FnThreadsMeet.j1 K l1 := by
 obtain ⟨h1, h2, h3⟩ := okT_true.1 h
 obtain ⟨t1, t2⟩ := okT_turn h
 obtain ⟨u1, u2⟩ := mt_turn h3
 have k1 := thrOk_true.1 h1
 have k2 := thrOk_true.1 h2
 obtain ⟨b1, b2, b3, b4, b5, b6⟩ := mt_bds h1 h2 h3
 obtain ⟨q1, q2⟩ := mt_eqn h3
 have e1 := (mofT_both c d a b).2
 have e2 := (mofT_both b a d c).2
 rw [t1, if_pos rfl, u1] at e1
 rw [t2, if_pos rfl, u2] at e2
 obtain ⟨g, g1, g2, g3, g4, g5, g6, g7, g8, g9⟩ := low_all (n := mtX a b c d) (d := mtD a b c d) (by omega) b3 (by omega) (by omega)
 obtain ⟨v, v1, v2, v3, v4, v5, v6, v7, v8, v9⟩ := low_all (n := mtY a b c d) (d := mtD a b c d) (by omega) b3 (by omega) (by omega)
 have g8 := g8 b1
 have v8 := v8 b5
 have s1 := eqn_low g2 g3 v2 v3 q1 g1 v1
 have s2 := eqn_low g2 g3 v2 v3 q2 g1 v1
 have f0 : rd (mtR a b c d) 0 = (lowOf (mtX a b c d) (mtD a b c d)).1 := rfl
 have f1 : rd (mtR a b c d) 1 = (lowOf (mtX a b c d) (mtD a b c d)).2 := rfl
 have f2 : rd (mtR a b c d) 2 = (lowOf (mtY a b c d) (mtD a b c d)).1 := rfl
 have f3 : rd (mtR a b c d) 3 = (lowOf (mtY a b c d) (mtD a b c d)).2 := rfl
 have fl : (mtR a b c d).length = 4 := rfl
 generalize mtR a b c d = R at *
 generalize (lowOf (mtX a b c d) (mtD a b c d)).1 = x at *
 generalize (lowOf (mtX a b c d) (mtD a b c d)).2 = xd at *
 generalize (lowOf (mtY a b c d) (mtD a b c d)).1 = y at *
 generalize (lowOf (mtY a b c d) (mtD a b c d)).2 = yd at *
 have p1 := bd12 (x := x) (y := yd) (A := b) (by omega) (by omega) (by omega) (by omega) (by omega) (by omega)
 have p2 := bd12 (x := y) (y := xd) (A := a) (by omega) (by omega) (by omega) (by omega) (by omega) (by omega)
 have p3 := bd12 (x := x) (y := yd) (A := d) (by omega) (by omega) (by omega) (by omega) (by omega) (by omega)
 have p4 := bd12 (x := y) (y := xd) (A := c) (by omega) (by omega) (by omega) (by omega) (by omega) (by omega)
 have p5 := bdR (A := a) (B := b) (u := xd) (v := yd) (by omega) (by omega) (by omega) (by omega) (by omega) (by omega) (by omega) (by omega)
 have p6 := bdR (A := c) (B := d) (u := xd) (v := yd) (by omega) (by omega) (by omega) (by omega) (by omega) (by omega) (by omega) (by omega)
 rw [laws_FnThreadsMeet.j0, if_neg (by decide), if_pos rfl, e1, e2]
 simp only [Option.bind_some]
 rw [fl, f0, f1, f2, f3, if_pos (by decide), if_pos (by decide), if_pos (by decide), gLow_yes (by omega) g6 (by omega) (by omega) g9]
 simp only [Option.bind_some, if_true]
 rw [if_pos (by decide), if_pos (by decide), gLow_yes (by omega) v6 (by omega) (by omega) v9]
 simp only [Option.bind_some, if_true]
 rw [if_neg (by omega), if_neg (by omega), gSame_self (by omega) (by omega)]
 simp only [Option.bind_some, if_true]
 rw [gSame_self (by simp) (by simp; omega)]
 simp only [Option.bind_some, if_true]
 rw [p1.1, p1.2.1, p2.1, p2.2.1, p3.2.1, p4.2.1, p5.1, p5.2.1, p5.2.2, p6.1, p6.2.1, p6.2.2, wrap_id (x := x * yd * b + y * xd * a) (by omega) (by omega), wrap_id (x := x * yd * d + y * xd * c) (by omega) (by omega), if_pos s1, if_pos s2]
theorem tm_height_all (a b x : Int) : ∃ r, spec_HeightOf.f a b x = some r ∧ impl_HeightOf.f a b x = some r := by
 by_cases h : thrOk a b = true
 ·rw [height_i x h]
  refine ⟨_, ?_, rfl⟩
  have hb := thrOk_true.1 h
  unfold spec_HeightOf.f
  rw [sgThread_eq, h, l1In_rg]
  simp only [Option.bind_some, if_true]
  by_cases hq : rg x 0 100 = true
  ·have hx := rg_true.1 hq
   rw [if_pos hq]
   by_cases hg : x ≤ a
   ·rw [if_neg (show ¬ x > a by omega), if_pos (show rg x 0 100 = true ∧ x ≤ a from ⟨hq, hg⟩), height_s h (by omega) hg]; rfl
   ·rw [if_pos (show x > a by omega), if_neg (show ¬ (rg x 0 100 = true ∧ x ≤ a) from fun h => hg h.2)]
  ·rw [if_neg hq, if_neg (show ¬ (rg x 0 100 = true ∧ x ≤ a) from fun h => hq h.1)]
 ·refine ⟨(0, 0, false), ?_, ?_⟩
  ·unfold spec_HeightOf.f
   rw [sgThread_eq]; simp only [Option.bind_some]; rw [if_neg h]
  ·unfold impl_HeightOf.f
   rw [isThread_eq]; simp only [Option.bind_some]; rw [if_neg h]
theorem dbl_both (a b : Int) : spec_DoubleTriangle.f a b = some (if thrOk a b = true then (wrap64 (a * b), true) else (0, false)) ∧ impl_DoubleTriangle.f a b = some (if thrOk a b = true then (wrap64 (a * b), true) else (0, false)) := by
 unfold spec_DoubleTriangle.f impl_DoubleTriangle.f
 rw [sgThread_eq, isThread_eq]
 simp only [Option.bind_some]
 cases thrOk a b <;> simp
/-- The last things asked of a height. -/
theorem j5_all (a b x : Int) : ∃ (r : Int × Int × Bool) (d : Int × Bool), spec_HeightOf.f a b x = some r ∧ impl_HeightOf.f a b x = some r ∧ spec_DoubleTriangle.f a b = some d ∧ impl_DoubleTriangle.f a b = some d ∧ (r.2.2 = true → d.2 = true) ∧
  ∀ K, 2000000 ≤ K → laws_FnThreadsMeet.j5 (K + 1) x r.1 r.2.1 r.2.2 d.1 a b = some true := by
 obtain ⟨r, h1, h2⟩ := tm_height_all a b x
 obtain ⟨d1, d2⟩ := dbl_both a b
 refine ⟨r, _, h1, h2, d1, d2, ?_⟩
 by_cases h : thrOk a b = true
 ·rw [height_i x h] at h2
  rw [if_pos h]
  have hb := thrOk_true.1 h
  refine ⟨fun _ => rfl, fun K hK => ?_⟩
  by_cases hc : rg x 0 100 = true ∧ x ≤ a
  ·rw [if_pos hc] at h2
   obtain rfl := Option.some.inj h2
   have hx := rg_true.1 hc.1
   have hm := mul_bd (a := b) (b := a - x) (A := 100) (B := 100) (by omega) (by omega) (by omega) (by omega)
   obtain ⟨g, g1, g2, g3, g4, g5, g6, g7, g8, g9⟩ := low_all (n := b * (a - x)) (d := a) hm.1 (by omega) (by omega) (by omega)
   generalize (lowOf (b * (a - x)) a).1 = p at *
   generalize (lowOf (b * (a - x)) a).2 = q at *
   have m1 := mul_bd (a := p) (b := a) (A := 10000) (B := 100) (by omega) (by omega) (by omega) (by omega)
   have m2 := mul_bd (a := b * (a - x)) (b := q) (A := 10000) (B := 100) (by omega) (by omega) (by omega) (by omega)
   have key : p * a = b * (a - x) * q := by
    rw [g2]
    calc p * a = p * (q * g) := by rw [← g3]
     _ = p * g * q := by rw [Int.mul_comm q g, Int.mul_assoc]
   simp only
   rw [laws_FnThreadsMeet.j5, if_pos rfl, gLow_yes g4 g6 (by omega) (by omega) g9]
   simp only [Option.bind_some, if_true]
   rw [wrap_id (x := a - x) (by omega) (by omega), wrap_id (x := b * (a - x)) (by omega) (by omega), wrap_id (x := p * a) (by omega) (by omega), wrap_id (x := b * (a - x) * q) (by omega) (by omega), if_pos key]
  ·rw [if_neg hc] at h2
   obtain rfl := Option.some.inj h2
   rw [laws_FnThreadsMeet.j5, if_neg (by simp)]
 ·rw [if_neg h]
  have e : impl_HeightOf.f a b x = some (0, 0, false) := by
   unfold impl_HeightOf.f
   rw [isThread_eq]; simp only [Option.bind_some]; rw [if_neg h]
  rw [e] at h2
  obtain rfl := Option.some.inj h2
  exact ⟨fun hh => absurd hh (by decide), fun K hK => by rw [laws_FnThreadsMeet.j5, if_neg (by simp)]⟩
/-! how many meet one -/
theorem insC_len (c : Int → Int → Int) (x : Int) : ∀ l : List Int, (insC c x l).length = l.length + 1
 | [] => rfl
 | y :: r => by
  unfold insC
  split
  ·rfl
  ·rw [List.length_cons, insC_len c x r, List.length_cons]
theorem isortC_len (c : Int → Int → Int) : ∀ l : List Int, (isortC c l).length = l.length
 | [] => rfl
 | x :: r => by unfold isortC; rw [insC_len, isortC_len c r, List.length_cons]
theorem mtgP_cr (l : List S25) (k x : Int) : mtgP l k x = cr (rd_T25 l k) (rd_T25 l x) := by
 unfold mtgP cr
 rw [doMeetT_eq]
 cases crossB ((rd_T25 l k).f0) ((rd_T25 l k).f1) ((rd_T25 l x).f0) ((rd_T25 l x).f1) <;> rfl
theorem mtgW_count (l : List S25) (k : Int) : (mtgW l k).length = l.countP (cr (rd_T25 l k)) := by
 have e : l = (List.range l.length).map fun (j : Nat) => rd_T25 l (j : Int) := by
  refine List.ext_getElem (by simp) fun i h1 h2 => ?_
  rw [List.getElem_map, List.getElem_range, rdT_get (by omega) (by omega)]
  rfl
 have h : ∀ m : List S25, m = (List.range l.length).map (fun (j : Nat) => rd_T25 l (j : Int)) → (mtgW l k).length = m.countP (cr (rd_T25 l k)) := by
  rintro m rfl
  unfold mtgW numsW
  rw [← List.countP_eq_length_filter, List.countP_map, List.countP_map, show ((l.length : Int) - 1 + 1 - 0).toNat = l.length by omega]
  refine List.countP_congr fun j _ => ?_
  simp only [Function.comp, Int.zero_add, mtgP_cr]
 exact h l e
/-- What the law holds when it has come to a thread. -/
def upTo (l : List S25) (i : Nat) : Nat := ((l.take i).map fun x => l.countP (cr x)).sum
theorem upTo_succ (l : List S25) {i : Int} (h0 : 0 ≤ i) (h1 : i < (l.length : Int)) : upTo l (i + 1).toNat = upTo l i.toNat + l.countP (cr (rd_T25 l i)) := by
 unfold upTo
 rw [show (i + 1).toNat = i.toNat + 1 by omega, List.take_succ_eq_append_getElem (by omega), ← rdT_get h0 h1, List.map_append, List.sum_append]
 simp
theorem upTo_le (l : List S25) (i : Nat) : upTo l i ≤ i * l.length := by
 unfold upTo
 induction i with
 | zero => simp
 | succ i ih =>
  by_cases h : i < l.length
  ·rw [List.take_succ_eq_append_getElem h, List.map_append, List.sum_append]
   have := List.countP_le_length (p := cr l[i]) (l := l)
   simp only [List.map_cons, List.map_nil, List.sum_cons, List.sum_nil]
   rw [Nat.add_one_mul]
   omega
  ·rw [List.take_of_length_le (by omega)] at ih ⊢
   exact Nat.le_trans ih (Nat.mul_le_mul (by omega) (Nat.le_refl _))
theorem l0_told {l : List S25} (h : goodT l = true) (k : Int) (r : List Int) (x34 x35 x36 : Int) (x37 : Bool) (x41 a b : Int) (d : Nat) : ∀ (K : Nat) (i : Int), 0 ≤ i → i + d = l.length → 2000000 ≤ K →
  laws_FnThreadsMeet.l0 (K + d + 1) l k r ((prs l : Nat) : Int) x34 x35 x36 x37 x41 ((upTo l i.toNat : Nat) : Int) (l.length : Int) i a b = laws_FnThreadsMeet.l1 K l k r x34 x35 x36 x37 x41 r (r.length : Int) 0 a b := by
 obtain ⟨g1, g2, g3⟩ := goodT_true h
 induction d with
 | zero =>
  intro K i h0 h1 hK
  have hp := prs_le l
  have hq : l.length * l.length ≤ 30 * 30 := Nat.mul_le_mul (by omega) (by omega)
  have e : upTo l i.toNat = 2 * prs l := by
   unfold upTo
   rw [List.take_of_length_le (by omega), sum_cr]
  rw [Nat.add_zero, laws_FnThreadsMeet.l0, if_neg (by omega), e, wrap_id (by omega) (by omega), if_pos (by omega)]
 | succ d ih =>
  intro K i h0 h1 hK
  obtain ⟨r', _, _, e2, e3, e4⟩ := meetOn_both (l := l) (by omega) i (K := K + d + 1) (by omega)
  have ok : r'.2 = true := by
   rw [e3, h, Bool.true_and]; exact decide_eq_true ⟨h0, by omega⟩
  have e5 := upTo_succ l h0 (by omega)
  have e6 := upTo_le l (i + 1).toNat
  have hq : (i + 1).toNat * l.length ≤ 30 * 30 := Nat.mul_le_mul (by omega) (by omega)
  rw [show K + (d + 1) + 1 = (K + d + 1) + 1 by omega, laws_FnThreadsMeet.l0, if_pos (by omega), e2]
  simp only [Option.bind_some]
  rw [if_pos ok, e4 ok, isortC_len, mtgW_count, wrap_id (by omega) (by omega), wrap_id (x := i + 1) (by omega) (by omega), ← Int.natCast_add, ← e5]
  exact ih K (i + 1) (by omega) (by omega) hK
/-! the meetings on a thread, one by one -/
theorem on_ok {l : List S25} (h : goodT l = true) {k z : Int} (k0 : 0 ≤ k) (k1 : k < (l.length : Int)) (z0 : 0 ≤ z) (z1 : z < (l.length : Int)) (hm : mtgP l k z = true) : okT (rd_T25 l k).f0 (rd_T25 l k).f1 (rd_T25 l z).f0 (rd_T25 l z).f1 = true := by
 obtain ⟨_, _, g⟩ := goodT_true h
 rw [mtgP_cr] at hm
 exact okT_true.2 ⟨g k k0 k1, g z z0 z1, hm⟩
theorem on_told {l : List S25} (h : goodT l = true) {k z : Int} (k0 : 0 ≤ k) (k1 : k < (l.length : Int)) (z0 : 0 ≤ z) (z1 : z < (l.length : Int)) (hm : mtgP l k z = true) : mtgL l k z = some (mtR (rd_T25 l k).f0 (rd_T25 l k).f1 (rd_T25 l z).f0 (rd_T25 l z).f1) := by
 obtain ⟨h1, h2, h3⟩ := okT_true.1 (on_ok h k0 k1 z0 z1 hm)
 exact mt_impl h1 h2 h3
theorem pw_next {c : Int → Int → Int} {r : List Int} (hp : r.Pairwise (lt2 c)) {i : Int} (h0 : 0 < i) (h1 : i < (r.length : Int)) : lt2 c (rd r (i - 1)) (rd r i) := by
 have e1 : rd r (i - 1) = r[(i - 1).toNat]'(by omega) := by
  unfold rd; rw [List.getD_eq_getElem?_getD, List.getElem?_eq_getElem (by omega)]; rfl
 have e2 : rd r i = r[i.toNat]'(by omega) := by
  unfold rd; rw [List.getD_eq_getElem?_getD, List.getElem?_eq_getElem (by omega)]; rfl
 rw [e1, e2]
 exact List.pairwise_iff_getElem.1 hp _ _ _ _ (by omega)
theorem rd_mem {r : List Int} {i : Int} (h0 : 0 ≤ i) (h1 : i < (r.length : Int)) : rd r i ∈ r := by
 have e2 : rd r i = r[i.toNat]'(by omega) := by
  unfold rd; rw [List.getD_eq_getElem?_getD, List.getElem?_eq_getElem (by omega)]; rfl
 rw [e2]; exact List.getElem_mem _
theorem l1_told {l : List S25} (h : goodT l = true) {k : Int} (k0 : 0 ≤ k) (k1 : k < (l.length : Int)) {r : List Int} (hr : (r.length : Int) ≤ 30) (hm : ∀ z ∈ r, 0 ≤ z ∧ z < (l.length : Int) ∧ mtgP l k z = true) (hp : r.Pairwise (lt2 (mtgC l k))) (x34 x35 x36 : Int) (x37 : Bool) (x41 a b : Int) (d : Nat) : ∀ (K : Nat) (i : Int), 0 ≤ i → i + d = r.length → 2000000 ≤ K →
  laws_FnThreadsMeet.l1 (K + d + 1) l k r x34 x35 x36 x37 x41 r (r.length : Int) i a b = laws_FnThreadsMeet.j5 K x34 x35 x36 x37 x41 a b := by
 induction d with
 | zero =>
  intro K i h0 h1 hK
  rw [Nat.add_zero, laws_FnThreadsMeet.l1, if_neg (by omega)]
 | succ d ih =>
  intro K i h0 h1 hK
  have h := h
  obtain ⟨z0, z1, zm⟩ := hm _ (rd_mem h0 (show i < (r.length : Int) by omega))
  have ez := (mofT_both (rd_T25 l k).f0 (rd_T25 l k).f1 (rd_T25 l (rd r i)).f0 (rd_T25 l (rd r i)).f1).2
  have oz := on_ok h k0 k1 z0 z1 zm
  have tz := on_told h k0 k1 z0 z1 zm
  rw [oz, if_pos rfl] at ez
  have hi := ih K (i + 1) (by omega) (by omega) hK
  rw [show K + (d + 1) + 1 = (K + d + 1) + 1 by omega, laws_FnThreadsMeet.l1, if_pos (by omega), if_pos h0, if_pos (by omega), if_pos k0, if_pos k1, if_pos z0, if_pos z1, ez]
  simp only [Option.bind_some, if_true]
  rw [wrap_id (x := i + 1) (by omega) (by omega), hi]
  by_cases hpos : i > 0
  ·obtain ⟨y0, y1, ym⟩ := hm _ (rd_mem (show 0 ≤ i - 1 by omega) (show i - 1 < (r.length : Int) by omega))
   have ey := (mofT_both (rd_T25 l k).f0 (rd_T25 l k).f1 (rd_T25 l (rd r (i - 1))).f0 (rd_T25 l (rd r (i - 1))).f1).2
   have oy := on_ok h k0 k1 y0 y1 ym
   have ty := on_told h k0 k1 y0 y1 ym
   rw [oy, if_pos rfl] at ey
   have hlt := pw_next hp hpos (by omega)
   rw [if_pos hpos, wrap_id (x := i - 1) (by omega) (by omega), if_pos (by omega), if_pos (by omega), if_pos y0, if_pos y1, ey]
   simp only [Option.bind_some, if_true]
   have lp : (mtR (rd_T25 l k).f0 (rd_T25 l k).f1 (rd_T25 l (rd r (i - 1))).f0 (rd_T25 l (rd r (i - 1))).f1).length = 4 := rfl
   have lq : (mtR (rd_T25 l k).f0 (rd_T25 l k).f1 (rd_T25 l (rd r i)).f0 (rd_T25 l (rd r i)).f1).length = 4 := rfl
   generalize mtR (rd_T25 l k).f0 (rd_T25 l k).f1 (rd_T25 l (rd r (i - 1))).f0 (rd_T25 l (rd r (i - 1))).f1 = p at *
   generalize mtR (rd_T25 l k).f0 (rd_T25 l k).f1 (rd_T25 l (rd r i)).f0 (rd_T25 l (rd r i)).f1 = q at *
   have hc := mtgC_told ty tz lp lq
   rw [cmpM_told lp lq] at hc
   have hc := Option.some.inj hc
   have hle : ¬ wrap64 (rd p 0 * rd q 1) > wrap64 (rd q 0 * rd p 1) := by
    intro hgt
    rw [if_neg (by omega), if_pos hgt] at hc
    rcases hlt with hlt | hlt <;> omega
   obtain ⟨b, eb, b1, _⟩ := gSame_told (l := p) (m := q) (by rw [lp, lq]) (by omega) (k := K + d + 1) (by omega)
   rw [lp, lq, if_pos (by decide), if_pos (by decide), if_pos (by decide), if_pos (by decide), if_neg hle, eb]
   simp only [Option.bind_some]
   by_cases hb : b = true
   ·have s0 := b1 hb 0 (by omega) (by omega)
    have s1 := b1 hb 1 (by omega) (by omega)
    rw [s0, s1, if_neg (by omega), if_neg (by omega)] at hc
    rw [if_pos hb, if_neg (by rcases hlt with hlt | hlt <;> omega)]
   ·rw [if_neg hb]
  ·rw [if_neg hpos]
theorem j2_told {l : List S25} {k : Int} {o : List Int × Bool} {c : Int} (o1 : (o.1.length : Int) ≤ 30) (o4 : o.2 = (goodT l && decide (0 ≤ k ∧ k < (l.length : Int)))) (o5 : o.2 = true → o.1 = isortC (mtgC l k) (mtgW l k)) (hc : goodT l = true → c = ((prs l : Nat) : Int)) {x x35 x36 : Int} {x37 : Bool} {x41 a b : Int} (hj : ∀ K, 2000000 ≤ K → laws_FnThreadsMeet.j5 (K + 1) x x35 x36 x37 x41 a b = some true) {K : Nat} (hK : 3000000 ≤ K) :
  laws_FnThreadsMeet.j2 (K + 1) l k o.1 o.2 c x x35 x36 x37 x41 false a b = some true := by
 rw [laws_FnThreadsMeet.j2, if_neg (by decide)]
 by_cases ho : o.2 = true
 ·have o6 := o5 ho
  rw [ho, eq_comm, Bool.and_eq_true, decide_eq_true_eq] at o4
  obtain ⟨h, k0, k1⟩ := o4
  obtain ⟨g1, g2, g3⟩ := goodT_true h
  have O := mtgC_ord l k
  have hm : ∀ z ∈ o.1, 0 ≤ z ∧ z < (l.length : Int) ∧ mtgP l k z = true := fun z hz => by
   rw [o6, isortC_mem, mtgW_mem] at hz; exact hz
  have hp : o.1.Pairwise (lt2 (mtgC l k)) := by
   rw [o6]
   refine isortC_pw O (fun z hz => ?_) ?_
   ·obtain ⟨z0, z1, zm⟩ := mtgW_mem.1 hz
    exact mtg_ok h k0 k1 z0 z1 zm
   ·have := numsW_up (mtgP l k) 0 ((l.length : Int) - 1)
    exact List.Pairwise.imp (fun h => by omega) this
  obtain ⟨K1, e, hK1⟩ : ∃ K1, K = (K1 + 1 + o.1.length + 1) + l.length + 1 ∧ 2000000 ≤ K1 := ⟨K - 3 - o.1.length - l.length, by omega, by omega⟩
  have a0 := l0_told h k o.1 x x35 x36 x37 x41 a b l.length (K1 + 1 + o.1.length + 1) 0 (by omega) (by omega) (by omega)
  have a1 := l1_told h k0 k1 o1 hm hp x x35 x36 x37 x41 a b o.1.length (K1 + 1) 0 (by omega) (by omega) (by omega)
  rw [if_pos ho, e, hc h]
  have eu : ((upTo l (0 : Int).toNat : Nat) : Int) = 0 := by simp [upTo]
  rw [eu] at a0
  rw [a0, a1]
  exact hj K1 hK1
 ·obtain ⟨K, rfl⟩ : ∃ q, K = q + 1 := ⟨K - 1, by omega⟩
  rw [if_neg ho]
  exact hj K (by omega)
theorem j1_told {s : List Int} (hs : Bytes s) {K : Nat} (hK : 3000000 ≤ K) : laws_FnThreadsMeet.j1 (K + 1 + 1) s = some true := by
 obtain ⟨l, k, ed, hl⟩ := drawOn_tot hs (K := K + 1) (by omega)
 obtain ⟨a, b, x, eh⟩ := drawHeight_tot hs
 obtain ⟨o, o1, o2, o3, o4, o5⟩ := meetOn_both (l := l) (by omega) k (K := K + 1) (by omega)
 obtain ⟨c, c1, c2, c3, c4⟩ := count_both (l := l) (by omega) (K := K + 1) (by omega)
 obtain ⟨r, d, r1, r2, d1, d2, hrd, hj⟩ := j5_all a b x
 have J := j2_told o1 o4 o5 (fun h => (c4 h).1) hj hK
 have hg : o.2 = true → goodT l = true := fun h => by
  rw [o4, Bool.and_eq_true] at h; exact h.1
 have ga : spec_AreThreads.f (K + 1) l = some (goodT l) := by
  unfold spec_AreThreads.f
  rw [good_s (by omega) (by omega)]; rfl
 rw [laws_FnThreadsMeet.j1, ed]
 simp only [Option.bind_some]
 rw [o3]
 simp only [Option.bind_some]
 rw [o2]
 simp only [Option.bind_some]
 rw [c2]
 simp only [Option.bind_some]
 rw [c1]
 simp only [Option.bind_some]
 rw [eh]
 simp only [Option.bind_some]
 rw [r2]
 simp only [Option.bind_some]
 rw [r1]
 simp only [Option.bind_some]
 rw [d2]
 simp only [Option.bind_some]
 rw [d1]
 simp only [Option.bind_some, bne_self_eq_false, Bool.false_eq_true, if_false, if_true]
 rw [gSame_self (by omega) (by omega)]
 simp only [Option.bind_some, if_true]
 rw [good_i (by omega) (by omega), ga, c3]
 simp only [Option.bind_some, bne_self_eq_false, Bool.false_eq_true, if_false]
 have hd : r.2.2 = true → (!d.2) = false := fun h => by rw [hrd h]; rfl
 by_cases ho : o.2 = true
 ·rw [if_pos ho, if_pos (hg ho)]
  by_cases hr : r.2.2 = true
  ·rw [if_pos hr, hd hr]; exact J
  ·rw [if_neg hr]; exact J
 ·rw [if_neg ho]
  by_cases hr : r.2.2 = true
  ·rw [if_pos hr, hd hr]; exact J
  ·rw [if_neg hr]; exact J
theorem FnThreadsMeet : laws_FnThreadsMeet.Pure := by
 intro l0 l1 _ _ hw0 _ _ hw1
 by_cases hl : (l0.length : Int) > 1048576
 ·refine ⟨0, ?_⟩
  unfold laws_FnThreadsMeet.f laws_big.f
  rw [if_pos hl]; rfl
 by_cases hl1 : (l1.length : Int) > 1048576 - l0.length
 ·refine ⟨0, ?_⟩
  unfold laws_FnThreadsMeet.f laws_big.f
  rw [if_neg hl, wrap_id (by omega) (by omega), decide_eq_true hl1]; rfl
 have hs0 := Bytes.of (by omega) hw0
 have hs1 := Bytes.of (by omega) hw1
 obtain ⟨K, hK⟩ : ∃ K : Nat, 3000000 ≤ K := ⟨3000000, Nat.le_refl _⟩
 obtain ⟨a, b, c, d, ed⟩ := drawTwo_tot hs0
 obtain ⟨m1, m2⟩ := mofT_both a b c d
 obtain ⟨t1, t2⟩ := doT_both a b c d
 refine ⟨K + 1 + 1 + 1, ?_⟩
 unfold laws_FnThreadsMeet.f laws_big.f
 rw [if_neg hl, wrap_id (by omega) (by omega), decide_eq_false hl1]
 simp only [Option.bind_some, Bool.false_eq_true, if_false]
 rw [ed]
 simp only [Option.bind_some]
 rw [m2]
 simp only [Option.bind_some]
 rw [m1]
 simp only [Option.bind_some]
 rw [t2]
 simp only [Option.bind_some]
 rw [t1]
 have hx : ∀ q : List Int, q.length ≤ 4 → laws_gSame.f (K + 1 + 1 + 1) q q = some true := fun q hq => gSame_self (by omega) (by omega)
 simp only [Option.bind_some, bne_self_eq_false, Bool.false_eq_true, if_false]
 rw [hx _ (by split <;> simp [mtR])]
 simp only [Option.bind_some, if_true]
 by_cases h : okT a b c d = true
 ·obtain ⟨h1, h2, h3⟩ := okT_true.1 h
  rw [h, h1, h2]
  simp only [Bool.and_self, if_true]
  rw [j0_told h l1 (by omega)]
  exact j1_told hs1 hK
 ·simp only [Bool.not_eq_true] at h
  rw [h]
  have e : laws_FnThreadsMeet.j0 (K + 1 + 1 + 1) l1 [] false false a b c d = some true := by
   rw [laws_FnThreadsMeet.j0, if_neg (by decide), if_neg (by decide)]
   exact j1_told hs1 hK
  cases (thrOk a b && thrOk c d)
  ·simpa using e
  ·simpa using e

end Go.Proofs.Ytheijdpplihigaa.Pure
