/- A part of this seat's proofs: contracts of the translated functions, written by the session's own program (gp.py) out of the kit's print.py and the session's own contracts; no conditions of its own. -/
import Derived.Test.YtgiiaajincdhnaaPx0
import Derived.Test.YtgiiaajincdhnaaPx1
import Derived.Test.YtgiiaajincdhnaaPx2
import Derived.Test.YtgiiaajincdhnaaPx3
namespace Go.Proofs.Ytgiiaajincdhnaa.P
open Go.RowKit Go.Proofs.YtgiiaajincdhnaaW.PrintWords Go.Proofs.YtgiiaajincdhnaaW.PrintLast Go.Proofs.YtgiiaajincdhnaaW.PrintMore
attribute [local go_sem] max2_int min2_int max_two min_two max_three min_three max_four min_four   -- for this text's walks alone
set_option linter.unusedVariables false
set_option linter.unusedSimpArgs false

/-! ### spec_taRow: function 42 -/
def spec_taRow.l0 : Nat → Int → Int → List Int → Int → Option (List Int)
 | 0, _, _, _, _ => none
 | k + 1, x0, x1, x5, x6 => if x6 < x0 then (if x0 = 0 then (none) else (if x5.length < 17592186044416 then (spec_taRow.l0 k x0 x1 (x5 ++ [Int.tmod (wrap64 (x6 * x1)) x0]) (wrap64 (x6 + 1))) else (none))) else (some x5)
def spec_taRow.f (k : Nat) (a0 : Int) (a1 : Int) : Option (List Int) := spec_taRow.l0 k a0 a1 ([] : List Int) 0
theorem spec_taRow.mono_l : ∀ k, (∀ y0 y1 y2 y3, LeO (spec_taRow.l0 k y0 y1 y2 y3) (spec_taRow.l0 (k + 1) y0 y1 y2 y3))
 | 0 => fun _ _ _ _ r h => by simp [spec_taRow.l0] at h
 | k + 1 => by
  have ih0 := spec_taRow.mono_l k
  ·intro y0 y1 y2 y3
   unfold spec_taRow.l0
   repeat' with_reducible first | apply ih0 | exact LeO.refl _ | exact LeO.none _ | refine LeO.ite ?_ ?_ | refine LeO.bind ?_ (fun _ => ?_)
theorem spec_taRow.mono : ∀ a0 a1 k, LeO (spec_taRow.f k a0 a1) (spec_taRow.f (k + 1) a0 a1) := by
 intro a0 a1 k
 have ih0 := spec_taRow.mono_l k
 unfold spec_taRow.f
 repeat' with_reducible first | apply ih0 | exact LeO.refl _ | exact LeO.none _ | refine LeO.ite ?_ ?_ | refine LeO.bind ?_ (fun _ => ?_)
set_option maxHeartbeats 8000000 in
set_option maxRecDepth 100000 in
theorem spec_taRow.calls (k : Nat) (a0 : Int) (a1 : Int) (r : List Int) (w : World) (h : spec_taRow.f k a0 a1 = some r) :
  Calls Try.prog 42 #[.int .i64 a0, .int .i64 a1] w fun e w' => ∃ v0_ : Value, e = .returned (v0_) ∧ Kd.R (Kd.int .i64) 3 w' w.heap.size (fun _ => True) v0_ r ∧ Below w.heap.size w w' := by
 have HB := Aside0.mk (Below.refl w.heap.size w)
 have H : (spec_taRow.l0 k a0 a1 ([] : List Int) 0) = some r := h
 clear h
 have H' := Aside0.mk H
 clear H
 go_enter Try.func42, Try.ntmps42
 go_wp2
 go_loopg [5, 6] k (fun kq v5 v6 w' => ∃ (x5_1 : List Int) (x6_1 : Int), v6 = .int .i64 x6_1 ∧ Aside0 (spec_taRow.l0 kq a0 a1 x5_1 x6_1 = some r) ∧ Aside0 (kq ≤ k) ∧ Aside0 (Kd.R (Kd.int .i64) 3 w' w.heap.size (fun _ => True) v5 x5_1) ∧ Aside0 (Below w.heap.size w w'))
 case atStart => exact ⟨(([] : List Int)), (0), (by first | rfl | (simp; done) | (simp [*]; done)), H', ⟨Nat.le_refl _⟩, ⟨by first | exact Kd.R_nil _ _ _ _ _ | exact Kd.N_nil _ _ _ _ _ | exact Kd.V_nil _ _ _ _ _ | exact Kd.Q_nil _ _ _ _ _ | exact Kd.S_nil _ _ _ _ _⟩, ⟨bb_⟩⟩
 case round =>
  clear H'
  try clear p2
  obtain ⟨x5_1, x6_1, rfl, HA, HK1, HO_5, HB⟩ := hrel
  cases gk with
  | zero => exact absurd HA.out (by simp [spec_taRow.l0])
  | succ k1 =>
   have H := HA.out
   clear HA
   simp only [spec_taRow.l0] at H
   by_cases c3 : x6_1 < a0
   rotate_left
   ·rw [if_neg c3] at H
    have c3b0 : decide (x6_1 < a0) = false := decide_eq_false c3
    clear c3
    obtain rfl := Option.some.inj H
    go_wp2
    go_ret
    exact ⟨_, by first | rfl | (simp [errW_none, errW_some] <;> rfl) | (simp [*, errW_none, errW_some] <;> rfl), by (with_reducible repeat (first | apply Kd.R_alloc | apply Kd.R_drewN | apply Kd.R_drew)); exact HO_5.out, bb_⟩

   rw [if_pos c3] at H
   have c3b0 : decide (x6_1 < a0) = true := decide_eq_true c3
   clear c3
   by_cases c4 : a0 = 0
   ·rw [if_pos c4] at H
    exact absurd H (by simp)
   rw [if_neg c4] at H
   have c4b0 : (a0 == 0) = false := beq_eq_false_iff_ne.mpr c4
   have c4b1 : (a0 != 0) = true := bne_iff_ne.mpr c4
   by_cases c5 : x5_1.length < 17592186044416
   rotate_left
   ·rw [if_neg c5] at H
    exact absurd H (by simp)
   rw [if_pos c5] at H
   have LMc5 := Aside0.mk c5
   clear c5
   obtain ⟨y217, hy217⟩ : ∃ y_ : List Int, y_ = (x5_1 ++ [Int.tmod (wrap64 (x6_1 * a1)) a0]) := ⟨_, rfl⟩
   replace H : (spec_taRow.l0 k1 a0 a1 y217 (wrap64 (x6_1 + 1))) = some r := by first | (rw [hy217]; with_reducible exact H) | (have H2_ := (Option.bind_some _ _).symm.trans H; rw [hy217]; with_reducible exact H2_) | (have H2_ := (Option.bind_some _ _).symm.trans H; with_reducible exact H2_) | with_reducible exact H | (rw [hy217]; exact H) | exact H
   have Ny217 := Aside0.mk hy217
   clear hy217
   have H' := Aside0.mk H
   clear H
   go_wp2_with (first | ((with_reducible refine gate_builtin (b := .append) (xs := #[.tmp 12, .tmp 18]) rfl ?_); at_builtin; refine Kd.R_append (Kd.int .i64) (w0 := w) w.heap.size rfl (.tmp 12) (.tmp 18) 33 3 (.int .i64 0) 8 rfl Try.underlying33 info3 rfl (by decide) (by omega) u5 x5_1 (Int.tmod (wrap64 (x6_1 * a1)) a0) [.int .i64 (Int.tmod (wrap64 (x6_1 * a1)) a0)] (fun _ => True) (fun _ => False) rfl rfl ?aP (fun _ hk => hk.elim) ?aF ?aO ?aB ?aS ?aL ?_; (case aP => exact rfl); (case aB => exact bb_); (case aF => exact (fun _ _ => trivial)); (case aO => exact (ru_ HO_5.out)); (case aS => exact bz_); (case aL => have := LMc5.out; omega); intro v218 w6 ho hb hg hat; rw [← Ny217.out] at ho; have n0_ := Aside0.mk (hb); have n1_ := Aside0.mk (ho); clear HB; clear HO_5; have HB := n0_; have HO219 := n1_; clear n0_ n1_; clear ho hb hg hat))
   go_roundg k1
   case measure => have := HK1.out; omega
   case rel => exact ⟨(y217), (wrap64 (x6_1 + 1)), (by first | rfl | (simp; done) | (simp [*]; done)), H', ⟨by have := HK1.out; omega⟩, ⟨by (with_reducible repeat (first | apply Kd.R_alloc | apply Kd.R_drewN | apply Kd.R_drew)); exact HO219.out⟩, ⟨bb_⟩⟩
/-! ### spec_LinesTo: function 13 -/
def spec_LinesTo.l0 : Nat → Int → List Int → List Int → Int → Int → Option (List Int × Bool)
 | 0, _, _, _, _, _ => none
 | k + 1, x2, x8, x18, x19, x20 => if x20 < x19 then (if 0 ≤ x20 then (if x20 < (x18.length : Int) then (if (rd x18 x20) = x2 then (if x8.length < 17592186044416 then (spec_LinesTo.l0 k x2 (x8 ++ [x20]) x18 x19 (wrap64 (x20 + 1))) else (none)) else (spec_LinesTo.l0 k x2 x8 x18 x19 (wrap64 (x20 + 1)))) else (none)) else (none)) else (some (x8, true))
def spec_LinesTo.f (k : Nat) (a0 : Int) (a1 : Int) (a2 : Int) : Option (List Int × Bool) := (spec_taAsked.f a0 a1 a2).bind fun t220 => (if t220 = true then ((spec_taRow.f k a0 a1).bind fun t221 => (spec_LinesTo.l0 k a2 ([] : List Int) t221 (t221.length : Int) 0)) else (some (([] : List Int), false)))
theorem spec_LinesTo.mono_l : ∀ k, (∀ y0 y1 y2 y3 y4, LeO (spec_LinesTo.l0 k y0 y1 y2 y3 y4) (spec_LinesTo.l0 (k + 1) y0 y1 y2 y3 y4))
 | 0 => fun _ _ _ _ _ r h => by simp [spec_LinesTo.l0] at h
 | k + 1 => by
  have ih0 := spec_LinesTo.mono_l k
  ·intro y0 y1 y2 y3 y4
   unfold spec_LinesTo.l0
   repeat' with_reducible first | apply ih0 | apply spec_taRow.mono | exact LeO.refl _ | exact LeO.none _ | refine LeO.ite ?_ ?_ | refine LeO.bind ?_ (fun _ => ?_)
theorem spec_LinesTo.mono : ∀ a0 a1 a2 k, LeO (spec_LinesTo.f k a0 a1 a2) (spec_LinesTo.f (k + 1) a0 a1 a2) := by
 intro a0 a1 a2 k
 have ih0 := spec_LinesTo.mono_l k
 unfold spec_LinesTo.f
 repeat' with_reducible first | apply ih0 | apply spec_taRow.mono | exact LeO.refl _ | exact LeO.none _ | refine LeO.ite ?_ ?_ | refine LeO.bind ?_ (fun _ => ?_)
set_option maxHeartbeats 8000000 in
set_option maxRecDepth 100000 in
theorem spec_LinesTo.calls (k : Nat) (a0 : Int) (a1 : Int) (a2 : Int) (r1 : List Int) (r2 : Bool) (w : World) (h : spec_LinesTo.f k a0 a1 a2 = some (r1, r2)) :
  Calls Try.prog 13 #[.int .i64 a0, .int .i64 a1, .int .i64 a2] w fun e w' => ∃ v0_ : Value, e = .returned (.tuple #[v0_, .bool r2]) ∧ Kd.R (Kd.int .i64) 3 w' w.heap.size (fun _ => True) v0_ r1 ∧ Below w.heap.size w w' := by
 have HB := Aside0.mk (Below.refl w.heap.size w)
 have H : ((spec_taAsked.f a0 a1 a2).bind fun t220 => (if t220 = true then ((spec_taRow.f k a0 a1).bind fun t221 => (spec_LinesTo.l0 k a2 ([] : List Int) t221 (t221.length : Int) 0)) else (some (([] : List Int), false)))) = some (r1, r2) := h
 clear h
 replace H := Option.bind_eq_some_iff.mp H
 obtain ⟨t220, A40, H⟩ := H
 (try dsimp only at H)
 have A4 := Aside0.mk A40
 clear A40
 by_cases c5 : t220 = true
 rotate_left
 ·replace c5 := Bool.eq_false_iff.mpr c5
  subst c5
  rw [if_neg (show ¬ (false = true) by decide)] at H
  simp only [Option.some.injEq, Prod.mk.injEq] at H
  obtain ⟨rfl, rfl⟩ := H
  go_enter Try.func13, Try.ntmps13
  go_wp2_with (first | ((with_reducible refine gate_callee (f := 35) rfl ?_); refine gl_ (some 14) Try.func35 #[.int .i64 a0, .int .i64 a1, .int .i64 a2] ?_; (with_reducible refine (spec_taAsked.calls a0 a1 a2 false _ A4.out).mono ?_); rintro e w' ⟨rfl, ⟨nd, rfl⟩⟩; refine ⟨_, rfl, ?_⟩))
  go_ret2
  exact ⟨_, by first | rfl | (simp [errW_none, errW_some] <;> rfl) | (simp [*, errW_none, errW_some] <;> rfl), by first | exact Kd.R_nil _ _ _ _ _ | exact Kd.N_nil _ _ _ _ _ | exact Kd.V_nil _ _ _ _ _ | exact Kd.Q_nil _ _ _ _ _ | exact Kd.S_nil _ _ _ _ _, bb_⟩

 subst c5
 rw [if_pos rfl] at H
 replace H := Option.bind_eq_some_iff.mp H
 obtain ⟨t221, A60, H⟩ := H
 (try dsimp only at H)
 have A6 := Aside0.mk A60
 clear A60
 have H' := Aside0.mk H
 clear H
 go_enter Try.func13, Try.ntmps13
 go_wp2_with (first | ((with_reducible refine gate_callee (f := 35) rfl ?_); refine gl_ (some 14) Try.func35 #[.int .i64 a0, .int .i64 a1, .int .i64 a2] ?_; (with_reducible refine (spec_taAsked.calls a0 a1 a2 true _ A4.out).mono ?_); rintro e w' ⟨rfl, ⟨nd, rfl⟩⟩; refine ⟨_, rfl, ?_⟩) | ((with_reducible refine gate_callee (f := 42) rfl ?_); refine gl_ (some 18) Try.func42 #[.int .i64 a0, .int .i64 a1] ?_; (with_reducible refine (spec_taRow.calls k a0 a1 t221 _ A6.out).mono ?_); rintro e w7 ⟨v222, rfl, ho0, hb⟩; refine ⟨_, rfl, ?_⟩; have n0_ := Aside0.mk (Kd.R_lower ho0 bz_); have n1_ := Aside0.mk (bs_ hb); clear HB; have HO223 := n0_; have HB := n1_; clear n0_ n1_; (try clear hb); (try clear ho0); obtain ⟨Ao8, co8, eo8⟩ := Kd.R_slice HO223.out; subst eo8))
 go_loopg [8, 20] k (fun kq v8 v20 w' => ∃ (x8_1 : List Int) (x20_1 : Int), v20 = .int .i64 x20_1 ∧ Aside0 (spec_LinesTo.l0 kq a2 x8_1 t221 (t221.length : Int) x20_1 = some (r1, r2)) ∧ Aside0 (kq ≤ k) ∧ Aside0 (Kd.R (Kd.int .i64) 3 w' w.heap.size (fun k_ => some k_ ≠ ((.slice Ao8 t221.length co8) : Value).ownBlock) v8 x8_1) ∧ Aside0 (Kd.R (Kd.int .i64) 3 w' w.heap.size (fun k_ => some k_ ≠ (v8 : Value).ownBlock) (.slice Ao8 t221.length co8) t221) ∧ Aside0 (Below w.heap.size w w'))
 case atStart => exact ⟨(([] : List Int)), (0), (by first | rfl | (simp; done) | (simp [*]; done)), H', ⟨Nat.le_refl _⟩, ⟨by first | exact Kd.R_nil _ _ _ _ _ | exact Kd.N_nil _ _ _ _ _ | exact Kd.V_nil _ _ _ _ _ | exact Kd.Q_nil _ _ _ _ _ | exact Kd.S_nil _ _ _ _ _⟩, ⟨by (with_reducible repeat (first | apply Kd.R_alloc | apply Kd.R_drewN | apply Kd.R_drew)); exact Kd.R_mono HO223.out (fun _ hk => (by simp [Value.ownBlock]))⟩, ⟨bb_⟩⟩
 case round =>
  clear H'
  (try clear c1); (try clear p2); (try clear c3); (try clear c4); (try clear c5)
  obtain ⟨x8_1, x20_1, rfl, HA, HK1, HO_8, HO_18, HB⟩ := hrel
  cases gk with
  | zero => exact absurd HA.out (by simp [spec_LinesTo.l0])
  | succ k1 =>
   have H := HA.out
   clear HA
   simp only [spec_LinesTo.l0] at H
   by_cases c9 : x20_1 < (t221.length : Int)
   rotate_left
   ·rw [if_neg c9] at H
    have c9b0 : decide (x20_1 < (t221.length : Int)) = false := decide_eq_false c9
    clear c9
    simp only [Option.some.injEq, Prod.mk.injEq] at H
    obtain ⟨rfl, rfl⟩ := H
    go_wp2
    go_ret2
    exact ⟨_, by first | rfl | (simp [errW_none, errW_some] <;> rfl) | (simp [*, errW_none, errW_some] <;> rfl), by (with_reducible repeat (first | apply Kd.R_alloc | apply Kd.R_drewN | apply Kd.R_drew)); exact Kd.R_mono HO_8.out (fun _ hk => trivial), bb_⟩
   rw [if_pos c9] at H
   have c9b0 : decide (x20_1 < (t221.length : Int)) = true := decide_eq_true c9
   clear c9
   by_cases c10 : 0 ≤ x20_1
   rotate_left
   ·rw [if_neg c10] at H
    exact absurd H (by simp)
   rw [if_pos c10] at H
   have c10b0 : decide (0 ≤ x20_1) = true := decide_eq_true c10
   clear c10
   by_cases c11 : x20_1 < (t221.length : Int)
   rotate_left
   ·rw [if_neg c11] at H
    exact absurd H (by simp)
   rw [if_pos c11] at H
   have c11b0 : decide (x20_1 < (t221.length : Int)) = true := decide_eq_true c11
   clear c11
   by_cases c12 : (rd t221 x20_1) = a2
   rotate_left
   ·rw [if_neg c12] at H
    have c12b0 : ((rd t221 x20_1) == a2) = false := beq_eq_false_iff_ne.mpr c12
    have c12b1 : ((rd t221 x20_1) != a2) = true := bne_iff_ne.mpr c12
    have H' := Aside0.mk H
    clear H
    have p224 : 0 ≤ (x20_1 : Int) := of_decide_eq_true (by assumption)
    have q224 : x20_1 < (t221.length : Int) := of_decide_eq_true (by assumption)
    obtain ⟨ad224, e224, hx224_0⟩ := Kd.at_int (Kd.R_reads' HO_18.out).2.2 x20_1 p224 q224
    cases e224
    replace p224 := eq_true p224
    replace q224 := eq_true q224
    go_wp2
    go_roundg k1
    case measure => have := HK1.out; omega
    case rel => exact ⟨(x8_1), (wrap64 (x20_1 + 1)), (by first | rfl | (simp; done) | (simp [*]; done)), H', ⟨by have := HK1.out; omega⟩, ⟨by (with_reducible repeat (first | apply Kd.R_alloc | apply Kd.R_drewN | apply Kd.R_drew)); exact HO_8.out⟩, ⟨by (with_reducible repeat (first | apply Kd.R_alloc | apply Kd.R_drewN | apply Kd.R_drew)); exact HO_18.out⟩, ⟨bb_⟩⟩
   rw [if_pos c12] at H
   have c12b0 : ((rd t221 x20_1) == a2) = true := beq_iff_eq.mpr c12
   have c12b1 : ((rd t221 x20_1) != a2) = false := bne_eq_false_iff_eq.mpr c12
   clear c12
   by_cases c13 : x8_1.length < 17592186044416
   rotate_left
   ·rw [if_neg c13] at H
    exact absurd H (by simp)
   rw [if_pos c13] at H
   have LMc13 := Aside0.mk c13
   clear c13
   obtain ⟨y225, hy225⟩ : ∃ y_ : List Int, y_ = (x8_1 ++ [x20_1]) := ⟨_, rfl⟩
   replace H : (spec_LinesTo.l0 k1 a2 y225 t221 (t221.length : Int) (wrap64 (x20_1 + 1))) = some (r1, r2) := by first | (rw [hy225]; with_reducible exact H) | (have H2_ := (Option.bind_some _ _).symm.trans H; rw [hy225]; with_reducible exact H2_) | (have H2_ := (Option.bind_some _ _).symm.trans H; with_reducible exact H2_) | with_reducible exact H | (rw [hy225]; exact H) | exact H
   have Ny225 := Aside0.mk hy225
   clear hy225
   have H' := Aside0.mk H
   clear H
   have p224 : 0 ≤ (x20_1 : Int) := of_decide_eq_true (by assumption)
   have q224 : x20_1 < (t221.length : Int) := of_decide_eq_true (by assumption)
   obtain ⟨ad224, e224, hx224_0⟩ := Kd.at_int (Kd.R_reads' HO_18.out).2.2 x20_1 p224 q224
   cases e224
   replace p224 := eq_true p224
   replace q224 := eq_true q224
   go_wp2_with (first | ((with_reducible refine gate_builtin (b := .append) (xs := #[.tmp 28, .tmp 30]) rfl ?_); at_builtin; refine Kd.R_append (Kd.int .i64) (w0 := w) w.heap.size rfl (.tmp 28) (.tmp 30) 33 3 (.int .i64 0) 8 rfl Try.underlying33 info3 rfl (by decide) (by omega) u8 x8_1 x20_1 [.int .i64 x20_1] (fun k_ => some k_ ≠ (.slice (some ad224) t221.length co8 : Value).ownBlock) (fun _ => False) rfl rfl ?aP (fun _ hk => hk.elim) ?aF ?aO ?aB ?aS ?aL ?_; (case aP => exact rfl); (case aB => exact bb_); (case aF => exact (fun k_ hk => Kd.fresh' (Kd.R_lt (ru_ HO_18.out)) k_ hk)); (case aO => exact (ru_ HO_8.out)); (case aS => exact bz_); (case aL => have := LMc13.out; omega); intro v226 w14 ho hb hg hat; rw [← Ny225.out] at ho; have n0_ := Aside0.mk (Kd.R_after (ok := (fun _ => True)) (by (with_reducible repeat (first | apply Kd.R_alloc | apply Kd.R_drewN | apply Kd.R_drew)); exact Kd.R_mono HO_18.out (fun _ hk => ⟨trivial, hk⟩)) hg hat); have n1_ := Aside0.mk (hb); have n2_ := Aside0.mk (ho); clear HO_18; clear HB; clear HO_8; have HO_18 := n0_; have HB := n1_; have HO227 := n2_; clear n0_ n1_ n2_; clear ho hb hg hat))
   go_roundg k1
   case measure => have := HK1.out; omega
   case rel => exact ⟨(y225), (wrap64 (x20_1 + 1)), (by first | rfl | (simp; done) | (simp [*]; done)), H', ⟨by have := HK1.out; omega⟩, ⟨by (with_reducible repeat (first | apply Kd.R_alloc | apply Kd.R_drewN | apply Kd.R_drew)); exact HO227.out⟩, ⟨by (with_reducible repeat (first | apply Kd.R_alloc | apply Kd.R_drewN | apply Kd.R_drew)); exact Kd.R_mono HO_18.out (fun _ hk => hk.2)⟩, ⟨bb_⟩⟩
/-! ### impl_timesRow: function 43 -/
def impl_timesRow.l0 : Nat → Int → Int → List Int → Int → Int → Option (List Int)
 | 0, _, _, _, _, _ => none
 | k + 1, x0, x1, x5, x8, x9 => if x9 < x8 then (if x0 = 0 then (none) else (if x5.length < 17592186044416 then (impl_timesRow.l0 k x0 x1 (x5 ++ [Int.tmod (wrap64 (x9 * x1)) x0]) x8 (wrap64 (x9 + 1))) else (none))) else (some x5)
def impl_timesRow.f (k : Nat) (a0 : Int) (a1 : Int) : Option (List Int) := impl_timesRow.l0 k a0 a1 (([] : List Int)) a0 0
theorem impl_timesRow.mono_l : ∀ k, (∀ y0 y1 y2 y3 y4, LeO (impl_timesRow.l0 k y0 y1 y2 y3 y4) (impl_timesRow.l0 (k + 1) y0 y1 y2 y3 y4))
 | 0 => fun _ _ _ _ _ r h => by simp [impl_timesRow.l0] at h
 | k + 1 => by
  have ih0 := impl_timesRow.mono_l k
  ·intro y0 y1 y2 y3 y4
   unfold impl_timesRow.l0
   repeat' with_reducible first | apply ih0 | exact LeO.refl _ | exact LeO.none _ | refine LeO.ite ?_ ?_ | refine LeO.bind ?_ (fun _ => ?_)
theorem impl_timesRow.mono : ∀ a0 a1 k, LeO (impl_timesRow.f k a0 a1) (impl_timesRow.f (k + 1) a0 a1) := by
 intro a0 a1 k
 have ih0 := impl_timesRow.mono_l k
 unfold impl_timesRow.f
 repeat' with_reducible first | apply ih0 | exact LeO.refl _ | exact LeO.none _ | refine LeO.ite ?_ ?_ | refine LeO.bind ?_ (fun _ => ?_)
set_option maxHeartbeats 8000000 in
set_option maxRecDepth 100000 in
theorem impl_timesRow.calls (k : Nat) (a0 : Int) (a1 : Int) (r : List Int) (w : World) (h : impl_timesRow.f k a0 a1 = some r) :
  Calls Try.prog 43 #[.int .i64 a0, .int .i64 a1] w fun e w' => ∃ v0_ : Value, e = .returned (v0_) ∧ Kd.R (Kd.int .i64) 3 w' w.heap.size (fun _ => True) v0_ r ∧ Below w.heap.size w w' := by
 have HB := Aside0.mk (Below.refl w.heap.size w)
 have H : (impl_timesRow.l0 k a0 a1 (([] : List Int)) a0 0) = some r := h
 clear h
 obtain ⟨y228, hy228⟩ : ∃ y_ : List Int, y_ = (([] : List Int)) := ⟨_, rfl⟩
 replace H : (impl_timesRow.l0 k a0 a1 y228 a0 0) = some r := by first | (rw [hy228]; with_reducible exact H) | (have H2_ := (Option.bind_some _ _).symm.trans H; rw [hy228]; with_reducible exact H2_) | (have H2_ := (Option.bind_some _ _).symm.trans H; with_reducible exact H2_) | with_reducible exact H | (rw [hy228]; exact H) | exact H
 have Ny228 := Aside0.mk hy228
 clear hy228
 have H' := Aside0.mk H
 clear H
 go_enter Try.func43, Try.ntmps43
 go_wp2_with (first | ((with_reducible refine gate_dst (N := 7) rfl ?_); refine Kd.R_lit (Kd.int .i64) _ 3 ?hg (N := 7) ?hd (xs := ([] : List Int)) (inner := []) (ok := fun _ => True) (okp := fun _ => True) ?hr ?hp (fun _ hk => hk) trivial (Below.refl _ _) (Nat.le_refl _) (by simp) ?_; (case hd => rfl); (case hg => rfl); (case hr => first | (go_simp; done) | (go_simp; rfl)); (case hp => exact (Reps.none _ _)); intro v229 w3 ho4 hb hg_ hnew_; clear hg_ hnew_; (first | rw [← Ny228.out] at ho4 | (simp only [Int.reduceToNat] at ho4; rw [← Ny228.out] at ho4)); have n0_ := Aside0.mk (Kd.R_lower ho4 bz_); have n1_ := Aside0.mk (bs_ hb); clear HB; have HO230 := n0_; have HB := n1_; clear n0_ n1_; clear hb ho4))
 go_loopg [5, 9] k (fun kq v5 v9 w' => ∃ (x5_1 : List Int) (x9_1 : Int), v9 = .int .i64 x9_1 ∧ Aside0 (impl_timesRow.l0 kq a0 a1 x5_1 a0 x9_1 = some r) ∧ Aside0 (kq ≤ k) ∧ Aside0 (Kd.R (Kd.int .i64) 3 w' w.heap.size (fun _ => True) v5 x5_1) ∧ Aside0 (Below w.heap.size w w'))
 case atStart => exact ⟨(y228), (0), (by first | rfl | (simp; done) | (simp [*]; done)), H', ⟨Nat.le_refl _⟩, ⟨by (with_reducible repeat (first | apply Kd.R_alloc | apply Kd.R_drewN | apply Kd.R_drew)); exact HO230.out⟩, ⟨bb_⟩⟩
 case round =>
  clear H'
  (try clear p2); (try clear c4)
  obtain ⟨x5_1, x9_1, rfl, HA, HK1, HO_5, HB⟩ := hrel
  cases gk with
  | zero => exact absurd HA.out (by simp [impl_timesRow.l0])
  | succ k1 =>
   have H := HA.out
   clear HA
   simp only [impl_timesRow.l0] at H
   by_cases c5 : x9_1 < a0
   rotate_left
   ·rw [if_neg c5] at H
    have c5b0 : decide (x9_1 < a0) = false := decide_eq_false c5
    clear c5
    obtain rfl := Option.some.inj H
    go_wp2
    go_ret
    exact ⟨_, by first | rfl | (simp [errW_none, errW_some] <;> rfl) | (simp [*, errW_none, errW_some] <;> rfl), by (with_reducible repeat (first | apply Kd.R_alloc | apply Kd.R_drewN | apply Kd.R_drew)); exact HO_5.out, bb_⟩

   rw [if_pos c5] at H
   have c5b0 : decide (x9_1 < a0) = true := decide_eq_true c5
   clear c5
   by_cases c6 : a0 = 0
   ·rw [if_pos c6] at H
    exact absurd H (by simp)
   rw [if_neg c6] at H
   have c6b0 : (a0 == 0) = false := beq_eq_false_iff_ne.mpr c6
   have c6b1 : (a0 != 0) = true := bne_iff_ne.mpr c6
   by_cases c7 : x5_1.length < 17592186044416
   rotate_left
   ·rw [if_neg c7] at H
    exact absurd H (by simp)
   rw [if_pos c7] at H
   have LMc7 := Aside0.mk c7
   clear c7
   obtain ⟨y231, hy231⟩ : ∃ y_ : List Int, y_ = (x5_1 ++ [Int.tmod (wrap64 (x9_1 * a1)) a0]) := ⟨_, rfl⟩
   replace H : (impl_timesRow.l0 k1 a0 a1 y231 a0 (wrap64 (x9_1 + 1))) = some r := by first | (rw [hy231]; with_reducible exact H) | (have H2_ := (Option.bind_some _ _).symm.trans H; rw [hy231]; with_reducible exact H2_) | (have H2_ := (Option.bind_some _ _).symm.trans H; with_reducible exact H2_) | with_reducible exact H | (rw [hy231]; exact H) | exact H
   have Ny231 := Aside0.mk hy231
   clear hy231
   have H' := Aside0.mk H
   clear H
   go_wp2_with (first | ((with_reducible refine gate_builtin (b := .append) (xs := #[.tmp 12, .tmp 18]) rfl ?_); at_builtin; refine Kd.R_append (Kd.int .i64) (w0 := w) w.heap.size rfl (.tmp 12) (.tmp 18) 33 3 (.int .i64 0) 8 rfl Try.underlying33 info3 rfl (by decide) (by omega) u5 x5_1 (Int.tmod (wrap64 (x9_1 * a1)) a0) [.int .i64 (Int.tmod (wrap64 (x9_1 * a1)) a0)] (fun _ => True) (fun _ => False) rfl rfl ?aP (fun _ hk => hk.elim) ?aF ?aO ?aB ?aS ?aL ?_; (case aP => exact rfl); (case aB => exact bb_); (case aF => exact (fun _ _ => trivial)); (case aO => exact (ru_ HO_5.out)); (case aS => exact bz_); (case aL => have := LMc7.out; omega); intro v232 w8 ho hb hg hat; rw [← Ny231.out] at ho; have n0_ := Aside0.mk (hb); have n1_ := Aside0.mk (ho); clear HB; clear HO_5; have HB := n0_; have HO233 := n1_; clear n0_ n1_; clear ho hb hg hat))
   go_roundg k1
   case measure => have := HK1.out; omega
   case rel => exact ⟨(y231), (wrap64 (x9_1 + 1)), (by first | rfl | (simp; done) | (simp [*]; done)), H', ⟨by have := HK1.out; omega⟩, ⟨by (with_reducible repeat (first | apply Kd.R_alloc | apply Kd.R_drewN | apply Kd.R_drew)); exact HO233.out⟩, ⟨bb_⟩⟩
/-! ### impl_TimesRow: function 14 -/
def impl_TimesRow.f (k : Nat) (a0 : Int) (a1 : Int) : Option (List Int × Bool) := (impl_isTable.f a0 a1 ([] : List Int)).bind fun t234 => (if t234 = true then ((impl_timesRow.f k a0 a1).bind fun t235 => (some (t235, true))) else (some (([] : List Int), false)))
theorem impl_TimesRow.mono : ∀ a0 a1 k, LeO (impl_TimesRow.f k a0 a1) (impl_TimesRow.f (k + 1) a0 a1) := by
 intro a0 a1 k
 unfold impl_TimesRow.f
 repeat' with_reducible first | apply impl_timesRow.mono | exact LeO.refl _ | exact LeO.none _ | refine LeO.ite ?_ ?_ | refine LeO.bind ?_ (fun _ => ?_)
set_option maxHeartbeats 8000000 in
set_option maxRecDepth 100000 in
theorem impl_TimesRow.calls (k : Nat) (a0 : Int) (a1 : Int) (r1 : List Int) (r2 : Bool) (w : World) (h : impl_TimesRow.f k a0 a1 = some (r1, r2)) :
  Calls Try.prog 14 #[.int .i64 a0, .int .i64 a1] w fun e w' => ∃ v0_ : Value, e = .returned (.tuple #[v0_, .bool r2]) ∧ Kd.R (Kd.int .i64) 3 w' w.heap.size (fun _ => True) v0_ r1 ∧ Below w.heap.size w w' := by
 have HB := Aside0.mk (Below.refl w.heap.size w)
 have H : ((impl_isTable.f a0 a1 ([] : List Int)).bind fun t234 => (if t234 = true then ((impl_timesRow.f k a0 a1).bind fun t235 => (some (t235, true))) else (some (([] : List Int), false)))) = some (r1, r2) := h
 clear h
 replace H := Option.bind_eq_some_iff.mp H
 obtain ⟨t234, A30, H⟩ := H
 (try dsimp only at H)
 have A3 := Aside0.mk A30
 clear A30
 by_cases c4 : t234 = true
 rotate_left
 ·replace c4 := Bool.eq_false_iff.mpr c4
  subst c4
  rw [if_neg (show ¬ (false = true) by decide)] at H
  simp only [Option.some.injEq, Prod.mk.injEq] at H
  obtain ⟨rfl, rfl⟩ := H
  go_enter Try.func14, Try.ntmps14
  go_wp2_with (first | ((with_reducible refine gate_callee (f := 33) rfl ?_); refine gl_ (some 8) Try.func33 #[.int .i64 a0, .int .i64 a1, .slice none 0 0] ?_; (refine (impl_isTable.calls a0 a1 _ _ ([] : List Int) false _ ?side1 ?side2 A3.out).mono ?_); (case side1 => exact Kd.C_nil _ _); (case side2 => exact Nat.le_refl _); rintro e w8 ⟨rfl, hb⟩; refine ⟨_, rfl, ?_⟩; have n0_ := Aside0.mk (bs_ hb); clear HB; have HB := n0_; clear n0_; (try clear hb)))
  go_ret2
  exact ⟨_, by first | rfl | (simp [errW_none, errW_some] <;> rfl) | (simp [*, errW_none, errW_some] <;> rfl), by first | exact Kd.R_nil _ _ _ _ _ | exact Kd.N_nil _ _ _ _ _ | exact Kd.V_nil _ _ _ _ _ | exact Kd.Q_nil _ _ _ _ _ | exact Kd.S_nil _ _ _ _ _, bb_⟩

 subst c4
 rw [if_pos rfl] at H
 replace H := Option.bind_eq_some_iff.mp H
 obtain ⟨t235, A50, H⟩ := H
 replace H : (some (t235, true)) = some (r1, r2) := H
 have A5 := Aside0.mk A50
 clear A50
 simp only [Option.some.injEq, Prod.mk.injEq] at H
 obtain ⟨rfl, rfl⟩ := H
 go_enter Try.func14, Try.ntmps14
 go_wp2_with (first | ((with_reducible refine gate_callee (f := 33) rfl ?_); refine gl_ (some 8) Try.func33 #[.int .i64 a0, .int .i64 a1, .slice none 0 0] ?_; (refine (impl_isTable.calls a0 a1 _ _ ([] : List Int) true _ ?side1 ?side2 A3.out).mono ?_); (case side1 => exact Kd.C_nil _ _); (case side2 => exact Nat.le_refl _); rintro e w6 ⟨rfl, hb⟩; refine ⟨_, rfl, ?_⟩; have n0_ := Aside0.mk (bs_ hb); clear HB; have HB := n0_; clear n0_; (try clear hb)) | ((with_reducible refine gate_callee (f := 43) rfl ?_); refine gl_ (some 12) Try.func43 #[.int .i64 a0, .int .i64 a1] ?_; (with_reducible refine (impl_timesRow.calls k a0 a1 t235 _ A5.out).mono ?_); rintro e w7 ⟨v236, rfl, ho0, hb⟩; refine ⟨_, rfl, ?_⟩; have n0_ := Aside0.mk (Kd.R_lower ho0 bz_); have n1_ := Aside0.mk (bs_ hb); clear HB; have HO237 := n0_; have HB := n1_; clear n0_ n1_; (try clear hb); (try clear ho0)))
 go_ret2
 exact ⟨_, by first | rfl | (simp [errW_none, errW_some] <;> rfl) | (simp [*, errW_none, errW_some] <;> rfl), by (with_reducible repeat (first | apply Kd.R_alloc | apply Kd.R_drewN | apply Kd.R_drew)); exact HO237.out, bb_⟩
/-! ### spec_TimesRow: function 15 -/
def spec_TimesRow.f (k : Nat) (a0 : Int) (a1 : Int) : Option (List Int × Bool) := (spec_taGood.f a0 a1).bind fun t238 => (if t238 = true then ((spec_taRow.f k a0 a1).bind fun t239 => (some (t239, true))) else (some (([] : List Int), false)))
theorem spec_TimesRow.mono : ∀ a0 a1 k, LeO (spec_TimesRow.f k a0 a1) (spec_TimesRow.f (k + 1) a0 a1) := by
 intro a0 a1 k
 unfold spec_TimesRow.f
 repeat' with_reducible first | apply spec_taRow.mono | exact LeO.refl _ | exact LeO.none _ | refine LeO.ite ?_ ?_ | refine LeO.bind ?_ (fun _ => ?_)
set_option maxHeartbeats 8000000 in
set_option maxRecDepth 100000 in
theorem spec_TimesRow.calls (k : Nat) (a0 : Int) (a1 : Int) (r1 : List Int) (r2 : Bool) (w : World) (h : spec_TimesRow.f k a0 a1 = some (r1, r2)) :
  Calls Try.prog 15 #[.int .i64 a0, .int .i64 a1] w fun e w' => ∃ v0_ : Value, e = .returned (.tuple #[v0_, .bool r2]) ∧ Kd.R (Kd.int .i64) 3 w' w.heap.size (fun _ => True) v0_ r1 ∧ Below w.heap.size w w' := by
 have HB := Aside0.mk (Below.refl w.heap.size w)
 have H : ((spec_taGood.f a0 a1).bind fun t238 => (if t238 = true then ((spec_taRow.f k a0 a1).bind fun t239 => (some (t239, true))) else (some (([] : List Int), false)))) = some (r1, r2) := h
 clear h
 replace H := Option.bind_eq_some_iff.mp H
 obtain ⟨t238, A30, H⟩ := H
 (try dsimp only at H)
 have A3 := Aside0.mk A30
 clear A30
 by_cases c4 : t238 = true
 rotate_left
 ·replace c4 := Bool.eq_false_iff.mpr c4
  subst c4
  rw [if_neg (show ¬ (false = true) by decide)] at H
  simp only [Option.some.injEq, Prod.mk.injEq] at H
  obtain ⟨rfl, rfl⟩ := H
  go_enter Try.func15, Try.ntmps15
  go_wp2_with (first | ((with_reducible refine gate_callee (f := 44) rfl ?_); refine gl_ (some 8) Try.func44 #[.int .i64 a0, .int .i64 a1] ?_; (with_reducible refine (spec_taGood.calls a0 a1 false _ A3.out).mono ?_); rintro e w' ⟨rfl, ⟨nd, rfl⟩⟩; refine ⟨_, rfl, ?_⟩))
  go_ret2
  exact ⟨_, by first | rfl | (simp [errW_none, errW_some] <;> rfl) | (simp [*, errW_none, errW_some] <;> rfl), by first | exact Kd.R_nil _ _ _ _ _ | exact Kd.N_nil _ _ _ _ _ | exact Kd.V_nil _ _ _ _ _ | exact Kd.Q_nil _ _ _ _ _ | exact Kd.S_nil _ _ _ _ _, bb_⟩

 subst c4
 rw [if_pos rfl] at H
 replace H := Option.bind_eq_some_iff.mp H
 obtain ⟨t239, A50, H⟩ := H
 replace H : (some (t239, true)) = some (r1, r2) := H
 have A5 := Aside0.mk A50
 clear A50
 simp only [Option.some.injEq, Prod.mk.injEq] at H
 obtain ⟨rfl, rfl⟩ := H
 go_enter Try.func15, Try.ntmps15
 go_wp2_with (first | ((with_reducible refine gate_callee (f := 44) rfl ?_); refine gl_ (some 8) Try.func44 #[.int .i64 a0, .int .i64 a1] ?_; (with_reducible refine (spec_taGood.calls a0 a1 true _ A3.out).mono ?_); rintro e w' ⟨rfl, ⟨nd, rfl⟩⟩; refine ⟨_, rfl, ?_⟩) | ((with_reducible refine gate_callee (f := 42) rfl ?_); refine gl_ (some 12) Try.func42 #[.int .i64 a0, .int .i64 a1] ?_; (with_reducible refine (spec_taRow.calls k a0 a1 t239 _ A5.out).mono ?_); rintro e w6 ⟨v240, rfl, ho0, hb⟩; refine ⟨_, rfl, ?_⟩; have n0_ := Aside0.mk (Kd.R_lower ho0 bz_); have n1_ := Aside0.mk (bs_ hb); clear HB; have HO241 := n0_; have HB := n1_; clear n0_ n1_; (try clear hb); (try clear ho0)))
 go_ret2
 exact ⟨_, by first | rfl | (simp [errW_none, errW_some] <;> rfl) | (simp [*, errW_none, errW_some] <;> rfl), by (with_reducible repeat (first | apply Kd.R_alloc | apply Kd.R_drewN | apply Kd.R_drew)); exact HO241.out, bb_⟩
/-! ### given: 07_fixed.tpl -/
/-- Is p fixed by the table? -/
def fixB (n f p : Int) : Bool := p * f % n == p
def impl_fixedPoints.f (a0 : Int) (a1 : Int) : Option (List Int) := if 3 ≤ a0 ∧ a0 ≤ 60 ∧ 0 ≤ a1 ∧ a1 < a0 then some (numsW (fixB a0 a1) 0 (a0 - 1)) else none

set_option maxHeartbeats 2000000 in
theorem impl_fixedPoints_1.asks (a0 a1 : Int) (B C : Nat) (w : World) (hB : B < w.heap.size) (hC : C < w.heap.size) (h0 : 3 ≤ a0) (h1 : a0 ≤ 60) (h2 : 0 ≤ a1) (h3 : a1 < a0)
    (hb : w.cell? ⟨B, 0, none⟩ = some (.int .i64 a0)) (hc : w.cell? ⟨C, 0, none⟩ = some (.int .i64 a1)) :
    Asks Try.prog 58 #[.pointer (some ⟨C, 0, none⟩), .pointer (some ⟨B, 0, none⟩)] (Value.int .i64) (fixB a0 a1) (fun x => 0 ≤ x ∧ x ≤ 60) w := by
  intro W x hW hx
  obtain ⟨hx0, hx1⟩ := hx
  have hb' : W.cell? ⟨B, 0, none⟩ = some (.int .i64 a0) := (hW.cell (p := ⟨B, 0, none⟩) hB).trans hb
  have hc' : W.cell? ⟨C, 0, none⟩ = some (.int .i64 a1) := (hW.cell (p := ⟨C, 0, none⟩) hC).trans hc
  clear hb hc hW
  have hm : 0 ≤ x * a1 := Int.mul_nonneg hx0 h2
  have hm2 : x * a1 ≤ 60 * 60 := by
    have := Int.mul_le_mul hx1 (show a1 ≤ 60 by omega) h2 (by omega)
    omega
  have hz : (a0 == 0) = false := beq_eq_false_iff_ne.mpr (by omega)
  go_enter Try.func58, Try.ntmps58
  go_wp2
  go_ret
  exact ⟨rfl, Below.refl _ _⟩

set_option maxHeartbeats 2000000 in
theorem impl_fixedPoints.calls (a0 : Int) (a1 : Int) (r : List Int) (w : World) (h : impl_fixedPoints.f a0 a1 = some r) :
    Calls Try.prog 45 #[.int .i64 a0, .int .i64 a1] w fun e w' => ∃ v0_ : Value, e = .returned (v0_) ∧ Kd.R (Kd.int .i64) 3 w' w.heap.size (fun _ => True) v0_ r ∧ Below w.heap.size w w' := by
  unfold impl_fixedPoints.f at h
  by_cases hq : 3 ≤ a0 ∧ a0 ≤ 60 ∧ 0 ≤ a1 ∧ a1 < a0
  · rw [if_pos hq] at h
    obtain rfl := Option.some.inj h
    clear h
    obtain ⟨h0, h1, h2, h3⟩ := hq
    have hB2 : Below w.heap.size w ((w.alloc (.cells #[.int .i64 a0] 3)).alloc (.cells #[.int .i64 a1] 3)) := below_alloc (below_alloc (Below.refl _ _) _) _
    have HK := Aside0.mk (impl_numbersWith.ask 0 (a0 - 1) 58 #[.pointer (some ⟨w.heap.size + 1, 0, none⟩), .pointer (some ⟨w.heap.size, 0, none⟩)] (fixB a0 a1) (fun x => 0 ≤ x ∧ x ≤ 60)
      ((w.alloc (.cells #[.int .i64 a0] 3)).alloc (.cells #[.int .i64 a1] 3)) (enters_of Try.func58 (by kernel_rfl) rfl) (by omega) (by omega)
      (impl_fixedPoints_1.asks a0 a1 _ _ _ (by simp; omega) (by simp) h0 h1 h2 h3 (by simp) (by simp)) (fun x hx hy => ⟨hx, by omega⟩))
    have HB2 := Aside0.mk hB2
    clear hB2
    go_enter Try.func45, Try.ntmps45
    go_wp2_with (fail)
    refine HK.out.mono ?_
    rintro e w1 ⟨v, rfl, ho, hb⟩
    have HO := Aside0.mk (Kd.R_lower ho HB2.out.size)
    have HB := Aside0.mk (below_then HB2.out HB2.out.size hb)
    clear ho hb HK HB2
    go_wp2
    go_ret
    exact ⟨_, rfl, HO.out, HB.out⟩
  · rw [if_neg hq] at h
    cases h

/-! ### impl_FixedPoints: function 16 -/
def impl_FixedPoints.f (a0 : Int) (a1 : Int) : Option (List Int × Bool) := (impl_isTable.f a0 a1 ([] : List Int)).bind fun t242 => (if t242 = true then ((impl_fixedPoints.f a0 a1).bind fun t243 => (some (t243, true))) else (some (([] : List Int), false)))
set_option maxHeartbeats 8000000 in
set_option maxRecDepth 100000 in
theorem impl_FixedPoints.calls (a0 : Int) (a1 : Int) (r1 : List Int) (r2 : Bool) (w : World) (h : impl_FixedPoints.f a0 a1 = some (r1, r2)) :
  Calls Try.prog 16 #[.int .i64 a0, .int .i64 a1] w fun e w' => ∃ v0_ : Value, e = .returned (.tuple #[v0_, .bool r2]) ∧ Kd.R (Kd.int .i64) 3 w' w.heap.size (fun _ => True) v0_ r1 ∧ Below w.heap.size w w' := by
 have HB := Aside0.mk (Below.refl w.heap.size w)
 have H : ((impl_isTable.f a0 a1 ([] : List Int)).bind fun t242 => (if t242 = true then ((impl_fixedPoints.f a0 a1).bind fun t243 => (some (t243, true))) else (some (([] : List Int), false)))) = some (r1, r2) := h
 clear h
 replace H := Option.bind_eq_some_iff.mp H
 obtain ⟨t242, A30, H⟩ := H
 (try dsimp only at H)
 have A3 := Aside0.mk A30
 clear A30
 by_cases c4 : t242 = true
 rotate_left
 ·replace c4 := Bool.eq_false_iff.mpr c4
  subst c4
  rw [if_neg (show ¬ (false = true) by decide)] at H
  simp only [Option.some.injEq, Prod.mk.injEq] at H
  obtain ⟨rfl, rfl⟩ := H
  go_enter Try.func16, Try.ntmps16
  go_wp2_with (first | ((with_reducible refine gate_callee (f := 33) rfl ?_); refine gl_ (some 8) Try.func33 #[.int .i64 a0, .int .i64 a1, .slice none 0 0] ?_; (refine (impl_isTable.calls a0 a1 _ _ ([] : List Int) false _ ?side1 ?side2 A3.out).mono ?_); (case side1 => exact Kd.C_nil _ _); (case side2 => exact Nat.le_refl _); rintro e w8 ⟨rfl, hb⟩; refine ⟨_, rfl, ?_⟩; have n0_ := Aside0.mk (bs_ hb); clear HB; have HB := n0_; clear n0_; (try clear hb)))
  go_ret2
  exact ⟨_, by first | rfl | (simp [errW_none, errW_some] <;> rfl) | (simp [*, errW_none, errW_some] <;> rfl), by first | exact Kd.R_nil _ _ _ _ _ | exact Kd.N_nil _ _ _ _ _ | exact Kd.V_nil _ _ _ _ _ | exact Kd.Q_nil _ _ _ _ _ | exact Kd.S_nil _ _ _ _ _, bb_⟩

 subst c4
 rw [if_pos rfl] at H
 replace H := Option.bind_eq_some_iff.mp H
 obtain ⟨t243, A50, H⟩ := H
 replace H : (some (t243, true)) = some (r1, r2) := H
 have A5 := Aside0.mk A50
 clear A50
 simp only [Option.some.injEq, Prod.mk.injEq] at H
 obtain ⟨rfl, rfl⟩ := H
 go_enter Try.func16, Try.ntmps16
 go_wp2_with (first | ((with_reducible refine gate_callee (f := 33) rfl ?_); refine gl_ (some 8) Try.func33 #[.int .i64 a0, .int .i64 a1, .slice none 0 0] ?_; (refine (impl_isTable.calls a0 a1 _ _ ([] : List Int) true _ ?side1 ?side2 A3.out).mono ?_); (case side1 => exact Kd.C_nil _ _); (case side2 => exact Nat.le_refl _); rintro e w6 ⟨rfl, hb⟩; refine ⟨_, rfl, ?_⟩; have n0_ := Aside0.mk (bs_ hb); clear HB; have HB := n0_; clear n0_; (try clear hb)) | ((with_reducible refine gate_callee (f := 45) rfl ?_); refine gl_ (some 12) Try.func45 #[.int .i64 a0, .int .i64 a1] ?_; (with_reducible refine (impl_fixedPoints.calls a0 a1 t243 _ A5.out).mono ?_); rintro e w7 ⟨v244, rfl, ho0, hb⟩; refine ⟨_, rfl, ?_⟩; have n0_ := Aside0.mk (Kd.R_lower ho0 bz_); have n1_ := Aside0.mk (bs_ hb); clear HB; have HO245 := n0_; have HB := n1_; clear n0_ n1_; (try clear hb); (try clear ho0)))
 go_ret2
 exact ⟨_, by first | rfl | (simp [errW_none, errW_some] <;> rfl) | (simp [*, errW_none, errW_some] <;> rfl), by (with_reducible repeat (first | apply Kd.R_alloc | apply Kd.R_drewN | apply Kd.R_drew)); exact HO245.out, bb_⟩
/-! ### spec_taFixed: function 46 -/
def spec_taFixed.l0 : Nat → List Int → List Int → Int → Int → Option (List Int)
 | 0, _, _, _, _ => none
 | k + 1, x5, x10, x11, x12 => if x12 < x11 then (if 0 ≤ x12 then (if x12 < (x10.length : Int) then (if x12 = (rd x10 x12) then (if x5.length < 17592186044416 then (spec_taFixed.l0 k (x5 ++ [x12]) x10 x11 (wrap64 (x12 + 1))) else (none)) else (spec_taFixed.l0 k x5 x10 x11 (wrap64 (x12 + 1)))) else (none)) else (none)) else (some x5)
def spec_taFixed.f (k : Nat) (a0 : Int) (a1 : Int) : Option (List Int) := (spec_taRow.f k a0 a1).bind fun t246 => (spec_taFixed.l0 k ([] : List Int) t246 (t246.length : Int) 0)
theorem spec_taFixed.mono_l : ∀ k, (∀ y0 y1 y2 y3, LeO (spec_taFixed.l0 k y0 y1 y2 y3) (spec_taFixed.l0 (k + 1) y0 y1 y2 y3))
 | 0 => fun _ _ _ _ r h => by simp [spec_taFixed.l0] at h
 | k + 1 => by
  have ih0 := spec_taFixed.mono_l k
  ·intro y0 y1 y2 y3
   unfold spec_taFixed.l0
   repeat' with_reducible first | apply ih0 | apply spec_taRow.mono | exact LeO.refl _ | exact LeO.none _ | refine LeO.ite ?_ ?_ | refine LeO.bind ?_ (fun _ => ?_)
theorem spec_taFixed.mono : ∀ a0 a1 k, LeO (spec_taFixed.f k a0 a1) (spec_taFixed.f (k + 1) a0 a1) := by
 intro a0 a1 k
 have ih0 := spec_taFixed.mono_l k
 unfold spec_taFixed.f
 repeat' with_reducible first | apply ih0 | apply spec_taRow.mono | exact LeO.refl _ | exact LeO.none _ | refine LeO.ite ?_ ?_ | refine LeO.bind ?_ (fun _ => ?_)
set_option maxHeartbeats 8000000 in
set_option maxRecDepth 100000 in
theorem spec_taFixed.calls (k : Nat) (a0 : Int) (a1 : Int) (r : List Int) (w : World) (h : spec_taFixed.f k a0 a1 = some r) :
  Calls Try.prog 46 #[.int .i64 a0, .int .i64 a1] w fun e w' => ∃ v0_ : Value, e = .returned (v0_) ∧ Kd.R (Kd.int .i64) 3 w' w.heap.size (fun _ => True) v0_ r ∧ Below w.heap.size w w' := by
 have HB := Aside0.mk (Below.refl w.heap.size w)
 have H : ((spec_taRow.f k a0 a1).bind fun t246 => (spec_taFixed.l0 k ([] : List Int) t246 (t246.length : Int) 0)) = some r := h
 clear h
 replace H := Option.bind_eq_some_iff.mp H
 obtain ⟨t246, A30, H⟩ := H
 (try dsimp only at H)
 have A3 := Aside0.mk A30
 clear A30
 have H' := Aside0.mk H
 clear H
 go_enter Try.func46, Try.ntmps46
 go_wp2_with (first | ((with_reducible refine gate_callee (f := 42) rfl ?_); refine gl_ (some 10) Try.func42 #[.int .i64 a0, .int .i64 a1] ?_; (with_reducible refine (spec_taRow.calls k a0 a1 t246 _ A3.out).mono ?_); rintro e w4 ⟨v247, rfl, ho0, hb⟩; refine ⟨_, rfl, ?_⟩; have n0_ := Aside0.mk (Kd.R_lower ho0 bz_); have n1_ := Aside0.mk (bs_ hb); clear HB; have HO248 := n0_; have HB := n1_; clear n0_ n1_; (try clear hb); (try clear ho0); obtain ⟨Ao5, co5, eo5⟩ := Kd.R_slice HO248.out; subst eo5))
 go_loopg [5, 12] k (fun kq v5 v12 w' => ∃ (x5_1 : List Int) (x12_1 : Int), v12 = .int .i64 x12_1 ∧ Aside0 (spec_taFixed.l0 kq x5_1 t246 (t246.length : Int) x12_1 = some r) ∧ Aside0 (kq ≤ k) ∧ Aside0 (Kd.R (Kd.int .i64) 3 w' w.heap.size (fun k_ => some k_ ≠ ((.slice Ao5 t246.length co5) : Value).ownBlock) v5 x5_1) ∧ Aside0 (Kd.R (Kd.int .i64) 3 w' w.heap.size (fun k_ => some k_ ≠ (v5 : Value).ownBlock) (.slice Ao5 t246.length co5) t246) ∧ Aside0 (Below w.heap.size w w'))
 case atStart => exact ⟨(([] : List Int)), (0), (by first | rfl | (simp; done) | (simp [*]; done)), H', ⟨Nat.le_refl _⟩, ⟨by first | exact Kd.R_nil _ _ _ _ _ | exact Kd.N_nil _ _ _ _ _ | exact Kd.V_nil _ _ _ _ _ | exact Kd.Q_nil _ _ _ _ _ | exact Kd.S_nil _ _ _ _ _⟩, ⟨by (with_reducible repeat (first | apply Kd.R_alloc | apply Kd.R_drewN | apply Kd.R_drew)); exact Kd.R_mono HO248.out (fun _ hk => (by simp [Value.ownBlock]))⟩, ⟨bb_⟩⟩
 case round =>
  clear H'
  (try clear p2); (try clear c4)
  obtain ⟨x5_1, x12_1, rfl, HA, HK1, HO_5, HO_10, HB⟩ := hrel
  cases gk with
  | zero => exact absurd HA.out (by simp [spec_taFixed.l0])
  | succ k1 =>
   have H := HA.out
   clear HA
   simp only [spec_taFixed.l0] at H
   by_cases c6 : x12_1 < (t246.length : Int)
   rotate_left
   ·rw [if_neg c6] at H
    have c6b0 : decide (x12_1 < (t246.length : Int)) = false := decide_eq_false c6
    clear c6
    obtain rfl := Option.some.inj H
    go_wp2
    go_ret
    exact ⟨_, by first | rfl | (simp [errW_none, errW_some] <;> rfl) | (simp [*, errW_none, errW_some] <;> rfl), by (with_reducible repeat (first | apply Kd.R_alloc | apply Kd.R_drewN | apply Kd.R_drew)); exact Kd.R_mono HO_5.out (fun _ hk => trivial), bb_⟩

   rw [if_pos c6] at H
   have c6b0 : decide (x12_1 < (t246.length : Int)) = true := decide_eq_true c6
   clear c6
   by_cases c7 : 0 ≤ x12_1
   rotate_left
   ·rw [if_neg c7] at H
    exact absurd H (by simp)
   rw [if_pos c7] at H
   have c7b0 : decide (0 ≤ x12_1) = true := decide_eq_true c7
   clear c7
   by_cases c8 : x12_1 < (t246.length : Int)
   rotate_left
   ·rw [if_neg c8] at H
    exact absurd H (by simp)
   rw [if_pos c8] at H
   have c8b0 : decide (x12_1 < (t246.length : Int)) = true := decide_eq_true c8
   clear c8
   by_cases c9 : x12_1 = (rd t246 x12_1)
   rotate_left
   ·rw [if_neg c9] at H
    have c9b0 : (x12_1 == (rd t246 x12_1)) = false := beq_eq_false_iff_ne.mpr c9
    have c9b1 : (x12_1 != (rd t246 x12_1)) = true := bne_iff_ne.mpr c9
    have H' := Aside0.mk H
    clear H
    have p249 : 0 ≤ (x12_1 : Int) := of_decide_eq_true (by assumption)
    have q249 : x12_1 < (t246.length : Int) := of_decide_eq_true (by assumption)
    obtain ⟨ad249, e249, hx249_0⟩ := Kd.at_int (Kd.R_reads' HO_10.out).2.2 x12_1 p249 q249
    cases e249
    replace p249 := eq_true p249
    replace q249 := eq_true q249
    go_wp2
    go_roundg k1
    case measure => have := HK1.out; omega
    case rel => exact ⟨(x5_1), (wrap64 (x12_1 + 1)), (by first | rfl | (simp; done) | (simp [*]; done)), H', ⟨by have := HK1.out; omega⟩, ⟨by (with_reducible repeat (first | apply Kd.R_alloc | apply Kd.R_drewN | apply Kd.R_drew)); exact HO_5.out⟩, ⟨by (with_reducible repeat (first | apply Kd.R_alloc | apply Kd.R_drewN | apply Kd.R_drew)); exact HO_10.out⟩, ⟨bb_⟩⟩
   rw [if_pos c9] at H
   have c9b0 : (x12_1 == (rd t246 x12_1)) = true := beq_iff_eq.mpr c9
   have c9b1 : (x12_1 != (rd t246 x12_1)) = false := bne_eq_false_iff_eq.mpr c9
   clear c9
   by_cases c10 : x5_1.length < 17592186044416
   rotate_left
   ·rw [if_neg c10] at H
    exact absurd H (by simp)
   rw [if_pos c10] at H
   have LMc10 := Aside0.mk c10
   clear c10
   obtain ⟨y250, hy250⟩ : ∃ y_ : List Int, y_ = (x5_1 ++ [x12_1]) := ⟨_, rfl⟩
   replace H : (spec_taFixed.l0 k1 y250 t246 (t246.length : Int) (wrap64 (x12_1 + 1))) = some r := by first | (rw [hy250]; with_reducible exact H) | (have H2_ := (Option.bind_some _ _).symm.trans H; rw [hy250]; with_reducible exact H2_) | (have H2_ := (Option.bind_some _ _).symm.trans H; with_reducible exact H2_) | with_reducible exact H | (rw [hy250]; exact H) | exact H
   have Ny250 := Aside0.mk hy250
   clear hy250
   have H' := Aside0.mk H
   clear H
   have p249 : 0 ≤ (x12_1 : Int) := of_decide_eq_true (by assumption)
   have q249 : x12_1 < (t246.length : Int) := of_decide_eq_true (by assumption)
   obtain ⟨ad249, e249, hx249_0⟩ := Kd.at_int (Kd.R_reads' HO_10.out).2.2 x12_1 p249 q249
   cases e249
   replace p249 := eq_true p249
   replace q249 := eq_true q249
   go_wp2_with (first | ((with_reducible refine gate_builtin (b := .append) (xs := #[.tmp 20, .tmp 22]) rfl ?_); at_builtin; refine Kd.R_append (Kd.int .i64) (w0 := w) w.heap.size rfl (.tmp 20) (.tmp 22) 33 3 (.int .i64 0) 8 rfl Try.underlying33 info3 rfl (by decide) (by omega) u5 x5_1 x12_1 [.int .i64 x12_1] (fun k_ => some k_ ≠ (.slice (some ad249) t246.length co5 : Value).ownBlock) (fun _ => False) rfl rfl ?aP (fun _ hk => hk.elim) ?aF ?aO ?aB ?aS ?aL ?_; (case aP => exact rfl); (case aB => exact bb_); (case aF => exact (fun k_ hk => Kd.fresh' (Kd.R_lt (ru_ HO_10.out)) k_ hk)); (case aO => exact (ru_ HO_5.out)); (case aS => exact bz_); (case aL => have := LMc10.out; omega); intro v251 w11 ho hb hg hat; rw [← Ny250.out] at ho; have n0_ := Aside0.mk (Kd.R_after (ok := (fun _ => True)) (by (with_reducible repeat (first | apply Kd.R_alloc | apply Kd.R_drewN | apply Kd.R_drew)); exact Kd.R_mono HO_10.out (fun _ hk => ⟨trivial, hk⟩)) hg hat); have n1_ := Aside0.mk (hb); have n2_ := Aside0.mk (ho); clear HO_10; clear HB; clear HO_5; have HO_10 := n0_; have HB := n1_; have HO252 := n2_; clear n0_ n1_ n2_; clear ho hb hg hat))
   go_roundg k1
   case measure => have := HK1.out; omega
   case rel => exact ⟨(y250), (wrap64 (x12_1 + 1)), (by first | rfl | (simp; done) | (simp [*]; done)), H', ⟨by have := HK1.out; omega⟩, ⟨by (with_reducible repeat (first | apply Kd.R_alloc | apply Kd.R_drewN | apply Kd.R_drew)); exact HO252.out⟩, ⟨by (with_reducible repeat (first | apply Kd.R_alloc | apply Kd.R_drewN | apply Kd.R_drew)); exact Kd.R_mono HO_10.out (fun _ hk => hk.2)⟩, ⟨bb_⟩⟩
/-! ### spec_FixedPoints: function 17 -/
def spec_FixedPoints.f (k : Nat) (a0 : Int) (a1 : Int) : Option (List Int × Bool) := (spec_taGood.f a0 a1).bind fun t253 => (if t253 = true then ((spec_taFixed.f k a0 a1).bind fun t254 => (some (t254, true))) else (some (([] : List Int), false)))
theorem spec_FixedPoints.mono : ∀ a0 a1 k, LeO (spec_FixedPoints.f k a0 a1) (spec_FixedPoints.f (k + 1) a0 a1) := by
 intro a0 a1 k
 unfold spec_FixedPoints.f
 repeat' with_reducible first | apply spec_taFixed.mono | exact LeO.refl _ | exact LeO.none _ | refine LeO.ite ?_ ?_ | refine LeO.bind ?_ (fun _ => ?_)
set_option maxHeartbeats 8000000 in
set_option maxRecDepth 100000 in
theorem spec_FixedPoints.calls (k : Nat) (a0 : Int) (a1 : Int) (r1 : List Int) (r2 : Bool) (w : World) (h : spec_FixedPoints.f k a0 a1 = some (r1, r2)) :
  Calls Try.prog 17 #[.int .i64 a0, .int .i64 a1] w fun e w' => ∃ v0_ : Value, e = .returned (.tuple #[v0_, .bool r2]) ∧ Kd.R (Kd.int .i64) 3 w' w.heap.size (fun _ => True) v0_ r1 ∧ Below w.heap.size w w' := by
 have HB := Aside0.mk (Below.refl w.heap.size w)
 have H : ((spec_taGood.f a0 a1).bind fun t253 => (if t253 = true then ((spec_taFixed.f k a0 a1).bind fun t254 => (some (t254, true))) else (some (([] : List Int), false)))) = some (r1, r2) := h
 clear h
 replace H := Option.bind_eq_some_iff.mp H
 obtain ⟨t253, A30, H⟩ := H
 (try dsimp only at H)
 have A3 := Aside0.mk A30
 clear A30
 by_cases c4 : t253 = true
 rotate_left
 ·replace c4 := Bool.eq_false_iff.mpr c4
  subst c4
  rw [if_neg (show ¬ (false = true) by decide)] at H
  simp only [Option.some.injEq, Prod.mk.injEq] at H
  obtain ⟨rfl, rfl⟩ := H
  go_enter Try.func17, Try.ntmps17
  go_wp2_with (first | ((with_reducible refine gate_callee (f := 44) rfl ?_); refine gl_ (some 8) Try.func44 #[.int .i64 a0, .int .i64 a1] ?_; (with_reducible refine (spec_taGood.calls a0 a1 false _ A3.out).mono ?_); rintro e w' ⟨rfl, ⟨nd, rfl⟩⟩; refine ⟨_, rfl, ?_⟩))
  go_ret2
  exact ⟨_, by first | rfl | (simp [errW_none, errW_some] <;> rfl) | (simp [*, errW_none, errW_some] <;> rfl), by first | exact Kd.R_nil _ _ _ _ _ | exact Kd.N_nil _ _ _ _ _ | exact Kd.V_nil _ _ _ _ _ | exact Kd.Q_nil _ _ _ _ _ | exact Kd.S_nil _ _ _ _ _, bb_⟩

 subst c4
 rw [if_pos rfl] at H
 replace H := Option.bind_eq_some_iff.mp H
 obtain ⟨t254, A50, H⟩ := H
 replace H : (some (t254, true)) = some (r1, r2) := H
 have A5 := Aside0.mk A50
 clear A50
 simp only [Option.some.injEq, Prod.mk.injEq] at H
 obtain ⟨rfl, rfl⟩ := H
 go_enter Try.func17, Try.ntmps17
 go_wp2_with (first | ((with_reducible refine gate_callee (f := 44) rfl ?_); refine gl_ (some 8) Try.func44 #[.int .i64 a0, .int .i64 a1] ?_; (with_reducible refine (spec_taGood.calls a0 a1 true _ A3.out).mono ?_); rintro e w' ⟨rfl, ⟨nd, rfl⟩⟩; refine ⟨_, rfl, ?_⟩) | ((with_reducible refine gate_callee (f := 46) rfl ?_); refine gl_ (some 12) Try.func46 #[.int .i64 a0, .int .i64 a1] ?_; (with_reducible refine (spec_taFixed.calls k a0 a1 t254 _ A5.out).mono ?_); rintro e w6 ⟨v255, rfl, ho0, hb⟩; refine ⟨_, rfl, ?_⟩; have n0_ := Aside0.mk (Kd.R_lower ho0 bz_); have n1_ := Aside0.mk (bs_ hb); clear HB; have HO256 := n0_; have HB := n1_; clear n0_ n1_; (try clear hb); (try clear ho0)))
 go_ret2
 exact ⟨_, by first | rfl | (simp [errW_none, errW_some] <;> rfl) | (simp [*, errW_none, errW_some] <;> rfl), by (with_reducible repeat (first | apply Kd.R_alloc | apply Kd.R_drewN | apply Kd.R_drew)); exact HO256.out, bb_⟩
/-! ### given: 21_min.tpl -/
/-- The least of the first k + 1 elements. -/
def minK (l : List Int) : Nat → Int
  | 0 => l.getD 0 0
  | k + 1 => mn (minK l k) (l.getD (k + 1) 0)
def slices_Min_int_int.f (l0 : List Int) : Option Int := if 0 < l0.length then some (minK l0 (l0.length - 1)) else none
set_option maxHeartbeats 1000000 in
theorem slices_Min_int_int.calls (A0 : Option Addr) (c0 : Nat) (l0 : List Int) (r : Int) (w : World) (hr0 : Kd.C (Kd.int .i64) w A0 l0.length l0) (hc0 : l0.length ≤ c0) (h : slices_Min_int_int.f l0 = some r) :
    Calls Try.prog 47 #[.slice A0 l0.length c0] w fun e w' => e = .returned (.int .i64 r) ∧ Drawn0 w w' := by
  unfold slices_Min_int_int.f at h
  by_cases hp : 0 < l0.length
  · rw [if_pos hp] at h
    obtain rfl := Option.some.inj h
    clear h
    have hbig := Kd.C_max hr0
    obtain ⟨ad, y0, rfl, hcell0, HY0, _⟩ := read_at hr0 0 hp
    have HR := Aside0.mk hr0
    have hz1 : ¬ (l0.length : Int) < 1 := by omega
    have hz0 : (0 : Int) < (l0.length : Int) := by omega
    have hcell0' : w.cell? ad = some (.int .i64 y0) := by have e_ : ad.add 0 = ad := (by unfold Addr.add; simp); rw [e_] at hcell0; exact hcell0
    clear hr0 hc0 hcell0
    go_enter Try.func47, Try.ntmps47
    go_wp2
    go_loopg [3, 4] l0.length (fun gg v3 v4 wr => ∃ kk : Nat, kk < l0.length ∧ l0.length - kk ≤ gg ∧ v4 = .int .i64 (kk + 1) ∧ v3 = .int .i64 (minK l0 kk) ∧ Aside0 (wr = w))
    case atStart => exact ⟨0, hp, by omega, rfl, by rw [HY0.out]; rfl, ⟨rfl⟩⟩
    case round =>
      obtain ⟨kk, hkk, hg, rfl, rfl, HW⟩ := hrel
      obtain rfl := HW.out
      by_cases hlt : kk + 1 < l0.length
      · have hltz : (kk : Int) + 1 < (l0.length : Int) := by omega
        obtain ⟨ad', y, e1, hcell, HY, _⟩ := read_at HR.out (kk + 1) hlt
        obtain rfl : ad = ad' := Option.some.inj e1
        clear e1
        have e2 : ad.add (kk + 1) = ⟨ad.block, ad.off + (kk + 1), none⟩ := by unfold Addr.add; rw [if_neg (by omega)]
        rw [e2] at hcell
        clear e2
        go_wp2
        all_goals
          go_roundg (l0.length - (kk + 1))
          case measure => omega
          case rel => exact ⟨kk + 1, hlt, by omega, by go_num, by have e_ : minK l0 (kk + 1) = mn (minK l0 kk) y := (by rw [HY.out]; rfl); rw [e_]; first | rfl | (unfold mn; split <;> first | rfl | (congr 1; omega) | omega), ⟨rfl⟩⟩
      · have hltz : ¬ (kk : Int) + 1 < (l0.length : Int) := by omega
        go_wp2
        go_ret
        refine ⟨?_, Drawn0.refl _⟩
        have e3 : l0.length - 1 = kk := by omega
        rw [e3]; rfl
  · rw [if_neg hp] at h; cases h

end Go.Proofs.Ytgiiaajincdhnaa.P
