/- A part of this seat's proofs: contracts of the translated functions, written by the session's own program (gp.py) out of the kit's print.py and the session's own contracts; no conditions of its own. -/
import Derived.Test.YteihhjieihgojaaGreatPx0
import Derived.Test.YteihhjieihgojaaGreatPx2
import Derived.Test.YteihhjieihgojaaGreatPx3
namespace Go.Proofs.YteihhjieihgojaaGreat.P
open Go.RowKit Go.Proofs.YteihhjieihgojaaGreatW.PrintWords Go.Proofs.YteihhjieihgojaaGreatW.PrintLast Go.Proofs.YteihhjieihgojaaGreatW.PrintMore
attribute [local go_sem] max2_int min2_int max_two min_two max_three min_three max_four min_four   -- for this text's walks alone
set_option linter.unusedVariables false
set_option linter.unusedSimpArgs false

/-! ### impl_OrderOfFactor: function 10 -/
def impl_OrderOfFactor.f (k : Nat) (a0 : Int) (a1 : Int) : Option (Int × Bool) := (impl_isTable.f a0 a1 ([] : List Int)).bind fun t154 => (if t154 = true then ((impl_orderOf.f k a0 a1).bind fun t155 => (some (t155, decide (t155 > 0)))) else (some (0, false)))
theorem impl_OrderOfFactor.mono : ∀ a0 a1 k, LeO (impl_OrderOfFactor.f k a0 a1) (impl_OrderOfFactor.f (k + 1) a0 a1) := by
 intro a0 a1 k
 unfold impl_OrderOfFactor.f
 repeat' with_reducible first | apply impl_orderOf.mono | exact LeO.refl _ | exact LeO.none _ | refine LeO.ite ?_ ?_ | refine LeO.bind ?_ (fun _ => ?_)
set_option maxHeartbeats 8000000 in
set_option maxRecDepth 100000 in
theorem impl_OrderOfFactor.calls (k : Nat) (a0 : Int) (a1 : Int) (r1 : Int) (r2 : Bool) (w : World) (h : impl_OrderOfFactor.f k a0 a1 = some (r1, r2)) :
  Calls Tryz.prog 10 #[.int .i64 a0, .int .i64 a1] w fun e w' => e = .returned (.tuple #[.int .i64 r1, .bool r2]) ∧ Below w.heap.size w w' := by
 have HB := Aside0.mk (Below.refl w.heap.size w)
 have H : ((impl_isTable.f a0 a1 ([] : List Int)).bind fun t154 => (if t154 = true then ((impl_orderOf.f k a0 a1).bind fun t155 => (some (t155, decide (t155 > 0)))) else (some (0, false)))) = some (r1, r2) := h
 clear h
 replace H := Option.bind_eq_some_iff.mp H
 obtain ⟨t154, A30, H⟩ := H
 (try dsimp only at H)
 have A3 := Aside0.mk A30
 clear A30
 by_cases c4 : t154 = true
 rotate_left
 ·replace c4 := Bool.eq_false_iff.mpr c4
  subst c4
  rw [if_neg (show ¬ (false = true) by decide)] at H
  simp only [Option.some.injEq, Prod.mk.injEq] at H
  obtain ⟨rfl, rfl⟩ := H
  go_enter Tryz.func10, Tryz.ntmps10
  go_wp2_with (first | ((with_reducible refine gate_callee (f := 35) rfl ?_); refine gl_ (some 9) Tryz.func35 #[.int .i64 a0, .int .i64 a1, .slice none 0 0] ?_; (refine (impl_isTable.calls a0 a1 _ _ ([] : List Int) false _ ?side1 ?side2 A3.out).mono ?_); (case side1 => exact Kd.C_nil _ _); (case side2 => exact Nat.le_refl _); rintro e w7 ⟨rfl, hb⟩; refine ⟨_, rfl, ?_⟩; have n0_ := Aside0.mk (bs_ hb); clear HB; have HB := n0_; clear n0_; (try clear hb)))
  go_ret2
  exact ⟨by first | rfl | (simp [errW_none, errW_some] <;> rfl) | (simp [*, errW_none, errW_some] <;> rfl), bb_⟩

 subst c4
 rw [if_pos rfl] at H
 replace H := Option.bind_eq_some_iff.mp H
 obtain ⟨t155, A50, H⟩ := H
 replace H : (some (t155, decide (t155 > 0))) = some (r1, r2) := H
 have A5 := Aside0.mk A50
 clear A50
 simp only [Option.some.injEq, Prod.mk.injEq] at H
 obtain ⟨rfl, rfl⟩ := H
 go_enter Tryz.func10, Tryz.ntmps10
 go_wp2_with (first | ((with_reducible refine gate_callee (f := 35) rfl ?_); refine gl_ (some 9) Tryz.func35 #[.int .i64 a0, .int .i64 a1, .slice none 0 0] ?_; (refine (impl_isTable.calls a0 a1 _ _ ([] : List Int) true _ ?side1 ?side2 A3.out).mono ?_); (case side1 => exact Kd.C_nil _ _); (case side2 => exact Nat.le_refl _); rintro e w6 ⟨rfl, hb⟩; refine ⟨_, rfl, ?_⟩; have n0_ := Aside0.mk (bs_ hb); clear HB; have HB := n0_; clear n0_; (try clear hb)) | ((with_reducible refine gate_callee (f := 39) rfl ?_); refine gl_ (some 13) Tryz.func39 #[.int .i64 a0, .int .i64 a1] ?_; (with_reducible refine (impl_orderOf.calls k a0 a1 t155 _ A5.out).mono ?_); rintro e w' ⟨rfl, ⟨nd, rfl⟩⟩; refine ⟨_, rfl, ?_⟩))
 go_ret2
 exact ⟨by first | rfl | (simp [errW_none, errW_some] <;> rfl) | (simp [*, errW_none, errW_some] <;> rfl), bb_⟩
/-! ### spec_taOrder: function 40 -/
def spec_taOrder.l0 : Nat → Int → Int → Int → Int → Option (Int)
 | 0, _, _, _, _ => none
 | k + 1, x0, x1, x5, x6 => if x6 = 1 then (some x5) else (if x0 = 0 then (none) else (spec_taOrder.l0 k x0 x1 (wrap64 (x5 + 1)) (Int.tmod (wrap64 (x6 * x1)) x0)))
def spec_taOrder.f (k : Nat) (a0 : Int) (a1 : Int) : Option (Int) := spec_taOrder.l0 k a0 a1 1 a1
theorem spec_taOrder.mono_l : ∀ k, (∀ y0 y1 y2 y3, LeO (spec_taOrder.l0 k y0 y1 y2 y3) (spec_taOrder.l0 (k + 1) y0 y1 y2 y3))
 | 0 => fun _ _ _ _ r h => by simp [spec_taOrder.l0] at h
 | k + 1 => by
  have ih0 := spec_taOrder.mono_l k
  ·intro y0 y1 y2 y3
   unfold spec_taOrder.l0
   repeat' with_reducible first | apply ih0 | exact LeO.refl _ | exact LeO.none _ | refine LeO.ite ?_ ?_ | refine LeO.bind ?_ (fun _ => ?_)
theorem spec_taOrder.mono : ∀ a0 a1 k, LeO (spec_taOrder.f k a0 a1) (spec_taOrder.f (k + 1) a0 a1) := by
 intro a0 a1 k
 have ih0 := spec_taOrder.mono_l k
 unfold spec_taOrder.f
 repeat' with_reducible first | apply ih0 | exact LeO.refl _ | exact LeO.none _ | refine LeO.ite ?_ ?_ | refine LeO.bind ?_ (fun _ => ?_)
set_option maxHeartbeats 8000000 in
set_option maxRecDepth 100000 in
theorem spec_taOrder.calls (k : Nat) (a0 : Int) (a1 : Int) (r : Int) (w : World) (h : spec_taOrder.f k a0 a1 = some r) :
  Calls Tryz.prog 40 #[.int .i64 a0, .int .i64 a1] w fun e w' => e = .returned (.int .i64 r) ∧ Drawn0 w w' := by
 have H : (spec_taOrder.l0 k a0 a1 1 a1) = some r := h
 clear h
 have H' := Aside0.mk H
 clear H
 go_enter Tryz.func40, Tryz.ntmps40
 go_wp2
 go_loopg [5, 6] k (fun kq v5 v6 w' => ∃ (x5_1 : Int) (x6_1 : Int), v5 = .int .i64 x5_1 ∧ v6 = .int .i64 x6_1 ∧ Aside0 (spec_taOrder.l0 kq a0 a1 x5_1 x6_1 = some r) ∧ Aside0 (kq ≤ k) ∧ Drawn0 w w')
 case atStart => exact ⟨(1), (a1), (by first | rfl | (simp; done) | (simp [*]; done)), (by first | rfl | (simp; done) | (simp [*]; done)), H', ⟨Nat.le_refl _⟩, by repeat (first | exact Drawn0.refl _ | apply Drawn0.step)⟩
 case round =>
  clear H'
  try clear p2
  obtain ⟨x5_1, x6_1, rfl, rfl, HA, HK1, ⟨m1, rfl⟩⟩ := hrel
  cases gk with
  | zero => exact absurd HA.out (by simp [spec_taOrder.l0])
  | succ k1 =>
   have H := HA.out
   clear HA
   simp only [spec_taOrder.l0] at H
   by_cases c3 : x6_1 = 1
   ·rw [if_pos c3] at H
    have c3b0 : (x6_1 == 1) = true := beq_iff_eq.mpr c3
    have c3b1 : (x6_1 != 1) = false := bne_eq_false_iff_eq.mpr c3
    clear c3
    obtain rfl := Option.some.inj H
    go_wp2
    go_ret
    exact ⟨by first | rfl | (simp; done) | (simp [*]; done), by repeat (first | exact Drawn0.refl _ | apply Drawn0.step)⟩
   rw [if_neg c3] at H
   have c3b0 : (x6_1 == 1) = false := beq_eq_false_iff_ne.mpr c3
   have c3b1 : (x6_1 != 1) = true := bne_iff_ne.mpr c3
   by_cases c4 : a0 = 0
   ·rw [if_pos c4] at H
    exact absurd H (by simp)
   rw [if_neg c4] at H
   have c4b0 : (a0 == 0) = false := beq_eq_false_iff_ne.mpr c4
   have c4b1 : (a0 != 0) = true := bne_iff_ne.mpr c4
   have H' := Aside0.mk H
   clear H
   go_wp2
   go_roundg k1
   case measure => have := HK1.out; omega
   case rel => exact ⟨(wrap64 (x5_1 + 1)), (Int.tmod (wrap64 (x6_1 * a1)) a0), (by first | rfl | (simp; done) | (simp [*]; done)), (by first | rfl | (simp; done) | (simp [*]; done)), H', ⟨by have := HK1.out; omega⟩, by repeat (first | exact Drawn0.refl _ | apply Drawn0.step)⟩

/-! ### spec_OrderOfFactor: function 11 -/
def spec_OrderOfFactor.f (k : Nat) (a0 : Int) (a1 : Int) : Option (Int × Bool) := (spec_taGood.f a0 a1).bind fun t156 => (if t156 = true then ((spec_taUndone.f a0 a1).bind fun t157 => (if t157 = true then ((spec_taOrder.f k a0 a1).bind fun t158 => (some (t158, true))) else (some (0, false)))) else (some (0, false)))
theorem spec_OrderOfFactor.mono : ∀ a0 a1 k, LeO (spec_OrderOfFactor.f k a0 a1) (spec_OrderOfFactor.f (k + 1) a0 a1) := by
 intro a0 a1 k
 unfold spec_OrderOfFactor.f
 repeat' with_reducible first | apply spec_taOrder.mono | exact LeO.refl _ | exact LeO.none _ | refine LeO.ite ?_ ?_ | refine LeO.bind ?_ (fun _ => ?_)
set_option maxHeartbeats 8000000 in
set_option maxRecDepth 100000 in
theorem spec_OrderOfFactor.calls (k : Nat) (a0 : Int) (a1 : Int) (r1 : Int) (r2 : Bool) (w : World) (h : spec_OrderOfFactor.f k a0 a1 = some (r1, r2)) :
  Calls Tryz.prog 11 #[.int .i64 a0, .int .i64 a1] w fun e w' => e = .returned (.tuple #[.int .i64 r1, .bool r2]) ∧ Drawn0 w w' := by
 have H : ((spec_taGood.f a0 a1).bind fun t156 => (if t156 = true then ((spec_taUndone.f a0 a1).bind fun t157 => (if t157 = true then ((spec_taOrder.f k a0 a1).bind fun t158 => (some (t158, true))) else (some (0, false)))) else (some (0, false)))) = some (r1, r2) := h
 clear h
 replace H := Option.bind_eq_some_iff.mp H
 obtain ⟨t156, A30, H⟩ := H
 (try dsimp only at H)
 have A3 := Aside0.mk A30
 clear A30
 by_cases c4 : t156 = true
 rotate_left
 ·replace c4 := Bool.eq_false_iff.mpr c4
  subst c4
  rw [if_neg (show ¬ (false = true) by decide)] at H
  simp only [Option.some.injEq, Prod.mk.injEq] at H
  obtain ⟨rfl, rfl⟩ := H
  go_enter Tryz.func11, Tryz.ntmps11
  go_wp2_with (first | ((with_reducible refine gate_callee (f := 36) rfl ?_); refine gl_ (some 8) Tryz.func36 #[.int .i64 a0, .int .i64 a1] ?_; (with_reducible refine (spec_taGood.calls a0 a1 false _ A3.out).mono ?_); rintro e w' ⟨rfl, ⟨nd, rfl⟩⟩; refine ⟨_, rfl, ?_⟩))
  go_ret2
  exact ⟨by first | rfl | (simp; done) | (simp [*]; done), by repeat (first | exact Drawn0.refl _ | apply Drawn0.step)⟩

 subst c4
 rw [if_pos rfl] at H
 replace H := Option.bind_eq_some_iff.mp H
 obtain ⟨t157, A50, H⟩ := H
 (try dsimp only at H)
 have A5 := Aside0.mk A50
 clear A50
 by_cases c6 : t157 = true
 rotate_left
 ·replace c6 := Bool.eq_false_iff.mpr c6
  subst c6
  rw [if_neg (show ¬ (false = true) by decide)] at H
  simp only [Option.some.injEq, Prod.mk.injEq] at H
  obtain ⟨rfl, rfl⟩ := H
  go_enter Tryz.func11, Tryz.ntmps11
  go_wp2_with (first | ((with_reducible refine gate_callee (f := 36) rfl ?_); refine gl_ (some 8) Tryz.func36 #[.int .i64 a0, .int .i64 a1] ?_; (with_reducible refine (spec_taGood.calls a0 a1 true _ A3.out).mono ?_); rintro e w' ⟨rfl, ⟨nd, rfl⟩⟩; refine ⟨_, rfl, ?_⟩) | (go_at_call 38; (with_reducible refine (spec_taUndone.calls a0 a1 false _ A5.out).mono ?_); rintro e w' ⟨rfl, ⟨nd, rfl⟩⟩))
  go_ret2
  exact ⟨by first | rfl | (simp; done) | (simp [*]; done), by repeat (first | exact Drawn0.refl _ | apply Drawn0.step)⟩
 subst c6
 rw [if_pos rfl] at H
 replace H := Option.bind_eq_some_iff.mp H
 obtain ⟨t158, A70, H⟩ := H
 replace H : (some (t158, true)) = some (r1, r2) := H
 have A7 := Aside0.mk A70
 clear A70
 simp only [Option.some.injEq, Prod.mk.injEq] at H
 obtain ⟨rfl, rfl⟩ := H
 go_enter Tryz.func11, Tryz.ntmps11
 go_wp2_with (first | ((with_reducible refine gate_callee (f := 36) rfl ?_); refine gl_ (some 8) Tryz.func36 #[.int .i64 a0, .int .i64 a1] ?_; (with_reducible refine (spec_taGood.calls a0 a1 true _ A3.out).mono ?_); rintro e w' ⟨rfl, ⟨nd, rfl⟩⟩; refine ⟨_, rfl, ?_⟩) | (go_at_call 38; (with_reducible refine (spec_taUndone.calls a0 a1 true _ A5.out).mono ?_); rintro e w' ⟨rfl, ⟨nd, rfl⟩⟩) | ((with_reducible refine gate_callee (f := 40) rfl ?_); refine gl_ (some 18) Tryz.func40 #[.int .i64 a0, .int .i64 a1] ?_; (with_reducible refine (spec_taOrder.calls k a0 a1 t158 _ A7.out).mono ?_); rintro e w' ⟨rfl, ⟨nd, rfl⟩⟩; refine ⟨_, rfl, ?_⟩))
 go_ret2
 exact ⟨by first | rfl | (simp; done) | (simp [*]; done), by repeat (first | exact Drawn0.refl _ | apply Drawn0.step)⟩
/-! ### impl_timesRow: function 53 -/
def impl_timesRow.l0 : Nat → Int → Int → List Int → Int → Int → Option (List Int)
 | 0, _, _, _, _, _ => none
 | k + 1, x0, x1, x5, x8, x9 => if x9 < x8 then (if x0 = 0 then (none) else (if x5.length < 17592186044416 then (impl_timesRow.l0 k x0 x1 (x5 ++ [Int.tmod (wrap64 (x9 * x1)) x0]) x8 (wrap64 (x9 + 1))) else (none))) else (some x5)
def impl_timesRow.f (k : Nat) (a0 : Int) (a1 : Int) : Option (List Int) := impl_timesRow.l0 k a0 a1 (([] : List Int)) a0 0
theorem impl_timesRow.mono_l : ∀ k, (∀ y0 y1 y2 y3 y4, LeO (impl_timesRow.l0 k y0 y1 y2 y3 y4) (impl_timesRow.l0 (k + 1) y0 y1 y2 y3 y4))
 | 0 => fun _ _ _ _ _ r h => by simp [impl_timesRow.l0] at h
 | k + 1 => by
  have ih0 := impl_timesRow.mono_l k
  ·intro y0 y1 y2 y3 y4
   unfold impl_timesRow.l0
   repeat' with_reducible first | apply ih0 | exact LeO.refl _ | exact LeO.none _ | refine LeO.ite ?_ ?_ | refine LeO.bind ?_ (fun _ => ?_)
theorem impl_timesRow.mono : ∀ a0 a1 k, LeO (impl_timesRow.f k a0 a1) (impl_timesRow.f (k + 1) a0 a1) := by
 intro a0 a1 k
 have ih0 := impl_timesRow.mono_l k
 unfold impl_timesRow.f
 repeat' with_reducible first | apply ih0 | exact LeO.refl _ | exact LeO.none _ | refine LeO.ite ?_ ?_ | refine LeO.bind ?_ (fun _ => ?_)
set_option maxHeartbeats 8000000 in
set_option maxRecDepth 100000 in
theorem impl_timesRow.calls (k : Nat) (a0 : Int) (a1 : Int) (r : List Int) (w : World) (h : impl_timesRow.f k a0 a1 = some r) :
  Calls Tryz.prog 53 #[.int .i64 a0, .int .i64 a1] w fun e w' => ∃ v0_ : Value, e = .returned (v0_) ∧ Kd.R (Kd.int .i64) 3 w' w.heap.size (fun _ => True) v0_ r ∧ Below w.heap.size w w' := by
 have HB := Aside0.mk (Below.refl w.heap.size w)
 have H : (impl_timesRow.l0 k a0 a1 (([] : List Int)) a0 0) = some r := h
 clear h
 obtain ⟨y159, hy159⟩ : ∃ y_ : List Int, y_ = (([] : List Int)) := ⟨_, rfl⟩
 replace H : (impl_timesRow.l0 k a0 a1 y159 a0 0) = some r := by first | (rw [hy159]; with_reducible exact H) | (have H2_ := (Option.bind_some _ _).symm.trans H; rw [hy159]; with_reducible exact H2_) | (have H2_ := (Option.bind_some _ _).symm.trans H; with_reducible exact H2_) | with_reducible exact H | (rw [hy159]; exact H) | exact H
 have Ny159 := Aside0.mk hy159
 clear hy159
 have H' := Aside0.mk H
 clear H
 go_enter Tryz.func53, Tryz.ntmps53
 go_wp2_with (first | ((with_reducible refine gate_dst (N := 7) rfl ?_); refine Kd.R_lit (Kd.int .i64) _ 3 ?hg (N := 7) ?hd (xs := ([] : List Int)) (inner := []) (ok := fun _ => True) (okp := fun _ => True) ?hr ?hp (fun _ hk => hk) trivial (Below.refl _ _) (Nat.le_refl _) (by simp) ?_; (case hd => rfl); (case hg => rfl); (case hr => first | (go_simp; done) | (go_simp; rfl)); (case hp => exact (Reps.none _ _)); intro v160 w3 ho4 hb hg_ hnew_; clear hg_ hnew_; (first | rw [← Ny159.out] at ho4 | (simp only [Int.reduceToNat] at ho4; rw [← Ny159.out] at ho4)); have n0_ := Aside0.mk (Kd.R_lower ho4 bz_); have n1_ := Aside0.mk (bs_ hb); clear HB; have HO161 := n0_; have HB := n1_; clear n0_ n1_; clear hb ho4))
 go_loopg [5, 9] k (fun kq v5 v9 w' => ∃ (x5_1 : List Int) (x9_1 : Int), v9 = .int .i64 x9_1 ∧ Aside0 (impl_timesRow.l0 kq a0 a1 x5_1 a0 x9_1 = some r) ∧ Aside0 (kq ≤ k) ∧ Aside0 (Kd.R (Kd.int .i64) 3 w' w.heap.size (fun _ => True) v5 x5_1) ∧ Aside0 (Below w.heap.size w w'))
 case atStart => exact ⟨(y159), (0), (by first | rfl | (simp; done) | (simp [*]; done)), H', ⟨Nat.le_refl _⟩, ⟨by (with_reducible repeat (first | apply Kd.R_alloc | apply Kd.R_drewN | apply Kd.R_drew)); exact HO161.out⟩, ⟨bb_⟩⟩
 case round =>
  clear H'
  try clear p2
  obtain ⟨x5_1, x9_1, rfl, HA, HK1, HO_5, HB⟩ := hrel
  cases gk with
  | zero => exact absurd HA.out (by simp [impl_timesRow.l0])
  | succ k1 =>
   have H := HA.out
   clear HA
   simp only [impl_timesRow.l0] at H
   by_cases c5 : x9_1 < a0
   rotate_left
   ·rw [if_neg c5] at H
    have c5b0 : decide (x9_1 < a0) = false := decide_eq_false c5
    clear c5
    obtain rfl := Option.some.inj H
    go_wp2
    go_ret
    exact ⟨_, by first | rfl | (simp [errW_none, errW_some] <;> rfl) | (simp [*, errW_none, errW_some] <;> rfl), by (with_reducible repeat (first | apply Kd.R_alloc | apply Kd.R_drewN | apply Kd.R_drew)); exact HO_5.out, bb_⟩

   rw [if_pos c5] at H
   have c5b0 : decide (x9_1 < a0) = true := decide_eq_true c5
   clear c5
   by_cases c6 : a0 = 0
   ·rw [if_pos c6] at H
    exact absurd H (by simp)
   rw [if_neg c6] at H
   have c6b0 : (a0 == 0) = false := beq_eq_false_iff_ne.mpr c6
   have c6b1 : (a0 != 0) = true := bne_iff_ne.mpr c6
   by_cases c7 : x5_1.length < 17592186044416
   rotate_left
   ·rw [if_neg c7] at H
    exact absurd H (by simp)
   rw [if_pos c7] at H
   have LMc7 := Aside0.mk c7
   clear c7
   obtain ⟨y162, hy162⟩ : ∃ y_ : List Int, y_ = (x5_1 ++ [Int.tmod (wrap64 (x9_1 * a1)) a0]) := ⟨_, rfl⟩
   replace H : (impl_timesRow.l0 k1 a0 a1 y162 a0 (wrap64 (x9_1 + 1))) = some r := by first | (rw [hy162]; with_reducible exact H) | (have H2_ := (Option.bind_some _ _).symm.trans H; rw [hy162]; with_reducible exact H2_) | (have H2_ := (Option.bind_some _ _).symm.trans H; with_reducible exact H2_) | with_reducible exact H | (rw [hy162]; exact H) | exact H
   have Ny162 := Aside0.mk hy162
   clear hy162
   have H' := Aside0.mk H
   clear H
   go_wp2_with (first | ((with_reducible refine gate_builtin (b := .append) (xs := #[.tmp 12, .tmp 18]) rfl ?_); at_builtin; refine Kd.R_append (Kd.int .i64) (w0 := w) w.heap.size rfl (.tmp 12) (.tmp 18) 33 3 (.int .i64 0) 8 rfl Tryz.underlying33 info3 rfl (by decide) (by omega) u5 x5_1 (Int.tmod (wrap64 (x9_1 * a1)) a0) [.int .i64 (Int.tmod (wrap64 (x9_1 * a1)) a0)] (fun _ => True) (fun _ => False) rfl rfl ?aP (fun _ hk => hk.elim) ?aF ?aO ?aB ?aS ?aL ?_; (case aP => exact rfl); (case aB => exact bb_); (case aF => exact (fun _ _ => trivial)); (case aO => exact (ru_ HO_5.out)); (case aS => exact bz_); (case aL => have := LMc7.out; omega); intro v163 w8 ho hb hg hat; rw [← Ny162.out] at ho; have n0_ := Aside0.mk (hb); have n1_ := Aside0.mk (ho); clear HB; clear HO_5; have HB := n0_; have HO164 := n1_; clear n0_ n1_; clear ho hb hg hat))
   go_roundg k1
   case measure => have := HK1.out; omega
   case rel => exact ⟨(y162), (wrap64 (x9_1 + 1)), (by first | rfl | (simp; done) | (simp [*]; done)), H', ⟨by have := HK1.out; omega⟩, ⟨by (with_reducible repeat (first | apply Kd.R_alloc | apply Kd.R_drewN | apply Kd.R_drew)); exact HO164.out⟩, ⟨bb_⟩⟩
/-! ### impl_chord: function 66 -/
def impl_chord.f (a0 : Int) (a1 : Int) : Option (Int × Int) := some (mn a0 a1, mx a0 a1)
set_option maxHeartbeats 8000000 in
set_option maxRecDepth 100000 in
theorem impl_chord.calls (a0 : Int) (a1 : Int) (r1 : Int) (r2 : Int) (w : World) (h : impl_chord.f a0 a1 = some (r1, r2)) :
  Calls Tryz.prog 66 #[.int .i64 a0, .int .i64 a1] w fun e w' => e = .returned (.agg #[.int .i64 r1, .int .i64 r2]) ∧ Below w.heap.size w w' := by
 have hu41 := Tryz.underlying41
 have HB := Aside0.mk (Below.refl w.heap.size w)
 have H : (some (mn a0 a1, mx a0 a1)) = some (r1, r2) := h
 clear h
 obtain ⟨ji3, hji3⟩ : ∃ j_ : Int, (mn a0 a1) = j_ := ⟨_, rfl⟩
 replace H : (some (ji3, mx a0 a1)) = some (r1, r2) := by first | (rw [hji3] at H; exact H) | (simp only [hji3] at H ⊢; exact H)
 have hji3_ : (if a1 < a0 then a1 else a0) = ji3 := hji3
 obtain ⟨ji4, hji4⟩ : ∃ j_ : Int, (mx a0 a1) = j_ := ⟨_, rfl⟩
 replace H : (some (ji3, ji4)) = some (r1, r2) := by first | (rw [hji4] at H; exact H) | (simp only [hji4] at H ⊢; exact H)
 have hji4_ : (if a0 < a1 then a1 else a0) = ji4 := hji4
 simp only [Option.some.injEq, Prod.mk.injEq] at H
 obtain ⟨rfl, rfl⟩ := H
 go_enter Tryz.func66, Tryz.ntmps66
 go_wp2_with (first | ((with_reducible refine gate_dst (N := 4) rfl ?_); refine box_event ?hg (N := 4) ?hd (cs := #[.int .i64 0, .int .i64 0]) (t := 41) ?hr ?_; (case hd => rfl); (case hg => rfl); (case hr => first | (go_simp; done) | (go_simp; rfl)); intro gb165 hg w5 hbox hb; have n0_ := Aside0.mk (bs_ hb); have n1_ := Aside0.mk (hbox); have n2_ := Aside0.mk ((by rw [hg]; exact bz_ : w.heap.size ≤ gb165)); have n3_ := Aside0.mk ((by rw [hg]; exact bz_ : w.heap.size ≤ gb165)); clear HB; have HB := n0_; have BK165 := n1_; have GW165 := n2_; have GE165 := n3_; clear n0_ n1_ n2_ n3_; clear hb hbox hg; have hcz6_0 : w5.cell? ⟨gb165, 0, none⟩ = some (.int .i64 0) := (blk_cell BK165.out 0).trans rfl; have hcz6_1 : w5.cell? ⟨gb165, 1, none⟩ = some (.int .i64 0) := (blk_cell BK165.out 1).trans rfl; have hfz6_0 := blk_frozen BK165.out 0; have hfz6_1 := blk_frozen BK165.out 1))
 refine bodyPost_ret (results_cell_row rfl _ _ gb165 41 #[.int .i64 ji3, .int .i64 ji4] (0, 0) _ rfl (by (with_reducible repeat (first | refine blk_drewN ?_ _ | refine blk_drew ?_ | refine blk_alloc ?_ _)); refine blk_put (cs := #[.int .i64 ji3, .int .i64 0]) ?_ 1 _ rfl; (with_reducible repeat (first | refine blk_drewN ?_ _ | refine blk_drew ?_ | refine blk_alloc ?_ _)); refine blk_put (cs := #[.int .i64 0, .int .i64 0]) ?_ 0 _ rfl; (with_reducible repeat (first | refine blk_drewN ?_ _ | refine blk_drew ?_ | refine blk_alloc ?_ _)); exact BK165.out) Tryz.underlying41 rfl (by kernel_rfl)) rfl ?_
 exact ⟨by first | rfl | (simp [errW_none, errW_some] <;> rfl) | (simp only [← hji3, ← hji4]; first | rfl | (simp [errW_none, errW_some] <;> rfl)) | (simp [*, errW_none, errW_some] <;> rfl), by repeat (first | (with_reducible first | apply below_alloc | apply pw_below_drewN | apply below_drew1 | refine below_set ?_ GE165.out) | exact HB.out)⟩

/-! ### cmp_Or_int: function 90 -/
def cmp_Or_int.l0 : Nat → Int → List Int → Int → Int → Option (Int)
 | 0, _, _, _, _ => none
 | k + 1, x3, x6, x7, x8 => if x8 < x7 then (if 0 ≤ x8 then (if x8 < (x6.length : Int) then (if (rd x6 x8) = x3 then (cmp_Or_int.l0 k x3 x6 x7 (wrap64 (x8 + 1))) else (some (rd x6 x8))) else (none)) else (none)) else (some x3)
def cmp_Or_int.f (k : Nat) (l0 : List Int) : Option (Int) := cmp_Or_int.l0 k 0 l0 (l0.length : Int) 0
theorem cmp_Or_int.mono_l : ∀ k, (∀ y0 y1 y2 y3, LeO (cmp_Or_int.l0 k y0 y1 y2 y3) (cmp_Or_int.l0 (k + 1) y0 y1 y2 y3))
 | 0 => fun _ _ _ _ r h => by simp [cmp_Or_int.l0] at h
 | k + 1 => by
  have ih0 := cmp_Or_int.mono_l k
  ·intro y0 y1 y2 y3
   unfold cmp_Or_int.l0
   repeat' with_reducible first | apply ih0 | exact LeO.refl _ | exact LeO.none _ | refine LeO.ite ?_ ?_ | refine LeO.bind ?_ (fun _ => ?_)
theorem cmp_Or_int.mono : ∀ a0 k, LeO (cmp_Or_int.f k a0) (cmp_Or_int.f (k + 1) a0) := by
 intro a0 k
 have ih0 := cmp_Or_int.mono_l k
 unfold cmp_Or_int.f
 repeat' with_reducible first | apply ih0 | exact LeO.refl _ | exact LeO.none _ | refine LeO.ite ?_ ?_ | refine LeO.bind ?_ (fun _ => ?_)
set_option maxHeartbeats 8000000 in
set_option maxRecDepth 100000 in
theorem cmp_Or_int.calls (k : Nat) (A0 : Option Addr) (c0 : Nat) (l0 : List Int) (r : Int) (w : World) (hr0 : Kd.C (Kd.int .i64) w A0 l0.length l0) (hc0 : l0.length ≤ c0) (h : cmp_Or_int.f k l0 = some r) :
  Calls Tryz.prog 90 #[.slice A0 l0.length c0] w fun e w' => e = .returned (.int .i64 r) ∧ Drawn0 w w' := by
 have HR0 := Aside0.mk hr0
 have HC0 := Aside0.mk hc0
 clear hr0 hc0
 have H : (cmp_Or_int.l0 k 0 l0 (l0.length : Int) 0) = some r := h
 clear h
 have H' := Aside0.mk H
 clear H
 go_enter Tryz.func90, Tryz.ntmps90
 go_wp2
 go_loopg [8] k (fun kq v8 w' => ∃ (x8_1 : Int), v8 = .int .i64 x8_1 ∧ Aside0 (cmp_Or_int.l0 kq 0 l0 (l0.length : Int) x8_1 = some r) ∧ Aside0 (kq ≤ k) ∧ Drawn0 w w')
 case atStart => exact ⟨(0), (by first | rfl | (simp; done) | (simp [*]; done)), H', ⟨Nat.le_refl _⟩, by repeat (first | exact Drawn0.refl _ | apply Drawn0.step)⟩
 case round =>
  clear H'
  obtain ⟨x8_1, rfl, HA, HK1, ⟨m1, rfl⟩⟩ := hrel
  cases gk with
  | zero => exact absurd HA.out (by simp [cmp_Or_int.l0])
  | succ k1 =>
   have H := HA.out
   clear HA
   simp only [cmp_Or_int.l0] at H
   by_cases c2 : x8_1 < (l0.length : Int)
   rotate_left
   ·rw [if_neg c2] at H
    have c2b0 : decide (x8_1 < (l0.length : Int)) = false := decide_eq_false c2
    clear c2
    obtain rfl := Option.some.inj H
    go_wp2
    go_ret
    exact ⟨by first | rfl | (simp; done) | (simp [*]; done), by repeat (first | exact Drawn0.refl _ | apply Drawn0.step)⟩

   rw [if_pos c2] at H
   have c2b0 : decide (x8_1 < (l0.length : Int)) = true := decide_eq_true c2
   clear c2
   by_cases c3 : 0 ≤ x8_1
   rotate_left
   ·rw [if_neg c3] at H
    exact absurd H (by simp)
   rw [if_pos c3] at H
   have c3b0 : decide (0 ≤ x8_1) = true := decide_eq_true c3
   clear c3
   by_cases c4 : x8_1 < (l0.length : Int)
   rotate_left
   ·rw [if_neg c4] at H
    exact absurd H (by simp)
   rw [if_pos c4] at H
   have c4b0 : decide (x8_1 < (l0.length : Int)) = true := decide_eq_true c4
   clear c4
   by_cases c5 : (rd l0 x8_1) = 0
   rotate_left
   ·rw [if_neg c5] at H
    have c5b0 : ((rd l0 x8_1) == 0) = false := beq_eq_false_iff_ne.mpr c5
    have c5b1 : ((rd l0 x8_1) != 0) = true := bne_iff_ne.mpr c5
    obtain rfl := Option.some.inj H
    have p166 : 0 ≤ (x8_1 : Int) := of_decide_eq_true (by assumption)
    have q166 : x8_1 < (l0.length : Int) := of_decide_eq_true (by assumption)
    obtain ⟨ad166, e166, hx166_0⟩ := Kd.at_int HR0.out x8_1 p166 q166
    cases e166
    replace p166 := eq_true p166
    replace q166 := eq_true q166
    go_wp2
    go_ret
    exact ⟨by first | rfl | (simp; done) | (simp [*]; done), by repeat (first | exact Drawn0.refl _ | apply Drawn0.step)⟩
   rw [if_pos c5] at H
   have c5b0 : ((rd l0 x8_1) == 0) = true := beq_iff_eq.mpr c5
   have c5b1 : ((rd l0 x8_1) != 0) = false := bne_eq_false_iff_eq.mpr c5
   clear c5
   have H' := Aside0.mk H
   clear H
   have p166 : 0 ≤ (x8_1 : Int) := of_decide_eq_true (by assumption)
   have q166 : x8_1 < (l0.length : Int) := of_decide_eq_true (by assumption)
   obtain ⟨ad166, e166, hx166_0⟩ := Kd.at_int HR0.out x8_1 p166 q166
   cases e166
   replace p166 := eq_true p166
   replace q166 := eq_true q166
   go_wp2
   go_roundg k1
   case measure => have := HK1.out; omega
   case rel => exact ⟨(wrap64 (x8_1 + 1)), (by first | rfl | (simp; done) | (simp [*]; done)), H', ⟨by have := HK1.out; omega⟩, by repeat (first | exact Drawn0.refl _ | apply Drawn0.step)⟩
/-! ### cmp_isNaN_int: function 102 -/
def cmp_isNaN_int.f (a0 : Int) : Option (Bool) := some (a0 != a0)
set_option maxHeartbeats 8000000 in
set_option maxRecDepth 100000 in
theorem cmp_isNaN_int.calls (a0 : Int) (r : Bool) (w : World) (h : cmp_isNaN_int.f a0 = some r) :
  Calls Tryz.prog 102 #[.int .i64 a0] w fun e w' => e = .returned (.bool r) ∧ Drawn0 w w' := by
 have H : (some (a0 != a0)) = some r := h
 clear h
 obtain rfl := Option.some.inj H
 go_enter Tryz.func102, Tryz.ntmps102
 go_wp2
 go_ret
 exact ⟨by first | rfl | (simp; done) | (simp [*]; done), by repeat (first | exact Drawn0.refl _ | apply Drawn0.step)⟩

/-! ### cmp_Compare_int: function 91 -/
def cmp_Compare_int.f (a0 : Int) (a1 : Int) : Option (Int) := (cmp_isNaN_int.f a0).bind fun t167 => ((cmp_isNaN_int.f a1).bind fun t168 => (if t167 = true then (if t168 = true then (some 0) else (some (-1))) else (if t168 = true then (some 1) else (if a0 < a1 then (some (-1)) else (if a0 > a1 then (some 1) else (some 0))))))
set_option maxHeartbeats 8000000 in
set_option maxRecDepth 100000 in
theorem cmp_Compare_int.calls (a0 : Int) (a1 : Int) (r : Int) (w : World) (h : cmp_Compare_int.f a0 a1 = some r) :
  Calls Tryz.prog 91 #[.int .i64 a0, .int .i64 a1] w fun e w' => e = .returned (.int .i64 r) ∧ Drawn0 w w' := by
 have H : ((cmp_isNaN_int.f a0).bind fun t167 => ((cmp_isNaN_int.f a1).bind fun t168 => (if t167 = true then (if t168 = true then (some 0) else (some (-1))) else (if t168 = true then (some 1) else (if a0 < a1 then (some (-1)) else (if a0 > a1 then (some 1) else (some 0))))))) = some r := h
 clear h
 replace H := Option.bind_eq_some_iff.mp H
 obtain ⟨t167, A30, H⟩ := H
 (try dsimp only at H)
 have A3 := Aside0.mk A30
 clear A30
 replace H := Option.bind_eq_some_iff.mp H
 obtain ⟨t168, A40, H⟩ := H
 (try dsimp only at H)
 have A4 := Aside0.mk A40
 clear A40
 by_cases c5 : t167 = true
 ·subst c5
  rw [if_pos rfl] at H
  by_cases c6 : t168 = true
  ·subst c6
   rw [if_pos rfl] at H
   obtain rfl := Option.some.inj H
   go_enter Tryz.func91, Tryz.ntmps91
   go_wp2_with (first | ((with_reducible refine gate_callee (f := 102) rfl ?_); refine gl_ (some 8) Tryz.func102 #[.int .i64 a0] ?_; (with_reducible refine (cmp_isNaN_int.calls a0 true _ A3.out).mono ?_); rintro e w' ⟨rfl, ⟨nd, rfl⟩⟩; refine ⟨_, rfl, ?_⟩) | ((with_reducible refine gate_callee (f := 102) rfl ?_); refine gl_ (some 10) Tryz.func102 #[.int .i64 a1] ?_; (with_reducible refine (cmp_isNaN_int.calls a1 true _ A4.out).mono ?_); rintro e w' ⟨rfl, ⟨nd, rfl⟩⟩; refine ⟨_, rfl, ?_⟩))
   go_ret
   exact ⟨by first | rfl | (simp; done) | (simp [*]; done), by repeat (first | exact Drawn0.refl _ | apply Drawn0.step)⟩
  replace c6 := Bool.eq_false_iff.mpr c6
  subst c6
  rw [if_neg (show ¬ (false = true) by decide)] at H
  obtain rfl := Option.some.inj H
  go_enter Tryz.func91, Tryz.ntmps91
  go_wp2_with (first | ((with_reducible refine gate_callee (f := 102) rfl ?_); refine gl_ (some 8) Tryz.func102 #[.int .i64 a0] ?_; (with_reducible refine (cmp_isNaN_int.calls a0 true _ A3.out).mono ?_); rintro e w' ⟨rfl, ⟨nd, rfl⟩⟩; refine ⟨_, rfl, ?_⟩) | ((with_reducible refine gate_callee (f := 102) rfl ?_); refine gl_ (some 10) Tryz.func102 #[.int .i64 a1] ?_; (with_reducible refine (cmp_isNaN_int.calls a1 false _ A4.out).mono ?_); rintro e w' ⟨rfl, ⟨nd, rfl⟩⟩; refine ⟨_, rfl, ?_⟩))
  go_ret
  exact ⟨by first | rfl | (simp; done) | (simp [*]; done), by repeat (first | exact Drawn0.refl _ | apply Drawn0.step)⟩
 replace c5 := Bool.eq_false_iff.mpr c5
 subst c5
 rw [if_neg (show ¬ (false = true) by decide)] at H
 by_cases c7 : t168 = true
 ·subst c7
  rw [if_pos rfl] at H
  obtain rfl := Option.some.inj H
  go_enter Tryz.func91, Tryz.ntmps91
  go_wp2_with (first | ((with_reducible refine gate_callee (f := 102) rfl ?_); refine gl_ (some 8) Tryz.func102 #[.int .i64 a0] ?_; (with_reducible refine (cmp_isNaN_int.calls a0 false _ A3.out).mono ?_); rintro e w' ⟨rfl, ⟨nd, rfl⟩⟩; refine ⟨_, rfl, ?_⟩) | ((with_reducible refine gate_callee (f := 102) rfl ?_); refine gl_ (some 10) Tryz.func102 #[.int .i64 a1] ?_; (with_reducible refine (cmp_isNaN_int.calls a1 true _ A4.out).mono ?_); rintro e w' ⟨rfl, ⟨nd, rfl⟩⟩; refine ⟨_, rfl, ?_⟩))
  go_ret
  exact ⟨by first | rfl | (simp; done) | (simp [*]; done), by repeat (first | exact Drawn0.refl _ | apply Drawn0.step)⟩
 replace c7 := Bool.eq_false_iff.mpr c7
 subst c7
 rw [if_neg (show ¬ (false = true) by decide)] at H
 by_cases c8 : a0 < a1
 ·rw [if_pos c8] at H
  have c8b0 : decide (a0 < a1) = true := decide_eq_true c8
  clear c8
  obtain rfl := Option.some.inj H
  go_enter Tryz.func91, Tryz.ntmps91
  go_wp2_with (first | ((with_reducible refine gate_callee (f := 102) rfl ?_); refine gl_ (some 8) Tryz.func102 #[.int .i64 a0] ?_; (with_reducible refine (cmp_isNaN_int.calls a0 false _ A3.out).mono ?_); rintro e w' ⟨rfl, ⟨nd, rfl⟩⟩; refine ⟨_, rfl, ?_⟩) | ((with_reducible refine gate_callee (f := 102) rfl ?_); refine gl_ (some 10) Tryz.func102 #[.int .i64 a1] ?_; (with_reducible refine (cmp_isNaN_int.calls a1 false _ A4.out).mono ?_); rintro e w' ⟨rfl, ⟨nd, rfl⟩⟩; refine ⟨_, rfl, ?_⟩))
  go_ret
  exact ⟨by first | rfl | (simp; done) | (simp [*]; done), by repeat (first | exact Drawn0.refl _ | apply Drawn0.step)⟩
 rw [if_neg c8] at H
 have c8b0 : decide (a0 < a1) = false := decide_eq_false c8
 clear c8
 by_cases c9 : a0 > a1
 ·rw [if_pos c9] at H
  have c9b0 : decide (a1 < a0) = true := decide_eq_true c9
  clear c9
  obtain rfl := Option.some.inj H
  go_enter Tryz.func91, Tryz.ntmps91
  go_wp2_with (first | ((with_reducible refine gate_callee (f := 102) rfl ?_); refine gl_ (some 8) Tryz.func102 #[.int .i64 a0] ?_; (with_reducible refine (cmp_isNaN_int.calls a0 false _ A3.out).mono ?_); rintro e w' ⟨rfl, ⟨nd, rfl⟩⟩; refine ⟨_, rfl, ?_⟩) | ((with_reducible refine gate_callee (f := 102) rfl ?_); refine gl_ (some 10) Tryz.func102 #[.int .i64 a1] ?_; (with_reducible refine (cmp_isNaN_int.calls a1 false _ A4.out).mono ?_); rintro e w' ⟨rfl, ⟨nd, rfl⟩⟩; refine ⟨_, rfl, ?_⟩))
  go_ret
  exact ⟨by first | rfl | (simp; done) | (simp [*]; done), by repeat (first | exact Drawn0.refl _ | apply Drawn0.step)⟩
 rw [if_neg c9] at H
 have c9b0 : decide (a1 < a0) = false := decide_eq_false c9
 clear c9
 obtain rfl := Option.some.inj H
 go_enter Tryz.func91, Tryz.ntmps91
 go_wp2_with (first | ((with_reducible refine gate_callee (f := 102) rfl ?_); refine gl_ (some 8) Tryz.func102 #[.int .i64 a0] ?_; (with_reducible refine (cmp_isNaN_int.calls a0 false _ A3.out).mono ?_); rintro e w' ⟨rfl, ⟨nd, rfl⟩⟩; refine ⟨_, rfl, ?_⟩) | ((with_reducible refine gate_callee (f := 102) rfl ?_); refine gl_ (some 10) Tryz.func102 #[.int .i64 a1] ?_; (with_reducible refine (cmp_isNaN_int.calls a1 false _ A4.out).mono ?_); rintro e w' ⟨rfl, ⟨nd, rfl⟩⟩; refine ⟨_, rfl, ?_⟩))
 go_ret
 exact ⟨by first | rfl | (simp; done) | (simp [*]; done), by repeat (first | exact Drawn0.refl _ | apply Drawn0.step)⟩

/-! ### given: 29_cmpC.tpl -/
/-- A world that has come of another by draws and new blocks alone. -/
def GrewC (w w' : World) : Prop := ∃ q os, w' = Go.Sort.grow (w.drewN q) os
theorem GrewC.refl (w : World) : GrewC w w := ⟨0, #[], by rw [Go.Sort.grow_empty]; rfl⟩
theorem GrewC.alloc {w w' : World} (h : GrewC w w') (o : Obj) : GrewC w (w'.alloc o) := by
  obtain ⟨q, os, rfl⟩ := h
  exact ⟨q, os ++ #[o], by rw [Go.Sort.alloc_eq_grow, Go.Sort.grow_grow]⟩
theorem GrewC.drewN {w w' : World} (h : GrewC w w') (n : Nat) : GrewC w (w'.drewN n) := by
  obtain ⟨q, os, rfl⟩ := h
  refine ⟨q + n, os, ?_⟩
  show Go.Sort.grow ((w.drewN q).drewN n) os = _
  rw [World.drewN_drewN]
theorem GrewC.drew {w w' : World} (h : GrewC w w') : GrewC w w'.drew := h.drewN 1
/-- Which of two chords is the first. -/
def cmpC (x y : S41) : Int := if x.f0 < y.f0 then -1 else if y.f0 < x.f0 then 1 else if x.f1 < y.f1 then -1 else if y.f1 < x.f1 then 1 else 0
theorem C_twoC (W : World) (T : Nat) (x y : Int) : Kd.C (Kd.int .i64) (W.alloc (.cells #[.int .i64 x, .int .i64 y] T)) (some ⟨W.heap.size, 0, none⟩) [x, y].length [x, y] := by
  refine ⟨rfl, by simp, fun _ => ⟨_, rfl, fun j p hj => ?_⟩⟩
  have hj2 : (j = 0 ∧ p = x) ∨ (j = 1 ∧ p = y) := by
    match j, hj with
    | 0, hj => simp at hj; exact .inl ⟨rfl, hj.symm⟩
    | 1, hj => simp at hj; exact .inr ⟨rfl, hj.symm⟩
    | j + 2, hj => simp at hj
  rcases hj2 with ⟨rfl, rfl⟩ | ⟨rfl, rfl⟩
  all_goals
    refine ⟨[.int .i64 p], rfl, rfl, fun i u hu => ?_⟩
    obtain ⟨rfl, rfl⟩ : i = 0 ∧ (Value.int .i64 p) = u := by
      cases i with
      | zero => exact ⟨rfl, by simpa using hu⟩
      | succ i => simp at hu
    simp [Addr.add, Kd.int, Kd.scalar]
theorem cmpI_toldC (a b : Int) : cmp_Compare_int.f a b = some (if a < b then -1 else if b < a then 1 else 0) := by
  unfold cmp_Compare_int.f cmp_isNaN_int.f
  simp only [Option.bind_some, bne_self_eq_false]
  rw [if_neg (by decide), if_neg (by decide)]
  repeat' split
  all_goals rfl
theorem cmpOr_toldC (a b : Int) : cmp_Or_int.f 3 [a, b] = some (if a = 0 then b else a) := by
  have w1 : wrap64 (0 + 1) = 0 + 1 := by unfold wrap64; omega
  have w2 : wrap64 (0 + 1 + 1) = 0 + 1 + 1 := by unfold wrap64; omega
  unfold cmp_Or_int.f
  rw [cmp_Or_int.l0, if_pos (by simp), if_pos (by omega), if_pos (by simp), w1]
  have e0 : rd [a, b] 0 = a := rfl
  rw [e0]
  by_cases h : a = 0
  · rw [if_pos h, if_pos h, cmp_Or_int.l0, if_pos (by simp), if_pos (by omega), if_pos (by simp), w2]
    have e1 : rd [a, b] (0 + 1) = b := rfl
    rw [e1]
    by_cases h2 : b = 0
    · rw [if_pos h2, cmp_Or_int.l0, if_neg (by simp), h2]
    · rw [if_neg h2]
  · rw [if_neg h, if_neg h]
set_option maxHeartbeats 4000000 in
theorem impl_compareChords.lays (x y : S41) (W : World) :
    Calls Tryz.prog 80 #[.agg #[.int .i64 x.f0, .int .i64 x.f1], .agg #[.int .i64 y.f0, .int .i64 y.f1]] W fun e w' => e = .returned (.int .i64 (cmpC x y)) ∧ GrewC W w' := by
  have HX := Aside0.mk (cmpI_toldC x.f0 y.f0)
  have HY := Aside0.mk (cmpI_toldC x.f1 y.f1)
  have HE := Aside0.mk (show (if (if x.f0 < y.f0 then (-1 : Int) else if y.f0 < x.f0 then 1 else 0) = 0 then (if x.f1 < y.f1 then (-1 : Int) else if y.f1 < x.f1 then 1 else 0) else (if x.f0 < y.f0 then (-1 : Int) else if y.f0 < x.f0 then 1 else 0)) = cmpC x y by unfold cmpC; repeat' split <;> first | rfl | omega)
  generalize (if x.f0 < y.f0 then (-1 : Int) else if y.f0 < x.f0 then 1 else 0) = a at HX HE
  generalize (if x.f1 < y.f1 then (-1 : Int) else if y.f1 < x.f1 then 1 else 0) = b at HY HE
  have HO := Aside0.mk (cmpOr_toldC a b)
  generalize (if a = 0 then b else a) = r at HO HE
  have g1 : ((W.alloc (.cells #[.int .i64 x.f0, .int .i64 x.f1] 41)).alloc (.cells #[.int .i64 y.f0, .int .i64 y.f1] 41)).cell? ⟨W.heap.size, 0, none⟩ = some (.int .i64 x.f0) := by simp
  have g2 : ((W.alloc (.cells #[.int .i64 x.f0, .int .i64 x.f1] 41)).alloc (.cells #[.int .i64 y.f0, .int .i64 y.f1] 41)).cell? ⟨W.heap.size, 1, none⟩ = some (.int .i64 x.f1) := by simp
  have g3 : ((W.alloc (.cells #[.int .i64 x.f0, .int .i64 x.f1] 41)).alloc (.cells #[.int .i64 y.f0, .int .i64 y.f1] 41)).cell? ⟨W.heap.size + 1, 0, none⟩ = some (.int .i64 y.f0) := by simp
  have g4 : ((W.alloc (.cells #[.int .i64 x.f0, .int .i64 x.f1] 41)).alloc (.cells #[.int .i64 y.f0, .int .i64 y.f1] 41)).cell? ⟨W.heap.size + 1, 1, none⟩ = some (.int .i64 y.f1) := by simp
  have g5 : GrewC W ((W.alloc (.cells #[.int .i64 x.f0, .int .i64 x.f1] 41)).alloc (.cells #[.int .i64 y.f0, .int .i64 y.f1] 41)) := ((GrewC.refl W).alloc _).alloc _
  go_enter Tryz.func80, Tryz.ntmps80
  go_wp2
  generalize (W.alloc (.cells #[.int .i64 x.f0, .int .i64 x.f1] 41)).alloc (.cells #[.int .i64 y.f0, .int .i64 y.f1] 41) = W0 at g1 g2 g3 g4 g5 ⊢
  have G5 := Aside0.mk g5
  have HC := Aside0.mk (fun W1 : World => C_twoC W1 3 a b)
  clear g5
  go_region_held3 (fun w' => w'.cell? ⟨W.heap.size, 0, none⟩ = some (.int .i64 x.f0) ∧ w'.cell? ⟨W.heap.size, 1, none⟩ = some (.int .i64 x.f1) ∧ w'.cell? ⟨W.heap.size + 1, 0, none⟩ = some (.int .i64 y.f0) ∧ w'.cell? ⟨W.heap.size + 1, 1, none⟩ = some (.int .i64 y.f1))
    (first
      | (refine ⟨?_, ?_, ?_, ?_⟩; assumption; assumption; assumption; assumption)
      | (refine ⟨?_, ?_, ?_, ?_⟩ <;> (repeat (first | assumption | refine cell_drawn _ ?_ | refine cell_later _ ?_))))
    (first
      | (go_at_call 91; (with_reducible refine (cmp_Compare_int.calls x.f0 y.f0 a _ HX.out).mono ?_); rintro e w' ⟨rfl, ⟨nd, rfl⟩⟩)
      | (go_at_call 91; (with_reducible refine (cmp_Compare_int.calls x.f1 y.f1 b _ HY.out).mono ?_); rintro e w' ⟨rfl, ⟨nd, rfl⟩⟩)
      | (go_at_call 90; refine (cmp_Or_int.calls 3 _ 2 [a, b] _ _ (HC.out _) (Nat.le_refl _) HO.out).mono ?_; rintro e w' ⟨rfl, ⟨nd, rfl⟩⟩))
  all_goals
    go_wp2
    go_ret
    exact ⟨by rw [← HE.out]; rfl, by repeat (first | exact G5.out | apply GrewC.drewN | apply GrewC.drew | apply GrewC.alloc)⟩

/-! ### given: 29b_compareChords.tpl -/
def impl_compareChords.f (k : Nat) (a0_0 : Int) (a0_1 : Int) (a1_0 : Int) (a1_1 : Int) : Option Int := some (cmpC ⟨a0_0, a0_1⟩ ⟨a1_0, a1_1⟩)
theorem impl_compareChords.mono : ∀ a0_0 a0_1 a1_0 a1_1 k, LeO (impl_compareChords.f k a0_0 a0_1 a1_0 a1_1) (impl_compareChords.f (k + 1) a0_0 a0_1 a1_0 a1_1) := fun _ _ _ _ _ _ h => h
theorem impl_compareChords.calls (k : Nat) (a0_0 : Int) (a0_1 : Int) (a1_0 : Int) (a1_1 : Int) (r : Int) (w : World) (h : impl_compareChords.f k a0_0 a0_1 a1_0 a1_1 = some r) :
    Calls Tryz.prog 80 #[.agg #[.int .i64 a0_0, .int .i64 a0_1], .agg #[.int .i64 a1_0, .int .i64 a1_1]] w fun e w' => e = .returned (.int .i64 r) ∧ Below w.heap.size w w' := by
  obtain rfl := Option.some.inj h
  refine (impl_compareChords.lays ⟨a0_0, a0_1⟩ ⟨a1_0, a1_1⟩ w).mono ?_
  rintro e w' ⟨rfl, q, os, rfl⟩
  refine ⟨rfl, rfl, rfl, rfl, by simp [Go.Sort.grow], fun k hk => ?_⟩
  simp [Go.Sort.grow, Array.getElem?_append_left hk]

-- NOT PRINTED: function 92 (impl_Chord_92)

-- NOT PRINTED: function 103 (impl_Chord_103)

-- NOT PRINTED: function 93 (impl_Chord_93)

-- NOT PRINTED: function 100 (bits_Len32)

-- NOT PRINTED: function 101 (bits_Len64)

-- NOT PRINTED: function 89 (bits_Len)

-- NOT PRINTED: function 104 (slices_nextPowerOfTwo)

-- NOT PRINTED: function 105 (slices_xorshift_Next)

-- NOT PRINTED: function 94 (impl_Chord_94)

-- NOT PRINTED: function 108 (impl_Chord_108)

-- NOT PRINTED: function 107 (impl_Chord_107)

-- NOT PRINTED: function 106 (impl_Chord_106)

-- NOT PRINTED: function 95 (impl_Chord_95)

-- NOT PRINTED: function 96 (impl_Chord_96)

-- NOT PRINTED: function 97 (impl_Chord_97)

-- NOT PRINTED: function 98 (impl_Chord_98)

-- NOT PRINTED: function 99 (impl_Chord_99)

-- NOT PRINTED: function 88 (impl_Chord_88)

/-! ### given: 20_rows.tpl -/
/-! rows of the call's own, laid anew by a contract of the shelf ('putRow') -/
theorem putRow_enc {α : Type} [Inhabited α] (enc : α → Value) (w : World) (b o : Nat) (d : Array α) : Go.Sort.putRow enc w b o d = Go.Sort.putRow id w b o (d.map enc) := by
  unfold Go.Sort.putRow
  congr 1
  funext c
  unfold Go.Sort.putCells
  congr 1
  funext k x
  rw [Array.size_map]
  by_cases h : o ≤ k ∧ k < o + d.size
  · have h2 : k - o < d.size := by omega
    rw [if_pos h, if_pos h, getElem!_pos d _ h2, getElem!_pos (d.map enc) _ (by simpa using h2)]
    simp
  · rw [if_neg h, if_neg h]
theorem own_putRow {w : World} {base g cap n size : Nat} {e : TypeId} {xs ys : List Value} (h : w.ownsRow base e size (.slice (some ⟨g, 0, none⟩) n cap) n xs) (hl : ys.length = xs.length) (m : Nat) (os : Array Obj) :
    (Go.Sort.grow (Go.Sort.putRow id (Go.Sort.ahead w m) g 0 ys.toArray) os).ownsRow base e size (.slice (some ⟨g, 0, none⟩) n cap) n ys ∧ w.grownBy (Go.Sort.grow (Go.Sort.putRow id (Go.Sort.ahead w m) g 0 ys.toArray) os) (some g) := by
  obtain ⟨hx, h⟩ := h
  rcases h with ⟨h, _⟩ | ⟨g', cap', cur, he, hb, hg, hn, hc, hs, ht⟩
  · simp at h
  · simp only [Value.slice.injEq, Option.some.injEq, Addr.mk.injEq, and_true, true_and] at he
    obtain ⟨rfl, rfl⟩ := he
    have hlt : g < w.heap.size := (Array.getElem?_eq_some_iff.1 hg).1
    refine ⟨⟨by omega, .inr ⟨g, cap, Go.Sort.putCells id 0 ys.toArray cur, rfl, hb, ?_, hn, hc, ?_, ?_⟩⟩, ⟨rfl, rfl, rfl, ?_, ?_⟩⟩
    · show (Array.modify w.heap g (Go.Sort.onCells (Go.Sort.putCells id 0 ys.toArray)) ++ os)[g]? = _
      rw [Array.getElem?_append_left (by simpa using hlt), Array.getElem?_modify, if_pos rfl, hg]
      rfl
    · unfold Go.Sort.putCells; simp [hs]
    · apply List.ext_getElem
      · rw [List.length_take]
        unfold Go.Sort.putCells
        simp only [Array.length_toList, Array.size_mapIdx]
        have := congrArg List.length ht
        rw [List.length_take, Array.length_toList] at this
        omega
      · intro i h1 h2
        have h3 : i < cur.size := by
          have := congrArg List.length ht
          rw [List.length_take, Array.length_toList] at this
          omega
        rw [List.getElem_take]
        unfold Go.Sort.putCells
        simp only [Array.getElem_toList, Array.getElem_mapIdx, Nat.zero_le, true_and, Nat.zero_add, List.size_toArray, Nat.sub_zero, id]
        rw [if_pos h2, getElem!_pos ys.toArray i (by simpa using h2)]
        simp
    · show w.heap.size ≤ (Array.modify w.heap g (Go.Sort.onCells (Go.Sort.putCells id 0 ys.toArray)) ++ os).size
      simp
    · intro k hk hne
      have hne' : ¬ g = k := fun h => hne (by rw [h])
      show (Array.modify w.heap g (Go.Sort.onCells (Go.Sort.putCells id 0 ys.toArray)) ++ os)[k]? = _
      rw [Array.getElem?_append_left (by simpa using hk), Array.getElem?_modify, if_neg hne']
theorem own_holds {w : World} {base g cap n size : Nat} {e : TypeId} {xs : List Value} (h : w.ownsRow base e size (.slice (some ⟨g, 0, none⟩) n cap) n xs) : Go.Sort.Holds id w g 0 xs.toArray := by
  obtain ⟨hx, h⟩ := h
  rcases h with ⟨h, _⟩ | ⟨g', cap', cur, he, hb, hg, hn, hc, hs, ht⟩
  · simp at h
  · simp only [Value.slice.injEq, Option.some.injEq, Addr.mk.injEq, and_true, true_and] at he
    obtain ⟨rfl, rfl⟩ := he
    intro j hj
    have hj' : j < xs.length := by simpa using hj
    have h3 : j < cur.size := by
      have := congrArg List.length ht
      rw [List.length_take, Array.length_toList] at this
      omega
    refine ⟨?_, by simp [World.frozen?, hg]⟩
    rw [getElem!_pos xs.toArray j hj]
    simp only [World.cell?, hg, Nat.zero_add, Option.isSome_none, Bool.false_eq_true, if_false]
    rw [Array.getElem?_eq_getElem h3]
    subst ht
    simp
theorem holds_enc {α : Type} [Inhabited α] (enc : α → Value) {w : World} {b o : Nat} {d : Array α} (h : Go.Sort.Holds id w b o (d.map enc)) : Go.Sort.Holds enc w b o d := by
  intro j hj
  have := h j (by simpa using hj)
  rw [getElem!_pos (d.map enc) j (by simpa using hj)] at this
  rw [getElem!_pos d j hj]
  simpa using this
/-- A row of whole numbers that is not nil: its block. -/
theorem R_block {d : Kd Int} {e base : Nat} {ok : Nat → Prop} {w : World} {v : Value} {xs : List Int} (h : d.R e w base ok v xs) (hp : 0 < xs.length) : ∃ g cap, v = .slice (some ⟨g, 0, none⟩) xs.length cap ∧ base ≤ g ∧ g < w.heap.size := by
  obtain ⟨g, cap, hv, hb, hlt, _⟩ := Kd.R_form h hp
  exact ⟨g, cap, hv, hb, hlt⟩
theorem R_holds {e base g cap : Nat} {ok : Nat → Prop} {w : World} {xs : List Int} (h : (Kd.int .i64).R e w base ok (.slice (some ⟨g, 0, none⟩) xs.length cap) xs) : Go.Sort.Holds (Value.int .i64) w g 0 xs.toArray := by
  have ho := Kd.own_of_R h
  have h1 := own_holds ho
  refine holds_enc (Value.int .i64) ?_
  simpa [encs] using h1
theorem R_putRow {e base g cap : Nat} {ok : Nat → Prop} {w : World} {xs ys : List Int} (h : (Kd.int .i64).R e w base ok (.slice (some ⟨g, 0, none⟩) xs.length cap) xs) (hl : ys.length = xs.length) (m : Nat) (os : Array Obj) :
    (Kd.int .i64).R e (Go.Sort.grow (Go.Sort.putRow (Value.int .i64) (Go.Sort.ahead w m) g 0 ys.toArray) os) base ok (.slice (some ⟨g, 0, none⟩) ys.length cap) ys ∧ w.grownBy (Go.Sort.grow (Go.Sort.putRow (Value.int .i64) (Go.Sort.ahead w m) g 0 ys.toArray) os) (some g) := by
  have ho := Kd.own_of_R h
  have e1 : (ys.toArray.map (Value.int .i64)) = (ys.map (Value.int .i64)).toArray := by simp
  obtain ⟨h1, h2⟩ := own_putRow (ys := ys.map (Value.int .i64)) ho (by simp [encs, hl]) m os
  rw [putRow_enc, e1]
  refine ⟨Kd.R_of_own ?_ h.1, h2⟩
  rw [hl]
  simpa [encs] using h1

end Go.Proofs.YteihhjieihgojaaGreat.P
