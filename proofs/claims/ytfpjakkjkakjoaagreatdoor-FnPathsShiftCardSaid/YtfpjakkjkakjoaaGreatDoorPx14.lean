/- A part of this seat's proofs: contracts of the translated functions, written by the session's own program (gp.py) out of the kit's print.py and the session's own contracts; no conditions of its own. -/
import Derived.Test.YtfpjakkjkakjoaaGreatDoorPx0
import Derived.Test.YtfpjakkjkakjoaaGreatDoorPx1
import Derived.Test.YtfpjakkjkakjoaaGreatDoorPx2
import Derived.Test.YtfpjakkjkakjoaaGreatDoorPx4
import Derived.Test.YtfpjakkjkakjoaaGreatDoorPx5
import Derived.Test.YtfpjakkjkakjoaaGreatDoorPx6
import Derived.Test.YtfpjakkjkakjoaaGreatDoorPx8
import Derived.Test.YtfpjakkjkakjoaaGreatDoorPx13
namespace Go.Proofs.YtfpjakkjkakjoaaGreatDoor.P
open Go.RowKit Go.Proofs.YtfpjakkjkakjoaaGreatDoorW.PrintWords Go.Proofs.YtfpjakkjkakjoaaGreatDoorW.PrintLast Go.Proofs.YtfpjakkjkakjoaaGreatDoorW.PrintMore
attribute [local go_sem] max2_int min2_int max_two min_two max_three min_three max_four min_four   -- for this text's walks alone
set_option linter.unusedVariables false
set_option linter.unusedSimpArgs false

attribute [local go_sem high] eqA51
/-! ### impl_SpiralWord: function 16 -/
mutual
def impl_SpiralWord.j0 : Nat → Int → Int → Bool → Option (ByteArray × Bool)
 | 0, _, _, _ => none
 | k + 1, x1, x2, x24 => if x24 = true then (some ((⟨#[]⟩ : ByteArray), false)) else (impl_SpiralWord.l0 k x1 x2 (⟨#[]⟩ : ByteArray) 1)
def impl_SpiralWord.l0 : Nat → Int → Int → ByteArray → Int → Option (ByteArray × Bool)
 | 0, _, _, _, _ => none
 | k + 1, x1, x2, x8, x9 => if x9 ≤ x1 then ((strings_Repeat.f (⟨#[70]⟩ : ByteArray) x9).bind fun t331 => ((strings_Repeat.f (⟨#[76]⟩ : ByteArray) x2).bind fun t332 => (if t331.size + t332.size ≤ 9223372036854775807 then (if x8.size + (t331 ++ t332).size ≤ 9223372036854775807 then (impl_SpiralWord.l0 k x1 x2 (x8 ++ (t331 ++ t332)) (wrap64 (x9 + 1))) else (none)) else (none)))) else (if (x8.size : Int) > 120 then (some ((⟨#[]⟩ : ByteArray), false)) else (some (x8, true)))
end
def impl_SpiralWord.f (k : Nat) (a0 : Int) (a1 : Int) (a2 : Int) : Option (ByteArray × Bool) := (impl_isGrid.f a0).bind fun t328 => (if t328 = true then ((impl_within.f a1 1 10).bind fun t329 => (if t329 = true then ((impl_within.f a2 0 (wrap64 (a0 - 1))).bind fun t330 => (impl_SpiralWord.j0 k a1 a2 (!t330))) else (impl_SpiralWord.j0 k a1 a2 true))) else (impl_SpiralWord.j0 k a1 a2 true))
theorem impl_SpiralWord.mono_l : ∀ k, (∀ y0 y1 y2, LeO (impl_SpiralWord.j0 k y0 y1 y2) (impl_SpiralWord.j0 (k + 1) y0 y1 y2)) ∧ (∀ y0 y1 y2 y3, LeO (impl_SpiralWord.l0 k y0 y1 y2 y3) (impl_SpiralWord.l0 (k + 1) y0 y1 y2 y3))
 | 0 => ⟨fun _ _ _ r h => by simp [impl_SpiralWord.j0] at h, fun _ _ _ _ r h => by simp [impl_SpiralWord.l0] at h⟩
 | k + 1 => by
  obtain ⟨ih0, ih1⟩ := impl_SpiralWord.mono_l k
  refine ⟨?_, ?_⟩
  all_goals (intros; first | unfold impl_SpiralWord.j0 | unfold impl_SpiralWord.l0)
  all_goals repeat' with_reducible first | apply ih0 | apply ih1 | exact LeO.refl _ | exact LeO.none _ | refine LeO.ite ?_ ?_ | refine LeO.bind ?_ (fun _ => ?_)
theorem impl_SpiralWord.mono : ∀ a0 a1 a2 k, LeO (impl_SpiralWord.f k a0 a1 a2) (impl_SpiralWord.f (k + 1) a0 a1 a2) := by
 intro a0 a1 a2 k
 obtain ⟨ih0, ih1⟩ := impl_SpiralWord.mono_l k
 unfold impl_SpiralWord.f
 repeat' with_reducible first | apply ih0 | apply ih1 | exact LeO.refl _ | exact LeO.none _ | refine LeO.ite ?_ ?_ | refine LeO.bind ?_ (fun _ => ?_)
set_option maxHeartbeats 8000000 in
set_option maxRecDepth 100000 in
theorem impl_SpiralWord.calls (k : Nat) (a0 : Int) (a1 : Int) (a2 : Int) (r1 : ByteArray) (r2 : Bool) (w : World) (h : impl_SpiralWord.f k a0 a1 a2 = some (r1, r2)) :
  Calls Tryz.prog 16 #[.int .i64 a0, .int .i64 a1, .int .i64 a2] w fun e w' => e = .returned (.tuple #[.string r1, .bool r2]) ∧ Below w.heap.size w w' := by
 have HB := Aside0.mk (Below.refl w.heap.size w)
 have H : ((impl_isGrid.f a0).bind fun t328 => (if t328 = true then ((impl_within.f a1 1 10).bind fun t329 => (if t329 = true then ((impl_within.f a2 0 (wrap64 (a0 - 1))).bind fun t330 => (impl_SpiralWord.j0 k a1 a2 (!t330))) else (impl_SpiralWord.j0 k a1 a2 true))) else (impl_SpiralWord.j0 k a1 a2 true))) = some (r1, r2) := h
 clear h
 have HC4 := Aside0.mk H
 clear H
 go_enter Tryz.func16, Tryz.ntmps16
 go_upto_region 1 with (fail)
 go_cut [24] (fun v24 wc => ∃ (kq : Nat) (x24_3 : Bool), v24 = .bool x24_3 ∧ Aside0 (impl_SpiralWord.j0 kq a1 a2 x24_3 = some (r1, r2)) ∧ Aside0 (kq ≤ k) ∧ Aside0 (Below w.heap.size w wc))
 case first =>
  have H := HC4.out
  clear HC4
  replace H := Option.bind_eq_some_iff.mp H
  obtain ⟨t328, A50, H⟩ := H
  (try dsimp only at H)
  have A5 := Aside0.mk A50
  clear A50
  by_cases c6 : t328 = true
  ·subst c6
   rw [if_pos rfl] at H
   replace H := Option.bind_eq_some_iff.mp H
   obtain ⟨t329, A70, H⟩ := H
   (try dsimp only at H)
   have A7 := Aside0.mk A70
   clear A70
   by_cases c8 : t329 = true
   ·subst c8
    rw [if_pos rfl] at H
    replace H := Option.bind_eq_some_iff.mp H
    obtain ⟨t330, A90, H⟩ := H
    replace H : (impl_SpiralWord.j0 k a1 a2 (!t330)) = some (r1, r2) := H
    have A9 := Aside0.mk A90
    clear A90
    have H' := Aside0.mk H
    clear H
    go_wp2_with (first | ((with_reducible refine gate_callee (f := 39) rfl ?_); refine gl_ (some 11) Tryz.func39 #[.int .i64 a0] ?_; (with_reducible refine (impl_isGrid.calls a0 true _ A5.out).mono ?_); rintro e w' ⟨rfl, ⟨nd, rfl⟩⟩; refine ⟨_, rfl, ?_⟩) | (go_at_call 28; (with_reducible refine (impl_within.calls a1 1 10 true _ A7.out).mono ?_); rintro e w' ⟨rfl, ⟨nd, rfl⟩⟩) | (go_at_call 28; (with_reducible refine (impl_within.calls a2 0 (wrap64 (a0 - 1)) t330 _ A9.out).mono ?_); rintro e w' ⟨rfl, ⟨nd, rfl⟩⟩))
    go_meet
    case rel => exact ⟨_, (!t330), (by first | rfl | (simp; done) | (simp [*]; done)), H', ⟨by first | omega | exact Nat.le_refl _⟩, ⟨bb_⟩⟩
   ·replace c8 := Bool.eq_false_iff.mpr c8
    subst c8
    rw [if_neg (show ¬ (false = true) by decide)] at H
    have H' := Aside0.mk H
    clear H
    go_wp2_with (first | ((with_reducible refine gate_callee (f := 39) rfl ?_); refine gl_ (some 11) Tryz.func39 #[.int .i64 a0] ?_; (with_reducible refine (impl_isGrid.calls a0 true _ A5.out).mono ?_); rintro e w' ⟨rfl, ⟨nd, rfl⟩⟩; refine ⟨_, rfl, ?_⟩) | (go_at_call 28; (with_reducible refine (impl_within.calls a1 1 10 false _ A7.out).mono ?_); rintro e w' ⟨rfl, ⟨nd, rfl⟩⟩))
    go_meet
    case rel => exact ⟨_, (true), (by first | rfl | (simp; done) | (simp [*]; done)), H', ⟨by first | omega | exact Nat.le_refl _⟩, ⟨bb_⟩⟩
  ·replace c6 := Bool.eq_false_iff.mpr c6
   subst c6
   rw [if_neg (show ¬ (false = true) by decide)] at H
   have H' := Aside0.mk H
   clear H
   go_wp2_with (first | ((with_reducible refine gate_callee (f := 39) rfl ?_); refine gl_ (some 11) Tryz.func39 #[.int .i64 a0] ?_; (with_reducible refine (impl_isGrid.calls a0 false _ A5.out).mono ?_); rintro e w' ⟨rfl, ⟨nd, rfl⟩⟩; refine ⟨_, rfl, ?_⟩))
   go_meet
   case rel => exact ⟨_, (true), (by first | rfl | (simp; done) | (simp [*]; done)), H', ⟨by first | omega | exact Nat.le_refl _⟩, ⟨bb_⟩⟩
 case rest =>
  clear HC4
  (try clear c1); (try clear p2); (try clear c3); (try clear c6); (try clear p6); (try clear c8)
  obtain ⟨kq, x24_3, rfl, HA, HJ3, HB⟩ := hcut
  cases kq with
  | zero => exact absurd HA.out (by simp [impl_SpiralWord.j0])
  | succ kj3 =>
   have H := HA.out
   clear HA
   simp only [impl_SpiralWord.j0] at H
   by_cases c10 : x24_3 = true
   ·subst c10
    rw [if_pos rfl] at H
    simp only [Option.some.injEq, Prod.mk.injEq] at H
    obtain ⟨rfl, rfl⟩ := H
    go_wp2
    go_ret2
    exact ⟨by first | rfl | (simp [errW_none, errW_some] <;> rfl) | (simp [*, errW_none, errW_some] <;> rfl), bb_⟩
   replace c10 := Bool.eq_false_iff.mpr c10
   subst c10
   rw [if_neg (show ¬ (false = true) by decide)] at H
   have H' := Aside0.mk H
   clear H
   go_wp2
   go_loopg [8, 9] kj3 (fun kq v8 v9 w' => ∃ (x8_2 : ByteArray) (x9_2 : Int), v8 = .string x8_2 ∧ v9 = .int .i64 x9_2 ∧ Aside0 (impl_SpiralWord.l0 kq a1 a2 x8_2 x9_2 = some (r1, r2)) ∧ Aside0 (kq ≤ kj3) ∧ Aside0 (Below w.heap.size w w'))
   case atStart => exact ⟨((⟨#[]⟩ : ByteArray)), (1), (by first | rfl | (simp; done) | (simp [*]; done)), (by first | rfl | (simp; done) | (simp [*]; done)), H', ⟨Nat.le_refl _⟩, ⟨bb_⟩⟩
   case round =>
    clear H'
    (try clear c1); (try clear p2); (try clear c3); (try clear c6); (try clear p6); (try clear c8); (try clear c10); (try clear p2); (try clear p6)
    obtain ⟨x8_2, x9_2, rfl, rfl, HA, HK2, HB⟩ := hrel
    cases gk with
    | zero => exact absurd HA.out (by simp [impl_SpiralWord.l0])
    | succ k2 =>
     have H := HA.out
     clear HA
     simp only [impl_SpiralWord.l0] at H
     by_cases c11 : x9_2 ≤ a1
     rotate_left
     ·rw [if_neg c11] at H
      have c11b0 : decide (x9_2 ≤ a1) = false := decide_eq_false c11
      clear c11
      by_cases c18 : (x8_2.size : Int) > 120
      ·rw [if_pos c18] at H
       have c18b0 : decide (120 < (x8_2.size : Int)) = true := decide_eq_true c18
       have c18b1 : decide (120 < x8_2.size) = true := decide_eq_true (by omega)
       clear c18
       simp only [Option.some.injEq, Prod.mk.injEq] at H
       obtain ⟨rfl, rfl⟩ := H
       go_wp2
       go_ret2
       exact ⟨by first | rfl | (simp [errW_none, errW_some] <;> rfl) | (simp [*, errW_none, errW_some] <;> rfl), bb_⟩
      rw [if_neg c18] at H
      have c18b0 : decide (120 < (x8_2.size : Int)) = false := decide_eq_false c18
      have c18b1 : decide (120 < x8_2.size) = false := decide_eq_false (by omega)
      clear c18
      simp only [Option.some.injEq, Prod.mk.injEq] at H
      obtain ⟨rfl, rfl⟩ := H
      go_wp2
      go_ret2
      exact ⟨by first | rfl | (simp [errW_none, errW_some] <;> rfl) | (simp [*, errW_none, errW_some] <;> rfl), bb_⟩

     rw [if_pos c11] at H
     have c11b0 : decide (x9_2 ≤ a1) = true := decide_eq_true c11
     clear c11
     replace H := Option.bind_eq_some_iff.mp H
     obtain ⟨t331, A120, H⟩ := H
     (try dsimp only at H)
     have A12 := Aside0.mk A120
     clear A120
     replace H := Option.bind_eq_some_iff.mp H
     obtain ⟨t332, A130, H⟩ := H
     (try dsimp only at H)
     have A13 := Aside0.mk A130
     clear A130
     by_cases c14 : t331.size + t332.size ≤ 9223372036854775807
     rotate_left
     ·rw [if_neg c14] at H
      exact absurd H (by simp)
     rw [if_pos c14] at H
     have c14b0 := eq_true c14
     have c14b1 : decide (t331.size + t332.size ≤ 9223372036854775807) = true := decide_eq_true c14
     try have c14b2 : (9223372036854775807 < t331.size + t332.size) = False := eq_false (Nat.not_lt.2 c14)
     by_cases c15 : x8_2.size + (t331 ++ t332).size ≤ 9223372036854775807
     rotate_left
     ·rw [if_neg c15] at H
      exact absurd H (by simp)
     rw [if_pos c15] at H
     have c15b0 := eq_true c15
     have c15b1 : decide (x8_2.size + (t331 ++ t332).size ≤ 9223372036854775807) = true := decide_eq_true c15
     try have c15b2 : (9223372036854775807 < x8_2.size + (t331 ++ t332).size) = False := eq_false (Nat.not_lt.2 c15)
     try (have c15b2s := c15b2; simp only [ByteArray.size_append, show ∀ b : UInt8, (⟨#[b]⟩ : ByteArray).size = 1 from fun _ => rfl] at c15b2s)
     have H' := Aside0.mk H
     clear H
     go_wp2_with (first | ((with_reducible refine gate_callee (f := 40) rfl ?_); refine gl_ (some 32) Tryz.func40 #[.string (⟨#[70]⟩ : ByteArray), .int .i64 x9_2] ?_; (with_reducible refine (strings_Repeat.calls (⟨#[70]⟩ : ByteArray) x9_2 t331 _ A12.out).mono ?_); rintro e w16 ⟨rfl, hb⟩; refine ⟨_, rfl, ?_⟩; have n0_ := Aside0.mk (bs_ hb); clear HB; have HB := n0_; clear n0_; (try clear hb)) | ((with_reducible refine gate_callee (f := 40) rfl ?_); refine gl_ (some 34) Tryz.func40 #[.string (⟨#[76]⟩ : ByteArray), .int .i64 a2] ?_; (with_reducible refine (strings_Repeat.calls (⟨#[76]⟩ : ByteArray) a2 t332 _ A13.out).mono ?_); rintro e w17 ⟨rfl, hb⟩; refine ⟨_, rfl, ?_⟩; have n0_ := Aside0.mk (bs_ hb); clear HB; have HB := n0_; clear n0_; (try clear hb)))
     go_roundg k2
     case measure => have := HJ3.out; have := HK2.out; omega
     case rel => exact ⟨(x8_2 ++ (t331 ++ t332)), (wrap64 (x9_2 + 1)), (by first | rfl | (simp; done) | (simp [*]; done)), (by first | rfl | (simp; done) | (simp [*]; done)), H', ⟨by have := HJ3.out; have := HK2.out; omega⟩, ⟨bb_⟩⟩
/-! ### spec_paSpiral: function 42 -/
def spec_paSpiral.l0 : Nat → Int → Int → ByteArray → Int → Option (ByteArray × Bool)
 | 0, _, _, _, _ => none
 | k + 1, x0, x1, x6, x7 => if x7 ≤ x0 then ((spec_paTimes.f k (⟨#[70]⟩ : ByteArray) x7).bind fun t333 => ((spec_paTimes.f k (⟨#[76]⟩ : ByteArray) x1).bind fun t334 => (if t333.size + t334.size ≤ 9223372036854775807 then (if x6.size + (t333 ++ t334).size ≤ 9223372036854775807 then (spec_paSpiral.l0 k x0 x1 (x6 ++ (t333 ++ t334)) (wrap64 (x7 + 1))) else (none)) else (none)))) else (some (x6, decide ((x6.size : Int) ≤ 120)))
def spec_paSpiral.f (k : Nat) (a0 : Int) (a1 : Int) : Option (ByteArray × Bool) := spec_paSpiral.l0 k a0 a1 (⟨#[]⟩ : ByteArray) 1
theorem spec_paSpiral.mono_l : ∀ k, (∀ y0 y1 y2 y3, LeO (spec_paSpiral.l0 k y0 y1 y2 y3) (spec_paSpiral.l0 (k + 1) y0 y1 y2 y3))
 | 0 => fun _ _ _ _ r h => by simp [spec_paSpiral.l0] at h
 | k + 1 => by
  have ih0 := spec_paSpiral.mono_l k
  ·intro y0 y1 y2 y3
   unfold spec_paSpiral.l0
   repeat' with_reducible first | apply ih0 | apply spec_paTimes.mono | exact LeO.refl _ | exact LeO.none _ | refine LeO.ite ?_ ?_ | refine LeO.bind ?_ (fun _ => ?_)
theorem spec_paSpiral.mono : ∀ a0 a1 k, LeO (spec_paSpiral.f k a0 a1) (spec_paSpiral.f (k + 1) a0 a1) := by
 intro a0 a1 k
 have ih0 := spec_paSpiral.mono_l k
 unfold spec_paSpiral.f
 repeat' with_reducible first | apply ih0 | apply spec_paTimes.mono | exact LeO.refl _ | exact LeO.none _ | refine LeO.ite ?_ ?_ | refine LeO.bind ?_ (fun _ => ?_)
set_option maxHeartbeats 8000000 in
set_option maxRecDepth 100000 in
theorem spec_paSpiral.calls (k : Nat) (a0 : Int) (a1 : Int) (r1 : ByteArray) (r2 : Bool) (w : World) (h : spec_paSpiral.f k a0 a1 = some (r1, r2)) :
  Calls Tryz.prog 42 #[.int .i64 a0, .int .i64 a1] w fun e w' => e = .returned (.tuple #[.string r1, .bool r2]) ∧ Drawn0 w w' := by
 have H : (spec_paSpiral.l0 k a0 a1 (⟨#[]⟩ : ByteArray) 1) = some (r1, r2) := h
 clear h
 have H' := Aside0.mk H
 clear H
 go_enter Tryz.func42, Tryz.ntmps42
 go_wp2
 go_loopg [6, 7] k (fun kq v6 v7 w' => ∃ (x6_1 : ByteArray) (x7_1 : Int), v6 = .string x6_1 ∧ v7 = .int .i64 x7_1 ∧ Aside0 (spec_paSpiral.l0 kq a0 a1 x6_1 x7_1 = some (r1, r2)) ∧ Aside0 (kq ≤ k) ∧ Drawn0 w w')
 case atStart => exact ⟨((⟨#[]⟩ : ByteArray)), (1), (by first | rfl | (simp; done) | (simp [*]; done)), (by first | rfl | (simp; done) | (simp [*]; done)), H', ⟨Nat.le_refl _⟩, by repeat (first | exact Drawn0.refl _ | apply Drawn0.step)⟩
 case round =>
  clear H'
  try clear p2
  obtain ⟨x6_1, x7_1, rfl, rfl, HA, HK1, ⟨m1, rfl⟩⟩ := hrel
  cases gk with
  | zero => exact absurd HA.out (by simp [spec_paSpiral.l0])
  | succ k1 =>
   have H := HA.out
   clear HA
   simp only [spec_paSpiral.l0] at H
   by_cases c3 : x7_1 ≤ a0
   rotate_left
   ·rw [if_neg c3] at H
    have c3b0 : decide (x7_1 ≤ a0) = false := decide_eq_false c3
    clear c3
    simp only [Option.some.injEq, Prod.mk.injEq] at H
    obtain ⟨rfl, rfl⟩ := H
    go_wp2
    go_ret2
    exact ⟨by first | rfl | (simp; done) | (simp [*]; done), by repeat (first | exact Drawn0.refl _ | apply Drawn0.step)⟩

   rw [if_pos c3] at H
   have c3b0 : decide (x7_1 ≤ a0) = true := decide_eq_true c3
   clear c3
   replace H := Option.bind_eq_some_iff.mp H
   obtain ⟨t333, A40, H⟩ := H
   (try dsimp only at H)
   have A4 := Aside0.mk A40
   clear A40
   replace H := Option.bind_eq_some_iff.mp H
   obtain ⟨t334, A50, H⟩ := H
   (try dsimp only at H)
   have A5 := Aside0.mk A50
   clear A50
   by_cases c6 : t333.size + t334.size ≤ 9223372036854775807
   rotate_left
   ·rw [if_neg c6] at H
    exact absurd H (by simp)
   rw [if_pos c6] at H
   have c6b0 := eq_true c6
   have c6b1 : decide (t333.size + t334.size ≤ 9223372036854775807) = true := decide_eq_true c6
   try have c6b2 : (9223372036854775807 < t333.size + t334.size) = False := eq_false (Nat.not_lt.2 c6)
   by_cases c7 : x6_1.size + (t333 ++ t334).size ≤ 9223372036854775807
   rotate_left
   ·rw [if_neg c7] at H
    exact absurd H (by simp)
   rw [if_pos c7] at H
   have c7b0 := eq_true c7
   have c7b1 : decide (x6_1.size + (t333 ++ t334).size ≤ 9223372036854775807) = true := decide_eq_true c7
   try have c7b2 : (9223372036854775807 < x6_1.size + (t333 ++ t334).size) = False := eq_false (Nat.not_lt.2 c7)
   try (have c7b2s := c7b2; simp only [ByteArray.size_append, show ∀ b : UInt8, (⟨#[b]⟩ : ByteArray).size = 1 from fun _ => rfl] at c7b2s)
   have H' := Aside0.mk H
   clear H
   go_wp2_with (first | ((with_reducible refine gate_callee (f := 48) rfl ?_); refine gl_ (some 15) Tryz.func48 #[.string (⟨#[70]⟩ : ByteArray), .int .i64 x7_1] ?_; (with_reducible refine (spec_paTimes.calls k1 (⟨#[70]⟩ : ByteArray) x7_1 t333 _ A4.out).mono ?_); rintro e w' ⟨rfl, ⟨nd, rfl⟩⟩; refine ⟨_, rfl, ?_⟩) | ((with_reducible refine gate_callee (f := 48) rfl ?_); refine gl_ (some 17) Tryz.func48 #[.string (⟨#[76]⟩ : ByteArray), .int .i64 a1] ?_; (with_reducible refine (spec_paTimes.calls k1 (⟨#[76]⟩ : ByteArray) a1 t334 _ A5.out).mono ?_); rintro e w' ⟨rfl, ⟨nd, rfl⟩⟩; refine ⟨_, rfl, ?_⟩))
   go_roundg k1
   case measure => have := HK1.out; omega
   case rel => exact ⟨(x6_1 ++ (t333 ++ t334)), (wrap64 (x7_1 + 1)), (by first | rfl | (simp; done) | (simp [*]; done)), (by first | rfl | (simp; done) | (simp [*]; done)), H', ⟨by have := HK1.out; omega⟩, by repeat (first | exact Drawn0.refl _ | apply Drawn0.step)⟩
/-! ### spec_SpiralWord: function 17 -/
def spec_SpiralWord.j0 : Nat → Int → Int → Bool → Option (ByteArray × Bool)
 | 0, _, _, _ => none
 | k + 1, x1, x2, x24 => if x24 = true then (some ((⟨#[]⟩ : ByteArray), false)) else ((spec_paSpiral.f k x1 x2).bind fun bt338 => (if bt338.2 = true then (some (bt338.1, true)) else (some ((⟨#[]⟩ : ByteArray), false))))
def spec_SpiralWord.f (k : Nat) (a0 : Int) (a1 : Int) (a2 : Int) : Option (ByteArray × Bool) := (spec_paGrid.f a0).bind fun t335 => (if t335 = true then ((spec_l1In.f a1 1 10).bind fun t336 => (if t336 = true then ((spec_l1In.f a2 0 (wrap64 (a0 - 1))).bind fun t337 => (spec_SpiralWord.j0 k a1 a2 (!t337))) else (spec_SpiralWord.j0 k a1 a2 true))) else (spec_SpiralWord.j0 k a1 a2 true))
theorem spec_SpiralWord.mono_l : ∀ k, (∀ y0 y1 y2, LeO (spec_SpiralWord.j0 k y0 y1 y2) (spec_SpiralWord.j0 (k + 1) y0 y1 y2))
 | 0 => fun _ _ _ r h => by simp [spec_SpiralWord.j0] at h
 | k + 1 => by
  have ih0 := spec_SpiralWord.mono_l k
  ·intro y0 y1 y2
   unfold spec_SpiralWord.j0
   repeat' with_reducible first | apply ih0 | apply spec_paSpiral.mono | exact LeO.refl _ | exact LeO.none _ | refine LeO.ite ?_ ?_ | refine LeO.bind ?_ (fun _ => ?_)
theorem spec_SpiralWord.mono : ∀ a0 a1 a2 k, LeO (spec_SpiralWord.f k a0 a1 a2) (spec_SpiralWord.f (k + 1) a0 a1 a2) := by
 intro a0 a1 a2 k
 have ih0 := spec_SpiralWord.mono_l k
 unfold spec_SpiralWord.f
 repeat' with_reducible first | apply ih0 | apply spec_paSpiral.mono | exact LeO.refl _ | exact LeO.none _ | refine LeO.ite ?_ ?_ | refine LeO.bind ?_ (fun _ => ?_)
set_option maxHeartbeats 8000000 in
set_option maxRecDepth 100000 in
theorem spec_SpiralWord.calls (k : Nat) (a0 : Int) (a1 : Int) (a2 : Int) (r1 : ByteArray) (r2 : Bool) (w : World) (h : spec_SpiralWord.f k a0 a1 a2 = some (r1, r2)) :
  Calls Tryz.prog 17 #[.int .i64 a0, .int .i64 a1, .int .i64 a2] w fun e w' => e = .returned (.tuple #[.string r1, .bool r2]) ∧ Drawn0 w w' := by
 have H : ((spec_paGrid.f a0).bind fun t335 => (if t335 = true then ((spec_l1In.f a1 1 10).bind fun t336 => (if t336 = true then ((spec_l1In.f a2 0 (wrap64 (a0 - 1))).bind fun t337 => (spec_SpiralWord.j0 k a1 a2 (!t337))) else (spec_SpiralWord.j0 k a1 a2 true))) else (spec_SpiralWord.j0 k a1 a2 true))) = some (r1, r2) := h
 clear h
 have HC4 := Aside0.mk H
 clear H
 go_enter Tryz.func17, Tryz.ntmps17
 go_upto_region 1 with (fail)
 go_cut [24] (fun v24 wc => ∃ (kq : Nat) (x24_3 : Bool), v24 = .bool x24_3 ∧ Aside0 (spec_SpiralWord.j0 kq a1 a2 x24_3 = some (r1, r2)) ∧ Aside0 (kq ≤ k) ∧ Drawn0 w wc)
 case first =>
  have H := HC4.out
  clear HC4
  replace H := Option.bind_eq_some_iff.mp H
  obtain ⟨t335, A50, H⟩ := H
  (try dsimp only at H)
  have A5 := Aside0.mk A50
  clear A50
  by_cases c6 : t335 = true
  ·subst c6
   rw [if_pos rfl] at H
   replace H := Option.bind_eq_some_iff.mp H
   obtain ⟨t336, A70, H⟩ := H
   (try dsimp only at H)
   have A7 := Aside0.mk A70
   clear A70
   by_cases c8 : t336 = true
   ·subst c8
    rw [if_pos rfl] at H
    replace H := Option.bind_eq_some_iff.mp H
    obtain ⟨t337, A90, H⟩ := H
    replace H : (spec_SpiralWord.j0 k a1 a2 (!t337)) = some (r1, r2) := H
    have A9 := Aside0.mk A90
    clear A90
    have H' := Aside0.mk H
    clear H
    go_wp2_with (first | ((with_reducible refine gate_callee (f := 41) rfl ?_); refine gl_ (some 11) Tryz.func41 #[.int .i64 a0] ?_; (with_reducible refine (spec_paGrid.calls a0 true _ A5.out).mono ?_); rintro e w' ⟨rfl, ⟨nd, rfl⟩⟩; refine ⟨_, rfl, ?_⟩) | (go_at_call 30; (with_reducible refine (spec_l1In.calls a1 1 10 true _ A7.out).mono ?_); rintro e w' ⟨rfl, ⟨nd, rfl⟩⟩) | (go_at_call 30; (with_reducible refine (spec_l1In.calls a2 0 (wrap64 (a0 - 1)) t337 _ A9.out).mono ?_); rintro e w' ⟨rfl, ⟨nd, rfl⟩⟩))
    go_meet
    case rel => exact ⟨_, (!t337), (by first | rfl | (simp; done) | (simp [*]; done)), H', ⟨by first | omega | exact Nat.le_refl _⟩, by repeat (first | exact Drawn0.refl _ | apply Drawn0.step)⟩
   ·replace c8 := Bool.eq_false_iff.mpr c8
    subst c8
    rw [if_neg (show ¬ (false = true) by decide)] at H
    have H' := Aside0.mk H
    clear H
    go_wp2_with (first | ((with_reducible refine gate_callee (f := 41) rfl ?_); refine gl_ (some 11) Tryz.func41 #[.int .i64 a0] ?_; (with_reducible refine (spec_paGrid.calls a0 true _ A5.out).mono ?_); rintro e w' ⟨rfl, ⟨nd, rfl⟩⟩; refine ⟨_, rfl, ?_⟩) | (go_at_call 30; (with_reducible refine (spec_l1In.calls a1 1 10 false _ A7.out).mono ?_); rintro e w' ⟨rfl, ⟨nd, rfl⟩⟩))
    go_meet
    case rel => exact ⟨_, (true), (by first | rfl | (simp; done) | (simp [*]; done)), H', ⟨by first | omega | exact Nat.le_refl _⟩, by repeat (first | exact Drawn0.refl _ | apply Drawn0.step)⟩
  ·replace c6 := Bool.eq_false_iff.mpr c6
   subst c6
   rw [if_neg (show ¬ (false = true) by decide)] at H
   have H' := Aside0.mk H
   clear H
   go_wp2_with (first | ((with_reducible refine gate_callee (f := 41) rfl ?_); refine gl_ (some 11) Tryz.func41 #[.int .i64 a0] ?_; (with_reducible refine (spec_paGrid.calls a0 false _ A5.out).mono ?_); rintro e w' ⟨rfl, ⟨nd, rfl⟩⟩; refine ⟨_, rfl, ?_⟩))
   go_meet
   case rel => exact ⟨_, (true), (by first | rfl | (simp; done) | (simp [*]; done)), H', ⟨by first | omega | exact Nat.le_refl _⟩, by repeat (first | exact Drawn0.refl _ | apply Drawn0.step)⟩
 case rest =>
  clear HC4
  (try clear c1); (try clear p2); (try clear c4); (try clear c6); (try clear p6); (try clear c8)
  obtain ⟨kq, x24_3, rfl, HA, HJ3, ⟨mc3, rfl⟩⟩ := hcut
  cases kq with
  | zero => exact absurd HA.out (by simp [spec_SpiralWord.j0])
  | succ kj3 =>
   have H := HA.out
   clear HA
   simp only [spec_SpiralWord.j0] at H
   by_cases c10 : x24_3 = true
   ·subst c10
    rw [if_pos rfl] at H
    simp only [Option.some.injEq, Prod.mk.injEq] at H
    obtain ⟨rfl, rfl⟩ := H
    go_wp2
    go_ret2
    exact ⟨by first | rfl | (simp; done) | (simp [*]; done), by repeat (first | exact Drawn0.refl _ | apply Drawn0.step)⟩
   replace c10 := Bool.eq_false_iff.mpr c10
   subst c10
   rw [if_neg (show ¬ (false = true) by decide)] at H
   replace H := Option.bind_eq_some_iff.mp H
   obtain ⟨⟨t338, t339⟩, A110, H⟩ := H
   (try dsimp only at H)
   have A11 := Aside0.mk A110
   clear A110
   by_cases c12 : t339 = true
   ·subst c12
    rw [if_pos rfl] at H
    simp only [Option.some.injEq, Prod.mk.injEq] at H
    obtain ⟨rfl, rfl⟩ := H
    go_wp2_with (first | ((with_reducible refine gate_callee (f := 42) rfl ?_); refine gl_ (some 28) Tryz.func42 #[.int .i64 a1, .int .i64 a2] ?_; (with_reducible refine (spec_paSpiral.calls kj3 a1 a2 t338 true _ A11.out).mono ?_); rintro e w' ⟨rfl, ⟨nd, rfl⟩⟩; refine ⟨_, rfl, ?_⟩))
    go_ret2
    exact ⟨by first | rfl | (simp; done) | (simp [*]; done), by repeat (first | exact Drawn0.refl _ | apply Drawn0.step)⟩
   replace c12 := Bool.eq_false_iff.mpr c12
   subst c12
   rw [if_neg (show ¬ (false = true) by decide)] at H
   simp only [Option.some.injEq, Prod.mk.injEq] at H
   obtain ⟨rfl, rfl⟩ := H
   go_wp2_with (first | ((with_reducible refine gate_callee (f := 42) rfl ?_); refine gl_ (some 28) Tryz.func42 #[.int .i64 a1, .int .i64 a2] ?_; (with_reducible refine (spec_paSpiral.calls kj3 a1 a2 t338 false _ A11.out).mono ?_); rintro e w' ⟨rfl, ⟨nd, rfl⟩⟩; refine ⟨_, rfl, ?_⟩))
   go_ret2
   exact ⟨by first | rfl | (simp; done) | (simp [*]; done), by repeat (first | exact Drawn0.refl _ | apply Drawn0.step)⟩

/-! ### impl_RepeatsToClose: function 25 -/
def impl_RepeatsToClose.l0 : Nat → Int → ByteArray → Int → Int → Int → Int → Option (Int × Bool)
 | 0, _, _, _, _, _, _ => none
 | k + 1, x0, x1, x7, x342000, x342001, x342002 => if x7 ≤ x0 then ((impl_walk.f k x0 x1 x342000 x342001 x342002).bind fun bt342 => (if (bt342.2.1 == 0 && (bt342.2.2.1 == 0 && (bt342.2.2.2 == 0))) = true then (some (x7, true)) else (impl_RepeatsToClose.l0 k x0 x1 (wrap64 (x7 + 1)) bt342.2.1 bt342.2.2.1 bt342.2.2.2))) else (some (0, false))
def impl_RepeatsToClose.f (k : Nat) (a0 : Int) (a1 : ByteArray) : Option (Int × Bool) := (impl_isWord.f a0 a1).bind fun t340 => (if t340 = true then (impl_RepeatsToClose.l0 k a0 a1 1 0 0 0) else (some (0, false)))
theorem impl_RepeatsToClose.mono_l : ∀ k, (∀ y0 y1 y2 y3 y4 y5, LeO (impl_RepeatsToClose.l0 k y0 y1 y2 y3 y4 y5) (impl_RepeatsToClose.l0 (k + 1) y0 y1 y2 y3 y4 y5))
 | 0 => fun _ _ _ _ _ _ r h => by simp [impl_RepeatsToClose.l0] at h
 | k + 1 => by
  have ih0 := impl_RepeatsToClose.mono_l k
  ·intro y0 y1 y2 y3 y4 y5
   unfold impl_RepeatsToClose.l0
   repeat' with_reducible first | apply ih0 | apply impl_walk.mono | exact LeO.refl _ | exact LeO.none _ | refine LeO.ite ?_ ?_ | refine LeO.bind ?_ (fun _ => ?_)
theorem impl_RepeatsToClose.mono : ∀ a0 a1 k, LeO (impl_RepeatsToClose.f k a0 a1) (impl_RepeatsToClose.f (k + 1) a0 a1) := by
 intro a0 a1 k
 have ih0 := impl_RepeatsToClose.mono_l k
 unfold impl_RepeatsToClose.f
 repeat' with_reducible first | apply ih0 | apply impl_walk.mono | exact LeO.refl _ | exact LeO.none _ | refine LeO.ite ?_ ?_ | refine LeO.bind ?_ (fun _ => ?_)
set_option maxHeartbeats 8000000 in
set_option maxRecDepth 100000 in
theorem impl_RepeatsToClose.calls (k : Nat) (a0 : Int) (a1 : ByteArray) (r1 : Int) (r2 : Bool) (w : World) (h : impl_RepeatsToClose.f k a0 a1 = some (r1, r2)) :
  Calls Tryz.prog 25 #[.int .i64 a0, .string a1] w fun e w' => e = .returned (.tuple #[.int .i64 r1, .bool r2]) ∧ Below w.heap.size w w' := by
 have hu51 := Tryz.underlying51
 have HB := Aside0.mk (Below.refl w.heap.size w)
 have H : ((impl_isWord.f a0 a1).bind fun t340 => (if t340 = true then (impl_RepeatsToClose.l0 k a0 a1 1 0 0 0) else (some (0, false)))) = some (r1, r2) := h
 clear h
 replace H := Option.bind_eq_some_iff.mp H
 obtain ⟨t340, A30, H⟩ := H
 (try dsimp only at H)
 have A3 := Aside0.mk A30
 clear A30
 by_cases c4 : t340 = true
 rotate_left
 ·replace c4 := Bool.eq_false_iff.mpr c4
  subst c4
  rw [if_neg (show ¬ (false = true) by decide)] at H
  simp only [Option.some.injEq, Prod.mk.injEq] at H
  obtain ⟨rfl, rfl⟩ := H
  go_enter Tryz.func25, Tryz.ntmps25
  go_wp2_with (first | ((with_reducible refine gate_callee (f := 27) rfl ?_); refine gl_ (some 10) Tryz.func27 #[.int .i64 a0, .string a1] ?_; (with_reducible refine (impl_isWord.calls a0 a1 false _ A3.out).mono ?_); rintro e w17 ⟨rfl, hb⟩; refine ⟨_, rfl, ?_⟩; have n0_ := Aside0.mk (bs_ hb); clear HB; have HB := n0_; clear n0_; (try clear hb)))
  go_ret2
  exact ⟨by first | rfl | (simp [errW_none, errW_some] <;> rfl) | (simp [*, errW_none, errW_some] <;> rfl), bb_⟩

 subst c4
 rw [if_pos rfl] at H
 have H' := Aside0.mk H
 clear H
 go_enter Tryz.func25, Tryz.ntmps25
 go_wp2_with (first | ((with_reducible refine gate_callee (f := 27) rfl ?_); refine gl_ (some 10) Tryz.func27 #[.int .i64 a0, .string a1] ?_; (with_reducible refine (impl_isWord.calls a0 a1 true _ A3.out).mono ?_); rintro e w5 ⟨rfl, hb⟩; refine ⟨_, rfl, ?_⟩; have n0_ := Aside0.mk (bs_ hb); clear HB; have HB := n0_; clear n0_; (try clear hb)) | ((with_reducible refine gate_dst (N := 6) rfl ?_); refine box_event ?hg (N := 6) ?hd (cs := #[.int .i64 0, .int .i64 0, .int .i64 0]) (t := 51) ?hr ?_; (case hd => rfl); (case hg => rfl); (case hr => first | (go_simp; done) | (go_simp; rfl)); intro gb341 hg w6 hbox hb; have n0_ := Aside0.mk (bs_ hb); have n1_ := Aside0.mk (hbox); have n2_ := Aside0.mk ((by rw [hg]; exact bz_ : w.heap.size ≤ gb341)); have n3_ := Aside0.mk ((by rw [hg]; exact bz_ : w.heap.size ≤ gb341)); clear HB; have HB := n0_; have BK341 := n1_; have GW341 := n2_; have GE341 := n3_; clear n0_ n1_ n2_ n3_; clear hb hbox hg; have hcz7_0 : w6.cell? ⟨gb341, 0, none⟩ = some (.int .i64 0) := (blk_cell BK341.out 0).trans rfl; have hcz7_1 : w6.cell? ⟨gb341, 1, none⟩ = some (.int .i64 0) := (blk_cell BK341.out 1).trans rfl; have hcz7_2 : w6.cell? ⟨gb341, 2, none⟩ = some (.int .i64 0) := (blk_cell BK341.out 2).trans rfl; have hfz7_0 := blk_frozen BK341.out 0; have hfz7_1 := blk_frozen BK341.out 1; have hfz7_2 := blk_frozen BK341.out 2))
 go_loopg [7] k (fun kq v7 w' => ∃ (x7_1 : Int) (x342000_1 : Int) (x342001_1 : Int) (x342002_1 : Int), v7 = .int .i64 x7_1 ∧ Aside0 (impl_RepeatsToClose.l0 kq a0 a1 x7_1 x342000_1 x342001_1 x342002_1 = some (r1, r2)) ∧ Aside0 (kq ≤ k) ∧ Aside0 (w'.heap[gb341]? = some (.cells #[.int .i64 x342000_1, .int .i64 x342001_1, .int .i64 x342002_1] 51 (0, 0))) ∧ Aside0 (Below w.heap.size w w'))
 case atStart => exact ⟨(1), (0), (0), (0), (by first | rfl | (simp; done) | (simp [*]; done)), H', ⟨Nat.le_refl _⟩, ⟨by (with_reducible repeat (first | refine blk_drewN ?_ _ | refine blk_drew ?_ | refine blk_alloc ?_ _)); refine blk_put (cs := #[.int .i64 0, .int .i64 0, .int .i64 0]) ?_ 2 _ rfl; (with_reducible repeat (first | refine blk_drewN ?_ _ | refine blk_drew ?_ | refine blk_alloc ?_ _)); refine blk_put (cs := #[.int .i64 0, .int .i64 0, .int .i64 0]) ?_ 1 _ rfl; (with_reducible repeat (first | refine blk_drewN ?_ _ | refine blk_drew ?_ | refine blk_alloc ?_ _)); refine blk_put (cs := #[.int .i64 0, .int .i64 0, .int .i64 0]) ?_ 0 _ rfl; (with_reducible repeat (first | refine blk_drewN ?_ _ | refine blk_drew ?_ | refine blk_alloc ?_ _)); exact BK341.out⟩, ⟨by repeat (first | (with_reducible first | apply below_alloc | apply pw_below_drewN | apply below_drew1 | refine below_set ?_ GE341.out) | exact HB.out)⟩⟩
 case round =>
  clear H'
  (try clear c2); (try clear p2); (try clear c4); (try clear hcz7_0); (try clear hcz7_1); (try clear hcz7_2); (try clear hfz7_0); (try clear hfz7_1); (try clear hfz7_2)
  obtain ⟨x7_1, x342000_1, x342001_1, x342002_1, rfl, HA, HK1, BK341, HB⟩ := hrel
  cases gk with
  | zero => exact absurd HA.out (by simp [impl_RepeatsToClose.l0])
  | succ k1 =>
   have H := HA.out
   clear HA
   simp only [impl_RepeatsToClose.l0] at H
   by_cases c8 : x7_1 ≤ a0
   rotate_left
   ·rw [if_neg c8] at H
    have c8b0 : decide (x7_1 ≤ a0) = false := decide_eq_false c8
    clear c8
    simp only [Option.some.injEq, Prod.mk.injEq] at H
    obtain ⟨rfl, rfl⟩ := H
    go_wp2
    go_ret2
    exact ⟨by first | rfl | (simp [errW_none, errW_some] <;> rfl) | (simp [*, errW_none, errW_some] <;> rfl), by repeat (first | (with_reducible first | apply below_alloc | apply pw_below_drewN | apply below_drew1 | refine below_set ?_ GE341.out) | exact HB.out)⟩
   rw [if_pos c8] at H
   have c8b0 : decide (x7_1 ≤ a0) = true := decide_eq_true c8
   clear c8
   replace H := Option.bind_eq_some_iff.mp H
   obtain ⟨⟨t342, t345, t346, t347⟩, A90, H⟩ := H
   (try dsimp only at H)
   have A9 := Aside0.mk A90
   clear A90
   by_cases c10 : (t345 == 0 && (t346 == 0 && (t347 == 0))) = true
   ·rw [if_pos c10] at H
    have c10b0 : (t345 == 0 && (t346 == 0 && (t347 == 0))) = true := c10
    (try (have c10b1 : decide (t345 = 0 && (t346 == 0 && (t347 == 0))) = true := by simpa using c10))
    (try (have c10b2 : (t345 == 0 && (t346 == 0 && (t347 == 0))) = true := by simpa using c10))
    clear c10
    simp only [Option.some.injEq, Prod.mk.injEq] at H
    obtain ⟨rfl, rfl⟩ := H
    have hcz11_0 : wr.cell? ⟨gb341, 0, none⟩ = some (.int .i64 x342000_1) := (blk_cell BK341.out 0).trans rfl
    have hcz11_1 : wr.cell? ⟨gb341, 1, none⟩ = some (.int .i64 x342001_1) := (blk_cell BK341.out 1).trans rfl
    have hcz11_2 : wr.cell? ⟨gb341, 2, none⟩ = some (.int .i64 x342002_1) := (blk_cell BK341.out 2).trans rfl
    have hfz11_0 := blk_frozen BK341.out 0
    have hfz11_1 := blk_frozen BK341.out 1
    have hfz11_2 := blk_frozen BK341.out 2
    go_wp2_with (first | ((with_reducible refine gate_callee (f := 32) rfl ?_); refine gl_ (some 22) Tryz.func32 #[.int .i64 a0, .string a1, .agg #[.int .i64 x342000_1, .int .i64 x342001_1, .int .i64 x342002_1]] ?_; (with_reducible refine (impl_walk.calls k1 a0 a1 x342000_1 x342001_1 x342002_1 t342 t345 t346 t347 _ A9.out).mono ?_); rintro e w12 ⟨v343, rfl, ho0, hb⟩; refine ⟨_, rfl, ?_⟩; have n0_ := Aside0.mk (Kd.N_lower (Kd.N_mono (ok' := fun k_ => k_ ≠ gb341) ho0 (fun k_ hk_ => (Kd.freshB (g := gb341) (o := .cells #[.int .i64 x342000_1, .int .i64 x342001_1, .int .i64 x342002_1] 51 (0, 0)) (by (with_reducible repeat (first | refine blk_drewN ?_ _ | refine blk_drew ?_ | refine blk_alloc ?_ _)); exact BK341.out) k_ hk_))) (below_size (by repeat (first | (with_reducible first | apply below_alloc | apply pw_below_drewN | apply below_drew1 | refine below_set ?_ GE341.out) | exact HB.out)))); have n1_ := Aside0.mk (blk_below (g := gb341) (o := .cells #[.int .i64 x342000_1, .int .i64 x342001_1, .int .i64 x342002_1] 51 (0, 0)) (by (with_reducible repeat (first | refine blk_drewN ?_ _ | refine blk_drew ?_ | refine blk_alloc ?_ _)); exact BK341.out) hb); have n2_ := Aside0.mk (below_step (by repeat (first | (with_reducible first | apply below_alloc | apply pw_below_drewN | apply below_drew1 | refine below_set ?_ GE341.out) | exact HB.out)) hb); clear BK341; clear HB; have HO344 := n0_; have BK341 := n1_; have HB := n2_; clear n0_ n1_ n2_; (try clear hb); (try clear ho0); have hcz13_0 : w12.cell? ⟨gb341, 0, none⟩ = some (.int .i64 x342000_1) := (blk_cell BK341.out 0).trans rfl; have hcz13_1 : w12.cell? ⟨gb341, 1, none⟩ = some (.int .i64 x342001_1) := (blk_cell BK341.out 1).trans rfl; have hcz13_2 : w12.cell? ⟨gb341, 2, none⟩ = some (.int .i64 x342002_1) := (blk_cell BK341.out 2).trans rfl; have hfz13_0 := blk_frozen BK341.out 0; have hfz13_1 := blk_frozen BK341.out 1; have hfz13_2 := blk_frozen BK341.out 2))
    go_ret2
    exact ⟨by first | rfl | (simp [errW_none, errW_some] <;> rfl) | (simp [*, errW_none, errW_some] <;> rfl), by repeat (first | (with_reducible first | apply below_alloc | apply pw_below_drewN | apply below_drew1 | refine below_set ?_ GE341.out) | exact HB.out)⟩
   rw [if_neg c10] at H
   have c10b0 : (t345 == 0 && (t346 == 0 && (t347 == 0))) = false := by simpa using c10
   (try (have c10b1 : decide (t345 = 0 && (t346 == 0 && (t347 == 0))) = false := by simpa using c10))
   (try (have c10b2 : (t345 == 0 && (t346 == 0 && (t347 == 0))) = false := by simpa using c10))
   (try (have c10b3 : ¬ (t345 = 0 && (t346 == 0 && (t347 == 0))) := by simpa using c10))
   clear c10
   have H' := Aside0.mk H
   clear H
   have hcz14_0 : wr.cell? ⟨gb341, 0, none⟩ = some (.int .i64 x342000_1) := (blk_cell BK341.out 0).trans rfl
   have hcz14_1 : wr.cell? ⟨gb341, 1, none⟩ = some (.int .i64 x342001_1) := (blk_cell BK341.out 1).trans rfl
   have hcz14_2 : wr.cell? ⟨gb341, 2, none⟩ = some (.int .i64 x342002_1) := (blk_cell BK341.out 2).trans rfl
   have hfz14_0 := blk_frozen BK341.out 0
   have hfz14_1 := blk_frozen BK341.out 1
   have hfz14_2 := blk_frozen BK341.out 2
   go_wp2_with (first | ((with_reducible refine gate_callee (f := 32) rfl ?_); refine gl_ (some 22) Tryz.func32 #[.int .i64 a0, .string a1, .agg #[.int .i64 x342000_1, .int .i64 x342001_1, .int .i64 x342002_1]] ?_; (with_reducible refine (impl_walk.calls k1 a0 a1 x342000_1 x342001_1 x342002_1 t342 t345 t346 t347 _ A9.out).mono ?_); rintro e w15 ⟨v343, rfl, ho0, hb⟩; refine ⟨_, rfl, ?_⟩; have n0_ := Aside0.mk (Kd.N_lower (Kd.N_mono (ok' := fun k_ => k_ ≠ gb341) ho0 (fun k_ hk_ => (Kd.freshB (g := gb341) (o := .cells #[.int .i64 x342000_1, .int .i64 x342001_1, .int .i64 x342002_1] 51 (0, 0)) (by (with_reducible repeat (first | refine blk_drewN ?_ _ | refine blk_drew ?_ | refine blk_alloc ?_ _)); exact BK341.out) k_ hk_))) (below_size (by repeat (first | (with_reducible first | apply below_alloc | apply pw_below_drewN | apply below_drew1 | refine below_set ?_ GE341.out) | exact HB.out)))); have n1_ := Aside0.mk (blk_below (g := gb341) (o := .cells #[.int .i64 x342000_1, .int .i64 x342001_1, .int .i64 x342002_1] 51 (0, 0)) (by (with_reducible repeat (first | refine blk_drewN ?_ _ | refine blk_drew ?_ | refine blk_alloc ?_ _)); exact BK341.out) hb); have n2_ := Aside0.mk (below_step (by repeat (first | (with_reducible first | apply below_alloc | apply pw_below_drewN | apply below_drew1 | refine below_set ?_ GE341.out) | exact HB.out)) hb); clear BK341; clear HB; have HO344 := n0_; have BK341 := n1_; have HB := n2_; clear n0_ n1_ n2_; (try clear hb); (try clear ho0); have hcz16_0 : w15.cell? ⟨gb341, 0, none⟩ = some (.int .i64 x342000_1) := (blk_cell BK341.out 0).trans rfl; have hcz16_1 : w15.cell? ⟨gb341, 1, none⟩ = some (.int .i64 x342001_1) := (blk_cell BK341.out 1).trans rfl; have hcz16_2 : w15.cell? ⟨gb341, 2, none⟩ = some (.int .i64 x342002_1) := (blk_cell BK341.out 2).trans rfl; have hfz16_0 := blk_frozen BK341.out 0; have hfz16_1 := blk_frozen BK341.out 1; have hfz16_2 := blk_frozen BK341.out 2))
   go_roundg k1
   case measure => have := HK1.out; omega
   case rel => exact ⟨(wrap64 (x7_1 + 1)), (t345), (t346), (t347), (by first | rfl | (simp; done) | (simp [*]; done)), H', ⟨by have := HK1.out; omega⟩, ⟨by (with_reducible repeat (first | refine blk_drewN ?_ _ | refine blk_drew ?_ | refine blk_alloc ?_ _)); refine blk_put (cs := #[.int .i64 t345, .int .i64 t346, .int .i64 x342002_1]) ?_ 2 _ rfl; (with_reducible repeat (first | refine blk_drewN ?_ _ | refine blk_drew ?_ | refine blk_alloc ?_ _)); refine blk_put (cs := #[.int .i64 t345, .int .i64 x342001_1, .int .i64 x342002_1]) ?_ 1 _ rfl; (with_reducible repeat (first | refine blk_drewN ?_ _ | refine blk_drew ?_ | refine blk_alloc ?_ _)); refine blk_put (cs := #[.int .i64 x342000_1, .int .i64 x342001_1, .int .i64 x342002_1]) ?_ 0 _ rfl; (with_reducible repeat (first | refine blk_drewN ?_ _ | refine blk_drew ?_ | refine blk_alloc ?_ _)); exact BK341.out⟩, ⟨by repeat (first | (with_reducible first | apply below_alloc | apply pw_below_drewN | apply below_drew1 | refine below_set ?_ GE341.out) | exact HB.out)⟩⟩
end Go.Proofs.YtfpjakkjkakjoaaGreatDoor.P
