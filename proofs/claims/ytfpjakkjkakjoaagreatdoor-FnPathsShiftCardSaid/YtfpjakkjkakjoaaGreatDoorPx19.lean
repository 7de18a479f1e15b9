/- A part of this seat's proofs: contracts of the translated functions, written by the session's own program (gp.py) out of the kit's print.py and the session's own contracts; no conditions of its own. -/
import Derived.Test.YtfpjakkjkakjoaaGreatDoorPx0
import Derived.Test.YtfpjakkjkakjoaaGreatDoorPx2
import Derived.Test.YtfpjakkjkakjoaaGreatDoorPx5
import Derived.Test.YtfpjakkjkakjoaaGreatDoorPx6
import Derived.Test.YtfpjakkjkakjoaaGreatDoorPx7
import Derived.Test.YtfpjakkjkakjoaaGreatDoorPx9
import Derived.Test.YtfpjakkjkakjoaaGreatDoorPx10
import Derived.Test.YtfpjakkjkakjoaaGreatDoorPx11
import Derived.Test.YtfpjakkjkakjoaaGreatDoorPx12
import Derived.Test.YtfpjakkjkakjoaaGreatDoorPx13
import Derived.Test.YtfpjakkjkakjoaaGreatDoorPx14
import Derived.Test.YtfpjakkjkakjoaaGreatDoorPx15
import Derived.Test.YtfpjakkjkakjoaaGreatDoorPx17
import Derived.Test.YtfpjakkjkakjoaaGreatDoorPx18
namespace Go.Proofs.YtfpjakkjkakjoaaGreatDoor.P
open Go.RowKit Go.Proofs.YtfpjakkjkakjoaaGreatDoorW.PrintWords Go.Proofs.YtfpjakkjkakjoaaGreatDoorW.PrintLast Go.Proofs.YtfpjakkjkakjoaaGreatDoorW.PrintMore
attribute [local go_sem] max2_int min2_int max_two min_two max_three min_three max_four min_four   -- for this text's walks alone
set_option linter.unusedVariables false
set_option linter.unusedSimpArgs false

/-! ### laws_FnPathsShift: function 3 -/
mutual
def laws_FnPathsShift.j0 : Nat → List Int → Int → ByteArray → Int → ByteArray → Bool → Int → Bool → ByteArray → Bool → Option (Bool)
 | 0, _, _, _, _, _, _, _, _, _, _ => none
 | k + 1, x1, x5, x6, x7, x8, x9, x12, x13, x16, x144 => if x144 = true then (none) else (if x13 = true then ((impl_IsClosed.f k x5 x6).bind fun bt395 => ((impl_MirrorWord.f x5 x6).bind fun bt397 => ((impl_BackWord.f x5 x6).bind fun bt399 => ((impl_DoubleArea.f k x5 bt397.1).bind fun bt401 => ((impl_DoubleArea.f k x5 bt399.1).bind fun bt403 => (if bt395.2 = true then (if bt395.1 = true then (if bt397.2 = true then (if bt399.2 = true then (if bt401.2 = true then (if bt401.1 = (wrap64 (-x12)) then (if bt403.2 = true then (if bt403.1 = (wrap64 (-x12)) then (laws_FnPathsShift.j1 k x1 x5 x6 x7 x8 x9 x12 x13 x16) else (none)) else (none)) else (none)) else (none)) else (none)) else (none)) else (none)) else (none))))))) else (laws_FnPathsShift.j1 k x1 x5 x6 x7 x8 x9 x12 x13 x16))
def laws_FnPathsShift.j1 : Nat → List Int → Int → ByteArray → Int → ByteArray → Bool → Int → Bool → ByteArray → Option (Bool)
 | 0, _, _, _, _, _, _, _, _, _ => none
 | k + 1, x1, x5, x6, x7, x8, x9, x12, x13, x16 => if x9 = true then ((impl_LeastShift.f x5 x8).bind fun bt405 => (if (x6.size : Int) = 0 then (none) else ((impl_ShiftWord.f x5 x8 (Int.tmod (wrap64 ((x6.size : Int) - x7)) (x6.size : Int))).bind fun bt407 => (if bt405.2 = true then (if bt405.1.toList = x16.toList then (if (Op.bytesLess x6.toList x16.toList) = true then (none) else (if bt407.2 = true then (if bt407.1.toList = x6.toList then (if x13 = true then ((impl_DoubleArea.f k x5 x8).bind fun bt409 => (if bt409.2 = true then (if bt409.1 = x12 then (laws_FnPathsShift.j2 k x1) else (none)) else (none))) else (laws_FnPathsShift.j2 k x1)) else (none)) else (none))) else (none)) else (none))))) else (laws_FnPathsShift.j2 k x1)
def laws_FnPathsShift.j2 : Nat → List Int → Option (Bool)
 | 0, _ => none
 | k + 1, x1 => (spec_DrawSpiralWord.f x1).bind fun bt411 => ((impl_SpiralWord.f k bt411.1 bt411.2.1 bt411.2.2).bind fun bt414 => ((spec_SpiralWord.f k bt411.1 bt411.2.1 bt411.2.2).bind fun bt416 => ((impl_SpiralRepeats.f k bt411.1 bt411.2.1 bt411.2.2).bind fun bt418 => ((spec_SpiralRepeats.f k bt411.1 bt411.2.1 bt411.2.2).bind fun bt420 => ((spec_DrawCountClosed.f x1).bind fun bt422 => ((impl_CountClosed.f bt422.1 bt422.2).bind fun bt424 => ((spec_CountClosed.f k bt422.1 bt422.2).bind fun bt426 => ((spec_DrawDoubleArea.f k x1).bind fun bt428 => ((impl_DoubleArea.f k bt428.1 bt428.2).bind fun bt430 => ((spec_DoubleArea.f k bt428.1 bt428.2).bind fun bt432 => (if (bt414.2 != bt416.2) = true then (none) else (if bt414.1.toList = bt416.1.toList then (if (bt418.2 != bt420.2) = true then (none) else (if bt418.1 = bt420.1 then (if (bt424.2 != bt426.2) = true then (none) else (if bt424.1 = bt426.1 then (if (bt430.2 != bt432.2) = true then (none) else (if bt430.1 = bt432.1 then (if bt418.2 = true then (laws_FnPathsShift.j3 k bt411.1 bt411.2.1 bt411.2.2 bt414.1 bt414.2 bt418.1 bt418.2 bt422.1 bt422.2 bt424.1 bt424.2 (!bt414.2)) else (laws_FnPathsShift.j3 k bt411.1 bt411.2.1 bt411.2.2 bt414.1 bt414.2 bt418.1 bt418.2 bt422.1 bt422.2 bt424.1 bt424.2 false)) else (none))) else (none))) else (none))) else (none)))))))))))))
def laws_FnPathsShift.j3 : Nat → Int → Int → Int → ByteArray → Bool → Int → Bool → Int → Int → Int → Bool → Bool → Option (Bool)
 | 0, _, _, _, _, _, _, _, _, _, _, _, _ => none
 | k + 1, x36, x37, x38, x39, x40, x43, x44, x47, x48, x49, x50, x377 => if x377 = true then (none) else (if x40 = true then ((impl_TurnsMade.f x36 x39).bind fun bt434 => ((impl_RepeatsToClose.f k x36 x39).bind fun bt436 => (if bt434.2 = true then (if bt434.1 = (wrap64 (x37 * x38)) then (if (x39.size : Int) = (wrap64 ((wrap64 (Int.tdiv (wrap64 (x37 * (wrap64 (x37 + 1)))) 2)) + (wrap64 (x37 * x38)))) then (if (bt436.2 != x44) = true then (none) else (if bt436.1 = x43 then (if x36 = 0 then (none) else (if (Int.tmod (wrap64 (x37 * x38)) x36) = 0 then (if (x44 != (x43 == 1)) = true then (none) else (laws_FnPathsShift.j4 k x47 x48 x49 x50)) else (if (x44 != true) = true then (none) else (laws_FnPathsShift.j4 k x47 x48 x49 x50)))) else (none))) else (none)) else (none)) else (none)))) else (laws_FnPathsShift.j4 k x47 x48 x49 x50))
def laws_FnPathsShift.j4 : Nat → Int → Int → Int → Bool → Option (Bool)
 | 0, _, _, _, _ => none
 | k + 1, x47, x48, x49, x50 => if x50 = true then (if x49 < 0 then (none) else (if x48 = 0 then (if x49 = 1 then (if (Int.tmod x48 2) = 1 then (if x47 = 4 then (if x49 = 0 then (some true) else (none)) else (some true)) else (some true)) else (none)) else (if (Int.tmod x48 2) = 1 then (if x47 = 4 then (if x49 = 0 then (some true) else (none)) else (some true)) else (some true)))) else (some true)
end
def laws_FnPathsShift.f (k : Nat) (l0 : List Int) (l1 : List Int) : Option (Bool) := (laws_big.f l0 l1).bind fun t379 => (if t379 = true then (some true) else ((spec_DrawShiftWord.f k l0).bind fun bt380 => ((impl_ShiftWord.f bt380.1 bt380.2.1 bt380.2.2).bind fun bt383 => ((spec_ShiftWord.f k bt380.1 bt380.2.1 bt380.2.2).bind fun bt385 => ((impl_DoubleArea.f k bt380.1 bt380.2.1).bind fun bt387 => ((spec_DoubleArea.f k bt380.1 bt380.2.1).bind fun bt389 => ((impl_LeastShift.f bt380.1 bt380.2.1).bind fun bt391 => ((spec_LeastShift.f k bt380.1 bt380.2.1).bind fun bt393 => (if (bt383.2 != bt385.2) = true then (none) else (if bt383.1.toList = bt385.1.toList then (if (bt387.2 != bt389.2) = true then (none) else (if bt387.1 = bt389.1 then (if (bt391.2 != bt393.2) = true then (none) else (if bt391.1.toList = bt393.1.toList then (if bt383.2 = true then (laws_FnPathsShift.j0 k l1 bt380.1 bt380.2.1 bt380.2.2 bt383.1 bt383.2 bt387.1 bt387.2 bt391.1 (!bt391.2)) else (laws_FnPathsShift.j0 k l1 bt380.1 bt380.2.1 bt380.2.2 bt383.1 bt383.2 bt387.1 bt387.2 bt391.1 false)) else (none))) else (none))) else (none)))))))))))
theorem laws_FnPathsShift.mono_l : ∀ k, (∀ y0 y1 y2 y3 y4 y5 y6 y7 y8 y9, LeO (laws_FnPathsShift.j0 k y0 y1 y2 y3 y4 y5 y6 y7 y8 y9) (laws_FnPathsShift.j0 (k + 1) y0 y1 y2 y3 y4 y5 y6 y7 y8 y9)) ∧ (∀ y0 y1 y2 y3 y4 y5 y6 y7 y8, LeO (laws_FnPathsShift.j1 k y0 y1 y2 y3 y4 y5 y6 y7 y8) (laws_FnPathsShift.j1 (k + 1) y0 y1 y2 y3 y4 y5 y6 y7 y8)) ∧ (∀ y0, LeO (laws_FnPathsShift.j2 k y0) (laws_FnPathsShift.j2 (k + 1) y0)) ∧ (∀ y0 y1 y2 y3 y4 y5 y6 y7 y8 y9 y10 y11, LeO (laws_FnPathsShift.j3 k y0 y1 y2 y3 y4 y5 y6 y7 y8 y9 y10 y11) (laws_FnPathsShift.j3 (k + 1) y0 y1 y2 y3 y4 y5 y6 y7 y8 y9 y10 y11)) ∧ (∀ y0 y1 y2 y3, LeO (laws_FnPathsShift.j4 k y0 y1 y2 y3) (laws_FnPathsShift.j4 (k + 1) y0 y1 y2 y3))
 | 0 => ⟨fun _ _ _ _ _ _ _ _ _ _ r h => by simp [laws_FnPathsShift.j0] at h, fun _ _ _ _ _ _ _ _ _ r h => by simp [laws_FnPathsShift.j1] at h, fun _ r h => by simp [laws_FnPathsShift.j2] at h, fun _ _ _ _ _ _ _ _ _ _ _ _ r h => by simp [laws_FnPathsShift.j3] at h, fun _ _ _ _ r h => by simp [laws_FnPathsShift.j4] at h⟩
 | k + 1 => by
  obtain ⟨ih0, ih1, ih2, ih3, ih4⟩ := laws_FnPathsShift.mono_l k
  refine ⟨?_, ?_, ?_, ?_, ?_⟩
  all_goals (intros; first | unfold laws_FnPathsShift.j0 | unfold laws_FnPathsShift.j1 | unfold laws_FnPathsShift.j2 | unfold laws_FnPathsShift.j3 | unfold laws_FnPathsShift.j4)
  all_goals repeat' with_reducible first | apply ih0 | apply ih1 | apply ih2 | apply ih3 | apply ih4 | apply impl_DoubleArea.mono | apply impl_IsClosed.mono | apply impl_RepeatsToClose.mono | apply impl_SpiralRepeats.mono | apply impl_SpiralWord.mono | apply spec_CountClosed.mono | apply spec_DoubleArea.mono | apply spec_DrawDoubleArea.mono | apply spec_DrawShiftWord.mono | apply spec_LeastShift.mono | apply spec_ShiftWord.mono | apply spec_SpiralRepeats.mono | apply spec_SpiralWord.mono | exact LeO.refl _ | exact LeO.none _ | refine LeO.ite ?_ ?_ | refine LeO.bind ?_ (fun _ => ?_)
theorem laws_FnPathsShift.mono : ∀ a0 a1 k, LeO (laws_FnPathsShift.f k a0 a1) (laws_FnPathsShift.f (k + 1) a0 a1) := by
 intro a0 a1 k
 obtain ⟨ih0, ih1, ih2, ih3, ih4⟩ := laws_FnPathsShift.mono_l k
 unfold laws_FnPathsShift.f
 repeat' with_reducible first | apply ih0 | apply ih1 | apply ih2 | apply ih3 | apply ih4 | apply impl_DoubleArea.mono | apply impl_IsClosed.mono | apply impl_RepeatsToClose.mono | apply impl_SpiralRepeats.mono | apply impl_SpiralWord.mono | apply spec_CountClosed.mono | apply spec_DoubleArea.mono | apply spec_DrawDoubleArea.mono | apply spec_DrawShiftWord.mono | apply spec_LeastShift.mono | apply spec_ShiftWord.mono | apply spec_SpiralRepeats.mono | apply spec_SpiralWord.mono | exact LeO.refl _ | exact LeO.none _ | refine LeO.ite ?_ ?_ | refine LeO.bind ?_ (fun _ => ?_)
set_option maxHeartbeats 80000000 in
set_option maxRecDepth 100000 in
theorem laws_FnPathsShift.calls (k : Nat) (A0 : Option Addr) (c0 : Nat) (l0 : List Int) (A1 : Option Addr) (c1 : Nat) (l1 : List Int) (r : Bool) (w : World) (hr0 : Kd.C (Kd.int .u8) w A0 l0.length l0) (hc0 : l0.length ≤ c0) (hr1 : Kd.C (Kd.int .u8) w A1 l1.length l1) (hc1 : l1.length ≤ c1) (h : laws_FnPathsShift.f k l0 l1 = some r) :
  Calls Tryz.prog 3 #[.slice A0 l0.length c0, .slice A1 l1.length c1] w fun e w' => e = .returned (.bool r) ∧ Below w.heap.size w w' := by
 have HR0 := Aside0.mk hr0
 have HC0 := Aside0.mk hc0
 clear hr0 hc0
 have HR1 := Aside0.mk hr1
 have HC1 := Aside0.mk hc1
 clear hr1 hc1
 have HB := Aside0.mk (Below.refl w.heap.size w)
 have H : ((laws_big.f l0 l1).bind fun t379 => (if t379 = true then (some true) else ((spec_DrawShiftWord.f k l0).bind fun bt380 => ((impl_ShiftWord.f bt380.1 bt380.2.1 bt380.2.2).bind fun bt383 => ((spec_ShiftWord.f k bt380.1 bt380.2.1 bt380.2.2).bind fun bt385 => ((impl_DoubleArea.f k bt380.1 bt380.2.1).bind fun bt387 => ((spec_DoubleArea.f k bt380.1 bt380.2.1).bind fun bt389 => ((impl_LeastShift.f bt380.1 bt380.2.1).bind fun bt391 => ((spec_LeastShift.f k bt380.1 bt380.2.1).bind fun bt393 => (if (bt383.2 != bt385.2) = true then (none) else (if bt383.1.toList = bt385.1.toList then (if (bt387.2 != bt389.2) = true then (none) else (if bt387.1 = bt389.1 then (if (bt391.2 != bt393.2) = true then (none) else (if bt391.1.toList = bt393.1.toList then (if bt383.2 = true then (laws_FnPathsShift.j0 k l1 bt380.1 bt380.2.1 bt380.2.2 bt383.1 bt383.2 bt387.1 bt387.2 bt391.1 (!bt391.2)) else (laws_FnPathsShift.j0 k l1 bt380.1 bt380.2.1 bt380.2.2 bt383.1 bt383.2 bt387.1 bt387.2 bt391.1 false)) else (none))) else (none))) else (none)))))))))))) = some r := h
 clear h
 replace H := Option.bind_eq_some_iff.mp H
 obtain ⟨t379, A30, H⟩ := H
 (try dsimp only at H)
 have A3 := Aside0.mk A30
 clear A30
 by_cases c4 : t379 = true
 ·as_aux_lemma =>
  subst c4
  rw [if_pos rfl] at H
  obtain rfl := Option.some.inj H
  go_enter Tryz.func3, Tryz.ntmps3
  go_wp2_with (first | ((with_reducible refine gate_callee (f := 4) rfl ?_); refine gl_ (some 65) Tryz.func4 #[.slice A0 l0.length c0, .slice A1 l1.length c1] ?_; (with_reducible refine (laws_big.calls _ _ l0 _ _ l1 true _ ?side1 ?side2 ?side3 ?side4 A3.out).mono ?_); (case side1 => exact cu_ HR0.out); (case side2 => exact HC0.out); (case side3 => exact cu_ HR1.out); (case side4 => exact HC1.out); rintro e w' ⟨rfl, ⟨nd, rfl⟩⟩; refine ⟨_, rfl, ?_⟩))
  go_ret
  exact ⟨by first | rfl | (simp [errW_none, errW_some] <;> rfl) | (simp [*, errW_none, errW_some] <;> rfl), bb_⟩
 ·as_aux_lemma =>
  replace c4 := Bool.eq_false_iff.mpr c4
  subst c4
  rw [if_neg (show ¬ (false = true) by decide)] at H
  replace H := Option.bind_eq_some_iff.mp H
  obtain ⟨⟨t380, t381, t382⟩, A50, H⟩ := H
  (try dsimp only at H)
  have A5 := Aside0.mk A50
  clear A50
  replace H := Option.bind_eq_some_iff.mp H
  obtain ⟨⟨t383, t384⟩, A60, H⟩ := H
  (try dsimp only at H)
  have A6 := Aside0.mk A60
  clear A60
  replace H := Option.bind_eq_some_iff.mp H
  obtain ⟨⟨t385, t386⟩, A70, H⟩ := H
  (try dsimp only at H)
  have A7 := Aside0.mk A70
  clear A70
  replace H := Option.bind_eq_some_iff.mp H
  obtain ⟨⟨t387, t388⟩, A80, H⟩ := H
  (try dsimp only at H)
  have A8 := Aside0.mk A80
  clear A80
  replace H := Option.bind_eq_some_iff.mp H
  obtain ⟨⟨t389, t390⟩, A90, H⟩ := H
  (try dsimp only at H)
  have A9 := Aside0.mk A90
  clear A90
  replace H := Option.bind_eq_some_iff.mp H
  obtain ⟨⟨t391, t392⟩, A100, H⟩ := H
  (try dsimp only at H)
  have A10 := Aside0.mk A100
  clear A100
  replace H := Option.bind_eq_some_iff.mp H
  obtain ⟨⟨t393, t394⟩, A110, H⟩ := H
  (try dsimp only at H)
  have A11 := Aside0.mk A110
  clear A110
  have HC12 := Aside0.mk H
  clear H
  go_enter Tryz.func3, Tryz.ntmps3
  go_upto_region 10 with (first | ((with_reducible refine gate_callee (f := 4) rfl ?_); refine gl_ (some 65) Tryz.func4 #[.slice A0 l0.length c0, .slice A1 l1.length c1] ?_; (with_reducible refine (laws_big.calls _ _ l0 _ _ l1 false _ ?side1 ?side2 ?side3 ?side4 A3.out).mono ?_); (case side1 => exact cu_ HR0.out); (case side2 => exact HC0.out); (case side3 => exact cu_ HR1.out); (case side4 => exact HC1.out); rintro e w' ⟨rfl, ⟨nd, rfl⟩⟩; refine ⟨_, rfl, ?_⟩) | ((with_reducible refine gate_callee (f := 5) rfl ?_); refine gl_ (some 68) Tryz.func5 #[.slice A0 l0.length c0] ?_; (with_reducible refine (spec_DrawShiftWord.calls k _ _ l0 t380 t381 t382 _ ?side1 ?side2 A5.out).mono ?_); (case side1 => exact cu_ HR0.out); (case side2 => exact HC0.out); rintro e w13 ⟨rfl, hb⟩; refine ⟨_, rfl, ?_⟩; have n0_ := Aside0.mk (bs_ hb); clear HB; have HB := n0_; clear n0_; (try clear hb)) | ((with_reducible refine gate_callee (f := 6) rfl ?_); refine gl_ (some 76) Tryz.func6 #[.int .i64 t380, .string t381, .int .i64 t382] ?_; (with_reducible refine (impl_ShiftWord.calls t380 t381 t382 t383 t384 _ A6.out).mono ?_); rintro e w14 ⟨rfl, hb⟩; refine ⟨_, rfl, ?_⟩; have n0_ := Aside0.mk (bs_ hb); clear HB; have HB := n0_; clear n0_; (try clear hb)) | ((with_reducible refine gate_callee (f := 7) rfl ?_); refine gl_ (some 83) Tryz.func7 #[.int .i64 t380, .string t381, .int .i64 t382] ?_; (with_reducible refine (spec_ShiftWord.calls k t380 t381 t382 t385 t386 _ A7.out).mono ?_); rintro e w' ⟨rfl, ⟨nd, rfl⟩⟩; refine ⟨_, rfl, ?_⟩) | ((with_reducible refine gate_callee (f := 8) rfl ?_); refine gl_ (some 89) Tryz.func8 #[.int .i64 t380, .string t381] ?_; (with_reducible refine (impl_DoubleArea.calls k t380 t381 t387 t388 _ A8.out).mono ?_); rintro e w15 ⟨rfl, hb⟩; refine ⟨_, rfl, ?_⟩; have n0_ := Aside0.mk (bs_ hb); clear HB; have HB := n0_; clear n0_; (try clear hb)) | ((with_reducible refine gate_callee (f := 9) rfl ?_); refine gl_ (some 95) Tryz.func9 #[.int .i64 t380, .string t381] ?_; (with_reducible refine (spec_DoubleArea.calls k t380 t381 t389 t390 _ A9.out).mono ?_); rintro e w16 ⟨rfl, hb⟩; refine ⟨_, rfl, ?_⟩; have n0_ := Aside0.mk (bs_ hb); clear HB; have HB := n0_; clear n0_; (try clear hb)) | ((with_reducible refine gate_callee (f := 10) rfl ?_); refine gl_ (some 101) Tryz.func10 #[.int .i64 t380, .string t381] ?_; (with_reducible refine (impl_LeastShift.calls t380 t381 t391 t392 _ A10.out).mono ?_); rintro e w17 ⟨rfl, hb⟩; refine ⟨_, rfl, ?_⟩; have n0_ := Aside0.mk (bs_ hb); clear HB; have HB := n0_; clear n0_; (try clear hb)) | ((with_reducible refine gate_callee (f := 11) rfl ?_); refine gl_ (some 107) Tryz.func11 #[.int .i64 t380, .string t381] ?_; (with_reducible refine (spec_LeastShift.calls k t380 t381 t393 t394 _ A11.out).mono ?_); rintro e w18 ⟨rfl, hb⟩; refine ⟨_, rfl, ?_⟩; have n0_ := Aside0.mk (bs_ hb); clear HB; have HB := n0_; clear n0_; (try clear hb)))
  (try simp only [Act.put, sa_, sb_, sc_])
  go_cut [144] from 100000 to 100000 (fun v144 wc => ∃ (kq : Nat) (x144_11 : Bool), v144 = .bool x144_11 ∧ Aside0 (laws_FnPathsShift.j0 kq l1 t380 t381 t382 t383 t384 t387 t388 t391 x144_11 = some r) ∧ Aside0 (kq ≤ k) ∧ Aside0 (Below w.heap.size w wc))
  case first =>
   as_aux_lemma =>
   have H := HC12.out
   clear HC12
   by_cases c19 : (t384 != t386) = true
   ·rw [if_pos c19] at H
    exact absurd H (by simp)
   ·rw [if_neg c19] at H
    have c19b0 : (t384 != t386) = false := by simpa using c19
    (try (have c19b1 : decide (t384 = t386) = true := by simpa using c19))
    (try (have c19b2 : (t384 == t386) = true := by simpa using c19))
    clear c19
    (first | rw [c19b0] | (simp only [i64_w, i32_w]; rw [c19b0]) | skip)
    by_cases c20 : t383.toList = t385.toList
    ·rw [if_pos c20] at H
     have c20b0 : (t383.toList == t385.toList) = true := beq_iff_eq.mpr c20
     have c20b1 : (t383.toList != t385.toList) = false := bne_eq_false_iff_eq.mpr c20
     clear c20
     by_cases c21 : (t388 != t390) = true
     ·rw [if_pos c21] at H
      exact absurd H (by simp)
     ·rw [if_neg c21] at H
      have c21b0 : (t388 != t390) = false := by simpa using c21
      (try (have c21b1 : decide (t388 = t390) = true := by simpa using c21))
      (try (have c21b2 : (t388 == t390) = true := by simpa using c21))
      clear c21
      by_cases c22 : t387 = t389
      ·rw [if_pos c22] at H
       have c22b0 : (t387 == t389) = true := beq_iff_eq.mpr c22
       have c22b1 : (t387 != t389) = false := bne_eq_false_iff_eq.mpr c22
       clear c22
       by_cases c23 : (t392 != t394) = true
       ·rw [if_pos c23] at H
        exact absurd H (by simp)
       ·rw [if_neg c23] at H
        have c23b0 : (t392 != t394) = false := by simpa using c23
        (try (have c23b1 : decide (t392 = t394) = true := by simpa using c23))
        (try (have c23b2 : (t392 == t394) = true := by simpa using c23))
        clear c23
        by_cases c24 : t391.toList = t393.toList
        ·rw [if_pos c24] at H
         have c24b0 : (t391.toList == t393.toList) = true := beq_iff_eq.mpr c24
         have c24b1 : (t391.toList != t393.toList) = false := bne_eq_false_iff_eq.mpr c24
         clear c24
         by_cases c25 : t384 = true
         ·as_aux_lemma =>
          subst c25
          rw [if_pos rfl] at H
          have H' := Aside0.mk H
          clear H
          go_wp2
          go_meet
          case rel => exact ⟨_, (!t392), (by first | rfl | (simp; done) | (simp [*]; done)), H', ⟨by first | omega | exact Nat.le_refl _⟩, ⟨bb_⟩⟩
         ·as_aux_lemma =>
          replace c25 := Bool.eq_false_iff.mpr c25
          subst c25
          rw [if_neg (show ¬ (false = true) by decide)] at H
          have H' := Aside0.mk H
          clear H
          go_wp2
          go_meet
          case rel => exact ⟨_, (false), (by first | rfl | (simp; done) | (simp [*]; done)), H', ⟨by first | omega | exact Nat.le_refl _⟩, ⟨bb_⟩⟩
        ·rw [if_neg c24] at H
         exact absurd H (by simp)
      ·rw [if_neg c22] at H
       exact absurd H (by simp)
    ·rw [if_neg c20] at H
     exact absurd H (by simp)
  case rest =>
   as_aux_lemma =>
   clear HC12
   (try clear c1); (try clear c2); (try clear p2); (try clear c3); (try clear c4); (try clear c5); (try clear c6); (try clear c7); (try clear c8); (try clear c9); (try clear c10); (try clear c11); (try clear c19); (try clear c19b0); (try clear c19b1); (try clear c19b2); (try clear c20); (try clear c20b0); (try clear c20b1); (try clear c21); (try clear c21b0); (try clear c21b1); (try clear c21b2); (try clear c22); (try clear c22b0); (try clear c22b1); (try clear c23); (try clear c23b0); (try clear c23b1); (try clear c23b2); (try clear c24); (try clear c24b0); (try clear c24b1); (try clear c25)
   obtain ⟨kq, x144_11, rfl, HA, HJ11, HB⟩ := hcut
   cases kq with
   | zero => exact absurd HA.out (by simp [laws_FnPathsShift.j0])
   | succ kj11 =>
    have H := HA.out
    clear HA
    simp only [laws_FnPathsShift.j0] at H
    by_cases c26 : x144_11 = true
    ·subst c26
     rw [if_pos rfl] at H
     exact absurd H (by simp)
    as_aux_lemma =>
    replace c26 := Bool.eq_false_iff.mpr c26
    subst c26
    rw [if_neg (show ¬ (false = true) by decide)] at H
    have HC27 := Aside0.mk H
    clear H
    go_upto_if 145 with (fail)
    go_cut [] from 100000 to 100000 (fun wc => ∃ (kq : Nat), Aside0 (laws_FnPathsShift.j1 kq l1 t380 t381 t382 t383 t384 t387 t388 t391 = some r) ∧ Aside0 (kq ≤ kj11) ∧ Aside0 (Below w.heap.size w wc))
    case first =>
     as_aux_lemma =>
     have H := HC27.out
     clear HC27
     by_cases c28 : t388 = true
     ·subst c28
      rw [if_pos rfl] at H
      replace H := Option.bind_eq_some_iff.mp H
      obtain ⟨⟨t395, t396⟩, A290, H⟩ := H
      (try dsimp only at H)
      have A29 := Aside0.mk A290
      clear A290
      replace H := Option.bind_eq_some_iff.mp H
      obtain ⟨⟨t397, t398⟩, A300, H⟩ := H
      (try dsimp only at H)
      have A30 := Aside0.mk A300
      clear A300
      replace H := Option.bind_eq_some_iff.mp H
      obtain ⟨⟨t399, t400⟩, A310, H⟩ := H
      (try dsimp only at H)
      have A31 := Aside0.mk A310
      clear A310
      replace H := Option.bind_eq_some_iff.mp H
      obtain ⟨⟨t401, t402⟩, A320, H⟩ := H
      (try dsimp only at H)
      have A32 := Aside0.mk A320
      clear A320
      replace H := Option.bind_eq_some_iff.mp H
      obtain ⟨⟨t403, t404⟩, A330, H⟩ := H
      (try dsimp only at H)
      have A33 := Aside0.mk A330
      clear A330
      by_cases c34 : t396 = true
      ·subst c34
       rw [if_pos rfl] at H
       by_cases c35 : t395 = true
       ·subst c35
        rw [if_pos rfl] at H
        by_cases c36 : t398 = true
        ·subst c36
         rw [if_pos rfl] at H
         by_cases c37 : t400 = true
         ·subst c37
          rw [if_pos rfl] at H
          by_cases c38 : t402 = true
          ·subst c38
           rw [if_pos rfl] at H
           by_cases c39 : t401 = (wrap64 (-t387))
           ·rw [if_pos c39] at H
            have c39b0 : (t401 == (wrap64 (-t387))) = true := beq_iff_eq.mpr c39
            have c39b1 : (t401 != (wrap64 (-t387))) = false := bne_eq_false_iff_eq.mpr c39
            clear c39
            (first | rw [c39b0] | (simp only [i64_w, i32_w]; rw [c39b0]) | skip)
            by_cases c40 : t404 = true
            ·subst c40
             rw [if_pos rfl] at H
             by_cases c41 : t403 = (wrap64 (-t387))
             ·as_aux_lemma =>
              rw [if_pos c41] at H
              have c41b0 : (t403 == (wrap64 (-t387))) = true := beq_iff_eq.mpr c41
              have c41b1 : (t403 != (wrap64 (-t387))) = false := bne_eq_false_iff_eq.mpr c41
              clear c41
              have H' := Aside0.mk H
              clear H
              go_wp2_with (first | ((with_reducible refine gate_callee (f := 12) rfl ?_); refine gl_ (some 149) Tryz.func12 #[.int .i64 t380, .string t381] ?_; (with_reducible refine (impl_IsClosed.calls kj11 t380 t381 true true _ A29.out).mono ?_); rintro e w42 ⟨rfl, hb⟩; refine ⟨_, rfl, ?_⟩; have n0_ := Aside0.mk (bs_ hb); clear HB; have HB := n0_; clear n0_; (try clear hb)) | ((with_reducible refine gate_callee (f := 13) rfl ?_); refine gl_ (some 155) Tryz.func13 #[.int .i64 t380, .string t381] ?_; (with_reducible refine (impl_MirrorWord.calls t380 t381 t397 true _ A30.out).mono ?_); rintro e w43 ⟨rfl, hb⟩; refine ⟨_, rfl, ?_⟩; have n0_ := Aside0.mk (bs_ hb); clear HB; have HB := n0_; clear n0_; (try clear hb)) | ((with_reducible refine gate_callee (f := 14) rfl ?_); refine gl_ (some 161) Tryz.func14 #[.int .i64 t380, .string t381] ?_; (with_reducible refine (impl_BackWord.calls t380 t381 t399 true _ A31.out).mono ?_); rintro e w44 ⟨rfl, hb⟩; refine ⟨_, rfl, ?_⟩; have n0_ := Aside0.mk (bs_ hb); clear HB; have HB := n0_; clear n0_; (try clear hb)) | ((with_reducible refine gate_callee (f := 8) rfl ?_); refine gl_ (some 167) Tryz.func8 #[.int .i64 t380, .string t397] ?_; (with_reducible refine (impl_DoubleArea.calls kj11 t380 t397 t401 true _ A32.out).mono ?_); rintro e w45 ⟨rfl, hb⟩; refine ⟨_, rfl, ?_⟩; have n0_ := Aside0.mk (bs_ hb); clear HB; have HB := n0_; clear n0_; (try clear hb)) | ((with_reducible refine gate_callee (f := 8) rfl ?_); refine gl_ (some 173) Tryz.func8 #[.int .i64 t380, .string t399] ?_; (with_reducible refine (impl_DoubleArea.calls kj11 t380 t399 t403 true _ A33.out).mono ?_); rintro e w46 ⟨rfl, hb⟩; refine ⟨_, rfl, ?_⟩; have n0_ := Aside0.mk (bs_ hb); clear HB; have HB := n0_; clear n0_; (try clear hb)))
              go_meet
              case rel => exact ⟨_, H', ⟨by have := HJ11.out; first | omega | exact Nat.le_refl _⟩, ⟨bb_⟩⟩
             ·rw [if_neg c41] at H
              exact absurd H (by simp)
            ·replace c40 := Bool.eq_false_iff.mpr c40
             subst c40
             rw [if_neg (show ¬ (false = true) by decide)] at H
             exact absurd H (by simp)
           ·rw [if_neg c39] at H
            exact absurd H (by simp)
          ·replace c38 := Bool.eq_false_iff.mpr c38
           subst c38
           rw [if_neg (show ¬ (false = true) by decide)] at H
           exact absurd H (by simp)
         ·replace c37 := Bool.eq_false_iff.mpr c37
          subst c37
          rw [if_neg (show ¬ (false = true) by decide)] at H
          exact absurd H (by simp)
        ·replace c36 := Bool.eq_false_iff.mpr c36
         subst c36
         rw [if_neg (show ¬ (false = true) by decide)] at H
         exact absurd H (by simp)
       ·replace c35 := Bool.eq_false_iff.mpr c35
        subst c35
        rw [if_neg (show ¬ (false = true) by decide)] at H
        exact absurd H (by simp)
      ·replace c34 := Bool.eq_false_iff.mpr c34
       subst c34
       rw [if_neg (show ¬ (false = true) by decide)] at H
       exact absurd H (by simp)
     ·as_aux_lemma =>
      replace c28 := Bool.eq_false_iff.mpr c28
      subst c28
      rw [if_neg (show ¬ (false = true) by decide)] at H
      have H' := Aside0.mk H
      clear H
      go_wp2
      go_meet
      case rel => exact ⟨_, H', ⟨by have := HJ11.out; first | omega | exact Nat.le_refl _⟩, ⟨bb_⟩⟩
    case rest =>
     as_aux_lemma =>
     clear HC27
     (try clear c1); (try clear c2); (try clear p2); (try clear c3); (try clear c4); (try clear c5); (try clear c6); (try clear p6); (try clear c7); (try clear c8); (try clear c9); (try clear c10); (try clear c11); (try clear c12); (try clear c13); (try clear c14); (try clear c19); (try clear c19b0); (try clear c19b1); (try clear c19b2); (try clear c20); (try clear c20b0); (try clear c20b1); (try clear c21); (try clear c21b0); (try clear c21b1); (try clear c21b2); (try clear c22); (try clear c22b0); (try clear c22b1); (try clear c23); (try clear c23b0); (try clear c23b1); (try clear c23b2); (try clear c24); (try clear c24b0); (try clear c24b1); (try clear c25); (try clear c26); (try clear c28); (try clear c34); (try clear c35); (try clear c36); (try clear c37); (try clear c38); (try clear c39); (try clear c39b0); (try clear c39b1); (try clear c40); (try clear c41); (try clear c41b0); (try clear c41b1); (try clear p2)
     obtain ⟨kq, HA, HJ26, HB⟩ := hcut
     cases kq with
     | zero => exact absurd HA.out (by simp [laws_FnPathsShift.j1])
     | succ kj26 =>
      have H := HA.out
      clear HA
      simp only [laws_FnPathsShift.j1] at H
      have HC47 := Aside0.mk H
      clear H
      go_upto_if 210 with (fail)
      go_cut [] from 100000 to 100000 (fun wc => ∃ (kq : Nat), Aside0 (laws_FnPathsShift.j2 kq l1 = some r) ∧ Aside0 (kq ≤ kj26) ∧ Aside0 (Below w.heap.size w wc))
      case first =>
       as_aux_lemma =>
       have H := HC47.out
       clear HC47
       by_cases c48 : t384 = true
       ·subst c48
        rw [if_pos rfl] at H
        replace H := Option.bind_eq_some_iff.mp H
        obtain ⟨⟨t405, t406⟩, A490, H⟩ := H
        (try dsimp only at H)
        have A49 := Aside0.mk A490
        clear A490
        by_cases c50 : (t381.size : Int) = 0
        ·rw [if_pos c50] at H
         exact absurd H (by simp)
        ·rw [if_neg c50] at H
         have c50b0 : ((t381.size : Int) == 0) = false := beq_eq_false_iff_ne.mpr c50
         have c50b1 : ((t381.size : Int) != 0) = true := bne_iff_ne.mpr c50
         (first | rw [c50b0] | (simp only [i64_w, i32_w]; rw [c50b0]) | skip)
         replace H := Option.bind_eq_some_iff.mp H
         obtain ⟨⟨t407, t408⟩, A510, H⟩ := H
         (try dsimp only at H)
         have A51 := Aside0.mk A510
         clear A510
         by_cases c52 : t406 = true
         ·subst c52
          rw [if_pos rfl] at H
          by_cases c53 : t405.toList = t391.toList
          ·rw [if_pos c53] at H
           have c53b0 : (t405.toList == t391.toList) = true := beq_iff_eq.mpr c53
           have c53b1 : (t405.toList != t391.toList) = false := bne_eq_false_iff_eq.mpr c53
           clear c53
           by_cases c54 : (Op.bytesLess t381.toList t391.toList) = true
           ·rw [if_pos c54] at H
            exact absurd H (by simp)
           ·rw [if_neg c54] at H
            have c54b0 : (Op.bytesLess t381.toList t391.toList) = false := by simpa using c54
            have c54g0 := gtr_run (P := Tryz.prog) Tryz.underlying9 c54b0
            clear c54
            by_cases c55 : t408 = true
            ·subst c55
             rw [if_pos rfl] at H
             by_cases c56 : t407.toList = t381.toList
             ·rw [if_pos c56] at H
              have c56b0 : (t407.toList == t381.toList) = true := beq_iff_eq.mpr c56
              have c56b1 : (t407.toList != t381.toList) = false := bne_eq_false_iff_eq.mpr c56
              clear c56
              by_cases c57 : t388 = true
              ·subst c57
               rw [if_pos rfl] at H
               replace H := Option.bind_eq_some_iff.mp H
               obtain ⟨⟨t409, t410⟩, A580, H⟩ := H
               (try dsimp only at H)
               have A58 := Aside0.mk A580
               clear A580
               by_cases c59 : t410 = true
               ·subst c59
                rw [if_pos rfl] at H
                by_cases c60 : t409 = t387
                ·as_aux_lemma =>
                 rw [if_pos c60] at H
                 have c60b0 : (t409 == t387) = true := beq_iff_eq.mpr c60
                 have c60b1 : (t409 != t387) = false := bne_eq_false_iff_eq.mpr c60
                 clear c60
                 have H' := Aside0.mk H
                 clear H
                 go_wp2_with (first | ((with_reducible refine gate_callee (f := 10) rfl ?_); refine gl_ (some 214) Tryz.func10 #[.int .i64 t380, .string t383] ?_; (with_reducible refine (impl_LeastShift.calls t380 t383 t405 true _ A49.out).mono ?_); rintro e w61 ⟨rfl, hb⟩; refine ⟨_, rfl, ?_⟩; have n0_ := Aside0.mk (bs_ hb); clear HB; have HB := n0_; clear n0_; (try clear hb)) | ((with_reducible refine gate_callee (f := 6) rfl ?_); refine gl_ (some 227) Tryz.func6 #[.int .i64 t380, .string t383, .int .i64 (Int.tmod (wrap64 ((t381.size : Int) - t382)) (t381.size : Int))] ?_; (with_reducible refine (impl_ShiftWord.calls t380 t383 (Int.tmod (wrap64 ((t381.size : Int) - t382)) (t381.size : Int)) t407 true _ A51.out).mono ?_); rintro e w62 ⟨rfl, hb⟩; refine ⟨_, rfl, ?_⟩; have n0_ := Aside0.mk (bs_ hb); clear HB; have HB := n0_; clear n0_; (try clear hb)) | ((with_reducible refine gate_callee (f := 8) rfl ?_); refine gl_ (some 255) Tryz.func8 #[.int .i64 t380, .string t383] ?_; (with_reducible refine (impl_DoubleArea.calls kj26 t380 t383 t409 true _ A58.out).mono ?_); rintro e w63 ⟨rfl, hb⟩; refine ⟨_, rfl, ?_⟩; have n0_ := Aside0.mk (bs_ hb); clear HB; have HB := n0_; clear n0_; (try clear hb)))
                 go_meet
                 case rel => exact ⟨_, H', ⟨by have := HJ11.out; have := HJ26.out; first | omega | exact Nat.le_refl _⟩, ⟨bb_⟩⟩
                ·rw [if_neg c60] at H
                 exact absurd H (by simp)
               ·replace c59 := Bool.eq_false_iff.mpr c59
                subst c59
                rw [if_neg (show ¬ (false = true) by decide)] at H
                exact absurd H (by simp)
              ·as_aux_lemma =>
               replace c57 := Bool.eq_false_iff.mpr c57
               subst c57
               rw [if_neg (show ¬ (false = true) by decide)] at H
               have H' := Aside0.mk H
               clear H
               go_wp2_with (first | ((with_reducible refine gate_callee (f := 10) rfl ?_); refine gl_ (some 214) Tryz.func10 #[.int .i64 t380, .string t383] ?_; (with_reducible refine (impl_LeastShift.calls t380 t383 t405 true _ A49.out).mono ?_); rintro e w64 ⟨rfl, hb⟩; refine ⟨_, rfl, ?_⟩; have n0_ := Aside0.mk (bs_ hb); clear HB; have HB := n0_; clear n0_; (try clear hb)) | ((with_reducible refine gate_callee (f := 6) rfl ?_); refine gl_ (some 227) Tryz.func6 #[.int .i64 t380, .string t383, .int .i64 (Int.tmod (wrap64 ((t381.size : Int) - t382)) (t381.size : Int))] ?_; (with_reducible refine (impl_ShiftWord.calls t380 t383 (Int.tmod (wrap64 ((t381.size : Int) - t382)) (t381.size : Int)) t407 true _ A51.out).mono ?_); rintro e w65 ⟨rfl, hb⟩; refine ⟨_, rfl, ?_⟩; have n0_ := Aside0.mk (bs_ hb); clear HB; have HB := n0_; clear n0_; (try clear hb)))
               go_meet
               case rel => exact ⟨_, H', ⟨by have := HJ11.out; have := HJ26.out; first | omega | exact Nat.le_refl _⟩, ⟨bb_⟩⟩
             ·rw [if_neg c56] at H
              exact absurd H (by simp)
            ·replace c55 := Bool.eq_false_iff.mpr c55
             subst c55
             rw [if_neg (show ¬ (false = true) by decide)] at H
             exact absurd H (by simp)
          ·rw [if_neg c53] at H
           exact absurd H (by simp)
         ·replace c52 := Bool.eq_false_iff.mpr c52
          subst c52
          rw [if_neg (show ¬ (false = true) by decide)] at H
          exact absurd H (by simp)
       ·as_aux_lemma =>
        replace c48 := Bool.eq_false_iff.mpr c48
        subst c48
        rw [if_neg (show ¬ (false = true) by decide)] at H
        have H' := Aside0.mk H
        clear H
        go_wp2
        go_meet
        case rel => exact ⟨_, H', ⟨by have := HJ11.out; have := HJ26.out; first | omega | exact Nat.le_refl _⟩, ⟨bb_⟩⟩
      case rest =>
       as_aux_lemma =>
       clear HC47
       (try clear c1); (try clear c2); (try clear p2); (try clear c3); (try clear c4); (try clear c5); (try clear c6); (try clear p6); (try clear c7); (try clear c8); (try clear c9); (try clear c10); (try clear c11); (try clear c12); (try clear c13); (try clear c14); (try clear c19); (try clear c19b0); (try clear c19b1); (try clear c19b2); (try clear c20); (try clear c20b0); (try clear c20b1); (try clear c21); (try clear c21b0); (try clear c21b1); (try clear c21b2); (try clear c22); (try clear c22b0); (try clear c22b1); (try clear c23); (try clear c23b0); (try clear c23b1); (try clear c23b2); (try clear c24); (try clear c24b0); (try clear c24b1); (try clear c25); (try clear c26); (try clear c28); (try clear c34); (try clear c35); (try clear c36); (try clear c37); (try clear c38); (try clear c39); (try clear c39b0); (try clear c39b1); (try clear c40); (try clear c41); (try clear c41b0); (try clear c41b1); (try clear c48); (try clear c50); (try clear c50b0); (try clear c50b1); (try clear c52); (try clear c53); (try clear c53b0); (try clear c53b1); (try clear c54); (try clear c54b0); (try clear c55); (try clear c56); (try clear c56b0); (try clear c56b1); (try clear c57); (try clear c59); (try clear c60); (try clear c60b0); (try clear c60b1); (try clear p64); (try clear p2); (try clear p6)
       obtain ⟨kq, HA, HJ46, HB⟩ := hcut
       cases kq with
       | zero => exact absurd HA.out (by simp [laws_FnPathsShift.j2])
       | succ kj46 =>
        have H := HA.out
        clear HA
        simp only [laws_FnPathsShift.j2] at H
        replace H := Option.bind_eq_some_iff.mp H
        obtain ⟨⟨t411, t412, t413⟩, A660, H⟩ := H
        (try dsimp only at H)
        have A66 := Aside0.mk A660
        clear A660
        replace H := Option.bind_eq_some_iff.mp H
        obtain ⟨⟨t414, t415⟩, A670, H⟩ := H
        (try dsimp only at H)
        have A67 := Aside0.mk A670
        clear A670
        replace H := Option.bind_eq_some_iff.mp H
        obtain ⟨⟨t416, t417⟩, A680, H⟩ := H
        (try dsimp only at H)
        have A68 := Aside0.mk A680
        clear A680
        replace H := Option.bind_eq_some_iff.mp H
        obtain ⟨⟨t418, t419⟩, A690, H⟩ := H
        (try dsimp only at H)
        have A69 := Aside0.mk A690
        clear A690
        replace H := Option.bind_eq_some_iff.mp H
        obtain ⟨⟨t420, t421⟩, A700, H⟩ := H
        (try dsimp only at H)
        have A70 := Aside0.mk A700
        clear A700
        replace H := Option.bind_eq_some_iff.mp H
        obtain ⟨⟨t422, t423⟩, A710, H⟩ := H
        (try dsimp only at H)
        have A71 := Aside0.mk A710
        clear A710
        replace H := Option.bind_eq_some_iff.mp H
        obtain ⟨⟨t424, t425⟩, A720, H⟩ := H
        (try dsimp only at H)
        have A72 := Aside0.mk A720
        clear A720
        replace H := Option.bind_eq_some_iff.mp H
        obtain ⟨⟨t426, t427⟩, A730, H⟩ := H
        (try dsimp only at H)
        have A73 := Aside0.mk A730
        clear A730
        replace H := Option.bind_eq_some_iff.mp H
        obtain ⟨⟨t428, t429⟩, A740, H⟩ := H
        (try dsimp only at H)
        have A74 := Aside0.mk A740
        clear A740
        replace H := Option.bind_eq_some_iff.mp H
        obtain ⟨⟨t430, t431⟩, A750, H⟩ := H
        (try dsimp only at H)
        have A75 := Aside0.mk A750
        clear A750
        replace H := Option.bind_eq_some_iff.mp H
        obtain ⟨⟨t432, t433⟩, A760, H⟩ := H
        (try dsimp only at H)
        have A76 := Aside0.mk A760
        clear A760
        have HC77 := Aside0.mk H
        clear H
        go_upto_region 40 with (first | ((with_reducible refine gate_callee (f := 15) rfl ?_); refine gl_ (some 267) Tryz.func15 #[.slice A1 l1.length c1] ?_; (with_reducible refine (spec_DrawSpiralWord.calls _ _ l1 t411 t412 t413 _ ?side1 ?side2 A66.out).mono ?_); (case side1 => repeat (first | exact (Kd.C_below HR1.out HB.out) | (with_reducible refine Kd.C_alloc ?_ _) | (with_reducible refine Kd.C_drewN ?_ _) | (with_reducible refine Kd.C_drew ?_))); (case side2 => exact HC1.out); rintro e w78 ⟨rfl, hb⟩; refine ⟨_, rfl, ?_⟩; have n0_ := Aside0.mk (bs_ hb); clear HB; have HB := n0_; clear n0_; (try clear hb)) | ((with_reducible refine gate_callee (f := 16) rfl ?_); refine gl_ (some 275) Tryz.func16 #[.int .i64 t411, .int .i64 t412, .int .i64 t413] ?_; (with_reducible refine (impl_SpiralWord.calls kj46 t411 t412 t413 t414 t415 _ A67.out).mono ?_); rintro e w79 ⟨rfl, hb⟩; refine ⟨_, rfl, ?_⟩; have n0_ := Aside0.mk (bs_ hb); clear HB; have HB := n0_; clear n0_; (try clear hb)) | ((with_reducible refine gate_callee (f := 17) rfl ?_); refine gl_ (some 282) Tryz.func17 #[.int .i64 t411, .int .i64 t412, .int .i64 t413] ?_; (with_reducible refine (spec_SpiralWord.calls kj46 t411 t412 t413 t416 t417 _ A68.out).mono ?_); rintro e w' ⟨rfl, ⟨nd, rfl⟩⟩; refine ⟨_, rfl, ?_⟩) | ((with_reducible refine gate_callee (f := 18) rfl ?_); refine gl_ (some 289) Tryz.func18 #[.int .i64 t411, .int .i64 t412, .int .i64 t413] ?_; (with_reducible refine (impl_SpiralRepeats.calls kj46 t411 t412 t413 t418 t419 _ A69.out).mono ?_); rintro e w80 ⟨rfl, hb⟩; refine ⟨_, rfl, ?_⟩; have n0_ := Aside0.mk (bs_ hb); clear HB; have HB := n0_; clear n0_; (try clear hb)) | ((with_reducible refine gate_callee (f := 19) rfl ?_); refine gl_ (some 296) Tryz.func19 #[.int .i64 t411, .int .i64 t412, .int .i64 t413] ?_; (with_reducible refine (spec_SpiralRepeats.calls kj46 t411 t412 t413 t420 t421 _ A70.out).mono ?_); rintro e w81 ⟨rfl, hb⟩; refine ⟨_, rfl, ?_⟩; have n0_ := Aside0.mk (bs_ hb); clear HB; have HB := n0_; clear n0_; (try clear hb)) | ((with_reducible refine gate_callee (f := 20) rfl ?_); refine gl_ (some 301) Tryz.func20 #[.slice A1 l1.length c1] ?_; (with_reducible refine (spec_DrawCountClosed.calls _ _ l1 t422 t423 _ ?side1 ?side2 A71.out).mono ?_); (case side1 => repeat (first | exact (Kd.C_below HR1.out HB.out) | (with_reducible refine Kd.C_alloc ?_ _) | (with_reducible refine Kd.C_drewN ?_ _) | (with_reducible refine Kd.C_drew ?_))); (case side2 => exact HC1.out); rintro e w82 ⟨rfl, hb⟩; refine ⟨_, rfl, ?_⟩; have n0_ := Aside0.mk (bs_ hb); clear HB; have HB := n0_; clear n0_; (try clear hb)) | ((with_reducible refine gate_callee (f := 21) rfl ?_); refine gl_ (some 307) Tryz.func21 #[.int .i64 t422, .int .i64 t423] ?_; (with_reducible refine (impl_CountClosed.calls t422 t423 t424 t425 _ A72.out).mono ?_); rintro e w83 ⟨rfl, hb⟩; refine ⟨_, rfl, ?_⟩; have n0_ := Aside0.mk (bs_ hb); clear HB; have HB := n0_; clear n0_; (try clear hb)) | ((with_reducible refine gate_callee (f := 22) rfl ?_); refine gl_ (some 313) Tryz.func22 #[.int .i64 t422, .int .i64 t423] ?_; (with_reducible refine (spec_CountClosed.calls kj46 t422 t423 t426 t427 _ A73.out).mono ?_); rintro e w84 ⟨rfl, hb⟩; refine ⟨_, rfl, ?_⟩; have n0_ := Aside0.mk (bs_ hb); clear HB; have HB := n0_; clear n0_; (try clear hb)) | ((with_reducible refine gate_callee (f := 23) rfl ?_); refine gl_ (some 318) Tryz.func23 #[.slice A1 l1.length c1] ?_; (with_reducible refine (spec_DrawDoubleArea.calls kj46 _ _ l1 t428 t429 _ ?side1 ?side2 A74.out).mono ?_); (case side1 => repeat (first | exact (Kd.C_below HR1.out HB.out) | (with_reducible refine Kd.C_alloc ?_ _) | (with_reducible refine Kd.C_drewN ?_ _) | (with_reducible refine Kd.C_drew ?_))); (case side2 => exact HC1.out); rintro e w85 ⟨rfl, hb⟩; refine ⟨_, rfl, ?_⟩; have n0_ := Aside0.mk (bs_ hb); clear HB; have HB := n0_; clear n0_; (try clear hb)) | ((with_reducible refine gate_callee (f := 8) rfl ?_); refine gl_ (some 324) Tryz.func8 #[.int .i64 t428, .string t429] ?_; (with_reducible refine (impl_DoubleArea.calls kj46 t428 t429 t430 t431 _ A75.out).mono ?_); rintro e w86 ⟨rfl, hb⟩; refine ⟨_, rfl, ?_⟩; have n0_ := Aside0.mk (bs_ hb); clear HB; have HB := n0_; clear n0_; (try clear hb)) | ((with_reducible refine gate_callee (f := 9) rfl ?_); refine gl_ (some 330) Tryz.func9 #[.int .i64 t428, .string t429] ?_; (with_reducible refine (spec_DoubleArea.calls kj46 t428 t429 t432 t433 _ A76.out).mono ?_); rintro e w87 ⟨rfl, hb⟩; refine ⟨_, rfl, ?_⟩; have n0_ := Aside0.mk (bs_ hb); clear HB; have HB := n0_; clear n0_; (try clear hb)))
        (try simp only [Act.put, sa_, sb_, sc_])
        go_cut [377] from 100000 to 100000 (fun v377 wc => ∃ (kq : Nat) (x377_76 : Bool), v377 = .bool x377_76 ∧ Aside0 (laws_FnPathsShift.j3 kq t411 t412 t413 t414 t415 t418 t419 t422 t423 t424 t425 x377_76 = some r) ∧ Aside0 (kq ≤ kj46) ∧ Aside0 (Below w.heap.size w wc))
        case first =>
         as_aux_lemma =>
         have H := HC77.out
         clear HC77
         by_cases c88 : (t415 != t417) = true
         ·rw [if_pos c88] at H
          exact absurd H (by simp)
         ·rw [if_neg c88] at H
          have c88b0 : (t415 != t417) = false := by simpa using c88
          (try (have c88b1 : decide (t415 = t417) = true := by simpa using c88))
          (try (have c88b2 : (t415 == t417) = true := by simpa using c88))
          clear c88
          (first | rw [c88b0] | (simp only [i64_w, i32_w]; rw [c88b0]) | skip)
          by_cases c89 : t414.toList = t416.toList
          ·rw [if_pos c89] at H
           have c89b0 : (t414.toList == t416.toList) = true := beq_iff_eq.mpr c89
           have c89b1 : (t414.toList != t416.toList) = false := bne_eq_false_iff_eq.mpr c89
           clear c89
           by_cases c90 : (t419 != t421) = true
           ·rw [if_pos c90] at H
            exact absurd H (by simp)
           ·rw [if_neg c90] at H
            have c90b0 : (t419 != t421) = false := by simpa using c90
            (try (have c90b1 : decide (t419 = t421) = true := by simpa using c90))
            (try (have c90b2 : (t419 == t421) = true := by simpa using c90))
            clear c90
            by_cases c91 : t418 = t420
            ·rw [if_pos c91] at H
             have c91b0 : (t418 == t420) = true := beq_iff_eq.mpr c91
             have c91b1 : (t418 != t420) = false := bne_eq_false_iff_eq.mpr c91
             clear c91
             by_cases c92 : (t425 != t427) = true
             ·rw [if_pos c92] at H
              exact absurd H (by simp)
             ·rw [if_neg c92] at H
              have c92b0 : (t425 != t427) = false := by simpa using c92
              (try (have c92b1 : decide (t425 = t427) = true := by simpa using c92))
              (try (have c92b2 : (t425 == t427) = true := by simpa using c92))
              clear c92
              by_cases c93 : t424 = t426
              ·rw [if_pos c93] at H
               have c93b0 : (t424 == t426) = true := beq_iff_eq.mpr c93
               have c93b1 : (t424 != t426) = false := bne_eq_false_iff_eq.mpr c93
               clear c93
               by_cases c94 : (t431 != t433) = true
               ·rw [if_pos c94] at H
                exact absurd H (by simp)
               ·rw [if_neg c94] at H
                have c94b0 : (t431 != t433) = false := by simpa using c94
                (try (have c94b1 : decide (t431 = t433) = true := by simpa using c94))
                (try (have c94b2 : (t431 == t433) = true := by simpa using c94))
                clear c94
                by_cases c95 : t430 = t432
                ·rw [if_pos c95] at H
                 have c95b0 : (t430 == t432) = true := beq_iff_eq.mpr c95
                 have c95b1 : (t430 != t432) = false := bne_eq_false_iff_eq.mpr c95
                 clear c95
                 by_cases c96 : t419 = true
                 ·as_aux_lemma =>
                  subst c96
                  rw [if_pos rfl] at H
                  have H' := Aside0.mk H
                  clear H
                  go_wp2
                  go_meet
                  case rel => exact ⟨_, (!t415), (by first | rfl | (simp; done) | (simp [*]; done)), H', ⟨by have := HJ11.out; have := HJ26.out; have := HJ46.out; first | omega | exact Nat.le_refl _⟩, ⟨bb_⟩⟩
                 ·as_aux_lemma =>
                  replace c96 := Bool.eq_false_iff.mpr c96
                  subst c96
                  rw [if_neg (show ¬ (false = true) by decide)] at H
                  have H' := Aside0.mk H
                  clear H
                  go_wp2
                  go_meet
                  case rel => exact ⟨_, (false), (by first | rfl | (simp; done) | (simp [*]; done)), H', ⟨by have := HJ11.out; have := HJ26.out; have := HJ46.out; first | omega | exact Nat.le_refl _⟩, ⟨bb_⟩⟩
                ·rw [if_neg c95] at H
                 exact absurd H (by simp)
              ·rw [if_neg c93] at H
               exact absurd H (by simp)
            ·rw [if_neg c91] at H
             exact absurd H (by simp)
          ·rw [if_neg c89] at H
           exact absurd H (by simp)
        case rest =>
         as_aux_lemma =>
         clear HC77
         (try clear c1); (try clear c2); (try clear p2); (try clear c3); (try clear c4); (try clear c5); (try clear c6); (try clear p6); (try clear c7); (try clear c8); (try clear c9); (try clear c10); (try clear c11); (try clear c12); (try clear c13); (try clear c14); (try clear c15); (try clear c16); (try clear c17); (try clear c18); (try clear c19); (try clear c19b0); (try clear c19b1); (try clear c19b2); (try clear c20); (try clear c20b0); (try clear c20b1); (try clear c21); (try clear c21b0); (try clear c21b1); (try clear c21b2); (try clear c22); (try clear c22b0); (try clear c22b1); (try clear c23); (try clear c23b0); (try clear c23b1); (try clear c23b2); (try clear c24); (try clear c24b0); (try clear c24b1); (try clear c25); (try clear c26); (try clear c28); (try clear c34); (try clear c35); (try clear c36); (try clear c37); (try clear c38); (try clear c39); (try clear c39b0); (try clear c39b1); (try clear c40); (try clear c41); (try clear c41b0); (try clear c41b1); (try clear c48); (try clear c50); (try clear c50b0); (try clear c50b1); (try clear c52); (try clear c53); (try clear c53b0); (try clear c53b1); (try clear c54); (try clear c54b0); (try clear c55); (try clear c56); (try clear c56b0); (try clear c56b1); (try clear c57); (try clear c59); (try clear c60); (try clear c60b0); (try clear c60b1); (try clear p64); (try clear c88); (try clear c88b0); (try clear c88b1); (try clear c88b2); (try clear c89); (try clear c89b0); (try clear c89b1); (try clear c90); (try clear c90b0); (try clear c90b1); (try clear c90b2); (try clear c91); (try clear c91b0); (try clear c91b1); (try clear c92); (try clear c92b0); (try clear c92b1); (try clear c92b2); (try clear c93); (try clear c93b0); (try clear c93b1); (try clear c94); (try clear c94b0); (try clear c94b1); (try clear c94b2); (try clear c95); (try clear c95b0); (try clear c95b1); (try clear c96); (try clear p2); (try clear p6); (try clear p64)
         obtain ⟨kq, x377_76, rfl, HA, HJ76, HB⟩ := hcut
         cases kq with
         | zero => exact absurd HA.out (by simp [laws_FnPathsShift.j3])
         | succ kj76 =>
          have H := HA.out
          clear HA
          simp only [laws_FnPathsShift.j3] at H
          by_cases c97 : x377_76 = true
          ·subst c97
           rw [if_pos rfl] at H
           exact absurd H (by simp)
          as_aux_lemma =>
          replace c97 := Bool.eq_false_iff.mpr c97
          subst c97
          rw [if_neg (show ¬ (false = true) by decide)] at H
          have HC98 := Aside0.mk H
          clear H
          go_upto_if 378 with (fail)
          go_cut [] from 100000 to 100000 (fun wc => ∃ (kq : Nat), Aside0 (laws_FnPathsShift.j4 kq t422 t423 t424 t425 = some r) ∧ Aside0 (kq ≤ kj76) ∧ Aside0 (Below w.heap.size w wc))
          case first =>
           as_aux_lemma =>
           have H := HC98.out
           clear HC98
           by_cases c99 : t415 = true
           ·subst c99
            rw [if_pos rfl] at H
            replace H := Option.bind_eq_some_iff.mp H
            obtain ⟨⟨t434, t435⟩, A1000, H⟩ := H
            (try dsimp only at H)
            have A100 := Aside0.mk A1000
            clear A1000
            replace H := Option.bind_eq_some_iff.mp H
            obtain ⟨⟨t436, t437⟩, A1010, H⟩ := H
            (try dsimp only at H)
            have A101 := Aside0.mk A1010
            clear A1010
            by_cases c102 : t435 = true
            ·subst c102
             rw [if_pos rfl] at H
             by_cases c103 : t434 = (wrap64 (t412 * t413))
             ·rw [if_pos c103] at H
              have c103b0 : (t434 == (wrap64 (t412 * t413))) = true := beq_iff_eq.mpr c103
              have c103b1 : (t434 != (wrap64 (t412 * t413))) = false := bne_eq_false_iff_eq.mpr c103
              clear c103
              (first | rw [c103b0] | (simp only [i64_w, i32_w]; rw [c103b0]) | skip)
              by_cases c104 : (t414.size : Int) = (wrap64 ((wrap64 (Int.tdiv (wrap64 (t412 * (wrap64 (t412 + 1)))) 2)) + (wrap64 (t412 * t413))))
              ·rw [if_pos c104] at H
               have c104b0 : ((t414.size : Int) == (wrap64 ((wrap64 (Int.tdiv (wrap64 (t412 * (wrap64 (t412 + 1)))) 2)) + (wrap64 (t412 * t413))))) = true := beq_iff_eq.mpr c104
               have c104b1 : ((t414.size : Int) != (wrap64 ((wrap64 (Int.tdiv (wrap64 (t412 * (wrap64 (t412 + 1)))) 2)) + (wrap64 (t412 * t413))))) = false := bne_eq_false_iff_eq.mpr c104
               clear c104
               by_cases c105 : (t437 != t419) = true
               ·rw [if_pos c105] at H
                exact absurd H (by simp)
               ·rw [if_neg c105] at H
                have c105b0 : (t437 != t419) = false := by simpa using c105
                (try (have c105b1 : decide (t437 = t419) = true := by simpa using c105))
                (try (have c105b2 : (t437 == t419) = true := by simpa using c105))
                clear c105
                by_cases c106 : t436 = t418
                ·rw [if_pos c106] at H
                 have c106b0 : (t436 == t418) = true := beq_iff_eq.mpr c106
                 have c106b1 : (t436 != t418) = false := bne_eq_false_iff_eq.mpr c106
                 clear c106
                 by_cases c107 : t411 = 0
                 ·rw [if_pos c107] at H
                  exact absurd H (by simp)
                 ·rw [if_neg c107] at H
                  have c107b0 : (t411 == 0) = false := beq_eq_false_iff_ne.mpr c107
                  have c107b1 : (t411 != 0) = true := bne_iff_ne.mpr c107
                  by_cases c108 : (Int.tmod (wrap64 (t412 * t413)) t411) = 0
                  ·rw [if_pos c108] at H
                   have c108b0 : ((Int.tmod (wrap64 (t412 * t413)) t411) == 0) = true := beq_iff_eq.mpr c108
                   have c108b1 : ((Int.tmod (wrap64 (t412 * t413)) t411) != 0) = false := bne_eq_false_iff_eq.mpr c108
                   clear c108
                   by_cases c109 : (t419 != (t418 == 1)) = true
                   ·rw [if_pos c109] at H
                    exact absurd H (by simp)
                   ·as_aux_lemma =>
                    rw [if_neg c109] at H
                    have c109b0 : (t419 != (t418 == 1)) = false := by simpa using c109
                    (try (have c109b1 : decide (t419 = (t418 == 1)) = true := by simpa using c109))
                    (try (have c109b2 : (t419 == (t418 == 1)) = true := by simpa using c109))
                    clear c109
                    have H' := Aside0.mk H
                    clear H
                    go_wp2_with (first | ((with_reducible refine gate_callee (f := 24) rfl ?_); refine gl_ (some 382) Tryz.func24 #[.int .i64 t411, .string t414] ?_; (with_reducible refine (impl_TurnsMade.calls t411 t414 t434 true _ A100.out).mono ?_); rintro e w110 ⟨rfl, hb⟩; refine ⟨_, rfl, ?_⟩; have n0_ := Aside0.mk (bs_ hb); clear HB; have HB := n0_; clear n0_; (try clear hb)) | ((with_reducible refine gate_callee (f := 25) rfl ?_); refine gl_ (some 388) Tryz.func25 #[.int .i64 t411, .string t414] ?_; (with_reducible refine (impl_RepeatsToClose.calls kj76 t411 t414 t436 t437 _ A101.out).mono ?_); rintro e w111 ⟨rfl, hb⟩; refine ⟨_, rfl, ?_⟩; have n0_ := Aside0.mk (bs_ hb); clear HB; have HB := n0_; clear n0_; (try clear hb)))
                    go_meet
                    case rel => exact ⟨_, H', ⟨by have := HJ11.out; have := HJ26.out; have := HJ46.out; have := HJ76.out; first | omega | exact Nat.le_refl _⟩, ⟨bb_⟩⟩
                  ·rw [if_neg c108] at H
                   have c108b0 : ((Int.tmod (wrap64 (t412 * t413)) t411) == 0) = false := beq_eq_false_iff_ne.mpr c108
                   have c108b1 : ((Int.tmod (wrap64 (t412 * t413)) t411) != 0) = true := bne_iff_ne.mpr c108
                   by_cases c112 : (t419 != true) = true
                   ·rw [if_pos c112] at H
                    exact absurd H (by simp)
                   ·as_aux_lemma =>
                    rw [if_neg c112] at H
                    have c112b0 : (t419 != true) = false := by simpa using c112
                    (try (have c112b1 : decide (t419 = true) = true := by simpa using c112))
                    (try (have c112b2 : (t419 == true) = true := by simpa using c112))
                    clear c112
                    have H' := Aside0.mk H
                    clear H
                    go_wp2_with (first | ((with_reducible refine gate_callee (f := 24) rfl ?_); refine gl_ (some 382) Tryz.func24 #[.int .i64 t411, .string t414] ?_; (with_reducible refine (impl_TurnsMade.calls t411 t414 t434 true _ A100.out).mono ?_); rintro e w113 ⟨rfl, hb⟩; refine ⟨_, rfl, ?_⟩; have n0_ := Aside0.mk (bs_ hb); clear HB; have HB := n0_; clear n0_; (try clear hb)) | ((with_reducible refine gate_callee (f := 25) rfl ?_); refine gl_ (some 388) Tryz.func25 #[.int .i64 t411, .string t414] ?_; (with_reducible refine (impl_RepeatsToClose.calls kj76 t411 t414 t436 t437 _ A101.out).mono ?_); rintro e w114 ⟨rfl, hb⟩; refine ⟨_, rfl, ?_⟩; have n0_ := Aside0.mk (bs_ hb); clear HB; have HB := n0_; clear n0_; (try clear hb)))
                    go_meet
                    case rel => exact ⟨_, H', ⟨by have := HJ11.out; have := HJ26.out; have := HJ46.out; have := HJ76.out; first | omega | exact Nat.le_refl _⟩, ⟨bb_⟩⟩
                ·rw [if_neg c106] at H
                 exact absurd H (by simp)
              ·rw [if_neg c104] at H
               exact absurd H (by simp)
             ·rw [if_neg c103] at H
              exact absurd H (by simp)
            ·replace c102 := Bool.eq_false_iff.mpr c102
             subst c102
             rw [if_neg (show ¬ (false = true) by decide)] at H
             exact absurd H (by simp)
           ·as_aux_lemma =>
            replace c99 := Bool.eq_false_iff.mpr c99
            subst c99
            rw [if_neg (show ¬ (false = true) by decide)] at H
            have H' := Aside0.mk H
            clear H
            go_wp2
            go_meet
            case rel => exact ⟨_, H', ⟨by have := HJ11.out; have := HJ26.out; have := HJ46.out; have := HJ76.out; first | omega | exact Nat.le_refl _⟩, ⟨bb_⟩⟩
          case rest =>
           as_aux_lemma =>
           clear HC98
           (try clear c1); (try clear c2); (try clear p2); (try clear c3); (try clear c4); (try clear c5); (try clear c6); (try clear p6); (try clear c7); (try clear c8); (try clear c9); (try clear c10); (try clear c11); (try clear c12); (try clear c13); (try clear c14); (try clear c15); (try clear c16); (try clear c17); (try clear c18); (try clear c19); (try clear c19b0); (try clear c19b1); (try clear c19b2); (try clear c20); (try clear c20b0); (try clear c20b1); (try clear c21); (try clear c21b0); (try clear c21b1); (try clear c21b2); (try clear c22); (try clear c22b0); (try clear c22b1); (try clear c23); (try clear c23b0); (try clear c23b1); (try clear c23b2); (try clear c24); (try clear c24b0); (try clear c24b1); (try clear c25); (try clear c26); (try clear c28); (try clear c34); (try clear c35); (try clear c36); (try clear c37); (try clear c38); (try clear c39); (try clear c39b0); (try clear c39b1); (try clear c40); (try clear c41); (try clear c41b0); (try clear c41b1); (try clear c48); (try clear c50); (try clear c50b0); (try clear c50b1); (try clear c52); (try clear c53); (try clear c53b0); (try clear c53b1); (try clear c54); (try clear c54b0); (try clear c55); (try clear c56); (try clear c56b0); (try clear c56b1); (try clear c57); (try clear c59); (try clear c60); (try clear c60b0); (try clear c60b1); (try clear p64); (try clear c88); (try clear c88b0); (try clear c88b1); (try clear c88b2); (try clear c89); (try clear c89b0); (try clear c89b1); (try clear c90); (try clear c90b0); (try clear c90b1); (try clear c90b2); (try clear c91); (try clear c91b0); (try clear c91b1); (try clear c92); (try clear c92b0); (try clear c92b1); (try clear c92b2); (try clear c93); (try clear c93b0); (try clear c93b1); (try clear c94); (try clear c94b0); (try clear c94b1); (try clear c94b2); (try clear c95); (try clear c95b0); (try clear c95b1); (try clear c96); (try clear c97); (try clear c99); (try clear c102); (try clear c103); (try clear c103b0); (try clear c103b1); (try clear c104); (try clear c104b0); (try clear c104b1); (try clear c105); (try clear c105b0); (try clear c105b1); (try clear c105b2); (try clear c106); (try clear c106b0); (try clear c106b1); (try clear c107); (try clear c107b0); (try clear c107b1); (try clear c108); (try clear c108b0); (try clear c108b1); (try clear c109); (try clear c109b0); (try clear c109b1); (try clear c109b2); (try clear c112); (try clear c112b0); (try clear c112b1); (try clear c112b2); (try clear p2); (try clear p6); (try clear p64)
           obtain ⟨kq, HA, HJ97, HB⟩ := hcut
           cases kq with
           | zero => exact absurd HA.out (by simp [laws_FnPathsShift.j4])
           | succ kj97 =>
            have H := HA.out
            clear HA
            simp only [laws_FnPathsShift.j4] at H
            by_cases c115 : t425 = true
            rotate_left
            ·as_aux_lemma =>
             replace c115 := Bool.eq_false_iff.mpr c115
             subst c115
             rw [if_neg (show ¬ (false = true) by decide)] at H
             obtain rfl := Option.some.inj H
             go_wp2
             go_ret
             exact ⟨by first | rfl | (simp [errW_none, errW_some] <;> rfl) | (simp [*, errW_none, errW_some] <;> rfl), bb_⟩

            subst c115
            rw [if_pos rfl] at H
            by_cases c116 : t424 < 0
            ·rw [if_pos c116] at H
             exact absurd H (by simp)
            rw [if_neg c116] at H
            have c116b0 : decide (t424 < 0) = false := decide_eq_false c116
            clear c116
            by_cases c117 : t423 = 0
            rotate_left
            ·rw [if_neg c117] at H
             have c117b0 : (t423 == 0) = false := beq_eq_false_iff_ne.mpr c117
             have c117b1 : (t423 != 0) = true := bne_iff_ne.mpr c117
             by_cases c122 : (Int.tmod t423 2) = 1
             rotate_left
             ·as_aux_lemma =>
              rw [if_neg c122] at H
              have c122b0 : ((Int.tmod t423 2) == 1) = false := beq_eq_false_iff_ne.mpr c122
              have c122b1 : ((Int.tmod t423 2) != 1) = true := bne_iff_ne.mpr c122
              obtain rfl := Option.some.inj H
              go_wp2
              go_ret
              exact ⟨by first | rfl | (simp [errW_none, errW_some] <;> rfl) | (simp [*, errW_none, errW_some] <;> rfl), bb_⟩
             rw [if_pos c122] at H
             have c122b0 : ((Int.tmod t423 2) == 1) = true := beq_iff_eq.mpr c122
             have c122b1 : ((Int.tmod t423 2) != 1) = false := bne_eq_false_iff_eq.mpr c122
             clear c122
             by_cases c123 : t422 = 4
             rotate_left
             ·as_aux_lemma =>
              rw [if_neg c123] at H
              have c123b0 : (t422 == 4) = false := beq_eq_false_iff_ne.mpr c123
              have c123b1 : (t422 != 4) = true := bne_iff_ne.mpr c123
              obtain rfl := Option.some.inj H
              go_wp2
              go_ret
              exact ⟨by first | rfl | (simp [errW_none, errW_some] <;> rfl) | (simp [*, errW_none, errW_some] <;> rfl), bb_⟩
             rw [if_pos c123] at H
             have c123b0 : (t422 == 4) = true := beq_iff_eq.mpr c123
             have c123b1 : (t422 != 4) = false := bne_eq_false_iff_eq.mpr c123
             clear c123
             by_cases c124 : t424 = 0
             rotate_left
             ·rw [if_neg c124] at H
              exact absurd H (by simp)
             as_aux_lemma =>
             rw [if_pos c124] at H
             have c124b0 : (t424 == 0) = true := beq_iff_eq.mpr c124
             have c124b1 : (t424 != 0) = false := bne_eq_false_iff_eq.mpr c124
             clear c124
             obtain rfl := Option.some.inj H
             go_wp2
             go_ret
             exact ⟨by first | rfl | (simp [errW_none, errW_some] <;> rfl) | (simp [*, errW_none, errW_some] <;> rfl), bb_⟩
            rw [if_pos c117] at H
            have c117b0 : (t423 == 0) = true := beq_iff_eq.mpr c117
            have c117b1 : (t423 != 0) = false := bne_eq_false_iff_eq.mpr c117
            clear c117
            by_cases c118 : t424 = 1
            rotate_left
            ·rw [if_neg c118] at H
             exact absurd H (by simp)
            rw [if_pos c118] at H
            have c118b0 : (t424 == 1) = true := beq_iff_eq.mpr c118
            have c118b1 : (t424 != 1) = false := bne_eq_false_iff_eq.mpr c118
            clear c118
            by_cases c119 : (Int.tmod t423 2) = 1
            rotate_left
            ·as_aux_lemma =>
             rw [if_neg c119] at H
             have c119b0 : ((Int.tmod t423 2) == 1) = false := beq_eq_false_iff_ne.mpr c119
             have c119b1 : ((Int.tmod t423 2) != 1) = true := bne_iff_ne.mpr c119
             obtain rfl := Option.some.inj H
             go_wp2
             go_ret
             exact ⟨by first | rfl | (simp [errW_none, errW_some] <;> rfl) | (simp [*, errW_none, errW_some] <;> rfl), bb_⟩
            rw [if_pos c119] at H
            have c119b0 : ((Int.tmod t423 2) == 1) = true := beq_iff_eq.mpr c119
            have c119b1 : ((Int.tmod t423 2) != 1) = false := bne_eq_false_iff_eq.mpr c119
            clear c119
            by_cases c120 : t422 = 4
            rotate_left
            ·as_aux_lemma =>
             rw [if_neg c120] at H
             have c120b0 : (t422 == 4) = false := beq_eq_false_iff_ne.mpr c120
             have c120b1 : (t422 != 4) = true := bne_iff_ne.mpr c120
             obtain rfl := Option.some.inj H
             go_wp2
             go_ret
             exact ⟨by first | rfl | (simp [errW_none, errW_some] <;> rfl) | (simp [*, errW_none, errW_some] <;> rfl), bb_⟩
            rw [if_pos c120] at H
            have c120b0 : (t422 == 4) = true := beq_iff_eq.mpr c120
            have c120b1 : (t422 != 4) = false := bne_eq_false_iff_eq.mpr c120
            clear c120
            by_cases c121 : t424 = 0
            rotate_left
            ·rw [if_neg c121] at H
             exact absurd H (by simp)
            as_aux_lemma =>
            rw [if_pos c121] at H
            have c121b0 : (t424 == 0) = true := beq_iff_eq.mpr c121
            have c121b1 : (t424 != 0) = false := bne_eq_false_iff_eq.mpr c121
            clear c121
            obtain rfl := Option.some.inj H
            go_wp2
            go_ret
            exact ⟨by first | rfl | (simp [errW_none, errW_some] <;> rfl) | (simp [*, errW_none, errW_some] <;> rfl), bb_⟩
/-- THE ONE PURE STATEMENT of laws_FnPathsShift: yours. -/
def laws_FnPathsShift.Pure : Prop := ∀ (l0 : List Int) (l1 : List Int), l0.length ≤ maxLen → l0.length * 1 ≤ 140737488351232 → (∀ x ∈ l0, (Lit.int .u8 x).wf = true) → l1.length ≤ maxLen → l1.length * 1 ≤ 140737488351232 → (∀ x ∈ l1, (Lit.int .u8 x).wf = true) → ∃ k, laws_FnPathsShift.f k l0 l1 = some true
theorem laws_FnPathsShift.walk (P : laws_FnPathsShift.Pure) (a0 : Option Addr) (len0 cap0 : Nat) (z0 : List Int) (a1 : Option Addr) (len1 cap1 : Nat) (z1 : List Int) (w : World) (w0 : (a0 = none ∧ len0 = 0 ∧ cap0 = 0 ∧ z0 = []) ∨ ∃ x, a0 = some x ∧ len0 ≤ cap0 ∧ cap0 ≤ maxLen ∧ z0.length = cap0 ∧ (∀ i, i < z0.length → w.cell? (x.add i) = some (.int .u8 (z0.getD i 0))) ∧ ∀ n ∈ z0, (Lit.int .u8 n).wf = true) (y0 : len0 * 1 ≤ 140737488351232) (w1 : (a1 = none ∧ len1 = 0 ∧ cap1 = 0 ∧ z1 = []) ∨ ∃ x, a1 = some x ∧ len1 ≤ cap1 ∧ cap1 ≤ maxLen ∧ z1.length = cap1 ∧ (∀ i, i < z1.length → w.cell? (x.add i) = some (.int .u8 (z1.getD i 0))) ∧ ∀ n ∈ z1, (Lit.int .u8 n).wf = true) (y1 : len1 * 1 ≤ 140737488351232) :
  Calls Tryz.prog 3 #[.slice a0 len0 cap0, .slice a1 len1 cap1] w fun e w' => e = .returned (.bool true) ∧ Below w.heap.size w w' := by
 obtain ⟨l0, rfl, hr0, hm0, hw0, hc0⟩ := ReadsInt.ofRowC w0
 obtain ⟨l1, rfl, hr1, hm1, hw1, hc1⟩ := ReadsInt.ofRowC w1
 obtain ⟨k, h⟩ := P l0 l1 hm0 y0 hw0 hm1 y1 hw1
 refine (laws_FnPathsShift.calls k _ _ l0 _ _ l1 true w (Kd.C_of_reads (d := (0 : Int)) (h1 := fun _ => rfl) hr0) hc0 (Kd.C_of_reads (d := (0 : Int)) (h1 := fun _ => rfl) hr1) hc1 h).mono ?_
 rintro e w' ⟨rfl, hd⟩
 exact ⟨rfl, hd⟩

end Go.Proofs.YtfpjakkjkakjoaaGreatDoor.P
