/- A part of this seat's proofs: contracts of the translated functions, written by the session's own program (gp.py) out of the kit's print.py and the session's own contracts; no conditions of its own. -/
import Derived.Test.YtkbioklfdfopmaaPx0
import Derived.Test.YtkbioklfdfopmaaPx1
import Derived.Test.YtkbioklfdfopmaaPx2
import Derived.Test.YtkbioklfdfopmaaPx3
namespace Go.Proofs.Ytkbioklfdfopmaa.P
open Go.RowKit Go.Proofs.YtkbioklfdfopmaaW.PrintWords Go.Proofs.YtkbioklfdfopmaaW.PrintLast Go.Proofs.YtkbioklfdfopmaaW.PrintMore
attribute [local go_sem] max2_int min2_int max_two min_two max_three min_three max_four min_four   -- for this text's walks alone
set_option linter.unusedVariables false
set_option linter.unusedSimpArgs false

attribute [local go_sem high] eqA32
/-! ### laws_FnGearsRoll: function 3 -/
mutual
def laws_FnGearsRoll.j0 : Nat → List Int → Int → Int → List Int → Bool → Int → Int → Bool → Bool → Int → Int → Option (Bool)
  | 0, _, _, _, _, _, _, _, _, _, _, _ => none
  | k + 1, x1, x5, x6, x7, x8, x11, x15, x20, x193, x310000, x310001 => if x193 = true then (none) else (if x8 = true then ((impl_SpinsOf.f x5 x6 true).bind fun bt315 => ((impl_SpinsOf.f x5 x6 false).bind fun bt317 => (if (x7.length : Int) = x11 then (if (wrap64 (x11 * x6)) = (wrap64 (x15 * x5)) then (if bt315.2 = true then (if bt315.1 = (wrap64 (x11 - x15)) then (if bt317.2 = true then (if bt317.1 = (wrap64 (x11 + x15)) then (if x11 = 0 then (none) else (laws_FnGearsRoll.l0 k x1 x5 x6 x20 (wrap64 (Int.tdiv x5 x11)) x7 (x7.length : Int) 0 x310000 x310001)) else (none)) else (none)) else (none)) else (none)) else (none)) else (none)))) else (laws_FnGearsRoll.j2 k x1))
def laws_FnGearsRoll.j2 : Nat → List Int → Option (Bool)
  | 0, _ => none
  | k + 1, x1 => (spec_DrawSpinsOf.f x1).bind fun bt327 => ((impl_SpinsOf.f bt327.1 bt327.2.1 bt327.2.2).bind fun bt330 => ((spec_SpinsOf.f bt327.1 bt327.2.1 bt327.2.2).bind fun bt332 => ((spec_DrawTeethAt.f x1).bind fun bt334 => ((impl_TeethAt.f bt334.1 bt334.2.1 bt334.2.2).bind fun bt337 => ((spec_TeethAt.f bt334.1 bt334.2.1 bt334.2.2).bind fun bt340 => ((spec_DrawSameCusps.f x1).bind fun bt343 => ((impl_SameCusps.f bt343.1 bt343.2.1 bt343.2.2).bind fun bt346 => ((spec_SameCusps.f k bt343.1 bt343.2.1 bt343.2.2).bind fun bt348 => ((spec_DrawWheelsFor.f x1).bind fun bt350 => ((impl_WheelsFor.f bt350.1 bt350.2).bind fun bt352 => ((spec_WheelsFor.f k bt350.1 bt350.2).bind fun bt356 => (if (bt330.2 != bt332.2) = true then (none) else (if bt330.1 = bt332.1 then (if (bt337.2.2 != bt340.2.2) = true then (none) else (if bt337.1 = bt340.1 then (if bt337.2.1 = bt340.2.1 then (if (bt346.2 != bt348.2) = true then (none) else (if (bt346.1 != bt348.1) = true then (none) else (if (bt352.2 != bt356.2) = true then (none) else ((laws_uSame.f k bt352.1 bt356.1).bind fun t360 => (if t360 = true then (if bt346.2 = true then ((impl_CuspsOf.f k bt343.1 bt343.2.1).bind fun bt361 => ((impl_CuspsOf.f k bt343.1 bt343.2.2).bind fun bt365 => (if bt361.2 = true then (if bt365.2 = true then (laws_FnGearsRoll.l1 k bt346.1 bt350.1 bt350.2 bt352.1 bt352.2 bt365.1 ((bt361.1.length : Int) == (bt365.1.length : Int)) bt361.1 (bt361.1.length : Int) 0) else (none)) else (none)))) else (laws_FnGearsRoll.j4 k bt350.1 bt350.2 bt352.1 bt352.2)) else (none)))))) else (none)) else (none))) else (none))))))))))))))
def laws_FnGearsRoll.j4 : Nat → Int → Int → List Int → Bool → Option (Bool)
  | 0, _, _, _, _ => none
  | k + 1, x60, x61, x62, x63 => if x63 = true then ((laws_uRises.f k x62).bind fun t371 => (if t371 = true then (laws_FnGearsRoll.l2 k x60 x61 x62 1) else (none))) else (some true)
def laws_FnGearsRoll.l2 : Nat → Int → Int → List Int → Int → Option (Bool)
  | 0, _, _, _, _ => none
  | k + 1, x60, x61, x62, x73 => if x73 < x60 then ((impl_PetalsOf.f x60 x73).bind fun bt372 => (if bt372.2 = true then ((laws_uHas.f k x62 x73).bind fun t374 => (if (t374 != (bt372.1 == x61)) = true then (none) else (laws_FnGearsRoll.l2 k x60 x61 x62 (wrap64 (x73 + 1))))) else (none))) else (some true)
def laws_FnGearsRoll.l1 : Nat → Bool → Int → Int → List Int → Bool → List Int → Bool → List Int → Int → Int → Option (Bool)
  | 0, _, _, _, _, _, _, _, _, _, _ => none
  | k + 1, x56, x60, x61, x62, x63, x68, x70, x458, x459, x460 => if x460 < x459 then (if 0 ≤ x460 then (if x460 < (x458.length : Int) then (if x70 = true then ((laws_uHas.f k x68 (rd x458 x460)).bind fun t370 => (laws_FnGearsRoll.l1 k x56 x60 x61 x62 x63 x68 t370 x458 x459 (wrap64 (x460 + 1)))) else (laws_FnGearsRoll.l1 k x56 x60 x61 x62 x63 x68 false x458 x459 (wrap64 (x460 + 1)))) else (none)) else (none)) else (if (x70 != x56) = true then (none) else (laws_FnGearsRoll.j4 k x60 x61 x62 x63))
def laws_FnGearsRoll.l0 : Nat → List Int → Int → Int → Bool → Int → List Int → Int → Int → Int → Int → Option (Bool)
  | 0, _, _, _, _, _, _, _, _, _, _ => none
  | k + 1, x1, x5, x6, x20, x27, x245, x246, x247, x310000, x310001 => if x247 < x246 then (if 0 ≤ x247 then (if x247 < (x245.length : Int) then ((impl_TeethAt.f x5 x6 (wrap64 (x247 * x6))).bind fun bt320 => ((impl_DoMeet.f x5 x6 (rd x245 x247) 0).bind fun bt323 => (if x27 = 0 then (none) else (if (Int.tmod (rd x245 x247) x27) = 0 then (if bt320.2.2 = true then (if bt320.1 = (rd x245 x247) then (if bt320.2.1 = 0 then (if bt323.2 = true then (if bt323.1 = true then (if x20 = true then ((impl_PointAfter.f x310000 x310001 0 x247).bind fun bt325 => (if bt325.2 = true then (if (wrap64 (bt325.1 * x27)) = (rd x245 x247) then (laws_FnGearsRoll.l0 k x1 x5 x6 x20 x27 x245 x246 (wrap64 (x247 + 1)) x310000 x310001) else (none)) else (none))) else (laws_FnGearsRoll.l0 k x1 x5 x6 x20 x27 x245 x246 (wrap64 (x247 + 1)) x310000 x310001)) else (none)) else (none)) else (none)) else (none)) else (none)) else (none))))) else (none)) else (none)) else (laws_FnGearsRoll.j2 k x1)
end
def laws_FnGearsRoll.f (k : Nat) (l0 : List Int) (l1 : List Int) : Option (Bool) := (laws_big.f l0 l1).bind fun t287 => (if t287 = true then (some true) else ((spec_DrawCuspsOf.f l0).bind fun bt288 => ((impl_CuspsOf.f k bt288.1 bt288.2).bind fun bt290 => ((spec_CuspsOf.f k bt288.1 bt288.2).bind fun bt294 => ((impl_PetalsOf.f bt288.1 bt288.2).bind fun bt298 => ((spec_PetalsOf.f bt288.1 bt288.2).bind fun bt300 => ((impl_RoundsOf.f bt288.1 bt288.2).bind fun bt302 => ((spec_RoundsOf.f bt288.1 bt288.2).bind fun bt304 => ((impl_StarOfGears.f bt288.1 bt288.2).bind fun bt306 => ((spec_StarOfGears.f bt288.1 bt288.2).bind fun bt310 => (if (bt290.2 != bt294.2) = true then (none) else ((laws_uSame.f k bt290.1 bt294.1).bind fun t314 => (if t314 = true then (if (bt298.2 != bt300.2) = true then (none) else (if bt298.1 = bt300.1 then (if (bt302.2 != bt304.2) = true then (none) else (if bt302.1 = bt304.1 then (if (bt306.2.2 != bt310.2.2) = true then (none) else (if (!(bt306.1 == bt310.1) || (!(bt306.2.1 == bt310.2.1))) = true then (none) else (if (bt298.2 != bt290.2) = true then (none) else (if (bt302.2 != bt290.2) = true then (none) else (if bt290.2 = true then (if bt298.1 ≥ 3 then (laws_FnGearsRoll.j0 k l1 bt288.1 bt288.2 bt290.1 bt290.2 bt298.1 bt302.1 bt306.2.2 (bt306.2.2 != (decide (bt298.1 ≤ 60))) bt306.1 bt306.2.1) else (laws_FnGearsRoll.j0 k l1 bt288.1 bt288.2 bt290.1 bt290.2 bt298.1 bt302.1 bt306.2.2 (bt306.2.2 != false) bt306.1 bt306.2.1)) else (laws_FnGearsRoll.j0 k l1 bt288.1 bt288.2 bt290.1 bt290.2 bt298.1 bt302.1 bt306.2.2 (bt306.2.2 != false) bt306.1 bt306.2.1)))))) else (none))) else (none))) else (none))))))))))))))
theorem laws_FnGearsRoll.mono_l : ∀ k, (∀ y0 y1 y2 y3 y4 y5 y6 y7 y8 y9 y10, LeO (laws_FnGearsRoll.j0 k y0 y1 y2 y3 y4 y5 y6 y7 y8 y9 y10) (laws_FnGearsRoll.j0 (k + 1) y0 y1 y2 y3 y4 y5 y6 y7 y8 y9 y10)) ∧ (∀ y0, LeO (laws_FnGearsRoll.j2 k y0) (laws_FnGearsRoll.j2 (k + 1) y0)) ∧ (∀ y0 y1 y2 y3, LeO (laws_FnGearsRoll.j4 k y0 y1 y2 y3) (laws_FnGearsRoll.j4 (k + 1) y0 y1 y2 y3)) ∧ (∀ y0 y1 y2 y3, LeO (laws_FnGearsRoll.l2 k y0 y1 y2 y3) (laws_FnGearsRoll.l2 (k + 1) y0 y1 y2 y3)) ∧ (∀ y0 y1 y2 y3 y4 y5 y6 y7 y8 y9, LeO (laws_FnGearsRoll.l1 k y0 y1 y2 y3 y4 y5 y6 y7 y8 y9) (laws_FnGearsRoll.l1 (k + 1) y0 y1 y2 y3 y4 y5 y6 y7 y8 y9)) ∧ (∀ y0 y1 y2 y3 y4 y5 y6 y7 y8 y9, LeO (laws_FnGearsRoll.l0 k y0 y1 y2 y3 y4 y5 y6 y7 y8 y9) (laws_FnGearsRoll.l0 (k + 1) y0 y1 y2 y3 y4 y5 y6 y7 y8 y9))
  | 0 => ⟨fun _ _ _ _ _ _ _ _ _ _ _ r h => by simp [laws_FnGearsRoll.j0] at h, fun _ r h => by simp [laws_FnGearsRoll.j2] at h, fun _ _ _ _ r h => by simp [laws_FnGearsRoll.j4] at h, fun _ _ _ _ r h => by simp [laws_FnGearsRoll.l2] at h, fun _ _ _ _ _ _ _ _ _ _ r h => by simp [laws_FnGearsRoll.l1] at h, fun _ _ _ _ _ _ _ _ _ _ r h => by simp [laws_FnGearsRoll.l0] at h⟩
  | k + 1 => by
    obtain ⟨ih0, ih1, ih2, ih3, ih4, ih5⟩ := laws_FnGearsRoll.mono_l k
    refine ⟨?_, ?_, ?_, ?_, ?_, ?_⟩
    · intro y0 y1 y2 y3 y4 y5 y6 y7 y8 y9 y10
      unfold laws_FnGearsRoll.j0
      repeat' first
      | (with_reducible exact ih0 _ _ _ _ _ _ _ _ _ _ _)
      | (with_reducible exact ih1 _)
      | (with_reducible exact ih2 _ _ _ _)
      | (with_reducible exact ih3 _ _ _ _)
      | (with_reducible exact ih4 _ _ _ _ _ _ _ _ _ _)
      | (with_reducible exact ih5 _ _ _ _ _ _ _ _ _ _)
      | (with_reducible exact impl_CuspsOf.mono _ _ _)
      | (with_reducible exact laws_uHas.mono _ _ _)
      | (with_reducible exact laws_uRises.mono _ _)
      | (with_reducible exact laws_uSame.mono _ _ _)
      | (with_reducible exact spec_CuspsOf.mono _ _ _)
      | (with_reducible exact spec_SameCusps.mono _ _ _ _)
      | (with_reducible exact spec_WheelsFor.mono _ _ _)
      | (with_reducible exact LeO.refl _)
      | (with_reducible exact LeO.none _)
      | (with_reducible refine LeO.ite ?_ ?_)
      | (with_reducible refine LeO.bind ?_ (fun _ => ?_))
      | exact ih0 _ _ _ _ _ _ _ _ _ _ _
      | exact ih1 _
      | exact ih2 _ _ _ _
      | exact ih3 _ _ _ _
      | exact ih4 _ _ _ _ _ _ _ _ _ _
      | exact ih5 _ _ _ _ _ _ _ _ _ _
      | exact impl_CuspsOf.mono _ _ _
      | exact laws_uHas.mono _ _ _
      | exact laws_uRises.mono _ _
      | exact laws_uSame.mono _ _ _
      | exact spec_CuspsOf.mono _ _ _
      | exact spec_SameCusps.mono _ _ _ _
      | exact spec_WheelsFor.mono _ _ _
      | exact LeO.none _
      | refine LeO.ite ?_ ?_
      | refine LeO.bind ?_ (fun _ => ?_)
    · intro y0
      unfold laws_FnGearsRoll.j2
      repeat' first
      | (with_reducible exact ih0 _ _ _ _ _ _ _ _ _ _ _)
      | (with_reducible exact ih1 _)
      | (with_reducible exact ih2 _ _ _ _)
      | (with_reducible exact ih3 _ _ _ _)
      | (with_reducible exact ih4 _ _ _ _ _ _ _ _ _ _)
      | (with_reducible exact ih5 _ _ _ _ _ _ _ _ _ _)
      | (with_reducible exact impl_CuspsOf.mono _ _ _)
      | (with_reducible exact laws_uHas.mono _ _ _)
      | (with_reducible exact laws_uRises.mono _ _)
      | (with_reducible exact laws_uSame.mono _ _ _)
      | (with_reducible exact spec_CuspsOf.mono _ _ _)
      | (with_reducible exact spec_SameCusps.mono _ _ _ _)
      | (with_reducible exact spec_WheelsFor.mono _ _ _)
      | (with_reducible exact LeO.refl _)
      | (with_reducible exact LeO.none _)
      | (with_reducible refine LeO.ite ?_ ?_)
      | (with_reducible refine LeO.bind ?_ (fun _ => ?_))
      | exact ih0 _ _ _ _ _ _ _ _ _ _ _
      | exact ih1 _
      | exact ih2 _ _ _ _
      | exact ih3 _ _ _ _
      | exact ih4 _ _ _ _ _ _ _ _ _ _
      | exact ih5 _ _ _ _ _ _ _ _ _ _
      | exact impl_CuspsOf.mono _ _ _
      | exact laws_uHas.mono _ _ _
      | exact laws_uRises.mono _ _
      | exact laws_uSame.mono _ _ _
      | exact spec_CuspsOf.mono _ _ _
      | exact spec_SameCusps.mono _ _ _ _
      | exact spec_WheelsFor.mono _ _ _
      | exact LeO.none _
      | refine LeO.ite ?_ ?_
      | refine LeO.bind ?_ (fun _ => ?_)
    · intro y0 y1 y2 y3
      unfold laws_FnGearsRoll.j4
      repeat' first
      | (with_reducible exact ih0 _ _ _ _ _ _ _ _ _ _ _)
      | (with_reducible exact ih1 _)
      | (with_reducible exact ih2 _ _ _ _)
      | (with_reducible exact ih3 _ _ _ _)
      | (with_reducible exact ih4 _ _ _ _ _ _ _ _ _ _)
      | (with_reducible exact ih5 _ _ _ _ _ _ _ _ _ _)
      | (with_reducible exact impl_CuspsOf.mono _ _ _)
      | (with_reducible exact laws_uHas.mono _ _ _)
      | (with_reducible exact laws_uRises.mono _ _)
      | (with_reducible exact laws_uSame.mono _ _ _)
      | (with_reducible exact spec_CuspsOf.mono _ _ _)
      | (with_reducible exact spec_SameCusps.mono _ _ _ _)
      | (with_reducible exact spec_WheelsFor.mono _ _ _)
      | (with_reducible exact LeO.refl _)
      | (with_reducible exact LeO.none _)
      | (with_reducible refine LeO.ite ?_ ?_)
      | (with_reducible refine LeO.bind ?_ (fun _ => ?_))
      | exact ih0 _ _ _ _ _ _ _ _ _ _ _
      | exact ih1 _
      | exact ih2 _ _ _ _
      | exact ih3 _ _ _ _
      | exact ih4 _ _ _ _ _ _ _ _ _ _
      | exact ih5 _ _ _ _ _ _ _ _ _ _
      | exact impl_CuspsOf.mono _ _ _
      | exact laws_uHas.mono _ _ _
      | exact laws_uRises.mono _ _
      | exact laws_uSame.mono _ _ _
      | exact spec_CuspsOf.mono _ _ _
      | exact spec_SameCusps.mono _ _ _ _
      | exact spec_WheelsFor.mono _ _ _
      | exact LeO.none _
      | refine LeO.ite ?_ ?_
      | refine LeO.bind ?_ (fun _ => ?_)
    · intro y0 y1 y2 y3
      unfold laws_FnGearsRoll.l2
      repeat' first
      | (with_reducible exact ih0 _ _ _ _ _ _ _ _ _ _ _)
      | (with_reducible exact ih1 _)
      | (with_reducible exact ih2 _ _ _ _)
      | (with_reducible exact ih3 _ _ _ _)
      | (with_reducible exact ih4 _ _ _ _ _ _ _ _ _ _)
      | (with_reducible exact ih5 _ _ _ _ _ _ _ _ _ _)
      | (with_reducible exact impl_CuspsOf.mono _ _ _)
      | (with_reducible exact laws_uHas.mono _ _ _)
      | (with_reducible exact laws_uRises.mono _ _)
      | (with_reducible exact laws_uSame.mono _ _ _)
      | (with_reducible exact spec_CuspsOf.mono _ _ _)
      | (with_reducible exact spec_SameCusps.mono _ _ _ _)
      | (with_reducible exact spec_WheelsFor.mono _ _ _)
      | (with_reducible exact LeO.refl _)
      | (with_reducible exact LeO.none _)
      | (with_reducible refine LeO.ite ?_ ?_)
      | (with_reducible refine LeO.bind ?_ (fun _ => ?_))
      | exact ih0 _ _ _ _ _ _ _ _ _ _ _
      | exact ih1 _
      | exact ih2 _ _ _ _
      | exact ih3 _ _ _ _
      | exact ih4 _ _ _ _ _ _ _ _ _ _
      | exact ih5 _ _ _ _ _ _ _ _ _ _
      | exact impl_CuspsOf.mono _ _ _
      | exact laws_uHas.mono _ _ _
      | exact laws_uRises.mono _ _
      | exact laws_uSame.mono _ _ _
      | exact spec_CuspsOf.mono _ _ _
      | exact spec_SameCusps.mono _ _ _ _
      | exact spec_WheelsFor.mono _ _ _
      | exact LeO.none _
      | refine LeO.ite ?_ ?_
      | refine LeO.bind ?_ (fun _ => ?_)
    · intro y0 y1 y2 y3 y4 y5 y6 y7 y8 y9
      unfold laws_FnGearsRoll.l1
      repeat' first
      | (with_reducible exact ih0 _ _ _ _ _ _ _ _ _ _ _)
      | (with_reducible exact ih1 _)
      | (with_reducible exact ih2 _ _ _ _)
      | (with_reducible exact ih3 _ _ _ _)
      | (with_reducible exact ih4 _ _ _ _ _ _ _ _ _ _)
      | (with_reducible exact ih5 _ _ _ _ _ _ _ _ _ _)
      | (with_reducible exact impl_CuspsOf.mono _ _ _)
      | (with_reducible exact laws_uHas.mono _ _ _)
      | (with_reducible exact laws_uRises.mono _ _)
      | (with_reducible exact laws_uSame.mono _ _ _)
      | (with_reducible exact spec_CuspsOf.mono _ _ _)
      | (with_reducible exact spec_SameCusps.mono _ _ _ _)
      | (with_reducible exact spec_WheelsFor.mono _ _ _)
      | (with_reducible exact LeO.refl _)
      | (with_reducible exact LeO.none _)
      | (with_reducible refine LeO.ite ?_ ?_)
      | (with_reducible refine LeO.bind ?_ (fun _ => ?_))
      | exact ih0 _ _ _ _ _ _ _ _ _ _ _
      | exact ih1 _
      | exact ih2 _ _ _ _
      | exact ih3 _ _ _ _
      | exact ih4 _ _ _ _ _ _ _ _ _ _
      | exact ih5 _ _ _ _ _ _ _ _ _ _
      | exact impl_CuspsOf.mono _ _ _
      | exact laws_uHas.mono _ _ _
      | exact laws_uRises.mono _ _
      | exact laws_uSame.mono _ _ _
      | exact spec_CuspsOf.mono _ _ _
      | exact spec_SameCusps.mono _ _ _ _
      | exact spec_WheelsFor.mono _ _ _
      | exact LeO.none _
      | refine LeO.ite ?_ ?_
      | refine LeO.bind ?_ (fun _ => ?_)
    · intro y0 y1 y2 y3 y4 y5 y6 y7 y8 y9
      unfold laws_FnGearsRoll.l0
      repeat' first
      | (with_reducible exact ih0 _ _ _ _ _ _ _ _ _ _ _)
      | (with_reducible exact ih1 _)
      | (with_reducible exact ih2 _ _ _ _)
      | (with_reducible exact ih3 _ _ _ _)
      | (with_reducible exact ih4 _ _ _ _ _ _ _ _ _ _)
      | (with_reducible exact ih5 _ _ _ _ _ _ _ _ _ _)
      | (with_reducible exact impl_CuspsOf.mono _ _ _)
      | (with_reducible exact laws_uHas.mono _ _ _)
      | (with_reducible exact laws_uRises.mono _ _)
      | (with_reducible exact laws_uSame.mono _ _ _)
      | (with_reducible exact spec_CuspsOf.mono _ _ _)
      | (with_reducible exact spec_SameCusps.mono _ _ _ _)
      | (with_reducible exact spec_WheelsFor.mono _ _ _)
      | (with_reducible exact LeO.refl _)
      | (with_reducible exact LeO.none _)
      | (with_reducible refine LeO.ite ?_ ?_)
      | (with_reducible refine LeO.bind ?_ (fun _ => ?_))
      | exact ih0 _ _ _ _ _ _ _ _ _ _ _
      | exact ih1 _
      | exact ih2 _ _ _ _
      | exact ih3 _ _ _ _
      | exact ih4 _ _ _ _ _ _ _ _ _ _
      | exact ih5 _ _ _ _ _ _ _ _ _ _
      | exact impl_CuspsOf.mono _ _ _
      | exact laws_uHas.mono _ _ _
      | exact laws_uRises.mono _ _
      | exact laws_uSame.mono _ _ _
      | exact spec_CuspsOf.mono _ _ _
      | exact spec_SameCusps.mono _ _ _ _
      | exact spec_WheelsFor.mono _ _ _
      | exact LeO.none _
      | refine LeO.ite ?_ ?_
      | refine LeO.bind ?_ (fun _ => ?_)
theorem laws_FnGearsRoll.mono : ∀ a0 a1 k, LeO (laws_FnGearsRoll.f k a0 a1) (laws_FnGearsRoll.f (k + 1) a0 a1) := by
  intro a0 a1 k
  obtain ⟨ih0, ih1, ih2, ih3, ih4, ih5⟩ := laws_FnGearsRoll.mono_l k
  unfold laws_FnGearsRoll.f
  repeat' first
      | (with_reducible exact ih0 _ _ _ _ _ _ _ _ _ _ _)
      | (with_reducible exact ih1 _)
      | (with_reducible exact ih2 _ _ _ _)
      | (with_reducible exact ih3 _ _ _ _)
      | (with_reducible exact ih4 _ _ _ _ _ _ _ _ _ _)
      | (with_reducible exact ih5 _ _ _ _ _ _ _ _ _ _)
      | (with_reducible exact impl_CuspsOf.mono _ _ _)
      | (with_reducible exact laws_uHas.mono _ _ _)
      | (with_reducible exact laws_uRises.mono _ _)
      | (with_reducible exact laws_uSame.mono _ _ _)
      | (with_reducible exact spec_CuspsOf.mono _ _ _)
      | (with_reducible exact spec_SameCusps.mono _ _ _ _)
      | (with_reducible exact spec_WheelsFor.mono _ _ _)
      | (with_reducible exact LeO.refl _)
      | (with_reducible exact LeO.none _)
      | (with_reducible refine LeO.ite ?_ ?_)
      | (with_reducible refine LeO.bind ?_ (fun _ => ?_))
      | exact ih0 _ _ _ _ _ _ _ _ _ _ _
      | exact ih1 _
      | exact ih2 _ _ _ _
      | exact ih3 _ _ _ _
      | exact ih4 _ _ _ _ _ _ _ _ _ _
      | exact ih5 _ _ _ _ _ _ _ _ _ _
      | exact impl_CuspsOf.mono _ _ _
      | exact laws_uHas.mono _ _ _
      | exact laws_uRises.mono _ _
      | exact laws_uSame.mono _ _ _
      | exact spec_CuspsOf.mono _ _ _
      | exact spec_SameCusps.mono _ _ _ _
      | exact spec_WheelsFor.mono _ _ _
      | exact LeO.none _
      | refine LeO.ite ?_ ?_
      | refine LeO.bind ?_ (fun _ => ?_)
set_option maxHeartbeats 8000000 in
set_option maxRecDepth 100000 in
theorem laws_FnGearsRoll.calls (k : Nat) (A0 : Option Addr) (c0 : Nat) (l0 : List Int) (A1 : Option Addr) (c1 : Nat) (l1 : List Int) (r : Bool) (w : World) (hr0 : Kd.C (Kd.int .u8) w A0 l0.length l0) (hc0 : l0.length ≤ c0) (hr1 : Kd.C (Kd.int .u8) w A1 l1.length l1) (hc1 : l1.length ≤ c1) (h : laws_FnGearsRoll.f k l0 l1 = some r) :
    Calls Try.prog 3 #[.slice A0 l0.length c0, .slice A1 l1.length c1] w fun e w' => e = .returned (.bool r) ∧ Below w.heap.size w w' := by
  have hu32 := Try.underlying32
  have HR0 := Aside0.mk hr0
  have HC0 := Aside0.mk hc0
  clear hr0 hc0
  have HR1 := Aside0.mk hr1
  have HC1 := Aside0.mk hc1
  clear hr1 hc1
  have HB := Aside0.mk (Below.refl w.heap.size w)
  have H : ((laws_big.f l0 l1).bind fun t287 => (if t287 = true then (some true) else ((spec_DrawCuspsOf.f l0).bind fun bt288 => ((impl_CuspsOf.f k bt288.1 bt288.2).bind fun bt290 => ((spec_CuspsOf.f k bt288.1 bt288.2).bind fun bt294 => ((impl_PetalsOf.f bt288.1 bt288.2).bind fun bt298 => ((spec_PetalsOf.f bt288.1 bt288.2).bind fun bt300 => ((impl_RoundsOf.f bt288.1 bt288.2).bind fun bt302 => ((spec_RoundsOf.f bt288.1 bt288.2).bind fun bt304 => ((impl_StarOfGears.f bt288.1 bt288.2).bind fun bt306 => ((spec_StarOfGears.f bt288.1 bt288.2).bind fun bt310 => (if (bt290.2 != bt294.2) = true then (none) else ((laws_uSame.f k bt290.1 bt294.1).bind fun t314 => (if t314 = true then (if (bt298.2 != bt300.2) = true then (none) else (if bt298.1 = bt300.1 then (if (bt302.2 != bt304.2) = true then (none) else (if bt302.1 = bt304.1 then (if (bt306.2.2 != bt310.2.2) = true then (none) else (if (!(bt306.1 == bt310.1) || (!(bt306.2.1 == bt310.2.1))) = true then (none) else (if (bt298.2 != bt290.2) = true then (none) else (if (bt302.2 != bt290.2) = true then (none) else (if bt290.2 = true then (if bt298.1 ≥ 3 then (laws_FnGearsRoll.j0 k l1 bt288.1 bt288.2 bt290.1 bt290.2 bt298.1 bt302.1 bt306.2.2 (bt306.2.2 != (decide (bt298.1 ≤ 60))) bt306.1 bt306.2.1) else (laws_FnGearsRoll.j0 k l1 bt288.1 bt288.2 bt290.1 bt290.2 bt298.1 bt302.1 bt306.2.2 (bt306.2.2 != false) bt306.1 bt306.2.1)) else (laws_FnGearsRoll.j0 k l1 bt288.1 bt288.2 bt290.1 bt290.2 bt298.1 bt302.1 bt306.2.2 (bt306.2.2 != false) bt306.1 bt306.2.1)))))) else (none))) else (none))) else (none))))))))))))))) = some r := h
  clear h
  replace H := Option.bind_eq_some_iff.mp H
  obtain ⟨t287, A30, H⟩ := H
  replace H : (if t287 = true then (some true) else ((spec_DrawCuspsOf.f l0).bind fun bt288 => ((impl_CuspsOf.f k bt288.1 bt288.2).bind fun bt290 => ((spec_CuspsOf.f k bt288.1 bt288.2).bind fun bt294 => ((impl_PetalsOf.f bt288.1 bt288.2).bind fun bt298 => ((spec_PetalsOf.f bt288.1 bt288.2).bind fun bt300 => ((impl_RoundsOf.f bt288.1 bt288.2).bind fun bt302 => ((spec_RoundsOf.f bt288.1 bt288.2).bind fun bt304 => ((impl_StarOfGears.f bt288.1 bt288.2).bind fun bt306 => ((spec_StarOfGears.f bt288.1 bt288.2).bind fun bt310 => (if (bt290.2 != bt294.2) = true then (none) else ((laws_uSame.f k bt290.1 bt294.1).bind fun t314 => (if t314 = true then (if (bt298.2 != bt300.2) = true then (none) else (if bt298.1 = bt300.1 then (if (bt302.2 != bt304.2) = true then (none) else (if bt302.1 = bt304.1 then (if (bt306.2.2 != bt310.2.2) = true then (none) else (if (!(bt306.1 == bt310.1) || (!(bt306.2.1 == bt310.2.1))) = true then (none) else (if (bt298.2 != bt290.2) = true then (none) else (if (bt302.2 != bt290.2) = true then (none) else (if bt290.2 = true then (if bt298.1 ≥ 3 then (laws_FnGearsRoll.j0 k l1 bt288.1 bt288.2 bt290.1 bt290.2 bt298.1 bt302.1 bt306.2.2 (bt306.2.2 != (decide (bt298.1 ≤ 60))) bt306.1 bt306.2.1) else (laws_FnGearsRoll.j0 k l1 bt288.1 bt288.2 bt290.1 bt290.2 bt298.1 bt302.1 bt306.2.2 (bt306.2.2 != false) bt306.1 bt306.2.1)) else (laws_FnGearsRoll.j0 k l1 bt288.1 bt288.2 bt290.1 bt290.2 bt298.1 bt302.1 bt306.2.2 (bt306.2.2 != false) bt306.1 bt306.2.1)))))) else (none))) else (none))) else (none)))))))))))))) = some r := H
  have A3 := Aside0.mk A30
  clear A30
  by_cases c4 : t287 = true
  · as_aux_lemma =>
    subst c4
    have H1 : (some true) = some r := by rw [if_pos rfl] at H; exact H
    clear H
    have H := H1
    clear H1
    obtain rfl := Option.some.inj H
    go_enter Try.func3, Try.ntmps3
    go_wp2_with (first | ((with_reducible refine gate_callee (f := 4) rfl ?_); refine goesL_ (some 78) rfl rfl Try.func4 (by kernel_rfl) rfl #[.slice A0 l0.length c0, .slice A1 l1.length c1] rfl (by (try simp only [List.map_toArray, List.map_cons, List.map_nil]); first | done | rfl | (simp only [List.length_drop, List.length_take]; rfl)) ?_; (with_reducible refine (laws_big.calls _ _ l0 _ _ l1 true _ ?side1 ?side2 ?side3 ?side4 A3.out).mono ?_); (case side1 => repeat (first | exact HR0.out | (with_reducible refine Kd.C_alloc ?_ _) | (with_reducible refine Kd.C_drewN ?_ _) | (with_reducible refine Kd.C_drew ?_))); (case side2 => exact HC0.out); (case side3 => repeat (first | exact HR1.out | (with_reducible refine Kd.C_alloc ?_ _) | (with_reducible refine Kd.C_drewN ?_ _) | (with_reducible refine Kd.C_drew ?_))); (case side4 => exact HC1.out); rintro e w' ⟨rfl, ⟨nd, rfl⟩⟩; refine ⟨_, rfl, ?_⟩))
    go_ret
    exact ⟨by first | rfl | (simp [errW_none, errW_some] <;> rfl) | (simp [*, errW_none, errW_some] <;> rfl), by repeat (first | (with_reducible first | exact HB.out | apply below_alloc | apply pw_below_drewN | apply below_drew1) | exact HB.out)⟩
  · as_aux_lemma =>
    replace c4 := Bool.eq_false_iff.mpr c4
    subst c4
    have H1 : ((spec_DrawCuspsOf.f l0).bind fun bt288 => ((impl_CuspsOf.f k bt288.1 bt288.2).bind fun bt290 => ((spec_CuspsOf.f k bt288.1 bt288.2).bind fun bt294 => ((impl_PetalsOf.f bt288.1 bt288.2).bind fun bt298 => ((spec_PetalsOf.f bt288.1 bt288.2).bind fun bt300 => ((impl_RoundsOf.f bt288.1 bt288.2).bind fun bt302 => ((spec_RoundsOf.f bt288.1 bt288.2).bind fun bt304 => ((impl_StarOfGears.f bt288.1 bt288.2).bind fun bt306 => ((spec_StarOfGears.f bt288.1 bt288.2).bind fun bt310 => (if (bt290.2 != bt294.2) = true then (none) else ((laws_uSame.f k bt290.1 bt294.1).bind fun t314 => (if t314 = true then (if (bt298.2 != bt300.2) = true then (none) else (if bt298.1 = bt300.1 then (if (bt302.2 != bt304.2) = true then (none) else (if bt302.1 = bt304.1 then (if (bt306.2.2 != bt310.2.2) = true then (none) else (if (!(bt306.1 == bt310.1) || (!(bt306.2.1 == bt310.2.1))) = true then (none) else (if (bt298.2 != bt290.2) = true then (none) else (if (bt302.2 != bt290.2) = true then (none) else (if bt290.2 = true then (if bt298.1 ≥ 3 then (laws_FnGearsRoll.j0 k l1 bt288.1 bt288.2 bt290.1 bt290.2 bt298.1 bt302.1 bt306.2.2 (bt306.2.2 != (decide (bt298.1 ≤ 60))) bt306.1 bt306.2.1) else (laws_FnGearsRoll.j0 k l1 bt288.1 bt288.2 bt290.1 bt290.2 bt298.1 bt302.1 bt306.2.2 (bt306.2.2 != false) bt306.1 bt306.2.1)) else (laws_FnGearsRoll.j0 k l1 bt288.1 bt288.2 bt290.1 bt290.2 bt298.1 bt302.1 bt306.2.2 (bt306.2.2 != false) bt306.1 bt306.2.1)))))) else (none))) else (none))) else (none))))))))))))) = some r := by rw [if_neg (show ¬ (false = true) by decide)] at H; exact H
    clear H
    have H := H1
    clear H1
    replace H := Option.bind_eq_some_iff.mp H
    obtain ⟨⟨t288, t289⟩, A50, H⟩ := H
    replace H : ((impl_CuspsOf.f k t288 t289).bind fun bt290 => ((spec_CuspsOf.f k t288 t289).bind fun bt294 => ((impl_PetalsOf.f t288 t289).bind fun bt298 => ((spec_PetalsOf.f t288 t289).bind fun bt300 => ((impl_RoundsOf.f t288 t289).bind fun bt302 => ((spec_RoundsOf.f t288 t289).bind fun bt304 => ((impl_StarOfGears.f t288 t289).bind fun bt306 => ((spec_StarOfGears.f t288 t289).bind fun bt310 => (if (bt290.2 != bt294.2) = true then (none) else ((laws_uSame.f k bt290.1 bt294.1).bind fun t314 => (if t314 = true then (if (bt298.2 != bt300.2) = true then (none) else (if bt298.1 = bt300.1 then (if (bt302.2 != bt304.2) = true then (none) else (if bt302.1 = bt304.1 then (if (bt306.2.2 != bt310.2.2) = true then (none) else (if (!(bt306.1 == bt310.1) || (!(bt306.2.1 == bt310.2.1))) = true then (none) else (if (bt298.2 != bt290.2) = true then (none) else (if (bt302.2 != bt290.2) = true then (none) else (if bt290.2 = true then (if bt298.1 ≥ 3 then (laws_FnGearsRoll.j0 k l1 t288 t289 bt290.1 bt290.2 bt298.1 bt302.1 bt306.2.2 (bt306.2.2 != (decide (bt298.1 ≤ 60))) bt306.1 bt306.2.1) else (laws_FnGearsRoll.j0 k l1 t288 t289 bt290.1 bt290.2 bt298.1 bt302.1 bt306.2.2 (bt306.2.2 != false) bt306.1 bt306.2.1)) else (laws_FnGearsRoll.j0 k l1 t288 t289 bt290.1 bt290.2 bt298.1 bt302.1 bt306.2.2 (bt306.2.2 != false) bt306.1 bt306.2.1)))))) else (none))) else (none))) else (none)))))))))))) = some r := H
    have A5 := Aside0.mk A50
    clear A50
    replace H := Option.bind_eq_some_iff.mp H
    obtain ⟨⟨t290, t291⟩, A60, H⟩ := H
    replace H : ((spec_CuspsOf.f k t288 t289).bind fun bt294 => ((impl_PetalsOf.f t288 t289).bind fun bt298 => ((spec_PetalsOf.f t288 t289).bind fun bt300 => ((impl_RoundsOf.f t288 t289).bind fun bt302 => ((spec_RoundsOf.f t288 t289).bind fun bt304 => ((impl_StarOfGears.f t288 t289).bind fun bt306 => ((spec_StarOfGears.f t288 t289).bind fun bt310 => (if (t291 != bt294.2) = true then (none) else ((laws_uSame.f k t290 bt294.1).bind fun t314 => (if t314 = true then (if (bt298.2 != bt300.2) = true then (none) else (if bt298.1 = bt300.1 then (if (bt302.2 != bt304.2) = true then (none) else (if bt302.1 = bt304.1 then (if (bt306.2.2 != bt310.2.2) = true then (none) else (if (!(bt306.1 == bt310.1) || (!(bt306.2.1 == bt310.2.1))) = true then (none) else (if (bt298.2 != t291) = true then (none) else (if (bt302.2 != t291) = true then (none) else (if t291 = true then (if bt298.1 ≥ 3 then (laws_FnGearsRoll.j0 k l1 t288 t289 t290 t291 bt298.1 bt302.1 bt306.2.2 (bt306.2.2 != (decide (bt298.1 ≤ 60))) bt306.1 bt306.2.1) else (laws_FnGearsRoll.j0 k l1 t288 t289 t290 t291 bt298.1 bt302.1 bt306.2.2 (bt306.2.2 != false) bt306.1 bt306.2.1)) else (laws_FnGearsRoll.j0 k l1 t288 t289 t290 t291 bt298.1 bt302.1 bt306.2.2 (bt306.2.2 != false) bt306.1 bt306.2.1)))))) else (none))) else (none))) else (none))))))))))) = some r := H
    have A6 := Aside0.mk A60
    clear A60
    replace H := Option.bind_eq_some_iff.mp H
    obtain ⟨⟨t294, t295⟩, A70, H⟩ := H
    replace H : ((impl_PetalsOf.f t288 t289).bind fun bt298 => ((spec_PetalsOf.f t288 t289).bind fun bt300 => ((impl_RoundsOf.f t288 t289).bind fun bt302 => ((spec_RoundsOf.f t288 t289).bind fun bt304 => ((impl_StarOfGears.f t288 t289).bind fun bt306 => ((spec_StarOfGears.f t288 t289).bind fun bt310 => (if (t291 != t295) = true then (none) else ((laws_uSame.f k t290 t294).bind fun t314 => (if t314 = true then (if (bt298.2 != bt300.2) = true then (none) else (if bt298.1 = bt300.1 then (if (bt302.2 != bt304.2) = true then (none) else (if bt302.1 = bt304.1 then (if (bt306.2.2 != bt310.2.2) = true then (none) else (if (!(bt306.1 == bt310.1) || (!(bt306.2.1 == bt310.2.1))) = true then (none) else (if (bt298.2 != t291) = true then (none) else (if (bt302.2 != t291) = true then (none) else (if t291 = true then (if bt298.1 ≥ 3 then (laws_FnGearsRoll.j0 k l1 t288 t289 t290 t291 bt298.1 bt302.1 bt306.2.2 (bt306.2.2 != (decide (bt298.1 ≤ 60))) bt306.1 bt306.2.1) else (laws_FnGearsRoll.j0 k l1 t288 t289 t290 t291 bt298.1 bt302.1 bt306.2.2 (bt306.2.2 != false) bt306.1 bt306.2.1)) else (laws_FnGearsRoll.j0 k l1 t288 t289 t290 t291 bt298.1 bt302.1 bt306.2.2 (bt306.2.2 != false) bt306.1 bt306.2.1)))))) else (none))) else (none))) else (none)))))))))) = some r := H
    have A7 := Aside0.mk A70
    clear A70
    replace H := Option.bind_eq_some_iff.mp H
    obtain ⟨⟨t298, t299⟩, A80, H⟩ := H
    replace H : ((spec_PetalsOf.f t288 t289).bind fun bt300 => ((impl_RoundsOf.f t288 t289).bind fun bt302 => ((spec_RoundsOf.f t288 t289).bind fun bt304 => ((impl_StarOfGears.f t288 t289).bind fun bt306 => ((spec_StarOfGears.f t288 t289).bind fun bt310 => (if (t291 != t295) = true then (none) else ((laws_uSame.f k t290 t294).bind fun t314 => (if t314 = true then (if (t299 != bt300.2) = true then (none) else (if t298 = bt300.1 then (if (bt302.2 != bt304.2) = true then (none) else (if bt302.1 = bt304.1 then (if (bt306.2.2 != bt310.2.2) = true then (none) else (if (!(bt306.1 == bt310.1) || (!(bt306.2.1 == bt310.2.1))) = true then (none) else (if (t299 != t291) = true then (none) else (if (bt302.2 != t291) = true then (none) else (if t291 = true then (if t298 ≥ 3 then (laws_FnGearsRoll.j0 k l1 t288 t289 t290 t291 t298 bt302.1 bt306.2.2 (bt306.2.2 != (decide (t298 ≤ 60))) bt306.1 bt306.2.1) else (laws_FnGearsRoll.j0 k l1 t288 t289 t290 t291 t298 bt302.1 bt306.2.2 (bt306.2.2 != false) bt306.1 bt306.2.1)) else (laws_FnGearsRoll.j0 k l1 t288 t289 t290 t291 t298 bt302.1 bt306.2.2 (bt306.2.2 != false) bt306.1 bt306.2.1)))))) else (none))) else (none))) else (none))))))))) = some r := H
    have A8 := Aside0.mk A80
    clear A80
    replace H := Option.bind_eq_some_iff.mp H
    obtain ⟨⟨t300, t301⟩, A90, H⟩ := H
    replace H : ((impl_RoundsOf.f t288 t289).bind fun bt302 => ((spec_RoundsOf.f t288 t289).bind fun bt304 => ((impl_StarOfGears.f t288 t289).bind fun bt306 => ((spec_StarOfGears.f t288 t289).bind fun bt310 => (if (t291 != t295) = true then (none) else ((laws_uSame.f k t290 t294).bind fun t314 => (if t314 = true then (if (t299 != t301) = true then (none) else (if t298 = t300 then (if (bt302.2 != bt304.2) = true then (none) else (if bt302.1 = bt304.1 then (if (bt306.2.2 != bt310.2.2) = true then (none) else (if (!(bt306.1 == bt310.1) || (!(bt306.2.1 == bt310.2.1))) = true then (none) else (if (t299 != t291) = true then (none) else (if (bt302.2 != t291) = true then (none) else (if t291 = true then (if t298 ≥ 3 then (laws_FnGearsRoll.j0 k l1 t288 t289 t290 t291 t298 bt302.1 bt306.2.2 (bt306.2.2 != (decide (t298 ≤ 60))) bt306.1 bt306.2.1) else (laws_FnGearsRoll.j0 k l1 t288 t289 t290 t291 t298 bt302.1 bt306.2.2 (bt306.2.2 != false) bt306.1 bt306.2.1)) else (laws_FnGearsRoll.j0 k l1 t288 t289 t290 t291 t298 bt302.1 bt306.2.2 (bt306.2.2 != false) bt306.1 bt306.2.1)))))) else (none))) else (none))) else (none)))))))) = some r := H
    have A9 := Aside0.mk A90
    clear A90
    replace H := Option.bind_eq_some_iff.mp H
    obtain ⟨⟨t302, t303⟩, A100, H⟩ := H
    replace H : ((spec_RoundsOf.f t288 t289).bind fun bt304 => ((impl_StarOfGears.f t288 t289).bind fun bt306 => ((spec_StarOfGears.f t288 t289).bind fun bt310 => (if (t291 != t295) = true then (none) else ((laws_uSame.f k t290 t294).bind fun t314 => (if t314 = true then (if (t299 != t301) = true then (none) else (if t298 = t300 then (if (t303 != bt304.2) = true then (none) else (if t302 = bt304.1 then (if (bt306.2.2 != bt310.2.2) = true then (none) else (if (!(bt306.1 == bt310.1) || (!(bt306.2.1 == bt310.2.1))) = true then (none) else (if (t299 != t291) = true then (none) else (if (t303 != t291) = true then (none) else (if t291 = true then (if t298 ≥ 3 then (laws_FnGearsRoll.j0 k l1 t288 t289 t290 t291 t298 t302 bt306.2.2 (bt306.2.2 != (decide (t298 ≤ 60))) bt306.1 bt306.2.1) else (laws_FnGearsRoll.j0 k l1 t288 t289 t290 t291 t298 t302 bt306.2.2 (bt306.2.2 != false) bt306.1 bt306.2.1)) else (laws_FnGearsRoll.j0 k l1 t288 t289 t290 t291 t298 t302 bt306.2.2 (bt306.2.2 != false) bt306.1 bt306.2.1)))))) else (none))) else (none))) else (none))))))) = some r := H
    have A10 := Aside0.mk A100
    clear A100
    replace H := Option.bind_eq_some_iff.mp H
    obtain ⟨⟨t304, t305⟩, A110, H⟩ := H
    replace H : ((impl_StarOfGears.f t288 t289).bind fun bt306 => ((spec_StarOfGears.f t288 t289).bind fun bt310 => (if (t291 != t295) = true then (none) else ((laws_uSame.f k t290 t294).bind fun t314 => (if t314 = true then (if (t299 != t301) = true then (none) else (if t298 = t300 then (if (t303 != t305) = true then (none) else (if t302 = t304 then (if (bt306.2.2 != bt310.2.2) = true then (none) else (if (!(bt306.1 == bt310.1) || (!(bt306.2.1 == bt310.2.1))) = true then (none) else (if (t299 != t291) = true then (none) else (if (t303 != t291) = true then (none) else (if t291 = true then (if t298 ≥ 3 then (laws_FnGearsRoll.j0 k l1 t288 t289 t290 t291 t298 t302 bt306.2.2 (bt306.2.2 != (decide (t298 ≤ 60))) bt306.1 bt306.2.1) else (laws_FnGearsRoll.j0 k l1 t288 t289 t290 t291 t298 t302 bt306.2.2 (bt306.2.2 != false) bt306.1 bt306.2.1)) else (laws_FnGearsRoll.j0 k l1 t288 t289 t290 t291 t298 t302 bt306.2.2 (bt306.2.2 != false) bt306.1 bt306.2.1)))))) else (none))) else (none))) else (none)))))) = some r := H
    have A11 := Aside0.mk A110
    clear A110
    replace H := Option.bind_eq_some_iff.mp H
    obtain ⟨⟨t306, t307, t308⟩, A120, H⟩ := H
    replace H : ((spec_StarOfGears.f t288 t289).bind fun bt310 => (if (t291 != t295) = true then (none) else ((laws_uSame.f k t290 t294).bind fun t314 => (if t314 = true then (if (t299 != t301) = true then (none) else (if t298 = t300 then (if (t303 != t305) = true then (none) else (if t302 = t304 then (if (t308 != bt310.2.2) = true then (none) else (if (!(t306 == bt310.1) || (!(t307 == bt310.2.1))) = true then (none) else (if (t299 != t291) = true then (none) else (if (t303 != t291) = true then (none) else (if t291 = true then (if t298 ≥ 3 then (laws_FnGearsRoll.j0 k l1 t288 t289 t290 t291 t298 t302 t308 (t308 != (decide (t298 ≤ 60))) t306 t307) else (laws_FnGearsRoll.j0 k l1 t288 t289 t290 t291 t298 t302 t308 (t308 != false) t306 t307)) else (laws_FnGearsRoll.j0 k l1 t288 t289 t290 t291 t298 t302 t308 (t308 != false) t306 t307)))))) else (none))) else (none))) else (none))))) = some r := H
    have A12 := Aside0.mk A120
    clear A120
    replace H := Option.bind_eq_some_iff.mp H
    obtain ⟨⟨t310, t311, t312⟩, A130, H⟩ := H
    replace H : (if (t291 != t295) = true then (none) else ((laws_uSame.f k t290 t294).bind fun t314 => (if t314 = true then (if (t299 != t301) = true then (none) else (if t298 = t300 then (if (t303 != t305) = true then (none) else (if t302 = t304 then (if (t308 != t312) = true then (none) else (if (!(t306 == t310) || (!(t307 == t311))) = true then (none) else (if (t299 != t291) = true then (none) else (if (t303 != t291) = true then (none) else (if t291 = true then (if t298 ≥ 3 then (laws_FnGearsRoll.j0 k l1 t288 t289 t290 t291 t298 t302 t308 (t308 != (decide (t298 ≤ 60))) t306 t307) else (laws_FnGearsRoll.j0 k l1 t288 t289 t290 t291 t298 t302 t308 (t308 != false) t306 t307)) else (laws_FnGearsRoll.j0 k l1 t288 t289 t290 t291 t298 t302 t308 (t308 != false) t306 t307)))))) else (none))) else (none))) else (none)))) = some r := H
    have A13 := Aside0.mk A130
    clear A130
    have HC14 := Aside0.mk H
    clear H
    go_enter Try.func3, Try.ntmps3
    go_upto_region 12 with (first | ((with_reducible refine gate_callee (f := 4) rfl ?_); refine goesL_ (some 78) rfl rfl Try.func4 (by kernel_rfl) rfl #[.slice A0 l0.length c0, .slice A1 l1.length c1] rfl (by (try simp only [List.map_toArray, List.map_cons, List.map_nil]); first | done | rfl | (simp only [List.length_drop, List.length_take]; rfl)) ?_; (with_reducible refine (laws_big.calls _ _ l0 _ _ l1 false _ ?side1 ?side2 ?side3 ?side4 A3.out).mono ?_); (case side1 => repeat (first | exact HR0.out | (with_reducible refine Kd.C_alloc ?_ _) | (with_reducible refine Kd.C_drewN ?_ _) | (with_reducible refine Kd.C_drew ?_))); (case side2 => exact HC0.out); (case side3 => repeat (first | exact HR1.out | (with_reducible refine Kd.C_alloc ?_ _) | (with_reducible refine Kd.C_drewN ?_ _) | (with_reducible refine Kd.C_drew ?_))); (case side4 => exact HC1.out); rintro e w' ⟨rfl, ⟨nd, rfl⟩⟩; refine ⟨_, rfl, ?_⟩) | ((with_reducible refine gate_callee (f := 5) rfl ?_); refine goesL_ (some 81) rfl rfl Try.func5 (by kernel_rfl) rfl #[.slice A0 l0.length c0] rfl (by (try simp only [List.map_toArray, List.map_cons, List.map_nil]); first | done | rfl | (simp only [List.length_drop, List.length_take]; rfl)) ?_; (with_reducible refine (spec_DrawCuspsOf.calls _ _ l0 t288 t289 _ ?side1 ?side2 A5.out).mono ?_); (case side1 => repeat (first | exact HR0.out | (with_reducible refine Kd.C_alloc ?_ _) | (with_reducible refine Kd.C_drewN ?_ _) | (with_reducible refine Kd.C_drew ?_))); (case side2 => exact HC0.out); rintro e w15 ⟨rfl, hb⟩; refine ⟨_, rfl, ?_⟩; have n0_ := Aside0.mk (below_step (by repeat (first | (with_reducible first | exact HB.out | apply below_alloc | apply pw_below_drewN | apply below_drew1) | exact HB.out)) hb); clear HB; have HB := n0_; clear n0_; (try clear hb); (try clear hb2); (try clear hk); (try clear hi)) | ((with_reducible refine gate_callee (f := 6) rfl ?_); refine goesL_ (some 87) rfl rfl Try.func6 (by kernel_rfl) rfl #[.int .i64 t288, .int .i64 t289] rfl (by (try simp only [List.map_toArray, List.map_cons, List.map_nil]); first | done | rfl | (simp only [List.length_drop, List.length_take]; rfl)) ?_; (with_reducible refine (impl_CuspsOf.calls k t288 t289 t290 t291 _ A6.out).mono ?_); rintro e w16 ⟨v292, rfl, ho0, hb⟩; refine ⟨_, rfl, ?_⟩; have n0_ := Aside0.mk (Kd.R_lower ho0 (below_size (by repeat (first | (with_reducible first | exact HB.out | apply below_alloc | apply pw_below_drewN | apply below_drew1) | exact HB.out)))); have n1_ := Aside0.mk (below_step (by repeat (first | (with_reducible first | exact HB.out | apply below_alloc | apply pw_below_drewN | apply below_drew1) | exact HB.out)) hb); clear HB; have HO293 := n0_; have HB := n1_; clear n0_ n1_; (try clear hb); (try clear hb2); (try clear hk); (try clear hi); (try clear ho0)) | ((with_reducible refine gate_callee (f := 7) rfl ?_); refine goesL_ (some 93) rfl rfl Try.func7 (by kernel_rfl) rfl #[.int .i64 t288, .int .i64 t289] rfl (by (try simp only [List.map_toArray, List.map_cons, List.map_nil]); first | done | rfl | (simp only [List.length_drop, List.length_take]; rfl)) ?_; (with_reducible refine (spec_CuspsOf.calls k t288 t289 t294 t295 _ A7.out).mono ?_); rintro e w17 ⟨v296, rfl, ho0, hb⟩; refine ⟨_, rfl, ?_⟩; have n0_ := Aside0.mk (Kd.R_elder' (by (with_reducible repeat (first | apply Kd.R_alloc | apply Kd.R_drewN | apply Kd.R_drew)); exact HO293.out) (Kd.R_base ho0) hb); have n1_ := Aside0.mk (Kd.R_lower (Kd.R_new' ho0 (Kd.R_lt (by (with_reducible repeat (first | apply Kd.R_alloc | apply Kd.R_drewN | apply Kd.R_drew)); exact HO293.out))) (below_size (by repeat (first | (with_reducible first | exact HB.out | apply below_alloc | apply pw_below_drewN | apply below_drew1) | exact HB.out)))); have n2_ := Aside0.mk (below_step (by repeat (first | (with_reducible first | exact HB.out | apply below_alloc | apply pw_below_drewN | apply below_drew1) | exact HB.out)) hb); clear HO293; clear HB; have HO293 := n0_; have HO297 := n1_; have HB := n2_; clear n0_ n1_ n2_; (try clear hb); (try clear hb2); (try clear hk); (try clear hi); (try clear ho0)) | ((with_reducible refine gate_callee (f := 8) rfl ?_); refine goesL_ (some 99) rfl rfl Try.func8 (by kernel_rfl) rfl #[.int .i64 t288, .int .i64 t289] rfl (by (try simp only [List.map_toArray, List.map_cons, List.map_nil]); first | done | rfl | (simp only [List.length_drop, List.length_take]; rfl)) ?_; (with_reducible refine (impl_PetalsOf.calls t288 t289 t298 t299 _ A8.out).mono ?_); rintro e w18 ⟨rfl, hb⟩; refine ⟨_, rfl, ?_⟩; have n0_ := Aside0.mk (Kd.R_below (by (with_reducible repeat (first | apply Kd.R_alloc | apply Kd.R_drewN | apply Kd.R_drew)); exact HO293.out) hb); have n1_ := Aside0.mk (Kd.R_below (by (with_reducible repeat (first | apply Kd.R_alloc | apply Kd.R_drewN | apply Kd.R_drew)); exact HO297.out) hb); have n2_ := Aside0.mk (below_step (by repeat (first | (with_reducible first | exact HB.out | apply below_alloc | apply pw_below_drewN | apply below_drew1) | exact HB.out)) hb); clear HO293; clear HO297; clear HB; have HO293 := n0_; have HO297 := n1_; have HB := n2_; clear n0_ n1_ n2_; (try clear hb); (try clear hb2); (try clear hk); (try clear hi)) | ((with_reducible refine gate_callee (f := 9) rfl ?_); refine goesL_ (some 105) rfl rfl Try.func9 (by kernel_rfl) rfl #[.int .i64 t288, .int .i64 t289] rfl (by (try simp only [List.map_toArray, List.map_cons, List.map_nil]); first | done | rfl | (simp only [List.length_drop, List.length_take]; rfl)) ?_; (with_reducible refine (spec_PetalsOf.calls t288 t289 t300 t301 _ A9.out).mono ?_); rintro e w' ⟨rfl, ⟨nd, rfl⟩⟩; refine ⟨_, rfl, ?_⟩; (try (rw [drewN_self w18]; generalize hq_ : World.drewN w18 _ = w18; have n0_ : Aside0 (Kd.R (Kd.int .i64) 3 w18 w.heap.size (fun k_ => some k_ ≠ (v296 : Value).ownBlock) v292 t290) := ⟨by rw [← hq_]; exact (by (with_reducible repeat (first | apply Kd.R_alloc | apply Kd.R_drewN | apply Kd.R_drew)); exact Kd.R_mono HO293.out (fun _ hk => hk.2))⟩; have n1_ : Aside0 (Kd.R (Kd.int .i64) 3 w18 w.heap.size (fun k_ => some k_ ≠ (v292 : Value).ownBlock) v296 t294) := ⟨by rw [← hq_]; exact (by (with_reducible repeat (first | apply Kd.R_alloc | apply Kd.R_drewN | apply Kd.R_drew)); exact Kd.R_mono HO297.out (fun _ hk => hk.2))⟩; have n2_ : Aside0 (Below w.heap.size w w18) := ⟨by rw [← hq_]; exact (by repeat (first | (with_reducible first | exact HB.out | apply below_alloc | apply pw_below_drewN | apply below_drew1) | exact HB.out))⟩; clear HO293 HO297 HB hq_; have HO293 := n0_; have HO297 := n1_; have HB := n2_; clear n0_ n1_ n2_))) | ((with_reducible refine gate_callee (f := 10) rfl ?_); refine goesL_ (some 111) rfl rfl Try.func10 (by kernel_rfl) rfl #[.int .i64 t288, .int .i64 t289] rfl (by (try simp only [List.map_toArray, List.map_cons, List.map_nil]); first | done | rfl | (simp only [List.length_drop, List.length_take]; rfl)) ?_; (with_reducible refine (impl_RoundsOf.calls t288 t289 t302 t303 _ A10.out).mono ?_); rintro e w19 ⟨rfl, hb⟩; refine ⟨_, rfl, ?_⟩; have n0_ := Aside0.mk (Kd.R_below (by (with_reducible repeat (first | apply Kd.R_alloc | apply Kd.R_drewN | apply Kd.R_drew)); exact HO293.out) hb); have n1_ := Aside0.mk (Kd.R_below (by (with_reducible repeat (first | apply Kd.R_alloc | apply Kd.R_drewN | apply Kd.R_drew)); exact HO297.out) hb); have n2_ := Aside0.mk (below_step (by repeat (first | (with_reducible first | exact HB.out | apply below_alloc | apply pw_below_drewN | apply below_drew1) | exact HB.out)) hb); clear HO293; clear HO297; clear HB; have HO293 := n0_; have HO297 := n1_; have HB := n2_; clear n0_ n1_ n2_; (try clear hb); (try clear hb2); (try clear hk); (try clear hi)) | ((with_reducible refine gate_callee (f := 11) rfl ?_); refine goesL_ (some 117) rfl rfl Try.func11 (by kernel_rfl) rfl #[.int .i64 t288, .int .i64 t289] rfl (by (try simp only [List.map_toArray, List.map_cons, List.map_nil]); first | done | rfl | (simp only [List.length_drop, List.length_take]; rfl)) ?_; (with_reducible refine (spec_RoundsOf.calls t288 t289 t304 t305 _ A11.out).mono ?_); rintro e w' ⟨rfl, ⟨nd, rfl⟩⟩; refine ⟨_, rfl, ?_⟩; (try (rw [drewN_self w19]; generalize hq_ : World.drewN w19 _ = w19; have n0_ : Aside0 (Kd.R (Kd.int .i64) 3 w19 w.heap.size (fun k_ => some k_ ≠ (v296 : Value).ownBlock) v292 t290) := ⟨by rw [← hq_]; exact (by (with_reducible repeat (first | apply Kd.R_alloc | apply Kd.R_drewN | apply Kd.R_drew)); exact Kd.R_mono HO293.out (fun _ hk => hk.2))⟩; have n1_ : Aside0 (Kd.R (Kd.int .i64) 3 w19 w.heap.size (fun k_ => some k_ ≠ (v292 : Value).ownBlock) v296 t294) := ⟨by rw [← hq_]; exact (by (with_reducible repeat (first | apply Kd.R_alloc | apply Kd.R_drewN | apply Kd.R_drew)); exact Kd.R_mono HO297.out (fun _ hk => hk.2))⟩; have n2_ : Aside0 (Below w.heap.size w w19) := ⟨by rw [← hq_]; exact (by repeat (first | (with_reducible first | exact HB.out | apply below_alloc | apply pw_below_drewN | apply below_drew1) | exact HB.out))⟩; clear HO293 HO297 HB hq_; have HO293 := n0_; have HO297 := n1_; have HB := n2_; clear n0_ n1_ n2_))) | ((with_reducible refine gate_callee (f := 12) rfl ?_); refine goesL_ (some 123) rfl rfl Try.func12 (by kernel_rfl) rfl #[.int .i64 t288, .int .i64 t289] rfl (by (try simp only [List.map_toArray, List.map_cons, List.map_nil]); first | done | rfl | (simp only [List.length_drop, List.length_take]; rfl)) ?_; (with_reducible refine (impl_StarOfGears.calls t288 t289 t306 t307 t308 _ A12.out).mono ?_); rintro e w20 ⟨rfl, hb⟩; refine ⟨_, rfl, ?_⟩; have n0_ := Aside0.mk (Kd.R_below (by (with_reducible repeat (first | apply Kd.R_alloc | apply Kd.R_drewN | apply Kd.R_drew)); exact HO293.out) hb); have n1_ := Aside0.mk (Kd.R_below (by (with_reducible repeat (first | apply Kd.R_alloc | apply Kd.R_drewN | apply Kd.R_drew)); exact HO297.out) hb); have n2_ := Aside0.mk (below_step (by repeat (first | (with_reducible first | exact HB.out | apply below_alloc | apply pw_below_drewN | apply below_drew1) | exact HB.out)) hb); clear HO293; clear HO297; clear HB; have HO293 := n0_; have HO297 := n1_; have HB := n2_; clear n0_ n1_ n2_; (try clear hb); (try clear hb2); (try clear hk); (try clear hi)) | ((with_reducible refine gate_dst (N := 19) rfl ?_); refine box_event ?hg (N := 19) ?hd (cs := #[.int .i64 0, .int .i64 0]) (t := 32) ?hr ?_; (case hd => rfl); (case hg => rfl); (case hr => first | (go_simp; done) | (go_simp; rfl)); intro gb309 hg w21 hbox hb; have n0_ := Aside0.mk (Kd.R_below (by (with_reducible repeat (first | apply Kd.R_alloc | apply Kd.R_drewN | apply Kd.R_drew)); exact HO293.out) hb); have n1_ := Aside0.mk (Kd.R_below (by (with_reducible repeat (first | apply Kd.R_alloc | apply Kd.R_drewN | apply Kd.R_drew)); exact HO297.out) hb); have n2_ := Aside0.mk (below_step (by repeat (first | (with_reducible first | exact HB.out | apply below_alloc | apply pw_below_drewN | apply below_drew1) | exact HB.out)) hb); have n3_ := Aside0.mk (hbox); have n4_ := Aside0.mk ((by rw [hg]; exact (below_size (by repeat (first | (with_reducible first | exact HB.out | apply below_alloc | apply pw_below_drewN | apply below_drew1) | exact HB.out))) : w.heap.size ≤ gb309)); have n5_ := Aside0.mk ((by rw [hg]; exact (below_size (by repeat (first | (with_reducible first | exact HB.out | apply below_alloc | apply pw_below_drewN | apply below_drew1) | exact HB.out))) : w.heap.size ≤ gb309)); clear HO293; clear HO297; clear HB; have HO293 := n0_; have HO297 := n1_; have HB := n2_; have BK309 := n3_; have GW309 := n4_; have GE309 := n5_; clear n0_ n1_ n2_ n3_ n4_ n5_; clear hb hbox hg; have hcz22_0 : w21.cell? ⟨gb309, 0, none⟩ = some (.int .i64 0) := (blk_cell BK309.out 0).trans rfl; have hcz22_1 : w21.cell? ⟨gb309, 1, none⟩ = some (.int .i64 0) := (blk_cell BK309.out 1).trans rfl; have hfz22_0 := blk_frozen BK309.out 0; have hfz22_1 := blk_frozen BK309.out 1) | ((with_reducible refine gate_callee (f := 13) rfl ?_); refine goesL_ (some 129) rfl rfl Try.func13 (by kernel_rfl) rfl #[.int .i64 t288, .int .i64 t289] rfl (by (try simp only [List.map_toArray, List.map_cons, List.map_nil]); first | done | rfl | (simp only [List.length_drop, List.length_take]; rfl)) ?_; (with_reducible refine (spec_StarOfGears.calls t288 t289 t310 t311 t312 _ A13.out).mono ?_); rintro e w23 ⟨rfl, hb⟩; refine ⟨_, rfl, ?_⟩; have n0_ := Aside0.mk (Kd.R_below (by (with_reducible repeat (first | apply Kd.R_alloc | apply Kd.R_drewN | apply Kd.R_drew)); exact (Kd.R_mono (Kd.R_far (p := ⟨gb309, 1, none⟩) (Kd.R_far (p := ⟨gb309, 0, none⟩) (Kd.R_types HO293.out BK309.out (by decide)) (fun _ hk => hk.2) (.int .i64 t306)) (fun _ hk => hk.2) (.int .i64 t307)) (fun _ h_ => by first | exact h_.1 | exact ⟨trivial, h_.1⟩))) hb); have n1_ := Aside0.mk (Kd.R_below (by (with_reducible repeat (first | apply Kd.R_alloc | apply Kd.R_drewN | apply Kd.R_drew)); exact (Kd.R_mono (Kd.R_far (p := ⟨gb309, 1, none⟩) (Kd.R_far (p := ⟨gb309, 0, none⟩) (Kd.R_types HO297.out BK309.out (by decide)) (fun _ hk => hk.2) (.int .i64 t306)) (fun _ hk => hk.2) (.int .i64 t307)) (fun _ h_ => by first | exact h_.1 | exact ⟨trivial, h_.1⟩))) hb); have n2_ := Aside0.mk (blk_below (g := gb309) (o := .cells #[.int .i64 t306, .int .i64 t307] 32 (0, 0)) (by (with_reducible repeat (first | refine blk_drewN ?_ _ | refine blk_drew ?_ | refine blk_alloc ?_ _)); refine blk_put (cs := #[.int .i64 t306, .int .i64 0]) ?_ 1 _ rfl; (with_reducible repeat (first | refine blk_drewN ?_ _ | refine blk_drew ?_ | refine blk_alloc ?_ _)); refine blk_put (cs := #[.int .i64 0, .int .i64 0]) ?_ 0 _ rfl; (with_reducible repeat (first | refine blk_drewN ?_ _ | refine blk_drew ?_ | refine blk_alloc ?_ _)); exact BK309.out) hb); have n3_ := Aside0.mk (below_step (by repeat (first | (with_reducible first | exact HB.out | apply below_alloc | apply pw_below_drewN | apply below_drew1 | refine below_set ?_ GE309.out) | exact HB.out)) hb); clear HO293; clear HO297; clear BK309; clear HB; have HO293 := n0_; have HO297 := n1_; have BK309 := n2_; have HB := n3_; clear n0_ n1_ n2_ n3_; (try clear hb); (try clear hb2); (try clear hk); (try clear hi)) | ((with_reducible refine gate_dst (N := 21) rfl ?_); refine box_event ?hg (N := 21) ?hd (cs := #[.int .i64 0, .int .i64 0]) (t := 32) ?hr ?_; (case hd => rfl); (case hg => rfl); (case hr => first | (go_simp; done) | (go_simp; rfl)); intro gb313 hg w24 hbox hb; have n0_ := Aside0.mk (Kd.R_below (by (with_reducible repeat (first | apply Kd.R_alloc | apply Kd.R_drewN | apply Kd.R_drew)); exact HO293.out) hb); have n1_ := Aside0.mk (Kd.R_below (by (with_reducible repeat (first | apply Kd.R_alloc | apply Kd.R_drewN | apply Kd.R_drew)); exact HO297.out) hb); have n2_ := Aside0.mk (blk_below (g := gb309) (o := .cells #[.int .i64 t306, .int .i64 t307] 32 (0, 0)) (by (with_reducible repeat (first | refine blk_drewN ?_ _ | refine blk_drew ?_ | refine blk_alloc ?_ _)); exact BK309.out) hb); have n3_ := Aside0.mk (below_step (by repeat (first | (with_reducible first | exact HB.out | apply below_alloc | apply pw_below_drewN | apply below_drew1 | refine below_set ?_ GE309.out) | exact HB.out)) hb); have n4_ := Aside0.mk (hbox); have n5_ := Aside0.mk ((by rw [hg]; exact (below_size (by repeat (first | (with_reducible first | exact HB.out | apply below_alloc | apply pw_below_drewN | apply below_drew1 | refine below_set ?_ GE309.out) | exact HB.out))) : w.heap.size ≤ gb313)); have n6_ := Aside0.mk ((by rw [hg]; exact (below_size (by repeat (first | (with_reducible first | exact HB.out | apply below_alloc | apply pw_below_drewN | apply below_drew1 | refine below_set ?_ GE309.out) | exact HB.out))) : w.heap.size ≤ gb313)); have n7_ := Aside0.mk ((by rw [hg]; exact Nat.ne_of_lt (blk_lt (g := gb309) (o := .cells #[.int .i64 t306, .int .i64 t307] 32 (0, 0)) (by (with_reducible repeat (first | refine blk_drewN ?_ _ | refine blk_drew ?_ | refine blk_alloc ?_ _)); exact BK309.out)) : gb309 ≠ gb313)); have n8_ := Aside0.mk ((by rw [hg]; exact Nat.ne_of_gt (blk_lt (g := gb309) (o := .cells #[.int .i64 t306, .int .i64 t307] 32 (0, 0)) (by (with_reducible repeat (first | refine blk_drewN ?_ _ | refine blk_drew ?_ | refine blk_alloc ?_ _)); exact BK309.out)) : gb313 ≠ gb309)); clear HO293; clear HO297; clear BK309; clear HB; have HO293 := n0_; have HO297 := n1_; have BK309 := n2_; have HB := n3_; have BK313 := n4_; have GW313 := n5_; have GE313 := n6_; have NB309_313 := n7_; have NB313_309 := n8_; clear n0_ n1_ n2_ n3_ n4_ n5_ n6_ n7_ n8_; clear hb hbox hg; have hnb25 := NB313_309.out; have hnc25 := NB309_313.out; have hcz26_0 : w24.cell? ⟨gb313, 0, none⟩ = some (.int .i64 0) := (blk_cell BK313.out 0).trans rfl; have hcz26_1 : w24.cell? ⟨gb313, 1, none⟩ = some (.int .i64 0) := (blk_cell BK313.out 1).trans rfl; have hfz26_0 := blk_frozen BK313.out 0; have hfz26_1 := blk_frozen BK313.out 1))
    (try simp only [Act.put, List.setIfInBounds_toArray, List.set_cons_zero, List.set_cons_succ])
    go_cut [193] (fun v193 wc => ∃ (kq : Nat) (x193_13 : Bool), v193 = .bool x193_13 ∧ Aside0 (laws_FnGearsRoll.j0 kq l1 t288 t289 t290 t291 t298 t302 t308 x193_13 t306 t307 = some r) ∧ Aside0 (kq ≤ k) ∧ Aside0 (Kd.R (Kd.int .i64) 3 wc w.heap.size (fun _ => True) v292 t290) ∧ Aside0 (wc.heap[gb309]? = some (.cells #[.int .i64 t306, .int .i64 t307] 32 (0, 0))) ∧ Aside0 (wc.heap[gb313]? = some (.cells #[.int .i64 t310, .int .i64 t311] 32 (0, 0))) ∧ Aside0 (Below w.heap.size w wc))
    case first =>
      as_aux_lemma =>
      have H := HC14.out
      clear HC14
      by_cases c27 : (t291 != t295) = true
      · rw [if_pos c27] at H
        exact absurd H (by simp)
      · rw [if_neg c27] at H
        have c27b0 : (t291 != t295) = false := by simpa using c27
        (try (have c27b1 : decide (t291 = t295) = true := by simpa using c27))
        (try (have c27b2 : (t291 == t295) = true := by simpa using c27))
        clear c27
        (first | rw [c27b0] | (simp only [i64_w, i32_w]; rw [c27b0]) | skip)
        replace H := Option.bind_eq_some_iff.mp H
        obtain ⟨t314, A280, H⟩ := H
        replace H : (if t314 = true then (if (t299 != t301) = true then (none) else (if t298 = t300 then (if (t303 != t305) = true then (none) else (if t302 = t304 then (if (t308 != t312) = true then (none) else (if (!(t306 == t310) || (!(t307 == t311))) = true then (none) else (if (t299 != t291) = true then (none) else (if (t303 != t291) = true then (none) else (if t291 = true then (if t298 ≥ 3 then (laws_FnGearsRoll.j0 k l1 t288 t289 t290 t291 t298 t302 t308 (t308 != (decide (t298 ≤ 60))) t306 t307) else (laws_FnGearsRoll.j0 k l1 t288 t289 t290 t291 t298 t302 t308 (t308 != false) t306 t307)) else (laws_FnGearsRoll.j0 k l1 t288 t289 t290 t291 t298 t302 t308 (t308 != false) t306 t307)))))) else (none))) else (none))) else (none)) = some r := H
        have A28 := Aside0.mk A280
        clear A280
        by_cases c29 : t314 = true
        · subst c29
          have H1 : (if (t299 != t301) = true then (none) else (if t298 = t300 then (if (t303 != t305) = true then (none) else (if t302 = t304 then (if (t308 != t312) = true then (none) else (if (!(t306 == t310) || (!(t307 == t311))) = true then (none) else (if (t299 != t291) = true then (none) else (if (t303 != t291) = true then (none) else (if t291 = true then (if t298 ≥ 3 then (laws_FnGearsRoll.j0 k l1 t288 t289 t290 t291 t298 t302 t308 (t308 != (decide (t298 ≤ 60))) t306 t307) else (laws_FnGearsRoll.j0 k l1 t288 t289 t290 t291 t298 t302 t308 (t308 != false) t306 t307)) else (laws_FnGearsRoll.j0 k l1 t288 t289 t290 t291 t298 t302 t308 (t308 != false) t306 t307)))))) else (none))) else (none))) = some r := by rw [if_pos rfl] at H; exact H
          clear H
          have H := H1
          clear H1
          by_cases c30 : (t299 != t301) = true
          · rw [if_pos c30] at H
            exact absurd H (by simp)
          · rw [if_neg c30] at H
            have c30b0 : (t299 != t301) = false := by simpa using c30
            (try (have c30b1 : decide (t299 = t301) = true := by simpa using c30))
            (try (have c30b2 : (t299 == t301) = true := by simpa using c30))
            clear c30
            by_cases c31 : t298 = t300
            · rw [if_pos c31] at H
              have c31b0 : (t298 == t300) = true := beq_iff_eq.mpr c31
              have c31b1 : (t298 != t300) = false := bne_eq_false_iff_eq.mpr c31
              clear c31
              by_cases c32 : (t303 != t305) = true
              · rw [if_pos c32] at H
                exact absurd H (by simp)
              · rw [if_neg c32] at H
                have c32b0 : (t303 != t305) = false := by simpa using c32
                (try (have c32b1 : decide (t303 = t305) = true := by simpa using c32))
                (try (have c32b2 : (t303 == t305) = true := by simpa using c32))
                clear c32
                by_cases c33 : t302 = t304
                · rw [if_pos c33] at H
                  have c33b0 : (t302 == t304) = true := beq_iff_eq.mpr c33
                  have c33b1 : (t302 != t304) = false := bne_eq_false_iff_eq.mpr c33
                  clear c33
                  by_cases c34 : (t308 != t312) = true
                  · rw [if_pos c34] at H
                    exact absurd H (by simp)
                  · rw [if_neg c34] at H
                    have c34b0 : (t308 != t312) = false := by simpa using c34
                    (try (have c34b1 : decide (t308 = t312) = true := by simpa using c34))
                    (try (have c34b2 : (t308 == t312) = true := by simpa using c34))
                    clear c34
                    by_cases c35 : (!(t306 == t310) || (!(t307 == t311))) = true
                    · rw [if_pos c35] at H
                      exact absurd H (by simp)
                    · rw [if_neg c35] at H
                      have c35b0 : (!(t306 == t310) || (!(t307 == t311))) = false := by simpa using c35
                      clear c35
                      by_cases c36 : (t299 != t291) = true
                      · rw [if_pos c36] at H
                        exact absurd H (by simp)
                      · rw [if_neg c36] at H
                        have c36b0 : (t299 != t291) = false := by simpa using c36
                        (try (have c36b1 : decide (t299 = t291) = true := by simpa using c36))
                        (try (have c36b2 : (t299 == t291) = true := by simpa using c36))
                        clear c36
                        by_cases c37 : (t303 != t291) = true
                        · rw [if_pos c37] at H
                          exact absurd H (by simp)
                        · rw [if_neg c37] at H
                          have c37b0 : (t303 != t291) = false := by simpa using c37
                          (try (have c37b1 : decide (t303 = t291) = true := by simpa using c37))
                          (try (have c37b2 : (t303 == t291) = true := by simpa using c37))
                          clear c37
                          by_cases c38 : t291 = true
                          · subst c38
                            have H1 : (if t298 ≥ 3 then (laws_FnGearsRoll.j0 k l1 t288 t289 t290 true t298 t302 t308 (t308 != (decide (t298 ≤ 60))) t306 t307) else (laws_FnGearsRoll.j0 k l1 t288 t289 t290 true t298 t302 t308 (t308 != false) t306 t307)) = some r := by rw [if_pos rfl] at H; exact H
                            clear H
                            have H := H1
                            clear H1
                            by_cases c39 : t298 ≥ 3
                            · as_aux_lemma =>
                              rw [if_pos c39] at H
                              have c39b0 : decide (3 ≤ t298) = true := decide_eq_true c39
                              clear c39
                              have H' := Aside0.mk H
                              clear H
                              obtain ⟨Ao40, co40, eo40⟩ := Kd.R_slice HO293.out
                              subst eo40
                              obtain ⟨Ao41, co41, eo41⟩ := Kd.R_slice HO297.out
                              subst eo41
                              go_wp2_with (first | (go_at_call 14; (with_reducible refine (laws_uSame.calls k _ _ t290 _ _ t294 true _ ?side1 ?side2 ?side3 ?side4 A28.out).mono ?_); (case side1 => refine (Kd.R_reads' (e := 3) (base := w.heap.size) (ok := fun k_ => (True ∧ some k_ ≠ (.slice Ao41 t294.length co41 : Value).ownBlock)) (n := t290.length) (c := co40) ?_).2.2; exact (by (with_reducible repeat (first | apply Kd.R_alloc | apply Kd.R_drewN | apply Kd.R_drew)); exact (Kd.R_mono (Kd.R_far (p := ⟨gb313, 1, none⟩) (Kd.R_far (p := ⟨gb313, 0, none⟩) (Kd.R_types HO293.out BK313.out (by decide)) (fun _ hk => hk.2) (.int .i64 t310)) (fun _ hk => hk.2) (.int .i64 t311)) (fun _ h_ => by first | exact h_.1 | exact ⟨trivial, h_.1⟩)))); (case side2 => exact (Kd.R_reads' HO293.out).2.1); (case side3 => refine (Kd.R_reads' (e := 3) (base := w.heap.size) (ok := fun k_ => (True ∧ some k_ ≠ (.slice Ao40 t290.length co40 : Value).ownBlock)) (n := t294.length) (c := co41) ?_).2.2; exact (by (with_reducible repeat (first | apply Kd.R_alloc | apply Kd.R_drewN | apply Kd.R_drew)); exact (Kd.R_mono (Kd.R_far (p := ⟨gb313, 1, none⟩) (Kd.R_far (p := ⟨gb313, 0, none⟩) (Kd.R_types HO297.out BK313.out (by decide)) (fun _ hk => hk.2) (.int .i64 t310)) (fun _ hk => hk.2) (.int .i64 t311)) (fun _ h_ => by first | exact h_.1 | exact ⟨trivial, h_.1⟩)))); (case side4 => exact (Kd.R_reads' HO297.out).2.1); rintro e w' ⟨rfl, ⟨nd, rfl⟩⟩; have hnb42 := NB309_313.out; have hnc42 := NB313_309.out; have hcz43_0 : w24.cell? ⟨gb309, 0, none⟩ = some (.int .i64 t306) := (blk_cell BK309.out 0).trans rfl; have hcz43_1 : w24.cell? ⟨gb309, 1, none⟩ = some (.int .i64 t307) := (blk_cell BK309.out 1).trans rfl; have hfz43_0 := blk_frozen BK309.out 0; have hfz43_1 := blk_frozen BK309.out 1; have hcz44_0 : w24.cell? ⟨gb313, 0, none⟩ = some (.int .i64 0) := (blk_cell BK313.out 0).trans rfl; have hcz44_1 : w24.cell? ⟨gb313, 1, none⟩ = some (.int .i64 0) := (blk_cell BK313.out 1).trans rfl; have hfz44_0 := blk_frozen BK313.out 0; have hfz44_1 := blk_frozen BK313.out 1))
                              go_meet
                              case rel => exact ⟨_, ((t308 != (decide (t298 ≤ 60)))), (by first | rfl | (simp; done) | (simp [*]; done)), H', ⟨by first | omega | exact Nat.le_refl _⟩, ⟨by (with_reducible repeat (first | apply Kd.R_alloc | apply Kd.R_drewN | apply Kd.R_drew)); exact Kd.R_mono (Kd.R_far (p := ⟨gb313, 1, none⟩) (Kd.R_far (p := ⟨gb313, 0, none⟩) (Kd.R_types HO293.out BK313.out (by decide)) (fun _ hk => hk.2) (.int .i64 t310)) (fun _ hk => hk.2) (.int .i64 t311)) (fun _ hk => trivial)⟩, ⟨by (with_reducible repeat (first | refine blk_drewN ?_ _ | refine blk_drew ?_ | refine blk_alloc ?_ _)); refine blk_far ?_ NB309_313.out _; (with_reducible repeat (first | refine blk_drewN ?_ _ | refine blk_drew ?_ | refine blk_alloc ?_ _)); refine blk_far ?_ NB309_313.out _; (with_reducible repeat (first | refine blk_drewN ?_ _ | refine blk_drew ?_ | refine blk_alloc ?_ _)); exact BK309.out⟩, ⟨by (with_reducible repeat (first | refine blk_drewN ?_ _ | refine blk_drew ?_ | refine blk_alloc ?_ _)); refine blk_put (cs := #[.int .i64 t310, .int .i64 0]) ?_ 1 _ rfl; (with_reducible repeat (first | refine blk_drewN ?_ _ | refine blk_drew ?_ | refine blk_alloc ?_ _)); refine blk_put (cs := #[.int .i64 0, .int .i64 0]) ?_ 0 _ rfl; (with_reducible repeat (first | refine blk_drewN ?_ _ | refine blk_drew ?_ | refine blk_alloc ?_ _)); exact BK313.out⟩, ⟨by repeat (first | (with_reducible first | exact HB.out | apply below_alloc | apply pw_below_drewN | apply below_drew1 | refine below_set ?_ GE309.out | refine below_set ?_ GE313.out) | exact HB.out)⟩⟩
                            · as_aux_lemma =>
                              rw [if_neg c39] at H
                              have c39b0 : decide (3 ≤ t298) = false := decide_eq_false c39
                              clear c39
                              have H' := Aside0.mk H
                              clear H
                              obtain ⟨Ao45, co45, eo45⟩ := Kd.R_slice HO293.out
                              subst eo45
                              obtain ⟨Ao46, co46, eo46⟩ := Kd.R_slice HO297.out
                              subst eo46
                              go_wp2_with (first | (go_at_call 14; (with_reducible refine (laws_uSame.calls k _ _ t290 _ _ t294 true _ ?side1 ?side2 ?side3 ?side4 A28.out).mono ?_); (case side1 => refine (Kd.R_reads' (e := 3) (base := w.heap.size) (ok := fun k_ => (True ∧ some k_ ≠ (.slice Ao46 t294.length co46 : Value).ownBlock)) (n := t290.length) (c := co45) ?_).2.2; exact (by (with_reducible repeat (first | apply Kd.R_alloc | apply Kd.R_drewN | apply Kd.R_drew)); exact (Kd.R_mono (Kd.R_far (p := ⟨gb313, 1, none⟩) (Kd.R_far (p := ⟨gb313, 0, none⟩) (Kd.R_types HO293.out BK313.out (by decide)) (fun _ hk => hk.2) (.int .i64 t310)) (fun _ hk => hk.2) (.int .i64 t311)) (fun _ h_ => by first | exact h_.1 | exact ⟨trivial, h_.1⟩)))); (case side2 => exact (Kd.R_reads' HO293.out).2.1); (case side3 => refine (Kd.R_reads' (e := 3) (base := w.heap.size) (ok := fun k_ => (True ∧ some k_ ≠ (.slice Ao45 t290.length co45 : Value).ownBlock)) (n := t294.length) (c := co46) ?_).2.2; exact (by (with_reducible repeat (first | apply Kd.R_alloc | apply Kd.R_drewN | apply Kd.R_drew)); exact (Kd.R_mono (Kd.R_far (p := ⟨gb313, 1, none⟩) (Kd.R_far (p := ⟨gb313, 0, none⟩) (Kd.R_types HO297.out BK313.out (by decide)) (fun _ hk => hk.2) (.int .i64 t310)) (fun _ hk => hk.2) (.int .i64 t311)) (fun _ h_ => by first | exact h_.1 | exact ⟨trivial, h_.1⟩)))); (case side4 => exact (Kd.R_reads' HO297.out).2.1); rintro e w' ⟨rfl, ⟨nd, rfl⟩⟩; have hnb47 := NB309_313.out; have hnc47 := NB313_309.out; have hcz48_0 : w24.cell? ⟨gb309, 0, none⟩ = some (.int .i64 t306) := (blk_cell BK309.out 0).trans rfl; have hcz48_1 : w24.cell? ⟨gb309, 1, none⟩ = some (.int .i64 t307) := (blk_cell BK309.out 1).trans rfl; have hfz48_0 := blk_frozen BK309.out 0; have hfz48_1 := blk_frozen BK309.out 1; have hcz49_0 : w24.cell? ⟨gb313, 0, none⟩ = some (.int .i64 0) := (blk_cell BK313.out 0).trans rfl; have hcz49_1 : w24.cell? ⟨gb313, 1, none⟩ = some (.int .i64 0) := (blk_cell BK313.out 1).trans rfl; have hfz49_0 := blk_frozen BK313.out 0; have hfz49_1 := blk_frozen BK313.out 1))
                              go_meet
                              case rel => exact ⟨_, ((t308 != false)), (by first | rfl | (simp; done) | (simp [*]; done)), H', ⟨by first | omega | exact Nat.le_refl _⟩, ⟨by (with_reducible repeat (first | apply Kd.R_alloc | apply Kd.R_drewN | apply Kd.R_drew)); exact Kd.R_mono (Kd.R_far (p := ⟨gb313, 1, none⟩) (Kd.R_far (p := ⟨gb313, 0, none⟩) (Kd.R_types HO293.out BK313.out (by decide)) (fun _ hk => hk.2) (.int .i64 t310)) (fun _ hk => hk.2) (.int .i64 t311)) (fun _ hk => trivial)⟩, ⟨by (with_reducible repeat (first | refine blk_drewN ?_ _ | refine blk_drew ?_ | refine blk_alloc ?_ _)); refine blk_far ?_ NB309_313.out _; (with_reducible repeat (first | refine blk_drewN ?_ _ | refine blk_drew ?_ | refine blk_alloc ?_ _)); refine blk_far ?_ NB309_313.out _; (with_reducible repeat (first | refine blk_drewN ?_ _ | refine blk_drew ?_ | refine blk_alloc ?_ _)); exact BK309.out⟩, ⟨by (with_reducible repeat (first | refine blk_drewN ?_ _ | refine blk_drew ?_ | refine blk_alloc ?_ _)); refine blk_put (cs := #[.int .i64 t310, .int .i64 0]) ?_ 1 _ rfl; (with_reducible repeat (first | refine blk_drewN ?_ _ | refine blk_drew ?_ | refine blk_alloc ?_ _)); refine blk_put (cs := #[.int .i64 0, .int .i64 0]) ?_ 0 _ rfl; (with_reducible repeat (first | refine blk_drewN ?_ _ | refine blk_drew ?_ | refine blk_alloc ?_ _)); exact BK313.out⟩, ⟨by repeat (first | (with_reducible first | exact HB.out | apply below_alloc | apply pw_below_drewN | apply below_drew1 | refine below_set ?_ GE309.out | refine below_set ?_ GE313.out) | exact HB.out)⟩⟩
                          · as_aux_lemma =>
                            replace c38 := Bool.eq_false_iff.mpr c38
                            subst c38
                            have H1 : (laws_FnGearsRoll.j0 k l1 t288 t289 t290 false t298 t302 t308 (t308 != false) t306 t307) = some r := by rw [if_neg (show ¬ (false = true) by decide)] at H; exact H
                            clear H
                            have H := H1
                            clear H1
                            have H' := Aside0.mk H
                            clear H
                            obtain ⟨Ao50, co50, eo50⟩ := Kd.R_slice HO293.out
                            subst eo50
                            obtain ⟨Ao51, co51, eo51⟩ := Kd.R_slice HO297.out
                            subst eo51
                            go_wp2_with (first | (go_at_call 14; (with_reducible refine (laws_uSame.calls k _ _ t290 _ _ t294 true _ ?side1 ?side2 ?side3 ?side4 A28.out).mono ?_); (case side1 => refine (Kd.R_reads' (e := 3) (base := w.heap.size) (ok := fun k_ => (True ∧ some k_ ≠ (.slice Ao51 t294.length co51 : Value).ownBlock)) (n := t290.length) (c := co50) ?_).2.2; exact (by (with_reducible repeat (first | apply Kd.R_alloc | apply Kd.R_drewN | apply Kd.R_drew)); exact (Kd.R_mono (Kd.R_far (p := ⟨gb313, 1, none⟩) (Kd.R_far (p := ⟨gb313, 0, none⟩) (Kd.R_types HO293.out BK313.out (by decide)) (fun _ hk => hk.2) (.int .i64 t310)) (fun _ hk => hk.2) (.int .i64 t311)) (fun _ h_ => by first | exact h_.1 | exact ⟨trivial, h_.1⟩)))); (case side2 => exact (Kd.R_reads' HO293.out).2.1); (case side3 => refine (Kd.R_reads' (e := 3) (base := w.heap.size) (ok := fun k_ => (True ∧ some k_ ≠ (.slice Ao50 t290.length co50 : Value).ownBlock)) (n := t294.length) (c := co51) ?_).2.2; exact (by (with_reducible repeat (first | apply Kd.R_alloc | apply Kd.R_drewN | apply Kd.R_drew)); exact (Kd.R_mono (Kd.R_far (p := ⟨gb313, 1, none⟩) (Kd.R_far (p := ⟨gb313, 0, none⟩) (Kd.R_types HO297.out BK313.out (by decide)) (fun _ hk => hk.2) (.int .i64 t310)) (fun _ hk => hk.2) (.int .i64 t311)) (fun _ h_ => by first | exact h_.1 | exact ⟨trivial, h_.1⟩)))); (case side4 => exact (Kd.R_reads' HO297.out).2.1); rintro e w' ⟨rfl, ⟨nd, rfl⟩⟩; have hnb52 := NB309_313.out; have hnc52 := NB313_309.out; have hcz53_0 : w24.cell? ⟨gb309, 0, none⟩ = some (.int .i64 t306) := (blk_cell BK309.out 0).trans rfl; have hcz53_1 : w24.cell? ⟨gb309, 1, none⟩ = some (.int .i64 t307) := (blk_cell BK309.out 1).trans rfl; have hfz53_0 := blk_frozen BK309.out 0; have hfz53_1 := blk_frozen BK309.out 1; have hcz54_0 : w24.cell? ⟨gb313, 0, none⟩ = some (.int .i64 0) := (blk_cell BK313.out 0).trans rfl; have hcz54_1 : w24.cell? ⟨gb313, 1, none⟩ = some (.int .i64 0) := (blk_cell BK313.out 1).trans rfl; have hfz54_0 := blk_frozen BK313.out 0; have hfz54_1 := blk_frozen BK313.out 1))
                            go_meet
                            case rel => exact ⟨_, ((t308 != false)), (by first | rfl | (simp; done) | (simp [*]; done)), H', ⟨by first | omega | exact Nat.le_refl _⟩, ⟨by (with_reducible repeat (first | apply Kd.R_alloc | apply Kd.R_drewN | apply Kd.R_drew)); exact Kd.R_mono (Kd.R_far (p := ⟨gb313, 1, none⟩) (Kd.R_far (p := ⟨gb313, 0, none⟩) (Kd.R_types HO293.out BK313.out (by decide)) (fun _ hk => hk.2) (.int .i64 t310)) (fun _ hk => hk.2) (.int .i64 t311)) (fun _ hk => trivial)⟩, ⟨by (with_reducible repeat (first | refine blk_drewN ?_ _ | refine blk_drew ?_ | refine blk_alloc ?_ _)); refine blk_far ?_ NB309_313.out _; (with_reducible repeat (first | refine blk_drewN ?_ _ | refine blk_drew ?_ | refine blk_alloc ?_ _)); refine blk_far ?_ NB309_313.out _; (with_reducible repeat (first | refine blk_drewN ?_ _ | refine blk_drew ?_ | refine blk_alloc ?_ _)); exact BK309.out⟩, ⟨by (with_reducible repeat (first | refine blk_drewN ?_ _ | refine blk_drew ?_ | refine blk_alloc ?_ _)); refine blk_put (cs := #[.int .i64 t310, .int .i64 0]) ?_ 1 _ rfl; (with_reducible repeat (first | refine blk_drewN ?_ _ | refine blk_drew ?_ | refine blk_alloc ?_ _)); refine blk_put (cs := #[.int .i64 0, .int .i64 0]) ?_ 0 _ rfl; (with_reducible repeat (first | refine blk_drewN ?_ _ | refine blk_drew ?_ | refine blk_alloc ?_ _)); exact BK313.out⟩, ⟨by repeat (first | (with_reducible first | exact HB.out | apply below_alloc | apply pw_below_drewN | apply below_drew1 | refine below_set ?_ GE309.out | refine below_set ?_ GE313.out) | exact HB.out)⟩⟩
                · rw [if_neg c33] at H
                  exact absurd H (by simp)
            · rw [if_neg c31] at H
              exact absurd H (by simp)
        · replace c29 := Bool.eq_false_iff.mpr c29
          subst c29
          have H1 : (none) = some r := by rw [if_neg (show ¬ (false = true) by decide)] at H; exact H
          clear H
          have H := H1
          clear H1
          exact absurd H (by simp)
    case rest =>
      as_aux_lemma =>
      clear HC14
      try clear c1
      try clear c2
      try clear p2
      try clear c3
      try clear c4
      try clear c5
      try clear c6
      try clear c7
      try clear c8
      try clear c9
      try clear c10
      try clear c11
      try clear c12
      try clear c13
      try clear c25
      try clear c27
      try clear c27b0
      try clear c27b1
      try clear c27b2
      try clear c29
      try clear c30
      try clear c30b0
      try clear c30b1
      try clear c30b2
      try clear c31
      try clear c31b0
      try clear c31b1
      try clear c32
      try clear c32b0
      try clear c32b1
      try clear c32b2
      try clear c33
      try clear c33b0
      try clear c33b1
      try clear c34
      try clear c34b0
      try clear c34b1
      try clear c34b2
      try clear c35
      try clear c35b0
      try clear c36
      try clear c36b0
      try clear c36b1
      try clear c36b2
      try clear c37
      try clear c37b0
      try clear c37b1
      try clear c37b2
      try clear c38
      try clear c39
      try clear c39b0
      try clear c42
      try clear c47
      try clear c52
      try clear hcz22_0
      try clear hcz22_1
      try clear hcz26_0
      try clear hcz26_1
      try clear hcz43_0
      try clear hcz43_1
      try clear hcz44_0
      try clear hcz44_1
      try clear hcz48_0
      try clear hcz48_1
      try clear hcz49_0
      try clear hcz49_1
      try clear hcz53_0
      try clear hcz53_1
      try clear hcz54_0
      try clear hcz54_1
      try clear hfz22_0
      try clear hfz22_1
      try clear hfz26_0
      try clear hfz26_1
      try clear hfz43_0
      try clear hfz43_1
      try clear hfz44_0
      try clear hfz44_1
      try clear hfz48_0
      try clear hfz48_1
      try clear hfz49_0
      try clear hfz49_1
      try clear hfz53_0
      try clear hfz53_1
      try clear hfz54_0
      try clear hfz54_1
      obtain ⟨kq, x193_13, rfl, HA, HJ13, HO_7, BK309, BK313, HB⟩ := hcut
      cases kq with
      | zero => exact absurd HA.out (by simp [laws_FnGearsRoll.j0])
      | succ kj13 =>
        have H := HA.out
        clear HA
        simp only [laws_FnGearsRoll.j0] at H
        by_cases c55 : x193_13 = true
        · subst c55
          have H1 : (none) = some r := by rw [if_pos rfl] at H; exact H
          clear H
          have H := H1
          clear H1
          exact absurd H (by simp)
        · as_aux_lemma =>
          replace c55 := Bool.eq_false_iff.mpr c55
          subst c55
          have H1 : (if t291 = true then ((impl_SpinsOf.f t288 t289 true).bind fun bt315 => ((impl_SpinsOf.f t288 t289 false).bind fun bt317 => (if (t290.length : Int) = t298 then (if (wrap64 (t298 * t289)) = (wrap64 (t302 * t288)) then (if bt315.2 = true then (if bt315.1 = (wrap64 (t298 - t302)) then (if bt317.2 = true then (if bt317.1 = (wrap64 (t298 + t302)) then (if t298 = 0 then (none) else (laws_FnGearsRoll.l0 kj13 l1 t288 t289 t308 (wrap64 (Int.tdiv t288 t298)) t290 (t290.length : Int) 0 t306 t307)) else (none)) else (none)) else (none)) else (none)) else (none)) else (none)))) else (laws_FnGearsRoll.j2 kj13 l1)) = some r := by rw [if_neg (show ¬ (false = true) by decide)] at H; exact H
          clear H
          have H := H1
          clear H1
          have HC56 := Aside0.mk H
          clear H
          go_upto_if 194 with (fail)
          go_cut [] (fun wc => ∃ (kq : Nat), Aside0 (laws_FnGearsRoll.j2 kq l1 = some r) ∧ Aside0 (kq ≤ kj13) ∧ Aside0 (wc.heap[gb309]? = some (.cells #[.int .i64 t306, .int .i64 t307] 32 (0, 0))) ∧ Aside0 (wc.heap[gb313]? = some (.cells #[.int .i64 t310, .int .i64 t311] 32 (0, 0))) ∧ Aside0 (Below w.heap.size w wc))
          case first =>
            as_aux_lemma =>
            have H := HC56.out
            clear HC56
            by_cases c57 : t291 = true
            · subst c57
              have H1 : ((impl_SpinsOf.f t288 t289 true).bind fun bt315 => ((impl_SpinsOf.f t288 t289 false).bind fun bt317 => (if (t290.length : Int) = t298 then (if (wrap64 (t298 * t289)) = (wrap64 (t302 * t288)) then (if bt315.2 = true then (if bt315.1 = (wrap64 (t298 - t302)) then (if bt317.2 = true then (if bt317.1 = (wrap64 (t298 + t302)) then (if t298 = 0 then (none) else (laws_FnGearsRoll.l0 kj13 l1 t288 t289 t308 (wrap64 (Int.tdiv t288 t298)) t290 (t290.length : Int) 0 t306 t307)) else (none)) else (none)) else (none)) else (none)) else (none)) else (none)))) = some r := by rw [if_pos rfl] at H; exact H
              clear H
              have H := H1
              clear H1
              replace H := Option.bind_eq_some_iff.mp H
              obtain ⟨⟨t315, t316⟩, A580, H⟩ := H
              replace H : ((impl_SpinsOf.f t288 t289 false).bind fun bt317 => (if (t290.length : Int) = t298 then (if (wrap64 (t298 * t289)) = (wrap64 (t302 * t288)) then (if t316 = true then (if t315 = (wrap64 (t298 - t302)) then (if bt317.2 = true then (if bt317.1 = (wrap64 (t298 + t302)) then (if t298 = 0 then (none) else (laws_FnGearsRoll.l0 kj13 l1 t288 t289 t308 (wrap64 (Int.tdiv t288 t298)) t290 (t290.length : Int) 0 t306 t307)) else (none)) else (none)) else (none)) else (none)) else (none)) else (none))) = some r := H
              have A58 := Aside0.mk A580
              clear A580
              replace H := Option.bind_eq_some_iff.mp H
              obtain ⟨⟨t317, t318⟩, A590, H⟩ := H
              replace H : (if (t290.length : Int) = t298 then (if (wrap64 (t298 * t289)) = (wrap64 (t302 * t288)) then (if t316 = true then (if t315 = (wrap64 (t298 - t302)) then (if t318 = true then (if t317 = (wrap64 (t298 + t302)) then (if t298 = 0 then (none) else (laws_FnGearsRoll.l0 kj13 l1 t288 t289 t308 (wrap64 (Int.tdiv t288 t298)) t290 (t290.length : Int) 0 t306 t307)) else (none)) else (none)) else (none)) else (none)) else (none)) else (none)) = some r := H
              have A59 := Aside0.mk A590
              clear A590
              by_cases c60 : (t290.length : Int) = t298
              · rw [if_pos c60] at H
                have c60b0 : ((t290.length : Int) == t298) = true := beq_iff_eq.mpr c60
                have c60b1 : ((t290.length : Int) != t298) = false := bne_eq_false_iff_eq.mpr c60
                clear c60
                (first | rw [c60b0] | (simp only [i64_w, i32_w]; rw [c60b0]) | skip)
                by_cases c61 : (wrap64 (t298 * t289)) = (wrap64 (t302 * t288))
                · rw [if_pos c61] at H
                  have c61b0 : ((wrap64 (t298 * t289)) == (wrap64 (t302 * t288))) = true := beq_iff_eq.mpr c61
                  have c61b1 : ((wrap64 (t298 * t289)) != (wrap64 (t302 * t288))) = false := bne_eq_false_iff_eq.mpr c61
                  clear c61
                  by_cases c62 : t316 = true
                  · subst c62
                    have H1 : (if t315 = (wrap64 (t298 - t302)) then (if t318 = true then (if t317 = (wrap64 (t298 + t302)) then (if t298 = 0 then (none) else (laws_FnGearsRoll.l0 kj13 l1 t288 t289 t308 (wrap64 (Int.tdiv t288 t298)) t290 (t290.length : Int) 0 t306 t307)) else (none)) else (none)) else (none)) = some r := by rw [if_pos rfl] at H; exact H
                    clear H
                    have H := H1
                    clear H1
                    by_cases c63 : t315 = (wrap64 (t298 - t302))
                    · rw [if_pos c63] at H
                      have c63b0 : (t315 == (wrap64 (t298 - t302))) = true := beq_iff_eq.mpr c63
                      have c63b1 : (t315 != (wrap64 (t298 - t302))) = false := bne_eq_false_iff_eq.mpr c63
                      clear c63
                      by_cases c64 : t318 = true
                      · subst c64
                        have H1 : (if t317 = (wrap64 (t298 + t302)) then (if t298 = 0 then (none) else (laws_FnGearsRoll.l0 kj13 l1 t288 t289 t308 (wrap64 (Int.tdiv t288 t298)) t290 (t290.length : Int) 0 t306 t307)) else (none)) = some r := by rw [if_pos rfl] at H; exact H
                        clear H
                        have H := H1
                        clear H1
                        by_cases c65 : t317 = (wrap64 (t298 + t302))
                        · rw [if_pos c65] at H
                          have c65b0 : (t317 == (wrap64 (t298 + t302))) = true := beq_iff_eq.mpr c65
                          have c65b1 : (t317 != (wrap64 (t298 + t302))) = false := bne_eq_false_iff_eq.mpr c65
                          clear c65
                          by_cases c66 : t298 = 0
                          · rw [if_pos c66] at H
                            exact absurd H (by simp)
                          · as_aux_lemma =>
                            rw [if_neg c66] at H
                            have c66b0 : (t298 == 0) = false := beq_eq_false_iff_ne.mpr c66
                            have c66b1 : (t298 != 0) = true := bne_iff_ne.mpr c66
                            have H' := Aside0.mk H
                            clear H
                            go_wp2_with (first | ((with_reducible refine gate_callee (f := 15) rfl ?_); refine goesL_ (some 198) rfl rfl Try.func15 (by kernel_rfl) rfl #[.int .i64 t288, .int .i64 t289, .bool true] rfl (by (try simp only [List.map_toArray, List.map_cons, List.map_nil]); first | done | rfl | (simp only [List.length_drop, List.length_take]; rfl)) ?_; (with_reducible refine (impl_SpinsOf.calls t288 t289 true t315 true _ A58.out).mono ?_); rintro e w67 ⟨rfl, hb⟩; refine ⟨_, rfl, ?_⟩; have n0_ := Aside0.mk (Kd.R_below (by (with_reducible repeat (first | apply Kd.R_alloc | apply Kd.R_drewN | apply Kd.R_drew)); exact HO_7.out) hb); have n1_ := Aside0.mk (blk_below (g := gb309) (o := .cells #[.int .i64 t306, .int .i64 t307] 32 (0, 0)) (by (with_reducible repeat (first | refine blk_drewN ?_ _ | refine blk_drew ?_ | refine blk_alloc ?_ _)); exact BK309.out) hb); have n2_ := Aside0.mk (blk_below (g := gb313) (o := .cells #[.int .i64 t310, .int .i64 t311] 32 (0, 0)) (by (with_reducible repeat (first | refine blk_drewN ?_ _ | refine blk_drew ?_ | refine blk_alloc ?_ _)); exact BK313.out) hb); have n3_ := Aside0.mk (below_step (by repeat (first | (with_reducible first | exact HB.out | apply below_alloc | apply pw_below_drewN | apply below_drew1 | refine below_set ?_ GE309.out | refine below_set ?_ GE313.out) | exact HB.out)) hb); clear HO_7; clear BK309; clear BK313; clear HB; have HO_7 := n0_; have BK309 := n1_; have BK313 := n2_; have HB := n3_; clear n0_ n1_ n2_ n3_; (try clear hb); (try clear hb2); (try clear hk); (try clear hi)) | ((with_reducible refine gate_callee (f := 15) rfl ?_); refine goesL_ (some 204) rfl rfl Try.func15 (by kernel_rfl) rfl #[.int .i64 t288, .int .i64 t289, .bool false] rfl (by (try simp only [List.map_toArray, List.map_cons, List.map_nil]); first | done | rfl | (simp only [List.length_drop, List.length_take]; rfl)) ?_; (with_reducible refine (impl_SpinsOf.calls t288 t289 false t317 true _ A59.out).mono ?_); rintro e w68 ⟨rfl, hb⟩; refine ⟨_, rfl, ?_⟩; have n0_ := Aside0.mk (Kd.R_below (by (with_reducible repeat (first | apply Kd.R_alloc | apply Kd.R_drewN | apply Kd.R_drew)); exact HO_7.out) hb); have n1_ := Aside0.mk (blk_below (g := gb309) (o := .cells #[.int .i64 t306, .int .i64 t307] 32 (0, 0)) (by (with_reducible repeat (first | refine blk_drewN ?_ _ | refine blk_drew ?_ | refine blk_alloc ?_ _)); exact BK309.out) hb); have n2_ := Aside0.mk (blk_below (g := gb313) (o := .cells #[.int .i64 t310, .int .i64 t311] 32 (0, 0)) (by (with_reducible repeat (first | refine blk_drewN ?_ _ | refine blk_drew ?_ | refine blk_alloc ?_ _)); exact BK313.out) hb); have n3_ := Aside0.mk (below_step (by repeat (first | (with_reducible first | exact HB.out | apply below_alloc | apply pw_below_drewN | apply below_drew1 | refine below_set ?_ GE309.out | refine below_set ?_ GE313.out) | exact HB.out)) hb); clear HO_7; clear BK309; clear BK313; clear HB; have HO_7 := n0_; have BK309 := n1_; have BK313 := n2_; have HB := n3_; clear n0_ n1_ n2_ n3_; (try clear hb); (try clear hb2); (try clear hk); (try clear hi); obtain ⟨Ao69, co69, eo69⟩ := Kd.R_slice HO_7.out; subst eo69))
                            go_loopg [247] kj13 (fun kq v247 w' => ∃ (x247_2 : Int), v247 = .int .i64 x247_2 ∧ Aside0 (laws_FnGearsRoll.l0 kq l1 t288 t289 t308 (wrap64 (Int.tdiv t288 t298)) t290 (t290.length : Int) x247_2 t306 t307 = some r) ∧ Aside0 (kq ≤ kj13) ∧ Aside0 (Kd.R (Kd.int .i64) 3 w' w.heap.size (fun _ => True) (.slice Ao69 t290.length co69) t290) ∧ Aside0 (w'.heap[gb309]? = some (.cells #[.int .i64 t306, .int .i64 t307] 32 (0, 0))) ∧ Aside0 (w'.heap[gb313]? = some (.cells #[.int .i64 t310, .int .i64 t311] 32 (0, 0))) ∧ Aside0 (Below w.heap.size w w'))
                            case atStart => exact ⟨(0), (by first | rfl | (simp; done) | (simp [*]; done)), H', ⟨Nat.le_refl _⟩, ⟨by (with_reducible repeat (first | apply Kd.R_alloc | apply Kd.R_drewN | apply Kd.R_drew)); exact HO_7.out⟩, ⟨by (with_reducible repeat (first | refine blk_drewN ?_ _ | refine blk_drew ?_ | refine blk_alloc ?_ _)); exact BK309.out⟩, ⟨by (with_reducible repeat (first | refine blk_drewN ?_ _ | refine blk_drew ?_ | refine blk_alloc ?_ _)); exact BK313.out⟩, ⟨by repeat (first | (with_reducible first | exact HB.out | apply below_alloc | apply pw_below_drewN | apply below_drew1 | refine below_set ?_ GE309.out | refine below_set ?_ GE313.out) | exact HB.out)⟩⟩
                            case round =>
                              as_aux_lemma =>
                              clear H'
                              try clear c1
                              try clear c2
                              try clear p2
                              try clear c3
                              try clear c4
                              try clear c5
                              try clear c6
                              try clear p6
                              try clear c7
                              try clear c8
                              try clear c9
                              try clear c10
                              try clear c11
                              try clear c12
                              try clear c13
                              try clear c15
                              try clear c25
                              try clear c27
                              try clear c27b0
                              try clear c27b1
                              try clear c27b2
                              try clear c29
                              try clear c30
                              try clear c30b0
                              try clear c30b1
                              try clear c30b2
                              try clear c31
                              try clear c31b0
                              try clear c31b1
                              try clear c32
                              try clear c32b0
                              try clear c32b1
                              try clear c32b2
                              try clear c33
                              try clear c33b0
                              try clear c33b1
                              try clear c34
                              try clear c34b0
                              try clear c34b1
                              try clear c34b2
                              try clear c35
                              try clear c35b0
                              try clear c36
                              try clear c36b0
                              try clear c36b1
                              try clear c36b2
                              try clear c37
                              try clear c37b0
                              try clear c37b1
                              try clear c37b2
                              try clear c38
                              try clear c39
                              try clear c39b0
                              try clear c42
                              try clear c47
                              try clear c52
                              try clear c55
                              try clear c57
                              try clear c60
                              try clear c60b0
                              try clear c60b1
                              try clear c61
                              try clear c61b0
                              try clear c61b1
                              try clear c62
                              try clear c63
                              try clear c63b0
                              try clear c63b1
                              try clear c64
                              try clear p64
                              try clear c65
                              try clear c65b0
                              try clear c65b1
                              try clear c66
                              try clear c66b0
                              try clear c66b1
                              try clear hcz22_0
                              try clear hcz22_1
                              try clear hcz26_0
                              try clear hcz26_1
                              try clear hcz43_0
                              try clear hcz43_1
                              try clear hcz44_0
                              try clear hcz44_1
                              try clear hcz48_0
                              try clear hcz48_1
                              try clear hcz49_0
                              try clear hcz49_1
                              try clear hcz53_0
                              try clear hcz53_1
                              try clear hcz54_0
                              try clear hcz54_1
                              try clear hfz22_0
                              try clear hfz22_1
                              try clear hfz26_0
                              try clear hfz26_1
                              try clear hfz43_0
                              try clear hfz43_1
                              try clear hfz44_0
                              try clear hfz44_1
                              try clear hfz48_0
                              try clear hfz48_1
                              try clear hfz49_0
                              try clear hfz49_1
                              try clear hfz53_0
                              try clear hfz53_1
                              try clear hfz54_0
                              try clear hfz54_1
                              try clear p2
                              obtain ⟨x247_2, rfl, HA, HK2, HO_245, BK309, BK313, HB⟩ := hrel
                              cases gk with
                              | zero => exact absurd HA.out (by simp [laws_FnGearsRoll.l0])
                              | succ k2 =>
                                have H := HA.out
                                clear HA
                                simp only [laws_FnGearsRoll.l0] at H
                                by_cases c70 : x247_2 < (t290.length : Int)
                                · rw [if_pos c70] at H
                                  have c70b0 : decide (x247_2 < (t290.length : Int)) = true := decide_eq_true c70
                                  clear c70
                                  by_cases c71 : 0 ≤ x247_2
                                  · rw [if_pos c71] at H
                                    have c71b0 : decide (0 ≤ x247_2) = true := decide_eq_true c71
                                    clear c71
                                    by_cases c72 : x247_2 < (t290.length : Int)
                                    · rw [if_pos c72] at H
                                      have c72b0 : decide (x247_2 < (t290.length : Int)) = true := decide_eq_true c72
                                      clear c72
                                      replace H := Option.bind_eq_some_iff.mp H
                                      obtain ⟨⟨t320, t321, t322⟩, A730, H⟩ := H
                                      replace H : ((impl_DoMeet.f t288 t289 (rd t290 x247_2) 0).bind fun bt323 => (if (wrap64 (Int.tdiv t288 t298)) = 0 then (none) else (if (Int.tmod (rd t290 x247_2) (wrap64 (Int.tdiv t288 t298))) = 0 then (if t322 = true then (if t320 = (rd t290 x247_2) then (if t321 = 0 then (if bt323.2 = true then (if bt323.1 = true then (if t308 = true then ((impl_PointAfter.f t306 t307 0 x247_2).bind fun bt325 => (if bt325.2 = true then (if (wrap64 (bt325.1 * (wrap64 (Int.tdiv t288 t298)))) = (rd t290 x247_2) then (laws_FnGearsRoll.l0 k2 l1 t288 t289 t308 (wrap64 (Int.tdiv t288 t298)) t290 (t290.length : Int) (wrap64 (x247_2 + 1)) t306 t307) else (none)) else (none))) else (laws_FnGearsRoll.l0 k2 l1 t288 t289 t308 (wrap64 (Int.tdiv t288 t298)) t290 (t290.length : Int) (wrap64 (x247_2 + 1)) t306 t307)) else (none)) else (none)) else (none)) else (none)) else (none)) else (none)))) = some r := H
                                      have A73 := Aside0.mk A730
                                      clear A730
                                      replace H := Option.bind_eq_some_iff.mp H
                                      obtain ⟨⟨t323, t324⟩, A740, H⟩ := H
                                      replace H : (if (wrap64 (Int.tdiv t288 t298)) = 0 then (none) else (if (Int.tmod (rd t290 x247_2) (wrap64 (Int.tdiv t288 t298))) = 0 then (if t322 = true then (if t320 = (rd t290 x247_2) then (if t321 = 0 then (if t324 = true then (if t323 = true then (if t308 = true then ((impl_PointAfter.f t306 t307 0 x247_2).bind fun bt325 => (if bt325.2 = true then (if (wrap64 (bt325.1 * (wrap64 (Int.tdiv t288 t298)))) = (rd t290 x247_2) then (laws_FnGearsRoll.l0 k2 l1 t288 t289 t308 (wrap64 (Int.tdiv t288 t298)) t290 (t290.length : Int) (wrap64 (x247_2 + 1)) t306 t307) else (none)) else (none))) else (laws_FnGearsRoll.l0 k2 l1 t288 t289 t308 (wrap64 (Int.tdiv t288 t298)) t290 (t290.length : Int) (wrap64 (x247_2 + 1)) t306 t307)) else (none)) else (none)) else (none)) else (none)) else (none)) else (none))) = some r := H
                                      have A74 := Aside0.mk A740
                                      clear A740
                                      by_cases c75 : (wrap64 (Int.tdiv t288 t298)) = 0
                                      · rw [if_pos c75] at H
                                        exact absurd H (by simp)
                                      · rw [if_neg c75] at H
                                        have c75b0 : ((wrap64 (Int.tdiv t288 t298)) == 0) = false := beq_eq_false_iff_ne.mpr c75
                                        have c75b1 : ((wrap64 (Int.tdiv t288 t298)) != 0) = true := bne_iff_ne.mpr c75
                                        by_cases c76 : (Int.tmod (rd t290 x247_2) (wrap64 (Int.tdiv t288 t298))) = 0
                                        · rw [if_pos c76] at H
                                          have c76b0 : ((Int.tmod (rd t290 x247_2) (wrap64 (Int.tdiv t288 t298))) == 0) = true := beq_iff_eq.mpr c76
                                          have c76b1 : ((Int.tmod (rd t290 x247_2) (wrap64 (Int.tdiv t288 t298))) != 0) = false := bne_eq_false_iff_eq.mpr c76
                                          clear c76
                                          by_cases c77 : t322 = true
                                          · subst c77
                                            have H1 : (if t320 = (rd t290 x247_2) then (if t321 = 0 then (if t324 = true then (if t323 = true then (if t308 = true then ((impl_PointAfter.f t306 t307 0 x247_2).bind fun bt325 => (if bt325.2 = true then (if (wrap64 (bt325.1 * (wrap64 (Int.tdiv t288 t298)))) = (rd t290 x247_2) then (laws_FnGearsRoll.l0 k2 l1 t288 t289 t308 (wrap64 (Int.tdiv t288 t298)) t290 (t290.length : Int) (wrap64 (x247_2 + 1)) t306 t307) else (none)) else (none))) else (laws_FnGearsRoll.l0 k2 l1 t288 t289 t308 (wrap64 (Int.tdiv t288 t298)) t290 (t290.length : Int) (wrap64 (x247_2 + 1)) t306 t307)) else (none)) else (none)) else (none)) else (none)) = some r := by rw [if_pos rfl] at H; exact H
                                            clear H
                                            have H := H1
                                            clear H1
                                            by_cases c78 : t320 = (rd t290 x247_2)
                                            · rw [if_pos c78] at H
                                              have c78b0 : (t320 == (rd t290 x247_2)) = true := beq_iff_eq.mpr c78
                                              have c78b1 : (t320 != (rd t290 x247_2)) = false := bne_eq_false_iff_eq.mpr c78
                                              clear c78
                                              by_cases c79 : t321 = 0
                                              · rw [if_pos c79] at H
                                                have c79b0 : (t321 == 0) = true := beq_iff_eq.mpr c79
                                                have c79b1 : (t321 != 0) = false := bne_eq_false_iff_eq.mpr c79
                                                clear c79
                                                by_cases c80 : t324 = true
                                                · subst c80
                                                  have H1 : (if t323 = true then (if t308 = true then ((impl_PointAfter.f t306 t307 0 x247_2).bind fun bt325 => (if bt325.2 = true then (if (wrap64 (bt325.1 * (wrap64 (Int.tdiv t288 t298)))) = (rd t290 x247_2) then (laws_FnGearsRoll.l0 k2 l1 t288 t289 t308 (wrap64 (Int.tdiv t288 t298)) t290 (t290.length : Int) (wrap64 (x247_2 + 1)) t306 t307) else (none)) else (none))) else (laws_FnGearsRoll.l0 k2 l1 t288 t289 t308 (wrap64 (Int.tdiv t288 t298)) t290 (t290.length : Int) (wrap64 (x247_2 + 1)) t306 t307)) else (none)) = some r := by rw [if_pos rfl] at H; exact H
                                                  clear H
                                                  have H := H1
                                                  clear H1
                                                  by_cases c81 : t323 = true
                                                  · subst c81
                                                    have H1 : (if t308 = true then ((impl_PointAfter.f t306 t307 0 x247_2).bind fun bt325 => (if bt325.2 = true then (if (wrap64 (bt325.1 * (wrap64 (Int.tdiv t288 t298)))) = (rd t290 x247_2) then (laws_FnGearsRoll.l0 k2 l1 t288 t289 t308 (wrap64 (Int.tdiv t288 t298)) t290 (t290.length : Int) (wrap64 (x247_2 + 1)) t306 t307) else (none)) else (none))) else (laws_FnGearsRoll.l0 k2 l1 t288 t289 t308 (wrap64 (Int.tdiv t288 t298)) t290 (t290.length : Int) (wrap64 (x247_2 + 1)) t306 t307)) = some r := by rw [if_pos rfl] at H; exact H
                                                    clear H
                                                    have H := H1
                                                    clear H1
                                                    by_cases c82 : t308 = true
                                                    · subst c82
                                                      have H1 : ((impl_PointAfter.f t306 t307 0 x247_2).bind fun bt325 => (if bt325.2 = true then (if (wrap64 (bt325.1 * (wrap64 (Int.tdiv t288 t298)))) = (rd t290 x247_2) then (laws_FnGearsRoll.l0 k2 l1 t288 t289 true (wrap64 (Int.tdiv t288 t298)) t290 (t290.length : Int) (wrap64 (x247_2 + 1)) t306 t307) else (none)) else (none))) = some r := by rw [if_pos rfl] at H; exact H
                                                      clear H
                                                      have H := H1
                                                      clear H1
                                                      replace H := Option.bind_eq_some_iff.mp H
                                                      obtain ⟨⟨t325, t326⟩, A830, H⟩ := H
                                                      replace H : (if t326 = true then (if (wrap64 (t325 * (wrap64 (Int.tdiv t288 t298)))) = (rd t290 x247_2) then (laws_FnGearsRoll.l0 k2 l1 t288 t289 true (wrap64 (Int.tdiv t288 t298)) t290 (t290.length : Int) (wrap64 (x247_2 + 1)) t306 t307) else (none)) else (none)) = some r := H
                                                      have A83 := Aside0.mk A830
                                                      clear A830
                                                      by_cases c84 : t326 = true
                                                      · subst c84
                                                        have H1 : (if (wrap64 (t325 * (wrap64 (Int.tdiv t288 t298)))) = (rd t290 x247_2) then (laws_FnGearsRoll.l0 k2 l1 t288 t289 true (wrap64 (Int.tdiv t288 t298)) t290 (t290.length : Int) (wrap64 (x247_2 + 1)) t306 t307) else (none)) = some r := by rw [if_pos rfl] at H; exact H
                                                        clear H
                                                        have H := H1
                                                        clear H1
                                                        by_cases c85 : (wrap64 (t325 * (wrap64 (Int.tdiv t288 t298)))) = (rd t290 x247_2)
                                                        · as_aux_lemma =>
                                                          rw [if_pos c85] at H
                                                          have c85b0 : ((wrap64 (t325 * (wrap64 (Int.tdiv t288 t298)))) == (rd t290 x247_2)) = true := beq_iff_eq.mpr c85
                                                          have c85b1 : ((wrap64 (t325 * (wrap64 (Int.tdiv t288 t298)))) != (rd t290 x247_2)) = false := bne_eq_false_iff_eq.mpr c85
                                                          clear c85
                                                          have H' := Aside0.mk H
                                                          clear H
                                                          have p319 : 0 ≤ (x247_2 : Int) := of_decide_eq_true (by first | (with_reducible assumption) | assumption)
                                                          have q319 : x247_2 < (t290.length : Int) := of_decide_eq_true (by first | (with_reducible assumption) | assumption)
                                                          obtain ⟨ad319, e319, hx319_0⟩ := Kd.at_int (Kd.R_reads' HO_245.out).2.2 x247_2 p319 q319
                                                          cases e319
                                                          replace p319 := eq_true p319
                                                          replace q319 := eq_true q319
                                                          go_wp2_with (first | ((with_reducible refine gate_callee (f := 16) rfl ?_); refine goesL_ (some 258) rfl rfl Try.func16 (by kernel_rfl) rfl #[.int .i64 t288, .int .i64 t289, .int .i64 (wrap64 (x247_2 * t289))] rfl (by (try simp only [List.map_toArray, List.map_cons, List.map_nil]); first | done | rfl | (simp only [List.length_drop, List.length_take]; rfl)) ?_; (with_reducible refine (impl_TeethAt.calls t288 t289 (wrap64 (x247_2 * t289)) t320 t321 true _ A73.out).mono ?_); rintro e w86 ⟨rfl, hb⟩; refine ⟨_, rfl, ?_⟩; have n0_ := Aside0.mk (Kd.R_below (by (with_reducible repeat (first | apply Kd.R_alloc | apply Kd.R_drewN | apply Kd.R_drew)); exact HO_245.out) hb); have n1_ := Aside0.mk (blk_below (g := gb309) (o := .cells #[.int .i64 t306, .int .i64 t307] 32 (0, 0)) (by (with_reducible repeat (first | refine blk_drewN ?_ _ | refine blk_drew ?_ | refine blk_alloc ?_ _)); exact BK309.out) hb); have n2_ := Aside0.mk (blk_below (g := gb313) (o := .cells #[.int .i64 t310, .int .i64 t311] 32 (0, 0)) (by (with_reducible repeat (first | refine blk_drewN ?_ _ | refine blk_drew ?_ | refine blk_alloc ?_ _)); exact BK313.out) hb); have n3_ := Aside0.mk (below_step (by repeat (first | (with_reducible first | exact HB.out | apply below_alloc | apply pw_below_drewN | apply below_drew1 | refine below_set ?_ GE309.out | refine below_set ?_ GE313.out) | exact HB.out)) hb); clear HO_245; clear BK309; clear BK313; clear HB; have HO_245 := n0_; have BK309 := n1_; have BK313 := n2_; have HB := n3_; clear n0_ n1_ n2_ n3_; (try clear hb); (try clear hb2); (try clear hk); (try clear hi)) | ((with_reducible refine gate_callee (f := 17) rfl ?_); refine goesL_ (some 266) rfl rfl Try.func17 (by kernel_rfl) rfl #[.int .i64 t288, .int .i64 t289, .int .i64 (rd t290 x247_2), .int .i64 0] rfl (by (try simp only [List.map_toArray, List.map_cons, List.map_nil]); first | done | rfl | (simp only [List.length_drop, List.length_take]; rfl)) ?_; (with_reducible refine (impl_DoMeet.calls t288 t289 (rd t290 x247_2) 0 true true _ A74.out).mono ?_); rintro e w87 ⟨rfl, hb⟩; refine ⟨_, rfl, ?_⟩; have n0_ := Aside0.mk (Kd.R_below (by (with_reducible repeat (first | apply Kd.R_alloc | apply Kd.R_drewN | apply Kd.R_drew)); exact HO_245.out) hb); have n1_ := Aside0.mk (blk_below (g := gb309) (o := .cells #[.int .i64 t306, .int .i64 t307] 32 (0, 0)) (by (with_reducible repeat (first | refine blk_drewN ?_ _ | refine blk_drew ?_ | refine blk_alloc ?_ _)); exact BK309.out) hb); have n2_ := Aside0.mk (blk_below (g := gb313) (o := .cells #[.int .i64 t310, .int .i64 t311] 32 (0, 0)) (by (with_reducible repeat (first | refine blk_drewN ?_ _ | refine blk_drew ?_ | refine blk_alloc ?_ _)); exact BK313.out) hb); have n3_ := Aside0.mk (below_step (by repeat (first | (with_reducible first | exact HB.out | apply below_alloc | apply pw_below_drewN | apply below_drew1 | refine below_set ?_ GE309.out | refine below_set ?_ GE313.out) | exact HB.out)) hb); clear HO_245; clear BK309; clear BK313; clear HB; have HO_245 := n0_; have BK309 := n1_; have BK313 := n2_; have HB := n3_; clear n0_ n1_ n2_ n3_; (try clear hb); (try clear hb2); (try clear hk); (try clear hi); have hnb88 := NB309_313.out; have hnc88 := NB313_309.out; have hcz89_0 : w87.cell? ⟨gb309, 0, none⟩ = some (.int .i64 t306) := (blk_cell BK309.out 0).trans rfl; have hcz89_1 : w87.cell? ⟨gb309, 1, none⟩ = some (.int .i64 t307) := (blk_cell BK309.out 1).trans rfl; have hfz89_0 := blk_frozen BK309.out 0; have hfz89_1 := blk_frozen BK309.out 1) | ((with_reducible refine gate_callee (f := 18) rfl ?_); refine goesL_ (some 298) rfl rfl Try.func18 (by kernel_rfl) rfl #[.agg #[.int .i64 t306, .int .i64 t307], .int .i64 0, .int .i64 x247_2] rfl (by (try simp only [List.map_toArray, List.map_cons, List.map_nil]); first | done | rfl | (simp only [List.length_drop, List.length_take]; rfl)) ?_; (with_reducible refine (impl_PointAfter.calls t306 t307 0 x247_2 t325 true _ A83.out).mono ?_); rintro e w90 ⟨rfl, hb⟩; refine ⟨_, rfl, ?_⟩; have n0_ := Aside0.mk (Kd.R_below (by (with_reducible repeat (first | apply Kd.R_alloc | apply Kd.R_drewN | apply Kd.R_drew)); exact HO_245.out) hb); have n1_ := Aside0.mk (blk_below (g := gb309) (o := .cells #[.int .i64 t306, .int .i64 t307] 32 (0, 0)) (by (with_reducible repeat (first | refine blk_drewN ?_ _ | refine blk_drew ?_ | refine blk_alloc ?_ _)); exact BK309.out) hb); have n2_ := Aside0.mk (blk_below (g := gb313) (o := .cells #[.int .i64 t310, .int .i64 t311] 32 (0, 0)) (by (with_reducible repeat (first | refine blk_drewN ?_ _ | refine blk_drew ?_ | refine blk_alloc ?_ _)); exact BK313.out) hb); have n3_ := Aside0.mk (below_step (by repeat (first | (with_reducible first | exact HB.out | apply below_alloc | apply pw_below_drewN | apply below_drew1 | refine below_set ?_ GE309.out | refine below_set ?_ GE313.out) | exact HB.out)) hb); clear HO_245; clear BK309; clear BK313; clear HB; have HO_245 := n0_; have BK309 := n1_; have BK313 := n2_; have HB := n3_; clear n0_ n1_ n2_ n3_; (try clear hb); (try clear hb2); (try clear hk); (try clear hi)))
                                                          go_roundg k2
                                                          case measure => have := HJ13.out; have := HK2.out; omega
                                                          case rel => exact ⟨(wrap64 (x247_2 + 1)), (by first | rfl | (simp; done) | (simp [*]; done)), H', ⟨by have := HJ13.out; have := HK2.out; omega⟩, ⟨by (with_reducible repeat (first | apply Kd.R_alloc | apply Kd.R_drewN | apply Kd.R_drew)); exact HO_245.out⟩, ⟨by (with_reducible repeat (first | refine blk_drewN ?_ _ | refine blk_drew ?_ | refine blk_alloc ?_ _)); exact BK309.out⟩, ⟨by (with_reducible repeat (first | refine blk_drewN ?_ _ | refine blk_drew ?_ | refine blk_alloc ?_ _)); exact BK313.out⟩, ⟨by repeat (first | (with_reducible first | exact HB.out | apply below_alloc | apply pw_below_drewN | apply below_drew1 | refine below_set ?_ GE309.out | refine below_set ?_ GE313.out) | exact HB.out)⟩⟩
                                                        · rw [if_neg c85] at H
                                                          exact absurd H (by simp)
                                                      · replace c84 := Bool.eq_false_iff.mpr c84
                                                        subst c84
                                                        have H1 : (none) = some r := by rw [if_neg (show ¬ (false = true) by decide)] at H; exact H
                                                        clear H
                                                        have H := H1
                                                        clear H1
                                                        exact absurd H (by simp)
                                                    · as_aux_lemma =>
                                                      replace c82 := Bool.eq_false_iff.mpr c82
                                                      subst c82
                                                      have H1 : (laws_FnGearsRoll.l0 k2 l1 t288 t289 false (wrap64 (Int.tdiv t288 t298)) t290 (t290.length : Int) (wrap64 (x247_2 + 1)) t306 t307) = some r := by rw [if_neg (show ¬ (false = true) by decide)] at H; exact H
                                                      clear H
                                                      have H := H1
                                                      clear H1
                                                      have H' := Aside0.mk H
                                                      clear H
                                                      have p319 : 0 ≤ (x247_2 : Int) := of_decide_eq_true (by first | (with_reducible assumption) | assumption)
                                                      have q319 : x247_2 < (t290.length : Int) := of_decide_eq_true (by first | (with_reducible assumption) | assumption)
                                                      obtain ⟨ad319, e319, hx319_0⟩ := Kd.at_int (Kd.R_reads' HO_245.out).2.2 x247_2 p319 q319
                                                      cases e319
                                                      replace p319 := eq_true p319
                                                      replace q319 := eq_true q319
                                                      go_wp2_with (first | ((with_reducible refine gate_callee (f := 16) rfl ?_); refine goesL_ (some 258) rfl rfl Try.func16 (by kernel_rfl) rfl #[.int .i64 t288, .int .i64 t289, .int .i64 (wrap64 (x247_2 * t289))] rfl (by (try simp only [List.map_toArray, List.map_cons, List.map_nil]); first | done | rfl | (simp only [List.length_drop, List.length_take]; rfl)) ?_; (with_reducible refine (impl_TeethAt.calls t288 t289 (wrap64 (x247_2 * t289)) t320 t321 true _ A73.out).mono ?_); rintro e w91 ⟨rfl, hb⟩; refine ⟨_, rfl, ?_⟩; have n0_ := Aside0.mk (Kd.R_below (by (with_reducible repeat (first | apply Kd.R_alloc | apply Kd.R_drewN | apply Kd.R_drew)); exact HO_245.out) hb); have n1_ := Aside0.mk (blk_below (g := gb309) (o := .cells #[.int .i64 t306, .int .i64 t307] 32 (0, 0)) (by (with_reducible repeat (first | refine blk_drewN ?_ _ | refine blk_drew ?_ | refine blk_alloc ?_ _)); exact BK309.out) hb); have n2_ := Aside0.mk (blk_below (g := gb313) (o := .cells #[.int .i64 t310, .int .i64 t311] 32 (0, 0)) (by (with_reducible repeat (first | refine blk_drewN ?_ _ | refine blk_drew ?_ | refine blk_alloc ?_ _)); exact BK313.out) hb); have n3_ := Aside0.mk (below_step (by repeat (first | (with_reducible first | exact HB.out | apply below_alloc | apply pw_below_drewN | apply below_drew1 | refine below_set ?_ GE309.out | refine below_set ?_ GE313.out) | exact HB.out)) hb); clear HO_245; clear BK309; clear BK313; clear HB; have HO_245 := n0_; have BK309 := n1_; have BK313 := n2_; have HB := n3_; clear n0_ n1_ n2_ n3_; (try clear hb); (try clear hb2); (try clear hk); (try clear hi)) | ((with_reducible refine gate_callee (f := 17) rfl ?_); refine goesL_ (some 266) rfl rfl Try.func17 (by kernel_rfl) rfl #[.int .i64 t288, .int .i64 t289, .int .i64 (rd t290 x247_2), .int .i64 0] rfl (by (try simp only [List.map_toArray, List.map_cons, List.map_nil]); first | done | rfl | (simp only [List.length_drop, List.length_take]; rfl)) ?_; (with_reducible refine (impl_DoMeet.calls t288 t289 (rd t290 x247_2) 0 true true _ A74.out).mono ?_); rintro e w92 ⟨rfl, hb⟩; refine ⟨_, rfl, ?_⟩; have n0_ := Aside0.mk (Kd.R_below (by (with_reducible repeat (first | apply Kd.R_alloc | apply Kd.R_drewN | apply Kd.R_drew)); exact HO_245.out) hb); have n1_ := Aside0.mk (blk_below (g := gb309) (o := .cells #[.int .i64 t306, .int .i64 t307] 32 (0, 0)) (by (with_reducible repeat (first | refine blk_drewN ?_ _ | refine blk_drew ?_ | refine blk_alloc ?_ _)); exact BK309.out) hb); have n2_ := Aside0.mk (blk_below (g := gb313) (o := .cells #[.int .i64 t310, .int .i64 t311] 32 (0, 0)) (by (with_reducible repeat (first | refine blk_drewN ?_ _ | refine blk_drew ?_ | refine blk_alloc ?_ _)); exact BK313.out) hb); have n3_ := Aside0.mk (below_step (by repeat (first | (with_reducible first | exact HB.out | apply below_alloc | apply pw_below_drewN | apply below_drew1 | refine below_set ?_ GE309.out | refine below_set ?_ GE313.out) | exact HB.out)) hb); clear HO_245; clear BK309; clear BK313; clear HB; have HO_245 := n0_; have BK309 := n1_; have BK313 := n2_; have HB := n3_; clear n0_ n1_ n2_ n3_; (try clear hb); (try clear hb2); (try clear hk); (try clear hi)))
                                                      go_roundg k2
                                                      case measure => have := HJ13.out; have := HK2.out; omega
                                                      case rel => exact ⟨(wrap64 (x247_2 + 1)), (by first | rfl | (simp; done) | (simp [*]; done)), H', ⟨by have := HJ13.out; have := HK2.out; omega⟩, ⟨by (with_reducible repeat (first | apply Kd.R_alloc | apply Kd.R_drewN | apply Kd.R_drew)); exact HO_245.out⟩, ⟨by (with_reducible repeat (first | refine blk_drewN ?_ _ | refine blk_drew ?_ | refine blk_alloc ?_ _)); exact BK309.out⟩, ⟨by (with_reducible repeat (first | refine blk_drewN ?_ _ | refine blk_drew ?_ | refine blk_alloc ?_ _)); exact BK313.out⟩, ⟨by repeat (first | (with_reducible first | exact HB.out | apply below_alloc | apply pw_below_drewN | apply below_drew1 | refine below_set ?_ GE309.out | refine below_set ?_ GE313.out) | exact HB.out)⟩⟩
                                                  · replace c81 := Bool.eq_false_iff.mpr c81
                                                    subst c81
                                                    have H1 : (none) = some r := by rw [if_neg (show ¬ (false = true) by decide)] at H; exact H
                                                    clear H
                                                    have H := H1
                                                    clear H1
                                                    exact absurd H (by simp)
                                                · replace c80 := Bool.eq_false_iff.mpr c80
                                                  subst c80
                                                  have H1 : (none) = some r := by rw [if_neg (show ¬ (false = true) by decide)] at H; exact H
                                                  clear H
                                                  have H := H1
                                                  clear H1
                                                  exact absurd H (by simp)
                                              · rw [if_neg c79] at H
                                                exact absurd H (by simp)
                                            · rw [if_neg c78] at H
                                              exact absurd H (by simp)
                                          · replace c77 := Bool.eq_false_iff.mpr c77
                                            subst c77
                                            have H1 : (none) = some r := by rw [if_neg (show ¬ (false = true) by decide)] at H; exact H
                                            clear H
                                            have H := H1
                                            clear H1
                                            exact absurd H (by simp)
                                        · rw [if_neg c76] at H
                                          exact absurd H (by simp)
                                    · rw [if_neg c72] at H
                                      exact absurd H (by simp)
                                  · rw [if_neg c71] at H
                                    exact absurd H (by simp)
                                · as_aux_lemma =>
                                  rw [if_neg c70] at H
                                  have c70b0 : decide (x247_2 < (t290.length : Int)) = false := decide_eq_false c70
                                  clear c70
                                  have H' := Aside0.mk H
                                  clear H
                                  go_wp2
                                  go_meet
                                  case rel => exact ⟨_, H', ⟨by have := HJ13.out; have := HK2.out; first | omega | exact Nat.le_refl _⟩, ⟨by (with_reducible repeat (first | refine blk_drewN ?_ _ | refine blk_drew ?_ | refine blk_alloc ?_ _)); exact BK309.out⟩, ⟨by (with_reducible repeat (first | refine blk_drewN ?_ _ | refine blk_drew ?_ | refine blk_alloc ?_ _)); exact BK313.out⟩, ⟨by repeat (first | (with_reducible first | exact HB.out | apply below_alloc | apply pw_below_drewN | apply below_drew1 | refine below_set ?_ GE309.out | refine below_set ?_ GE313.out) | exact HB.out)⟩⟩
                        · rw [if_neg c65] at H
                          exact absurd H (by simp)
                      · replace c64 := Bool.eq_false_iff.mpr c64
                        subst c64
                        have H1 : (none) = some r := by rw [if_neg (show ¬ (false = true) by decide)] at H; exact H
                        clear H
                        have H := H1
                        clear H1
                        exact absurd H (by simp)
                    · rw [if_neg c63] at H
                      exact absurd H (by simp)
                  · replace c62 := Bool.eq_false_iff.mpr c62
                    subst c62
                    have H1 : (none) = some r := by rw [if_neg (show ¬ (false = true) by decide)] at H; exact H
                    clear H
                    have H := H1
                    clear H1
                    exact absurd H (by simp)
                · rw [if_neg c61] at H
                  exact absurd H (by simp)
              · rw [if_neg c60] at H
                exact absurd H (by simp)
            · as_aux_lemma =>
              replace c57 := Bool.eq_false_iff.mpr c57
              subst c57
              have H1 : (laws_FnGearsRoll.j2 kj13 l1) = some r := by rw [if_neg (show ¬ (false = true) by decide)] at H; exact H
              clear H
              have H := H1
              clear H1
              have H' := Aside0.mk H
              clear H
              go_wp2
              go_meet
              case rel => exact ⟨_, H', ⟨by have := HJ13.out; first | omega | exact Nat.le_refl _⟩, ⟨by (with_reducible repeat (first | refine blk_drewN ?_ _ | refine blk_drew ?_ | refine blk_alloc ?_ _)); exact BK309.out⟩, ⟨by (with_reducible repeat (first | refine blk_drewN ?_ _ | refine blk_drew ?_ | refine blk_alloc ?_ _)); exact BK313.out⟩, ⟨by repeat (first | (with_reducible first | exact HB.out | apply below_alloc | apply pw_below_drewN | apply below_drew1 | refine below_set ?_ GE309.out | refine below_set ?_ GE313.out) | exact HB.out)⟩⟩
          case rest =>
            as_aux_lemma =>
            clear HC56
            try clear c1
            try clear c2
            try clear p2
            try clear c3
            try clear p3
            try clear q3
            try clear hx3
            try clear c4
            try clear c5
            try clear c6
            try clear p6
            try clear c7
            try clear c8
            try clear c9
            try clear c10
            try clear c11
            try clear c12
            try clear c13
            try clear c15
            try clear c16
            try clear c17
            try clear c18
            try clear c25
            try clear c27
            try clear c27b0
            try clear c27b1
            try clear c27b2
            try clear c29
            try clear c30
            try clear c30b0
            try clear c30b1
            try clear c30b2
            try clear c31
            try clear c31b0
            try clear c31b1
            try clear p31
            try clear q31
            try clear hx31
            try clear c32
            try clear c32b0
            try clear c32b1
            try clear c32b2
            try clear c33
            try clear c33b0
            try clear c33b1
            try clear c34
            try clear c34b0
            try clear c34b1
            try clear c34b2
            try clear c35
            try clear c35b0
            try clear c36
            try clear c36b0
            try clear c36b1
            try clear c36b2
            try clear c37
            try clear c37b0
            try clear c37b1
            try clear c37b2
            try clear c38
            try clear c39
            try clear c39b0
            try clear c42
            try clear c47
            try clear c52
            try clear c55
            try clear c57
            try clear c60
            try clear c60b0
            try clear c60b1
            try clear c61
            try clear c61b0
            try clear c61b1
            try clear c62
            try clear c63
            try clear c63b0
            try clear c63b1
            try clear c64
            try clear p64
            try clear c65
            try clear c65b0
            try clear c65b1
            try clear c66
            try clear c66b0
            try clear c66b1
            try clear c70
            try clear c70b0
            try clear c71
            try clear c71b0
            try clear c72
            try clear c72b0
            try clear c75
            try clear c75b0
            try clear c75b1
            try clear c76
            try clear c76b0
            try clear c76b1
            try clear c77
            try clear c78
            try clear c78b0
            try clear c78b1
            try clear c79
            try clear c79b0
            try clear c79b1
            try clear c80
            try clear c81
            try clear c82
            try clear c84
            try clear c85
            try clear c85b0
            try clear c85b1
            try clear c88
            try clear hcz22_0
            try clear hcz22_1
            try clear hcz26_0
            try clear hcz26_1
            try clear hcz43_0
            try clear hcz43_1
            try clear hcz44_0
            try clear hcz44_1
            try clear hcz48_0
            try clear hcz48_1
            try clear hcz49_0
            try clear hcz49_1
            try clear hcz53_0
            try clear hcz53_1
            try clear hcz54_0
            try clear hcz54_1
            try clear hcz89_0
            try clear hcz89_1
            try clear hfz22_0
            try clear hfz22_1
            try clear hfz26_0
            try clear hfz26_1
            try clear hfz43_0
            try clear hfz43_1
            try clear hfz44_0
            try clear hfz44_1
            try clear hfz48_0
            try clear hfz48_1
            try clear hfz49_0
            try clear hfz49_1
            try clear hfz53_0
            try clear hfz53_1
            try clear hfz54_0
            try clear hfz54_1
            try clear hfz89_0
            try clear hfz89_1
            try clear hx319_0
            try clear p2
            try clear p319
            try clear p6
            try clear p64
            try clear q319
            obtain ⟨kq, HA, HJ55, BK309, BK313, HB⟩ := hcut
            cases kq with
            | zero => exact absurd HA.out (by simp [laws_FnGearsRoll.j2])
            | succ kj55 =>
              have H := HA.out
              clear HA
              simp only [laws_FnGearsRoll.j2] at H
              replace H := Option.bind_eq_some_iff.mp H
              obtain ⟨⟨t327, t328, t329⟩, A930, H⟩ := H
              replace H : ((impl_SpinsOf.f t327 t328 t329).bind fun bt330 => ((spec_SpinsOf.f t327 t328 t329).bind fun bt332 => ((spec_DrawTeethAt.f l1).bind fun bt334 => ((impl_TeethAt.f bt334.1 bt334.2.1 bt334.2.2).bind fun bt337 => ((spec_TeethAt.f bt334.1 bt334.2.1 bt334.2.2).bind fun bt340 => ((spec_DrawSameCusps.f l1).bind fun bt343 => ((impl_SameCusps.f bt343.1 bt343.2.1 bt343.2.2).bind fun bt346 => ((spec_SameCusps.f kj55 bt343.1 bt343.2.1 bt343.2.2).bind fun bt348 => ((spec_DrawWheelsFor.f l1).bind fun bt350 => ((impl_WheelsFor.f bt350.1 bt350.2).bind fun bt352 => ((spec_WheelsFor.f kj55 bt350.1 bt350.2).bind fun bt356 => (if (bt330.2 != bt332.2) = true then (none) else (if bt330.1 = bt332.1 then (if (bt337.2.2 != bt340.2.2) = true then (none) else (if bt337.1 = bt340.1 then (if bt337.2.1 = bt340.2.1 then (if (bt346.2 != bt348.2) = true then (none) else (if (bt346.1 != bt348.1) = true then (none) else (if (bt352.2 != bt356.2) = true then (none) else ((laws_uSame.f kj55 bt352.1 bt356.1).bind fun t360 => (if t360 = true then (if bt346.2 = true then ((impl_CuspsOf.f kj55 bt343.1 bt343.2.1).bind fun bt361 => ((impl_CuspsOf.f kj55 bt343.1 bt343.2.2).bind fun bt365 => (if bt361.2 = true then (if bt365.2 = true then (laws_FnGearsRoll.l1 kj55 bt346.1 bt350.1 bt350.2 bt352.1 bt352.2 bt365.1 ((bt361.1.length : Int) == (bt365.1.length : Int)) bt361.1 (bt361.1.length : Int) 0) else (none)) else (none)))) else (laws_FnGearsRoll.j4 kj55 bt350.1 bt350.2 bt352.1 bt352.2)) else (none)))))) else (none)) else (none))) else (none)))))))))))))) = some r := H
              have A93 := Aside0.mk A930
              clear A930
              replace H := Option.bind_eq_some_iff.mp H
              obtain ⟨⟨t330, t331⟩, A940, H⟩ := H
              replace H : ((spec_SpinsOf.f t327 t328 t329).bind fun bt332 => ((spec_DrawTeethAt.f l1).bind fun bt334 => ((impl_TeethAt.f bt334.1 bt334.2.1 bt334.2.2).bind fun bt337 => ((spec_TeethAt.f bt334.1 bt334.2.1 bt334.2.2).bind fun bt340 => ((spec_DrawSameCusps.f l1).bind fun bt343 => ((impl_SameCusps.f bt343.1 bt343.2.1 bt343.2.2).bind fun bt346 => ((spec_SameCusps.f kj55 bt343.1 bt343.2.1 bt343.2.2).bind fun bt348 => ((spec_DrawWheelsFor.f l1).bind fun bt350 => ((impl_WheelsFor.f bt350.1 bt350.2).bind fun bt352 => ((spec_WheelsFor.f kj55 bt350.1 bt350.2).bind fun bt356 => (if (t331 != bt332.2) = true then (none) else (if t330 = bt332.1 then (if (bt337.2.2 != bt340.2.2) = true then (none) else (if bt337.1 = bt340.1 then (if bt337.2.1 = bt340.2.1 then (if (bt346.2 != bt348.2) = true then (none) else (if (bt346.1 != bt348.1) = true then (none) else (if (bt352.2 != bt356.2) = true then (none) else ((laws_uSame.f kj55 bt352.1 bt356.1).bind fun t360 => (if t360 = true then (if bt346.2 = true then ((impl_CuspsOf.f kj55 bt343.1 bt343.2.1).bind fun bt361 => ((impl_CuspsOf.f kj55 bt343.1 bt343.2.2).bind fun bt365 => (if bt361.2 = true then (if bt365.2 = true then (laws_FnGearsRoll.l1 kj55 bt346.1 bt350.1 bt350.2 bt352.1 bt352.2 bt365.1 ((bt361.1.length : Int) == (bt365.1.length : Int)) bt361.1 (bt361.1.length : Int) 0) else (none)) else (none)))) else (laws_FnGearsRoll.j4 kj55 bt350.1 bt350.2 bt352.1 bt352.2)) else (none)))))) else (none)) else (none))) else (none))))))))))))) = some r := H
              have A94 := Aside0.mk A940
              clear A940
              replace H := Option.bind_eq_some_iff.mp H
              obtain ⟨⟨t332, t333⟩, A950, H⟩ := H
              replace H : ((spec_DrawTeethAt.f l1).bind fun bt334 => ((impl_TeethAt.f bt334.1 bt334.2.1 bt334.2.2).bind fun bt337 => ((spec_TeethAt.f bt334.1 bt334.2.1 bt334.2.2).bind fun bt340 => ((spec_DrawSameCusps.f l1).bind fun bt343 => ((impl_SameCusps.f bt343.1 bt343.2.1 bt343.2.2).bind fun bt346 => ((spec_SameCusps.f kj55 bt343.1 bt343.2.1 bt343.2.2).bind fun bt348 => ((spec_DrawWheelsFor.f l1).bind fun bt350 => ((impl_WheelsFor.f bt350.1 bt350.2).bind fun bt352 => ((spec_WheelsFor.f kj55 bt350.1 bt350.2).bind fun bt356 => (if (t331 != t333) = true then (none) else (if t330 = t332 then (if (bt337.2.2 != bt340.2.2) = true then (none) else (if bt337.1 = bt340.1 then (if bt337.2.1 = bt340.2.1 then (if (bt346.2 != bt348.2) = true then (none) else (if (bt346.1 != bt348.1) = true then (none) else (if (bt352.2 != bt356.2) = true then (none) else ((laws_uSame.f kj55 bt352.1 bt356.1).bind fun t360 => (if t360 = true then (if bt346.2 = true then ((impl_CuspsOf.f kj55 bt343.1 bt343.2.1).bind fun bt361 => ((impl_CuspsOf.f kj55 bt343.1 bt343.2.2).bind fun bt365 => (if bt361.2 = true then (if bt365.2 = true then (laws_FnGearsRoll.l1 kj55 bt346.1 bt350.1 bt350.2 bt352.1 bt352.2 bt365.1 ((bt361.1.length : Int) == (bt365.1.length : Int)) bt361.1 (bt361.1.length : Int) 0) else (none)) else (none)))) else (laws_FnGearsRoll.j4 kj55 bt350.1 bt350.2 bt352.1 bt352.2)) else (none)))))) else (none)) else (none))) else (none)))))))))))) = some r := H
              have A95 := Aside0.mk A950
              clear A950
              replace H := Option.bind_eq_some_iff.mp H
              obtain ⟨⟨t334, t335, t336⟩, A960, H⟩ := H
              replace H : ((impl_TeethAt.f t334 t335 t336).bind fun bt337 => ((spec_TeethAt.f t334 t335 t336).bind fun bt340 => ((spec_DrawSameCusps.f l1).bind fun bt343 => ((impl_SameCusps.f bt343.1 bt343.2.1 bt343.2.2).bind fun bt346 => ((spec_SameCusps.f kj55 bt343.1 bt343.2.1 bt343.2.2).bind fun bt348 => ((spec_DrawWheelsFor.f l1).bind fun bt350 => ((impl_WheelsFor.f bt350.1 bt350.2).bind fun bt352 => ((spec_WheelsFor.f kj55 bt350.1 bt350.2).bind fun bt356 => (if (t331 != t333) = true then (none) else (if t330 = t332 then (if (bt337.2.2 != bt340.2.2) = true then (none) else (if bt337.1 = bt340.1 then (if bt337.2.1 = bt340.2.1 then (if (bt346.2 != bt348.2) = true then (none) else (if (bt346.1 != bt348.1) = true then (none) else (if (bt352.2 != bt356.2) = true then (none) else ((laws_uSame.f kj55 bt352.1 bt356.1).bind fun t360 => (if t360 = true then (if bt346.2 = true then ((impl_CuspsOf.f kj55 bt343.1 bt343.2.1).bind fun bt361 => ((impl_CuspsOf.f kj55 bt343.1 bt343.2.2).bind fun bt365 => (if bt361.2 = true then (if bt365.2 = true then (laws_FnGearsRoll.l1 kj55 bt346.1 bt350.1 bt350.2 bt352.1 bt352.2 bt365.1 ((bt361.1.length : Int) == (bt365.1.length : Int)) bt361.1 (bt361.1.length : Int) 0) else (none)) else (none)))) else (laws_FnGearsRoll.j4 kj55 bt350.1 bt350.2 bt352.1 bt352.2)) else (none)))))) else (none)) else (none))) else (none))))))))))) = some r := H
              have A96 := Aside0.mk A960
              clear A960
              replace H := Option.bind_eq_some_iff.mp H
              obtain ⟨⟨t337, t338, t339⟩, A970, H⟩ := H
              replace H : ((spec_TeethAt.f t334 t335 t336).bind fun bt340 => ((spec_DrawSameCusps.f l1).bind fun bt343 => ((impl_SameCusps.f bt343.1 bt343.2.1 bt343.2.2).bind fun bt346 => ((spec_SameCusps.f kj55 bt343.1 bt343.2.1 bt343.2.2).bind fun bt348 => ((spec_DrawWheelsFor.f l1).bind fun bt350 => ((impl_WheelsFor.f bt350.1 bt350.2).bind fun bt352 => ((spec_WheelsFor.f kj55 bt350.1 bt350.2).bind fun bt356 => (if (t331 != t333) = true then (none) else (if t330 = t332 then (if (t339 != bt340.2.2) = true then (none) else (if t337 = bt340.1 then (if t338 = bt340.2.1 then (if (bt346.2 != bt348.2) = true then (none) else (if (bt346.1 != bt348.1) = true then (none) else (if (bt352.2 != bt356.2) = true then (none) else ((laws_uSame.f kj55 bt352.1 bt356.1).bind fun t360 => (if t360 = true then (if bt346.2 = true then ((impl_CuspsOf.f kj55 bt343.1 bt343.2.1).bind fun bt361 => ((impl_CuspsOf.f kj55 bt343.1 bt343.2.2).bind fun bt365 => (if bt361.2 = true then (if bt365.2 = true then (laws_FnGearsRoll.l1 kj55 bt346.1 bt350.1 bt350.2 bt352.1 bt352.2 bt365.1 ((bt361.1.length : Int) == (bt365.1.length : Int)) bt361.1 (bt361.1.length : Int) 0) else (none)) else (none)))) else (laws_FnGearsRoll.j4 kj55 bt350.1 bt350.2 bt352.1 bt352.2)) else (none)))))) else (none)) else (none))) else (none)))))))))) = some r := H
              have A97 := Aside0.mk A970
              clear A970
              replace H := Option.bind_eq_some_iff.mp H
              obtain ⟨⟨t340, t341, t342⟩, A980, H⟩ := H
              replace H : ((spec_DrawSameCusps.f l1).bind fun bt343 => ((impl_SameCusps.f bt343.1 bt343.2.1 bt343.2.2).bind fun bt346 => ((spec_SameCusps.f kj55 bt343.1 bt343.2.1 bt343.2.2).bind fun bt348 => ((spec_DrawWheelsFor.f l1).bind fun bt350 => ((impl_WheelsFor.f bt350.1 bt350.2).bind fun bt352 => ((spec_WheelsFor.f kj55 bt350.1 bt350.2).bind fun bt356 => (if (t331 != t333) = true then (none) else (if t330 = t332 then (if (t339 != t342) = true then (none) else (if t337 = t340 then (if t338 = t341 then (if (bt346.2 != bt348.2) = true then (none) else (if (bt346.1 != bt348.1) = true then (none) else (if (bt352.2 != bt356.2) = true then (none) else ((laws_uSame.f kj55 bt352.1 bt356.1).bind fun t360 => (if t360 = true then (if bt346.2 = true then ((impl_CuspsOf.f kj55 bt343.1 bt343.2.1).bind fun bt361 => ((impl_CuspsOf.f kj55 bt343.1 bt343.2.2).bind fun bt365 => (if bt361.2 = true then (if bt365.2 = true then (laws_FnGearsRoll.l1 kj55 bt346.1 bt350.1 bt350.2 bt352.1 bt352.2 bt365.1 ((bt361.1.length : Int) == (bt365.1.length : Int)) bt361.1 (bt361.1.length : Int) 0) else (none)) else (none)))) else (laws_FnGearsRoll.j4 kj55 bt350.1 bt350.2 bt352.1 bt352.2)) else (none)))))) else (none)) else (none))) else (none))))))))) = some r := H
              have A98 := Aside0.mk A980
              clear A980
              replace H := Option.bind_eq_some_iff.mp H
              obtain ⟨⟨t343, t344, t345⟩, A990, H⟩ := H
              replace H : ((impl_SameCusps.f t343 t344 t345).bind fun bt346 => ((spec_SameCusps.f kj55 t343 t344 t345).bind fun bt348 => ((spec_DrawWheelsFor.f l1).bind fun bt350 => ((impl_WheelsFor.f bt350.1 bt350.2).bind fun bt352 => ((spec_WheelsFor.f kj55 bt350.1 bt350.2).bind fun bt356 => (if (t331 != t333) = true then (none) else (if t330 = t332 then (if (t339 != t342) = true then (none) else (if t337 = t340 then (if t338 = t341 then (if (bt346.2 != bt348.2) = true then (none) else (if (bt346.1 != bt348.1) = true then (none) else (if (bt352.2 != bt356.2) = true then (none) else ((laws_uSame.f kj55 bt352.1 bt356.1).bind fun t360 => (if t360 = true then (if bt346.2 = true then ((impl_CuspsOf.f kj55 t343 t344).bind fun bt361 => ((impl_CuspsOf.f kj55 t343 t345).bind fun bt365 => (if bt361.2 = true then (if bt365.2 = true then (laws_FnGearsRoll.l1 kj55 bt346.1 bt350.1 bt350.2 bt352.1 bt352.2 bt365.1 ((bt361.1.length : Int) == (bt365.1.length : Int)) bt361.1 (bt361.1.length : Int) 0) else (none)) else (none)))) else (laws_FnGearsRoll.j4 kj55 bt350.1 bt350.2 bt352.1 bt352.2)) else (none)))))) else (none)) else (none))) else (none)))))))) = some r := H
              have A99 := Aside0.mk A990
              clear A990
              replace H := Option.bind_eq_some_iff.mp H
              obtain ⟨⟨t346, t347⟩, A1000, H⟩ := H
              replace H : ((spec_SameCusps.f kj55 t343 t344 t345).bind fun bt348 => ((spec_DrawWheelsFor.f l1).bind fun bt350 => ((impl_WheelsFor.f bt350.1 bt350.2).bind fun bt352 => ((spec_WheelsFor.f kj55 bt350.1 bt350.2).bind fun bt356 => (if (t331 != t333) = true then (none) else (if t330 = t332 then (if (t339 != t342) = true then (none) else (if t337 = t340 then (if t338 = t341 then (if (t347 != bt348.2) = true then (none) else (if (t346 != bt348.1) = true then (none) else (if (bt352.2 != bt356.2) = true then (none) else ((laws_uSame.f kj55 bt352.1 bt356.1).bind fun t360 => (if t360 = true then (if t347 = true then ((impl_CuspsOf.f kj55 t343 t344).bind fun bt361 => ((impl_CuspsOf.f kj55 t343 t345).bind fun bt365 => (if bt361.2 = true then (if bt365.2 = true then (laws_FnGearsRoll.l1 kj55 t346 bt350.1 bt350.2 bt352.1 bt352.2 bt365.1 ((bt361.1.length : Int) == (bt365.1.length : Int)) bt361.1 (bt361.1.length : Int) 0) else (none)) else (none)))) else (laws_FnGearsRoll.j4 kj55 bt350.1 bt350.2 bt352.1 bt352.2)) else (none)))))) else (none)) else (none))) else (none))))))) = some r := H
              have A100 := Aside0.mk A1000
              clear A1000
              replace H := Option.bind_eq_some_iff.mp H
              obtain ⟨⟨t348, t349⟩, A1010, H⟩ := H
              replace H : ((spec_DrawWheelsFor.f l1).bind fun bt350 => ((impl_WheelsFor.f bt350.1 bt350.2).bind fun bt352 => ((spec_WheelsFor.f kj55 bt350.1 bt350.2).bind fun bt356 => (if (t331 != t333) = true then (none) else (if t330 = t332 then (if (t339 != t342) = true then (none) else (if t337 = t340 then (if t338 = t341 then (if (t347 != t349) = true then (none) else (if (t346 != t348) = true then (none) else (if (bt352.2 != bt356.2) = true then (none) else ((laws_uSame.f kj55 bt352.1 bt356.1).bind fun t360 => (if t360 = true then (if t347 = true then ((impl_CuspsOf.f kj55 t343 t344).bind fun bt361 => ((impl_CuspsOf.f kj55 t343 t345).bind fun bt365 => (if bt361.2 = true then (if bt365.2 = true then (laws_FnGearsRoll.l1 kj55 t346 bt350.1 bt350.2 bt352.1 bt352.2 bt365.1 ((bt361.1.length : Int) == (bt365.1.length : Int)) bt361.1 (bt361.1.length : Int) 0) else (none)) else (none)))) else (laws_FnGearsRoll.j4 kj55 bt350.1 bt350.2 bt352.1 bt352.2)) else (none)))))) else (none)) else (none))) else (none)))))) = some r := H
              have A101 := Aside0.mk A1010
              clear A1010
              replace H := Option.bind_eq_some_iff.mp H
              obtain ⟨⟨t350, t351⟩, A1020, H⟩ := H
              replace H : ((impl_WheelsFor.f t350 t351).bind fun bt352 => ((spec_WheelsFor.f kj55 t350 t351).bind fun bt356 => (if (t331 != t333) = true then (none) else (if t330 = t332 then (if (t339 != t342) = true then (none) else (if t337 = t340 then (if t338 = t341 then (if (t347 != t349) = true then (none) else (if (t346 != t348) = true then (none) else (if (bt352.2 != bt356.2) = true then (none) else ((laws_uSame.f kj55 bt352.1 bt356.1).bind fun t360 => (if t360 = true then (if t347 = true then ((impl_CuspsOf.f kj55 t343 t344).bind fun bt361 => ((impl_CuspsOf.f kj55 t343 t345).bind fun bt365 => (if bt361.2 = true then (if bt365.2 = true then (laws_FnGearsRoll.l1 kj55 t346 t350 t351 bt352.1 bt352.2 bt365.1 ((bt361.1.length : Int) == (bt365.1.length : Int)) bt361.1 (bt361.1.length : Int) 0) else (none)) else (none)))) else (laws_FnGearsRoll.j4 kj55 t350 t351 bt352.1 bt352.2)) else (none)))))) else (none)) else (none))) else (none))))) = some r := H
              have A102 := Aside0.mk A1020
              clear A1020
              replace H := Option.bind_eq_some_iff.mp H
              obtain ⟨⟨t352, t353⟩, A1030, H⟩ := H
              replace H : ((spec_WheelsFor.f kj55 t350 t351).bind fun bt356 => (if (t331 != t333) = true then (none) else (if t330 = t332 then (if (t339 != t342) = true then (none) else (if t337 = t340 then (if t338 = t341 then (if (t347 != t349) = true then (none) else (if (t346 != t348) = true then (none) else (if (t353 != bt356.2) = true then (none) else ((laws_uSame.f kj55 t352 bt356.1).bind fun t360 => (if t360 = true then (if t347 = true then ((impl_CuspsOf.f kj55 t343 t344).bind fun bt361 => ((impl_CuspsOf.f kj55 t343 t345).bind fun bt365 => (if bt361.2 = true then (if bt365.2 = true then (laws_FnGearsRoll.l1 kj55 t346 t350 t351 t352 t353 bt365.1 ((bt361.1.length : Int) == (bt365.1.length : Int)) bt361.1 (bt361.1.length : Int) 0) else (none)) else (none)))) else (laws_FnGearsRoll.j4 kj55 t350 t351 t352 t353)) else (none)))))) else (none)) else (none))) else (none)))) = some r := H
              have A103 := Aside0.mk A1030
              clear A1030
              replace H := Option.bind_eq_some_iff.mp H
              obtain ⟨⟨t356, t357⟩, A1040, H⟩ := H
              replace H : (if (t331 != t333) = true then (none) else (if t330 = t332 then (if (t339 != t342) = true then (none) else (if t337 = t340 then (if t338 = t341 then (if (t347 != t349) = true then (none) else (if (t346 != t348) = true then (none) else (if (t353 != t357) = true then (none) else ((laws_uSame.f kj55 t352 t356).bind fun t360 => (if t360 = true then (if t347 = true then ((impl_CuspsOf.f kj55 t343 t344).bind fun bt361 => ((impl_CuspsOf.f kj55 t343 t345).bind fun bt365 => (if bt361.2 = true then (if bt365.2 = true then (laws_FnGearsRoll.l1 kj55 t346 t350 t351 t352 t353 bt365.1 ((bt361.1.length : Int) == (bt365.1.length : Int)) bt361.1 (bt361.1.length : Int) 0) else (none)) else (none)))) else (laws_FnGearsRoll.j4 kj55 t350 t351 t352 t353)) else (none)))))) else (none)) else (none))) else (none))) = some r := H
              have A104 := Aside0.mk A1040
              clear A1040
              by_cases c105 : (t331 != t333) = true
              · rw [if_pos c105] at H
                exact absurd H (by simp)
              · rw [if_neg c105] at H
                have c105b0 : (t331 != t333) = false := by simpa using c105
                (try (have c105b1 : decide (t331 = t333) = true := by simpa using c105))
                (try (have c105b2 : (t331 == t333) = true := by simpa using c105))
                clear c105
                by_cases c106 : t330 = t332
                · rw [if_pos c106] at H
                  have c106b0 : (t330 == t332) = true := beq_iff_eq.mpr c106
                  have c106b1 : (t330 != t332) = false := bne_eq_false_iff_eq.mpr c106
                  clear c106
                  by_cases c107 : (t339 != t342) = true
                  · rw [if_pos c107] at H
                    exact absurd H (by simp)
                  · rw [if_neg c107] at H
                    have c107b0 : (t339 != t342) = false := by simpa using c107
                    (try (have c107b1 : decide (t339 = t342) = true := by simpa using c107))
                    (try (have c107b2 : (t339 == t342) = true := by simpa using c107))
                    clear c107
                    by_cases c108 : t337 = t340
                    · rw [if_pos c108] at H
                      have c108b0 : (t337 == t340) = true := beq_iff_eq.mpr c108
                      have c108b1 : (t337 != t340) = false := bne_eq_false_iff_eq.mpr c108
                      clear c108
                      by_cases c109 : t338 = t341
                      · rw [if_pos c109] at H
                        have c109b0 : (t338 == t341) = true := beq_iff_eq.mpr c109
                        have c109b1 : (t338 != t341) = false := bne_eq_false_iff_eq.mpr c109
                        clear c109
                        by_cases c110 : (t347 != t349) = true
                        · rw [if_pos c110] at H
                          exact absurd H (by simp)
                        · rw [if_neg c110] at H
                          have c110b0 : (t347 != t349) = false := by simpa using c110
                          (try (have c110b1 : decide (t347 = t349) = true := by simpa using c110))
                          (try (have c110b2 : (t347 == t349) = true := by simpa using c110))
                          clear c110
                          by_cases c111 : (t346 != t348) = true
                          · rw [if_pos c111] at H
                            exact absurd H (by simp)
                          · rw [if_neg c111] at H
                            have c111b0 : (t346 != t348) = false := by simpa using c111
                            (try (have c111b1 : decide (t346 = t348) = true := by simpa using c111))
                            (try (have c111b2 : (t346 == t348) = true := by simpa using c111))
                            clear c111
                            by_cases c112 : (t353 != t357) = true
                            · rw [if_pos c112] at H
                              exact absurd H (by simp)
                            · rw [if_neg c112] at H
                              have c112b0 : (t353 != t357) = false := by simpa using c112
                              (try (have c112b1 : decide (t353 = t357) = true := by simpa using c112))
                              (try (have c112b2 : (t353 == t357) = true := by simpa using c112))
                              clear c112
                              replace H := Option.bind_eq_some_iff.mp H
                              obtain ⟨t360, A1130, H⟩ := H
                              replace H : (if t360 = true then (if t347 = true then ((impl_CuspsOf.f kj55 t343 t344).bind fun bt361 => ((impl_CuspsOf.f kj55 t343 t345).bind fun bt365 => (if bt361.2 = true then (if bt365.2 = true then (laws_FnGearsRoll.l1 kj55 t346 t350 t351 t352 t353 bt365.1 ((bt361.1.length : Int) == (bt365.1.length : Int)) bt361.1 (bt361.1.length : Int) 0) else (none)) else (none)))) else (laws_FnGearsRoll.j4 kj55 t350 t351 t352 t353)) else (none)) = some r := H
                              have A113 := Aside0.mk A1130
                              clear A1130
                              by_cases c114 : t360 = true
                              · as_aux_lemma =>
                                subst c114
                                have H1 : (if t347 = true then ((impl_CuspsOf.f kj55 t343 t344).bind fun bt361 => ((impl_CuspsOf.f kj55 t343 t345).bind fun bt365 => (if bt361.2 = true then (if bt365.2 = true then (laws_FnGearsRoll.l1 kj55 t346 t350 t351 t352 t353 bt365.1 ((bt361.1.length : Int) == (bt365.1.length : Int)) bt361.1 (bt361.1.length : Int) 0) else (none)) else (none)))) else (laws_FnGearsRoll.j4 kj55 t350 t351 t352 t353)) = some r := by rw [if_pos rfl] at H; exact H
                                clear H
                                have H := H1
                                clear H1
                                have HC115 := Aside0.mk H
                                clear H
                                go_upto_if 434 with (first | ((with_reducible refine gate_callee (f := 19) rfl ?_); refine goesL_ (some 313) rfl rfl Try.func19 (by kernel_rfl) rfl #[.slice A1 l1.length c1] rfl (by (try simp only [List.map_toArray, List.map_cons, List.map_nil]); first | done | rfl | (simp only [List.length_drop, List.length_take]; rfl)) ?_; (with_reducible refine (spec_DrawSpinsOf.calls _ _ l1 t327 t328 t329 _ ?side1 ?side2 A93.out).mono ?_); (case side1 => repeat (first | exact (Kd.C_below HR1.out HB.out) | (with_reducible refine Kd.C_alloc ?_ _) | (with_reducible refine Kd.C_drewN ?_ _) | (with_reducible refine Kd.C_drew ?_))); (case side2 => exact HC1.out); rintro e w116 ⟨rfl, hb⟩; refine ⟨_, rfl, ?_⟩; have n0_ := Aside0.mk (blk_below (g := gb309) (o := .cells #[.int .i64 t306, .int .i64 t307] 32 (0, 0)) (by (with_reducible repeat (first | refine blk_drewN ?_ _ | refine blk_drew ?_ | refine blk_alloc ?_ _)); exact BK309.out) hb); have n1_ := Aside0.mk (blk_below (g := gb313) (o := .cells #[.int .i64 t310, .int .i64 t311] 32 (0, 0)) (by (with_reducible repeat (first | refine blk_drewN ?_ _ | refine blk_drew ?_ | refine blk_alloc ?_ _)); exact BK313.out) hb); have n2_ := Aside0.mk (below_step (by repeat (first | (with_reducible first | exact HB.out | apply below_alloc | apply pw_below_drewN | apply below_drew1 | refine below_set ?_ GE309.out | refine below_set ?_ GE313.out) | exact HB.out)) hb); clear BK309; clear BK313; clear HB; have BK309 := n0_; have BK313 := n1_; have HB := n2_; clear n0_ n1_ n2_; (try clear hb); (try clear hb2); (try clear hk); (try clear hi)) | ((with_reducible refine gate_callee (f := 15) rfl ?_); refine goesL_ (some 321) rfl rfl Try.func15 (by kernel_rfl) rfl #[.int .i64 t327, .int .i64 t328, .bool t329] rfl (by (try simp only [List.map_toArray, List.map_cons, List.map_nil]); first | done | rfl | (simp only [List.length_drop, List.length_take]; rfl)) ?_; (with_reducible refine (impl_SpinsOf.calls t327 t328 t329 t330 t331 _ A94.out).mono ?_); rintro e w117 ⟨rfl, hb⟩; refine ⟨_, rfl, ?_⟩; have n0_ := Aside0.mk (blk_below (g := gb309) (o := .cells #[.int .i64 t306, .int .i64 t307] 32 (0, 0)) (by (with_reducible repeat (first | refine blk_drewN ?_ _ | refine blk_drew ?_ | refine blk_alloc ?_ _)); exact BK309.out) hb); have n1_ := Aside0.mk (blk_below (g := gb313) (o := .cells #[.int .i64 t310, .int .i64 t311] 32 (0, 0)) (by (with_reducible repeat (first | refine blk_drewN ?_ _ | refine blk_drew ?_ | refine blk_alloc ?_ _)); exact BK313.out) hb); have n2_ := Aside0.mk (below_step (by repeat (first | (with_reducible first | exact HB.out | apply below_alloc | apply pw_below_drewN | apply below_drew1 | refine below_set ?_ GE309.out | refine below_set ?_ GE313.out) | exact HB.out)) hb); clear BK309; clear BK313; clear HB; have BK309 := n0_; have BK313 := n1_; have HB := n2_; clear n0_ n1_ n2_; (try clear hb); (try clear hb2); (try clear hk); (try clear hi)) | ((with_reducible refine gate_callee (f := 20) rfl ?_); refine goesL_ (some 328) rfl rfl Try.func20 (by kernel_rfl) rfl #[.int .i64 t327, .int .i64 t328, .bool t329] rfl (by (try simp only [List.map_toArray, List.map_cons, List.map_nil]); first | done | rfl | (simp only [List.length_drop, List.length_take]; rfl)) ?_; (with_reducible refine (spec_SpinsOf.calls t327 t328 t329 t332 t333 _ A95.out).mono ?_); rintro e w' ⟨rfl, ⟨nd, rfl⟩⟩; refine ⟨_, rfl, ?_⟩) | ((with_reducible refine gate_callee (f := 21) rfl ?_); refine goesL_ (some 333) rfl rfl Try.func21 (by kernel_rfl) rfl #[.slice A1 l1.length c1] rfl (by (try simp only [List.map_toArray, List.map_cons, List.map_nil]); first | done | rfl | (simp only [List.length_drop, List.length_take]; rfl)) ?_; (with_reducible refine (spec_DrawTeethAt.calls _ _ l1 t334 t335 t336 _ ?side1 ?side2 A96.out).mono ?_); (case side1 => repeat (first | exact (Kd.C_below HR1.out (by repeat (first | (with_reducible first | exact HB.out | apply below_alloc | apply pw_below_drewN | apply below_drew1 | refine below_set ?_ GE309.out | refine below_set ?_ GE313.out) | exact HB.out))) | (with_reducible refine Kd.C_alloc ?_ _) | (with_reducible refine Kd.C_drewN ?_ _) | (with_reducible refine Kd.C_drew ?_))); (case side2 => exact HC1.out); rintro e w118 ⟨rfl, hb⟩; refine ⟨_, rfl, ?_⟩; have n0_ := Aside0.mk (blk_below (g := gb309) (o := .cells #[.int .i64 t306, .int .i64 t307] 32 (0, 0)) (by (with_reducible repeat (first | refine blk_drewN ?_ _ | refine blk_drew ?_ | refine blk_alloc ?_ _)); exact BK309.out) hb); have n1_ := Aside0.mk (blk_below (g := gb313) (o := .cells #[.int .i64 t310, .int .i64 t311] 32 (0, 0)) (by (with_reducible repeat (first | refine blk_drewN ?_ _ | refine blk_drew ?_ | refine blk_alloc ?_ _)); exact BK313.out) hb); have n2_ := Aside0.mk (below_step (by repeat (first | (with_reducible first | exact HB.out | apply below_alloc | apply pw_below_drewN | apply below_drew1 | refine below_set ?_ GE309.out | refine below_set ?_ GE313.out) | exact HB.out)) hb); clear BK309; clear BK313; clear HB; have BK309 := n0_; have BK313 := n1_; have HB := n2_; clear n0_ n1_ n2_; (try clear hb); (try clear hb2); (try clear hk); (try clear hi)) | ((with_reducible refine gate_callee (f := 16) rfl ?_); refine goesL_ (some 341) rfl rfl Try.func16 (by kernel_rfl) rfl #[.int .i64 t334, .int .i64 t335, .int .i64 t336] rfl (by (try simp only [List.map_toArray, List.map_cons, List.map_nil]); first | done | rfl | (simp only [List.length_drop, List.length_take]; rfl)) ?_; (with_reducible refine (impl_TeethAt.calls t334 t335 t336 t337 t338 t339 _ A97.out).mono ?_); rintro e w119 ⟨rfl, hb⟩; refine ⟨_, rfl, ?_⟩; have n0_ := Aside0.mk (blk_below (g := gb309) (o := .cells #[.int .i64 t306, .int .i64 t307] 32 (0, 0)) (by (with_reducible repeat (first | refine blk_drewN ?_ _ | refine blk_drew ?_ | refine blk_alloc ?_ _)); exact BK309.out) hb); have n1_ := Aside0.mk (blk_below (g := gb313) (o := .cells #[.int .i64 t310, .int .i64 t311] 32 (0, 0)) (by (with_reducible repeat (first | refine blk_drewN ?_ _ | refine blk_drew ?_ | refine blk_alloc ?_ _)); exact BK313.out) hb); have n2_ := Aside0.mk (below_step (by repeat (first | (with_reducible first | exact HB.out | apply below_alloc | apply pw_below_drewN | apply below_drew1 | refine below_set ?_ GE309.out | refine below_set ?_ GE313.out) | exact HB.out)) hb); clear BK309; clear BK313; clear HB; have BK309 := n0_; have BK313 := n1_; have HB := n2_; clear n0_ n1_ n2_; (try clear hb); (try clear hb2); (try clear hk); (try clear hi)) | ((with_reducible refine gate_callee (f := 22) rfl ?_); refine goesL_ (some 349) rfl rfl Try.func22 (by kernel_rfl) rfl #[.int .i64 t334, .int .i64 t335, .int .i64 t336] rfl (by (try simp only [List.map_toArray, List.map_cons, List.map_nil]); first | done | rfl | (simp only [List.length_drop, List.length_take]; rfl)) ?_; (with_reducible refine (spec_TeethAt.calls t334 t335 t336 t340 t341 t342 _ A98.out).mono ?_); rintro e w' ⟨rfl, ⟨nd, rfl⟩⟩; refine ⟨_, rfl, ?_⟩) | ((with_reducible refine gate_callee (f := 23) rfl ?_); refine goesL_ (some 355) rfl rfl Try.func23 (by kernel_rfl) rfl #[.slice A1 l1.length c1] rfl (by (try simp only [List.map_toArray, List.map_cons, List.map_nil]); first | done | rfl | (simp only [List.length_drop, List.length_take]; rfl)) ?_; (with_reducible refine (spec_DrawSameCusps.calls _ _ l1 t343 t344 t345 _ ?side1 ?side2 A99.out).mono ?_); (case side1 => repeat (first | exact (Kd.C_below HR1.out (by repeat (first | (with_reducible first | exact HB.out | apply below_alloc | apply pw_below_drewN | apply below_drew1 | refine below_set ?_ GE309.out | refine below_set ?_ GE313.out) | exact HB.out))) | (with_reducible refine Kd.C_alloc ?_ _) | (with_reducible refine Kd.C_drewN ?_ _) | (with_reducible refine Kd.C_drew ?_))); (case side2 => exact HC1.out); rintro e w120 ⟨rfl, hb⟩; refine ⟨_, rfl, ?_⟩; have n0_ := Aside0.mk (blk_below (g := gb309) (o := .cells #[.int .i64 t306, .int .i64 t307] 32 (0, 0)) (by (with_reducible repeat (first | refine blk_drewN ?_ _ | refine blk_drew ?_ | refine blk_alloc ?_ _)); exact BK309.out) hb); have n1_ := Aside0.mk (blk_below (g := gb313) (o := .cells #[.int .i64 t310, .int .i64 t311] 32 (0, 0)) (by (with_reducible repeat (first | refine blk_drewN ?_ _ | refine blk_drew ?_ | refine blk_alloc ?_ _)); exact BK313.out) hb); have n2_ := Aside0.mk (below_step (by repeat (first | (with_reducible first | exact HB.out | apply below_alloc | apply pw_below_drewN | apply below_drew1 | refine below_set ?_ GE309.out | refine below_set ?_ GE313.out) | exact HB.out)) hb); clear BK309; clear BK313; clear HB; have BK309 := n0_; have BK313 := n1_; have HB := n2_; clear n0_ n1_ n2_; (try clear hb); (try clear hb2); (try clear hk); (try clear hi)) | ((with_reducible refine gate_callee (f := 24) rfl ?_); refine goesL_ (some 363) rfl rfl Try.func24 (by kernel_rfl) rfl #[.int .i64 t343, .int .i64 t344, .int .i64 t345] rfl (by (try simp only [List.map_toArray, List.map_cons, List.map_nil]); first | done | rfl | (simp only [List.length_drop, List.length_take]; rfl)) ?_; (with_reducible refine (impl_SameCusps.calls t343 t344 t345 t346 t347 _ A100.out).mono ?_); rintro e w121 ⟨rfl, hb⟩; refine ⟨_, rfl, ?_⟩; have n0_ := Aside0.mk (blk_below (g := gb309) (o := .cells #[.int .i64 t306, .int .i64 t307] 32 (0, 0)) (by (with_reducible repeat (first | refine blk_drewN ?_ _ | refine blk_drew ?_ | refine blk_alloc ?_ _)); exact BK309.out) hb); have n1_ := Aside0.mk (blk_below (g := gb313) (o := .cells #[.int .i64 t310, .int .i64 t311] 32 (0, 0)) (by (with_reducible repeat (first | refine blk_drewN ?_ _ | refine blk_drew ?_ | refine blk_alloc ?_ _)); exact BK313.out) hb); have n2_ := Aside0.mk (below_step (by repeat (first | (with_reducible first | exact HB.out | apply below_alloc | apply pw_below_drewN | apply below_drew1 | refine below_set ?_ GE309.out | refine below_set ?_ GE313.out) | exact HB.out)) hb); clear BK309; clear BK313; clear HB; have BK309 := n0_; have BK313 := n1_; have HB := n2_; clear n0_ n1_ n2_; (try clear hb); (try clear hb2); (try clear hk); (try clear hi)) | ((with_reducible refine gate_callee (f := 25) rfl ?_); refine goesL_ (some 370) rfl rfl Try.func25 (by kernel_rfl) rfl #[.int .i64 t343, .int .i64 t344, .int .i64 t345] rfl (by (try simp only [List.map_toArray, List.map_cons, List.map_nil]); first | done | rfl | (simp only [List.length_drop, List.length_take]; rfl)) ?_; (with_reducible refine (spec_SameCusps.calls kj55 t343 t344 t345 t348 t349 _ A101.out).mono ?_); rintro e w' ⟨rfl, ⟨nd, rfl⟩⟩; refine ⟨_, rfl, ?_⟩) | ((with_reducible refine gate_callee (f := 26) rfl ?_); refine goesL_ (some 375) rfl rfl Try.func26 (by kernel_rfl) rfl #[.slice A1 l1.length c1] rfl (by (try simp only [List.map_toArray, List.map_cons, List.map_nil]); first | done | rfl | (simp only [List.length_drop, List.length_take]; rfl)) ?_; (with_reducible refine (spec_DrawWheelsFor.calls _ _ l1 t350 t351 _ ?side1 ?side2 A102.out).mono ?_); (case side1 => repeat (first | exact (Kd.C_below HR1.out (by repeat (first | (with_reducible first | exact HB.out | apply below_alloc | apply pw_below_drewN | apply below_drew1 | refine below_set ?_ GE309.out | refine below_set ?_ GE313.out) | exact HB.out))) | (with_reducible refine Kd.C_alloc ?_ _) | (with_reducible refine Kd.C_drewN ?_ _) | (with_reducible refine Kd.C_drew ?_))); (case side2 => exact HC1.out); rintro e w122 ⟨rfl, hb⟩; refine ⟨_, rfl, ?_⟩; have n0_ := Aside0.mk (blk_below (g := gb309) (o := .cells #[.int .i64 t306, .int .i64 t307] 32 (0, 0)) (by (with_reducible repeat (first | refine blk_drewN ?_ _ | refine blk_drew ?_ | refine blk_alloc ?_ _)); exact BK309.out) hb); have n1_ := Aside0.mk (blk_below (g := gb313) (o := .cells #[.int .i64 t310, .int .i64 t311] 32 (0, 0)) (by (with_reducible repeat (first | refine blk_drewN ?_ _ | refine blk_drew ?_ | refine blk_alloc ?_ _)); exact BK313.out) hb); have n2_ := Aside0.mk (below_step (by repeat (first | (with_reducible first | exact HB.out | apply below_alloc | apply pw_below_drewN | apply below_drew1 | refine below_set ?_ GE309.out | refine below_set ?_ GE313.out) | exact HB.out)) hb); clear BK309; clear BK313; clear HB; have BK309 := n0_; have BK313 := n1_; have HB := n2_; clear n0_ n1_ n2_; (try clear hb); (try clear hb2); (try clear hk); (try clear hi)) | ((with_reducible refine gate_callee (f := 27) rfl ?_); refine goesL_ (some 381) rfl rfl Try.func27 (by kernel_rfl) rfl #[.int .i64 t350, .int .i64 t351] rfl (by (try simp only [List.map_toArray, List.map_cons, List.map_nil]); first | done | rfl | (simp only [List.length_drop, List.length_take]; rfl)) ?_; (with_reducible refine (impl_WheelsFor.calls t350 t351 t352 t353 _ A103.out).mono ?_); rintro e w123 ⟨v354, rfl, ho0, hb⟩; refine ⟨_, rfl, ?_⟩; have n0_ := Aside0.mk (Kd.R_lower ho0 (below_size (by repeat (first | (with_reducible first | exact HB.out | apply below_alloc | apply pw_below_drewN | apply below_drew1 | refine below_set ?_ GE309.out | refine below_set ?_ GE313.out) | exact HB.out)))); have n1_ := Aside0.mk (blk_below (g := gb309) (o := .cells #[.int .i64 t306, .int .i64 t307] 32 (0, 0)) (by (with_reducible repeat (first | refine blk_drewN ?_ _ | refine blk_drew ?_ | refine blk_alloc ?_ _)); exact BK309.out) hb); have n2_ := Aside0.mk (blk_below (g := gb313) (o := .cells #[.int .i64 t310, .int .i64 t311] 32 (0, 0)) (by (with_reducible repeat (first | refine blk_drewN ?_ _ | refine blk_drew ?_ | refine blk_alloc ?_ _)); exact BK313.out) hb); have n3_ := Aside0.mk (below_step (by repeat (first | (with_reducible first | exact HB.out | apply below_alloc | apply pw_below_drewN | apply below_drew1 | refine below_set ?_ GE309.out | refine below_set ?_ GE313.out) | exact HB.out)) hb); clear BK309; clear BK313; clear HB; have HO355 := n0_; have BK309 := n1_; have BK313 := n2_; have HB := n3_; clear n0_ n1_ n2_ n3_; (try clear hb); (try clear hb2); (try clear hk); (try clear hi); (try clear ho0)) | ((with_reducible refine gate_callee (f := 28) rfl ?_); refine goesL_ (some 387) rfl rfl Try.func28 (by kernel_rfl) rfl #[.int .i64 t350, .int .i64 t351] rfl (by (try simp only [List.map_toArray, List.map_cons, List.map_nil]); first | done | rfl | (simp only [List.length_drop, List.length_take]; rfl)) ?_; (with_reducible refine (spec_WheelsFor.calls kj55 t350 t351 t356 t357 _ A104.out).mono ?_); rintro e w124 ⟨v358, rfl, ho0, hb⟩; refine ⟨_, rfl, ?_⟩; have n0_ := Aside0.mk (Kd.R_elder' (by (with_reducible repeat (first | apply Kd.R_alloc | apply Kd.R_drewN | apply Kd.R_drew)); exact HO355.out) (Kd.R_base ho0) hb); have n1_ := Aside0.mk (Kd.R_lower (Kd.R_new' ho0 (Kd.R_lt (by (with_reducible repeat (first | apply Kd.R_alloc | apply Kd.R_drewN | apply Kd.R_drew)); exact HO355.out))) (below_size (by repeat (first | (with_reducible first | exact HB.out | apply below_alloc | apply pw_below_drewN | apply below_drew1 | refine below_set ?_ GE309.out | refine below_set ?_ GE313.out) | exact HB.out)))); have n2_ := Aside0.mk (blk_below (g := gb309) (o := .cells #[.int .i64 t306, .int .i64 t307] 32 (0, 0)) (by (with_reducible repeat (first | refine blk_drewN ?_ _ | refine blk_drew ?_ | refine blk_alloc ?_ _)); exact BK309.out) hb); have n3_ := Aside0.mk (blk_below (g := gb313) (o := .cells #[.int .i64 t310, .int .i64 t311] 32 (0, 0)) (by (with_reducible repeat (first | refine blk_drewN ?_ _ | refine blk_drew ?_ | refine blk_alloc ?_ _)); exact BK313.out) hb); have n4_ := Aside0.mk (below_step (by repeat (first | (with_reducible first | exact HB.out | apply below_alloc | apply pw_below_drewN | apply below_drew1 | refine below_set ?_ GE309.out | refine below_set ?_ GE313.out) | exact HB.out)) hb); clear HO355; clear BK309; clear BK313; clear HB; have HO355 := n0_; have HO359 := n1_; have BK309 := n2_; have BK313 := n3_; have HB := n4_; clear n0_ n1_ n2_ n3_ n4_; (try clear hb); (try clear hb2); (try clear hk); (try clear hi); (try clear ho0); obtain ⟨Ao125, co125, eo125⟩ := Kd.R_slice HO355.out; subst eo125; obtain ⟨Ao126, co126, eo126⟩ := Kd.R_slice HO359.out; subst eo126) | (go_at_call 14; (with_reducible refine (laws_uSame.calls kj55 _ _ t352 _ _ t356 true _ ?side1 ?side2 ?side3 ?side4 A113.out).mono ?_); (case side1 => repeat (first | exact (Kd.R_reads' HO355.out).2.2 | (with_reducible refine Kd.C_alloc ?_ _) | (with_reducible refine Kd.C_drewN ?_ _) | (with_reducible refine Kd.C_drew ?_))); (case side2 => exact (Kd.R_reads' HO355.out).2.1); (case side3 => repeat (first | exact (Kd.R_reads' HO359.out).2.2 | (with_reducible refine Kd.C_alloc ?_ _) | (with_reducible refine Kd.C_drewN ?_ _) | (with_reducible refine Kd.C_drew ?_))); (case side4 => exact (Kd.R_reads' HO359.out).2.1); rintro e w' ⟨rfl, ⟨nd, rfl⟩⟩))
                                (try simp only [Act.put, List.setIfInBounds_toArray, List.set_cons_zero, List.set_cons_succ])
                                go_cut [] (fun wc => ∃ (kq : Nat), Aside0 (laws_FnGearsRoll.j4 kq t350 t351 t352 t353 = some r) ∧ Aside0 (kq ≤ kj55) ∧ Aside0 (Kd.R (Kd.int .i64) 3 wc w.heap.size (fun _ => True) (.slice Ao125 t352.length co125) t352) ∧ Aside0 (wc.heap[gb309]? = some (.cells #[.int .i64 t306, .int .i64 t307] 32 (0, 0))) ∧ Aside0 (wc.heap[gb313]? = some (.cells #[.int .i64 t310, .int .i64 t311] 32 (0, 0))) ∧ Aside0 (Below w.heap.size w wc))
                                case first =>
                                  as_aux_lemma =>
                                  have H := HC115.out
                                  clear HC115
                                  by_cases c127 : t347 = true
                                  · subst c127
                                    have H1 : ((impl_CuspsOf.f kj55 t343 t344).bind fun bt361 => ((impl_CuspsOf.f kj55 t343 t345).bind fun bt365 => (if bt361.2 = true then (if bt365.2 = true then (laws_FnGearsRoll.l1 kj55 t346 t350 t351 t352 t353 bt365.1 ((bt361.1.length : Int) == (bt365.1.length : Int)) bt361.1 (bt361.1.length : Int) 0) else (none)) else (none)))) = some r := by rw [if_pos rfl] at H; exact H
                                    clear H
                                    have H := H1
                                    clear H1
                                    replace H := Option.bind_eq_some_iff.mp H
                                    obtain ⟨⟨t361, t362⟩, A1280, H⟩ := H
                                    replace H : ((impl_CuspsOf.f kj55 t343 t345).bind fun bt365 => (if t362 = true then (if bt365.2 = true then (laws_FnGearsRoll.l1 kj55 t346 t350 t351 t352 t353 bt365.1 ((t361.length : Int) == (bt365.1.length : Int)) t361 (t361.length : Int) 0) else (none)) else (none))) = some r := H
                                    have A128 := Aside0.mk A1280
                                    clear A1280
                                    replace H := Option.bind_eq_some_iff.mp H
                                    obtain ⟨⟨t365, t366⟩, A1290, H⟩ := H
                                    replace H : (if t362 = true then (if t366 = true then (laws_FnGearsRoll.l1 kj55 t346 t350 t351 t352 t353 t365 ((t361.length : Int) == (t365.length : Int)) t361 (t361.length : Int) 0) else (none)) else (none)) = some r := H
                                    have A129 := Aside0.mk A1290
                                    clear A1290
                                    by_cases c130 : t362 = true
                                    · subst c130
                                      have H1 : (if t366 = true then (laws_FnGearsRoll.l1 kj55 t346 t350 t351 t352 t353 t365 ((t361.length : Int) == (t365.length : Int)) t361 (t361.length : Int) 0) else (none)) = some r := by rw [if_pos rfl] at H; exact H
                                      clear H
                                      have H := H1
                                      clear H1
                                      by_cases c131 : t366 = true
                                      · as_aux_lemma =>
                                        subst c131
                                        have H1 : (laws_FnGearsRoll.l1 kj55 t346 t350 t351 t352 t353 t365 ((t361.length : Int) == (t365.length : Int)) t361 (t361.length : Int) 0) = some r := by rw [if_pos rfl] at H; exact H
                                        clear H
                                        have H := H1
                                        clear H1
                                        have H' := Aside0.mk H
                                        clear H
                                        go_wp2_with (first | ((with_reducible refine gate_callee (f := 6) rfl ?_); refine goesL_ (some 438) rfl rfl Try.func6 (by kernel_rfl) rfl #[.int .i64 t343, .int .i64 t344] rfl (by (try simp only [List.map_toArray, List.map_cons, List.map_nil]); first | done | rfl | (simp only [List.length_drop, List.length_take]; rfl)) ?_; (with_reducible refine (impl_CuspsOf.calls kj55 t343 t344 t361 true _ A128.out).mono ?_); rintro e w132 ⟨v363, rfl, ho0, hb⟩; refine ⟨_, rfl, ?_⟩; have n0_ := Aside0.mk (Kd.R_elder' (by (with_reducible repeat (first | apply Kd.R_alloc | apply Kd.R_drewN | apply Kd.R_drew)); exact HO355.out) (Kd.R_base ho0) hb); have n1_ := Aside0.mk (Kd.R_elder' (by (with_reducible repeat (first | apply Kd.R_alloc | apply Kd.R_drewN | apply Kd.R_drew)); exact HO359.out) (Kd.R_base ho0) hb); have n2_ := Aside0.mk (Kd.R_lower (Kd.R_new' (Kd.R_new' ho0 (Kd.R_lt (by (with_reducible repeat (first | apply Kd.R_alloc | apply Kd.R_drewN | apply Kd.R_drew)); exact HO355.out))) (Kd.R_lt (by (with_reducible repeat (first | apply Kd.R_alloc | apply Kd.R_drewN | apply Kd.R_drew)); exact HO359.out))) (below_size (by repeat (first | (with_reducible first | exact HB.out | apply below_alloc | apply pw_below_drewN | apply below_drew1 | refine below_set ?_ GE309.out | refine below_set ?_ GE313.out) | exact HB.out)))); have n3_ := Aside0.mk (blk_below (g := gb309) (o := .cells #[.int .i64 t306, .int .i64 t307] 32 (0, 0)) (by (with_reducible repeat (first | refine blk_drewN ?_ _ | refine blk_drew ?_ | refine blk_alloc ?_ _)); exact BK309.out) hb); have n4_ := Aside0.mk (blk_below (g := gb313) (o := .cells #[.int .i64 t310, .int .i64 t311] 32 (0, 0)) (by (with_reducible repeat (first | refine blk_drewN ?_ _ | refine blk_drew ?_ | refine blk_alloc ?_ _)); exact BK313.out) hb); have n5_ := Aside0.mk (below_step (by repeat (first | (with_reducible first | exact HB.out | apply below_alloc | apply pw_below_drewN | apply below_drew1 | refine below_set ?_ GE309.out | refine below_set ?_ GE313.out) | exact HB.out)) hb); clear HO355; clear HO359; clear BK309; clear BK313; clear HB; have HO355 := n0_; have HO359 := n1_; have HO364 := n2_; have BK309 := n3_; have BK313 := n4_; have HB := n5_; clear n0_ n1_ n2_ n3_ n4_ n5_; (try clear hb); (try clear hb2); (try clear hk); (try clear hi); (try clear ho0)) | ((with_reducible refine gate_callee (f := 6) rfl ?_); refine goesL_ (some 444) rfl rfl Try.func6 (by kernel_rfl) rfl #[.int .i64 t343, .int .i64 t345] rfl (by (try simp only [List.map_toArray, List.map_cons, List.map_nil]); first | done | rfl | (simp only [List.length_drop, List.length_take]; rfl)) ?_; (with_reducible refine (impl_CuspsOf.calls kj55 t343 t345 t365 true _ A129.out).mono ?_); rintro e w133 ⟨v367, rfl, ho0, hb⟩; refine ⟨_, rfl, ?_⟩; have n0_ := Aside0.mk (Kd.R_elder' (by (with_reducible repeat (first | apply Kd.R_alloc | apply Kd.R_drewN | apply Kd.R_drew)); exact HO355.out) (Kd.R_base ho0) hb); have n1_ := Aside0.mk (Kd.R_elder' (by (with_reducible repeat (first | apply Kd.R_alloc | apply Kd.R_drewN | apply Kd.R_drew)); exact HO359.out) (Kd.R_base ho0) hb); have n2_ := Aside0.mk (Kd.R_elder' (by (with_reducible repeat (first | apply Kd.R_alloc | apply Kd.R_drewN | apply Kd.R_drew)); exact HO364.out) (Kd.R_base ho0) hb); have n3_ := Aside0.mk (Kd.R_lower (Kd.R_new' (Kd.R_new' (Kd.R_new' ho0 (Kd.R_lt (by (with_reducible repeat (first | apply Kd.R_alloc | apply Kd.R_drewN | apply Kd.R_drew)); exact HO355.out))) (Kd.R_lt (by (with_reducible repeat (first | apply Kd.R_alloc | apply Kd.R_drewN | apply Kd.R_drew)); exact HO359.out))) (Kd.R_lt (by (with_reducible repeat (first | apply Kd.R_alloc | apply Kd.R_drewN | apply Kd.R_drew)); exact HO364.out))) (below_size (by repeat (first | (with_reducible first | exact HB.out | apply below_alloc | apply pw_below_drewN | apply below_drew1 | refine below_set ?_ GE309.out | refine below_set ?_ GE313.out) | exact HB.out)))); have n4_ := Aside0.mk (blk_below (g := gb309) (o := .cells #[.int .i64 t306, .int .i64 t307] 32 (0, 0)) (by (with_reducible repeat (first | refine blk_drewN ?_ _ | refine blk_drew ?_ | refine blk_alloc ?_ _)); exact BK309.out) hb); have n5_ := Aside0.mk (blk_below (g := gb313) (o := .cells #[.int .i64 t310, .int .i64 t311] 32 (0, 0)) (by (with_reducible repeat (first | refine blk_drewN ?_ _ | refine blk_drew ?_ | refine blk_alloc ?_ _)); exact BK313.out) hb); have n6_ := Aside0.mk (below_step (by repeat (first | (with_reducible first | exact HB.out | apply below_alloc | apply pw_below_drewN | apply below_drew1 | refine below_set ?_ GE309.out | refine below_set ?_ GE313.out) | exact HB.out)) hb); clear HO355; clear HO359; clear HO364; clear BK309; clear BK313; clear HB; have HO355 := n0_; have HO359 := n1_; have HO364 := n2_; have HO368 := n3_; have BK309 := n4_; have BK313 := n5_; have HB := n6_; clear n0_ n1_ n2_ n3_ n4_ n5_ n6_; (try clear hb); (try clear hb2); (try clear hk); (try clear hi); (try clear ho0); obtain ⟨Ao134, co134, eo134⟩ := Kd.R_slice HO364.out; subst eo134; obtain ⟨Ao135, co135, eo135⟩ := Kd.R_slice HO368.out; subst eo135))
                                        go_loopg [70, 460] kj55 (fun kq v70 v460 w' => ∃ (x70_3 : Bool) (x460_3 : Int), v70 = .bool x70_3 ∧ v460 = .int .i64 x460_3 ∧ Aside0 (laws_FnGearsRoll.l1 kq t346 t350 t351 t352 t353 t365 x70_3 t361 (t361.length : Int) x460_3 = some r) ∧ Aside0 (kq ≤ kj55) ∧ Aside0 (Kd.R (Kd.int .i64) 3 w' w.heap.size (fun k_ => some k_ ≠ ((.slice Ao135 t365.length co135) : Value).ownBlock ∧ some k_ ≠ ((.slice Ao134 t361.length co134) : Value).ownBlock) (.slice Ao125 t352.length co125) t352) ∧ Aside0 (Kd.R (Kd.int .i64) 3 w' w.heap.size (fun k_ => some k_ ≠ ((.slice Ao125 t352.length co125) : Value).ownBlock ∧ some k_ ≠ ((.slice Ao134 t361.length co134) : Value).ownBlock) (.slice Ao135 t365.length co135) t365) ∧ Aside0 (Kd.R (Kd.int .i64) 3 w' w.heap.size (fun k_ => some k_ ≠ ((.slice Ao125 t352.length co125) : Value).ownBlock ∧ some k_ ≠ ((.slice Ao135 t365.length co135) : Value).ownBlock) (.slice Ao134 t361.length co134) t361) ∧ Aside0 (w'.heap[gb309]? = some (.cells #[.int .i64 t306, .int .i64 t307] 32 (0, 0))) ∧ Aside0 (w'.heap[gb313]? = some (.cells #[.int .i64 t310, .int .i64 t311] 32 (0, 0))) ∧ Aside0 (Below w.heap.size w w'))
                                        case atStart => exact ⟨(((t361.length : Int) == (t365.length : Int))), (0), (by first | rfl | (simp; done) | (simp [*]; done)), (by first | rfl | (simp; done) | (simp [*]; done)), H', ⟨Nat.le_refl _⟩, ⟨by (with_reducible repeat (first | apply Kd.R_alloc | apply Kd.R_drewN | apply Kd.R_drew)); exact Kd.R_mono HO355.out (fun _ hk => ⟨hk.2, hk.1.2⟩)⟩, ⟨by (with_reducible repeat (first | apply Kd.R_alloc | apply Kd.R_drewN | apply Kd.R_drew)); exact Kd.R_mono HO368.out (fun _ hk => ⟨hk.1.1.2, hk.2⟩)⟩, ⟨by (with_reducible repeat (first | apply Kd.R_alloc | apply Kd.R_drewN | apply Kd.R_drew)); exact Kd.R_mono HO364.out (fun _ hk => ⟨hk.1.1.2, hk.2⟩)⟩, ⟨by (with_reducible repeat (first | refine blk_drewN ?_ _ | refine blk_drew ?_ | refine blk_alloc ?_ _)); exact BK309.out⟩, ⟨by (with_reducible repeat (first | refine blk_drewN ?_ _ | refine blk_drew ?_ | refine blk_alloc ?_ _)); exact BK313.out⟩, ⟨by repeat (first | (with_reducible first | exact HB.out | apply below_alloc | apply pw_below_drewN | apply below_drew1 | refine below_set ?_ GE309.out | refine below_set ?_ GE313.out) | exact HB.out)⟩⟩
                                        case round =>
                                          as_aux_lemma =>
                                          clear H'
                                          try clear c1
                                          try clear c2
                                          try clear p2
                                          try clear c3
                                          try clear p3
                                          try clear q3
                                          try clear hx3
                                          try clear c4
                                          try clear c5
                                          try clear c6
                                          try clear p6
                                          try clear c7
                                          try clear c8
                                          try clear c9
                                          try clear c10
                                          try clear c11
                                          try clear c12
                                          try clear c13
                                          try clear c15
                                          try clear c16
                                          try clear c17
                                          try clear c18
                                          try clear c19
                                          try clear c20
                                          try clear c21
                                          try clear c22
                                          try clear c23
                                          try clear c24
                                          try clear c25
                                          try clear c26
                                          try clear c27
                                          try clear c27b0
                                          try clear c27b1
                                          try clear c27b2
                                          try clear c28
                                          try clear c29
                                          try clear c30
                                          try clear c30b0
                                          try clear c30b1
                                          try clear c30b2
                                          try clear c31
                                          try clear c31b0
                                          try clear c31b1
                                          try clear p31
                                          try clear q31
                                          try clear hx31
                                          try clear c32
                                          try clear c32b0
                                          try clear c32b1
                                          try clear c32b2
                                          try clear c33
                                          try clear c33b0
                                          try clear c33b1
                                          try clear c34
                                          try clear c34b0
                                          try clear c34b1
                                          try clear c34b2
                                          try clear c35
                                          try clear c35b0
                                          try clear c36
                                          try clear c36b0
                                          try clear c36b1
                                          try clear c36b2
                                          try clear c37
                                          try clear c37b0
                                          try clear c37b1
                                          try clear c37b2
                                          try clear c38
                                          try clear c39
                                          try clear c39b0
                                          try clear c42
                                          try clear c47
                                          try clear c52
                                          try clear c55
                                          try clear c57
                                          try clear c60
                                          try clear c60b0
                                          try clear c60b1
                                          try clear c61
                                          try clear c61b0
                                          try clear c61b1
                                          try clear c62
                                          try clear c63
                                          try clear c63b0
                                          try clear c63b1
                                          try clear c64
                                          try clear p64
                                          try clear c65
                                          try clear c65b0
                                          try clear c65b1
                                          try clear c66
                                          try clear c66b0
                                          try clear c66b1
                                          try clear c70
                                          try clear c70b0
                                          try clear c71
                                          try clear c71b0
                                          try clear c72
                                          try clear c72b0
                                          try clear c75
                                          try clear c75b0
                                          try clear c75b1
                                          try clear c76
                                          try clear c76b0
                                          try clear c76b1
                                          try clear c77
                                          try clear c78
                                          try clear c78b0
                                          try clear c78b1
                                          try clear c79
                                          try clear c79b0
                                          try clear c79b1
                                          try clear c80
                                          try clear c81
                                          try clear c82
                                          try clear c84
                                          try clear c85
                                          try clear c85b0
                                          try clear c85b1
                                          try clear c88
                                          try clear c105
                                          try clear c105b0
                                          try clear c105b1
                                          try clear c105b2
                                          try clear c106
                                          try clear c106b0
                                          try clear c106b1
                                          try clear c107
                                          try clear c107b0
                                          try clear c107b1
                                          try clear c107b2
                                          try clear c108
                                          try clear c108b0
                                          try clear c108b1
                                          try clear c109
                                          try clear c109b0
                                          try clear c109b1
                                          try clear c110
                                          try clear c110b0
                                          try clear c110b1
                                          try clear c110b2
                                          try clear c111
                                          try clear c111b0
                                          try clear c111b1
                                          try clear c111b2
                                          try clear c112
                                          try clear c112b0
                                          try clear c112b1
                                          try clear c112b2
                                          try clear c114
                                          try clear c127
                                          try clear c130
                                          try clear c131
                                          try clear hcz22_0
                                          try clear hcz22_1
                                          try clear hcz26_0
                                          try clear hcz26_1
                                          try clear hcz43_0
                                          try clear hcz43_1
                                          try clear hcz44_0
                                          try clear hcz44_1
                                          try clear hcz48_0
                                          try clear hcz48_1
                                          try clear hcz49_0
                                          try clear hcz49_1
                                          try clear hcz53_0
                                          try clear hcz53_1
                                          try clear hcz54_0
                                          try clear hcz54_1
                                          try clear hcz89_0
                                          try clear hcz89_1
                                          try clear hfz22_0
                                          try clear hfz22_1
                                          try clear hfz26_0
                                          try clear hfz26_1
                                          try clear hfz43_0
                                          try clear hfz43_1
                                          try clear hfz44_0
                                          try clear hfz44_1
                                          try clear hfz48_0
                                          try clear hfz48_1
                                          try clear hfz49_0
                                          try clear hfz49_1
                                          try clear hfz53_0
                                          try clear hfz53_1
                                          try clear hfz54_0
                                          try clear hfz54_1
                                          try clear hfz89_0
                                          try clear hfz89_1
                                          try clear hx319_0
                                          try clear p2
                                          try clear p3
                                          try clear p31
                                          try clear p319
                                          try clear p6
                                          try clear p64
                                          try clear q3
                                          try clear q31
                                          try clear q319
                                          obtain ⟨x70_3, x460_3, rfl, rfl, HA, HK3, HO_62, HO_68, HO_458, BK309, BK313, HB⟩ := hrel
                                          cases gk with
                                          | zero => exact absurd HA.out (by simp [laws_FnGearsRoll.l1])
                                          | succ k3 =>
                                            have H := HA.out
                                            clear HA
                                            simp only [laws_FnGearsRoll.l1] at H
                                            by_cases c136 : x460_3 < (t361.length : Int)
                                            · rw [if_pos c136] at H
                                              have c136b0 : decide (x460_3 < (t361.length : Int)) = true := decide_eq_true c136
                                              clear c136
                                              (first | rw [c136b0] | (simp only [i64_w, i32_w]; rw [c136b0]) | skip)
                                              by_cases c137 : 0 ≤ x460_3
                                              · rw [if_pos c137] at H
                                                have c137b0 : decide (0 ≤ x460_3) = true := decide_eq_true c137
                                                clear c137
                                                by_cases c138 : x460_3 < (t361.length : Int)
                                                · rw [if_pos c138] at H
                                                  have c138b0 : decide (x460_3 < (t361.length : Int)) = true := decide_eq_true c138
                                                  clear c138
                                                  by_cases c139 : x70_3 = true
                                                  · as_aux_lemma =>
                                                    subst c139
                                                    have H1 : ((laws_uHas.f k3 t365 (rd t361 x460_3)).bind fun t370 => (laws_FnGearsRoll.l1 k3 t346 t350 t351 t352 t353 t365 t370 t361 (t361.length : Int) (wrap64 (x460_3 + 1)))) = some r := by rw [if_pos rfl] at H; exact H
                                                    clear H
                                                    have H := H1
                                                    clear H1
                                                    replace H := Option.bind_eq_some_iff.mp H
                                                    obtain ⟨t370, A1400, H⟩ := H
                                                    replace H : (laws_FnGearsRoll.l1 k3 t346 t350 t351 t352 t353 t365 t370 t361 (t361.length : Int) (wrap64 (x460_3 + 1))) = some r := H
                                                    have A140 := Aside0.mk A1400
                                                    clear A1400
                                                    have H' := Aside0.mk H
                                                    clear H
                                                    have p369 : 0 ≤ (x460_3 : Int) := of_decide_eq_true (by first | (with_reducible assumption) | assumption)
                                                    have q369 : x460_3 < (t361.length : Int) := of_decide_eq_true (by first | (with_reducible assumption) | assumption)
                                                    obtain ⟨ad369, e369, hx369_0⟩ := Kd.at_int (Kd.R_reads' HO_458.out).2.2 x460_3 p369 q369
                                                    cases e369
                                                    replace p369 := eq_true p369
                                                    replace q369 := eq_true q369
                                                    go_wp2_with (first | (go_at_call 29; (with_reducible refine (laws_uHas.calls k3 _ _ t365 (rd t361 x460_3) t370 _ ?side1 ?side2 A140.out).mono ?_); (case side1 => repeat (first | exact (Kd.R_reads' HO_68.out).2.2 | (with_reducible refine Kd.C_alloc ?_ _) | (with_reducible refine Kd.C_drewN ?_ _) | (with_reducible refine Kd.C_drew ?_))); (case side2 => exact (Kd.R_reads' HO_68.out).2.1); rintro e w' ⟨rfl, ⟨nd, rfl⟩⟩))
                                                    go_roundg k3
                                                    case measure => have := HJ13.out; have := HJ55.out; have := HK3.out; omega
                                                    case rel => exact ⟨(t370), (wrap64 (x460_3 + 1)), (by first | rfl | (simp; done) | (simp [*]; done)), (by first | rfl | (simp; done) | (simp [*]; done)), H', ⟨by have := HJ13.out; have := HJ55.out; have := HK3.out; omega⟩, ⟨by (with_reducible repeat (first | apply Kd.R_alloc | apply Kd.R_drewN | apply Kd.R_drew)); exact HO_62.out⟩, ⟨by (with_reducible repeat (first | apply Kd.R_alloc | apply Kd.R_drewN | apply Kd.R_drew)); exact HO_68.out⟩, ⟨by (with_reducible repeat (first | apply Kd.R_alloc | apply Kd.R_drewN | apply Kd.R_drew)); exact HO_458.out⟩, ⟨by (with_reducible repeat (first | refine blk_drewN ?_ _ | refine blk_drew ?_ | refine blk_alloc ?_ _)); exact BK309.out⟩, ⟨by (with_reducible repeat (first | refine blk_drewN ?_ _ | refine blk_drew ?_ | refine blk_alloc ?_ _)); exact BK313.out⟩, ⟨by repeat (first | (with_reducible first | exact HB.out | apply below_alloc | apply pw_below_drewN | apply below_drew1 | refine below_set ?_ GE309.out | refine below_set ?_ GE313.out) | exact HB.out)⟩⟩
                                                  · as_aux_lemma =>
                                                    replace c139 := Bool.eq_false_iff.mpr c139
                                                    subst c139
                                                    have H1 : (laws_FnGearsRoll.l1 k3 t346 t350 t351 t352 t353 t365 false t361 (t361.length : Int) (wrap64 (x460_3 + 1))) = some r := by rw [if_neg (show ¬ (false = true) by decide)] at H; exact H
                                                    clear H
                                                    have H := H1
                                                    clear H1
                                                    have H' := Aside0.mk H
                                                    clear H
                                                    have p369 : 0 ≤ (x460_3 : Int) := of_decide_eq_true (by first | (with_reducible assumption) | assumption)
                                                    have q369 : x460_3 < (t361.length : Int) := of_decide_eq_true (by first | (with_reducible assumption) | assumption)
                                                    obtain ⟨ad369, e369, hx369_0⟩ := Kd.at_int (Kd.R_reads' HO_458.out).2.2 x460_3 p369 q369
                                                    cases e369
                                                    replace p369 := eq_true p369
                                                    replace q369 := eq_true q369
                                                    go_wp2
                                                    go_roundg k3
                                                    case measure => have := HJ13.out; have := HJ55.out; have := HK3.out; omega
                                                    case rel => exact ⟨(false), (wrap64 (x460_3 + 1)), (by first | rfl | (simp; done) | (simp [*]; done)), (by first | rfl | (simp; done) | (simp [*]; done)), H', ⟨by have := HJ13.out; have := HJ55.out; have := HK3.out; omega⟩, ⟨by (with_reducible repeat (first | apply Kd.R_alloc | apply Kd.R_drewN | apply Kd.R_drew)); exact HO_62.out⟩, ⟨by (with_reducible repeat (first | apply Kd.R_alloc | apply Kd.R_drewN | apply Kd.R_drew)); exact HO_68.out⟩, ⟨by (with_reducible repeat (first | apply Kd.R_alloc | apply Kd.R_drewN | apply Kd.R_drew)); exact HO_458.out⟩, ⟨by (with_reducible repeat (first | refine blk_drewN ?_ _ | refine blk_drew ?_ | refine blk_alloc ?_ _)); exact BK309.out⟩, ⟨by (with_reducible repeat (first | refine blk_drewN ?_ _ | refine blk_drew ?_ | refine blk_alloc ?_ _)); exact BK313.out⟩, ⟨by repeat (first | (with_reducible first | exact HB.out | apply below_alloc | apply pw_below_drewN | apply below_drew1 | refine below_set ?_ GE309.out | refine below_set ?_ GE313.out) | exact HB.out)⟩⟩
                                                · rw [if_neg c138] at H
                                                  exact absurd H (by simp)
                                              · rw [if_neg c137] at H
                                                exact absurd H (by simp)
                                            · rw [if_neg c136] at H
                                              have c136b0 : decide (x460_3 < (t361.length : Int)) = false := decide_eq_false c136
                                              clear c136
                                              (first | rw [c136b0] | (simp only [i64_w, i32_w]; rw [c136b0]) | skip)
                                              by_cases c141 : (x70_3 != t346) = true
                                              · rw [if_pos c141] at H
                                                exact absurd H (by simp)
                                              · as_aux_lemma =>
                                                rw [if_neg c141] at H
                                                have c141b0 : (x70_3 != t346) = false := by simpa using c141
                                                (try (have c141b1 : decide (x70_3 = t346) = true := by simpa using c141))
                                                (try (have c141b2 : (x70_3 == t346) = true := by simpa using c141))
                                                clear c141
                                                have H' := Aside0.mk H
                                                clear H
                                                go_wp2
                                                go_meet
                                                case rel => exact ⟨_, H', ⟨by have := HJ13.out; have := HJ55.out; have := HK3.out; first | omega | exact Nat.le_refl _⟩, ⟨by (with_reducible repeat (first | apply Kd.R_alloc | apply Kd.R_drewN | apply Kd.R_drew)); exact Kd.R_mono HO_62.out (fun _ hk => trivial)⟩, ⟨by (with_reducible repeat (first | refine blk_drewN ?_ _ | refine blk_drew ?_ | refine blk_alloc ?_ _)); exact BK309.out⟩, ⟨by (with_reducible repeat (first | refine blk_drewN ?_ _ | refine blk_drew ?_ | refine blk_alloc ?_ _)); exact BK313.out⟩, ⟨by repeat (first | (with_reducible first | exact HB.out | apply below_alloc | apply pw_below_drewN | apply below_drew1 | refine below_set ?_ GE309.out | refine below_set ?_ GE313.out) | exact HB.out)⟩⟩
                                      · replace c131 := Bool.eq_false_iff.mpr c131
                                        subst c131
                                        have H1 : (none) = some r := by rw [if_neg (show ¬ (false = true) by decide)] at H; exact H
                                        clear H
                                        have H := H1
                                        clear H1
                                        exact absurd H (by simp)
                                    · replace c130 := Bool.eq_false_iff.mpr c130
                                      subst c130
                                      have H1 : (none) = some r := by rw [if_neg (show ¬ (false = true) by decide)] at H; exact H
                                      clear H
                                      have H := H1
                                      clear H1
                                      exact absurd H (by simp)
                                  · as_aux_lemma =>
                                    replace c127 := Bool.eq_false_iff.mpr c127
                                    subst c127
                                    have H1 : (laws_FnGearsRoll.j4 kj55 t350 t351 t352 t353) = some r := by rw [if_neg (show ¬ (false = true) by decide)] at H; exact H
                                    clear H
                                    have H := H1
                                    clear H1
                                    have H' := Aside0.mk H
                                    clear H
                                    go_wp2
                                    go_meet
                                    case rel => exact ⟨_, H', ⟨by have := HJ13.out; have := HJ55.out; first | omega | exact Nat.le_refl _⟩, ⟨by (with_reducible repeat (first | apply Kd.R_alloc | apply Kd.R_drewN | apply Kd.R_drew)); exact Kd.R_mono HO355.out (fun _ hk => trivial)⟩, ⟨by (with_reducible repeat (first | refine blk_drewN ?_ _ | refine blk_drew ?_ | refine blk_alloc ?_ _)); exact BK309.out⟩, ⟨by (with_reducible repeat (first | refine blk_drewN ?_ _ | refine blk_drew ?_ | refine blk_alloc ?_ _)); exact BK313.out⟩, ⟨by repeat (first | (with_reducible first | exact HB.out | apply below_alloc | apply pw_below_drewN | apply below_drew1 | refine below_set ?_ GE309.out | refine below_set ?_ GE313.out) | exact HB.out)⟩⟩
                                case rest =>
                                  as_aux_lemma =>
                                  clear HC115
                                  try clear c1
                                  try clear c2
                                  try clear p2
                                  try clear c3
                                  try clear p3
                                  try clear q3
                                  try clear hx3
                                  try clear c4
                                  try clear c5
                                  try clear c6
                                  try clear p6
                                  try clear c7
                                  try clear c8
                                  try clear c9
                                  try clear c10
                                  try clear c11
                                  try clear c12
                                  try clear c13
                                  try clear c14
                                  try clear c15
                                  try clear c16
                                  try clear c17
                                  try clear c18
                                  try clear c19
                                  try clear c20
                                  try clear c21
                                  try clear c22
                                  try clear c23
                                  try clear c24
                                  try clear c25
                                  try clear c26
                                  try clear c27
                                  try clear c27b0
                                  try clear c27b1
                                  try clear c27b2
                                  try clear c28
                                  try clear c29
                                  try clear c30
                                  try clear c30b0
                                  try clear c30b1
                                  try clear c30b2
                                  try clear c31
                                  try clear c31b0
                                  try clear c31b1
                                  try clear p31
                                  try clear q31
                                  try clear hx31
                                  try clear c32
                                  try clear c32b0
                                  try clear c32b1
                                  try clear c32b2
                                  try clear c33
                                  try clear c33b0
                                  try clear c33b1
                                  try clear c34
                                  try clear c34b0
                                  try clear c34b1
                                  try clear c34b2
                                  try clear c35
                                  try clear c35b0
                                  try clear c36
                                  try clear c36b0
                                  try clear c36b1
                                  try clear c36b2
                                  try clear p36
                                  try clear q36
                                  try clear hx36
                                  try clear c37
                                  try clear c37b0
                                  try clear c37b1
                                  try clear c37b2
                                  try clear c38
                                  try clear c39
                                  try clear c39b0
                                  try clear c42
                                  try clear c47
                                  try clear c52
                                  try clear c55
                                  try clear c57
                                  try clear c60
                                  try clear c60b0
                                  try clear c60b1
                                  try clear c61
                                  try clear c61b0
                                  try clear c61b1
                                  try clear c62
                                  try clear c63
                                  try clear c63b0
                                  try clear c63b1
                                  try clear c64
                                  try clear p64
                                  try clear c65
                                  try clear c65b0
                                  try clear c65b1
                                  try clear c66
                                  try clear c66b0
                                  try clear c66b1
                                  try clear c70
                                  try clear c70b0
                                  try clear c71
                                  try clear c71b0
                                  try clear c72
                                  try clear c72b0
                                  try clear c75
                                  try clear c75b0
                                  try clear c75b1
                                  try clear c76
                                  try clear c76b0
                                  try clear c76b1
                                  try clear c77
                                  try clear c78
                                  try clear c78b0
                                  try clear c78b1
                                  try clear c79
                                  try clear c79b0
                                  try clear c79b1
                                  try clear c80
                                  try clear c81
                                  try clear c82
                                  try clear c84
                                  try clear c85
                                  try clear c85b0
                                  try clear c85b1
                                  try clear c88
                                  try clear c105
                                  try clear c105b0
                                  try clear c105b1
                                  try clear c105b2
                                  try clear c106
                                  try clear c106b0
                                  try clear c106b1
                                  try clear c107
                                  try clear c107b0
                                  try clear c107b1
                                  try clear c107b2
                                  try clear c108
                                  try clear c108b0
                                  try clear c108b1
                                  try clear c109
                                  try clear c109b0
                                  try clear c109b1
                                  try clear c110
                                  try clear c110b0
                                  try clear c110b1
                                  try clear c110b2
                                  try clear c111
                                  try clear c111b0
                                  try clear c111b1
                                  try clear c111b2
                                  try clear c112
                                  try clear c112b0
                                  try clear c112b1
                                  try clear c112b2
                                  try clear c114
                                  try clear c127
                                  try clear c130
                                  try clear c131
                                  try clear c136
                                  try clear c136b0
                                  try clear c137
                                  try clear c137b0
                                  try clear c138
                                  try clear c138b0
                                  try clear c139
                                  try clear c141
                                  try clear c141b0
                                  try clear c141b1
                                  try clear c141b2
                                  try clear hcz22_0
                                  try clear hcz22_1
                                  try clear hcz26_0
                                  try clear hcz26_1
                                  try clear hcz43_0
                                  try clear hcz43_1
                                  try clear hcz44_0
                                  try clear hcz44_1
                                  try clear hcz48_0
                                  try clear hcz48_1
                                  try clear hcz49_0
                                  try clear hcz49_1
                                  try clear hcz53_0
                                  try clear hcz53_1
                                  try clear hcz54_0
                                  try clear hcz54_1
                                  try clear hcz89_0
                                  try clear hcz89_1
                                  try clear hfz22_0
                                  try clear hfz22_1
                                  try clear hfz26_0
                                  try clear hfz26_1
                                  try clear hfz43_0
                                  try clear hfz43_1
                                  try clear hfz44_0
                                  try clear hfz44_1
                                  try clear hfz48_0
                                  try clear hfz48_1
                                  try clear hfz49_0
                                  try clear hfz49_1
                                  try clear hfz53_0
                                  try clear hfz53_1
                                  try clear hfz54_0
                                  try clear hfz54_1
                                  try clear hfz89_0
                                  try clear hfz89_1
                                  try clear hx319_0
                                  try clear hx369_0
                                  try clear p2
                                  try clear p3
                                  try clear p31
                                  try clear p319
                                  try clear p369
                                  try clear p6
                                  try clear p64
                                  try clear q3
                                  try clear q31
                                  try clear q319
                                  try clear q369
                                  obtain ⟨kq, HA, HJ114, HO_62, BK309, BK313, HB⟩ := hcut
                                  cases kq with
                                  | zero => exact absurd HA.out (by simp [laws_FnGearsRoll.j4])
                                  | succ kj114 =>
                                    have H := HA.out
                                    clear HA
                                    simp only [laws_FnGearsRoll.j4] at H
                                    by_cases c142 : t353 = true
                                    · subst c142
                                      have H1 : ((laws_uRises.f kj114 t352).bind fun t371 => (if t371 = true then (laws_FnGearsRoll.l2 kj114 t350 t351 t352 1) else (none))) = some r := by rw [if_pos rfl] at H; exact H
                                      clear H
                                      have H := H1
                                      clear H1
                                      replace H := Option.bind_eq_some_iff.mp H
                                      obtain ⟨t371, A1430, H⟩ := H
                                      replace H : (if t371 = true then (laws_FnGearsRoll.l2 kj114 t350 t351 t352 1) else (none)) = some r := H
                                      have A143 := Aside0.mk A1430
                                      clear A1430
                                      by_cases c144 : t371 = true
                                      · as_aux_lemma =>
                                        subst c144
                                        have H1 : (laws_FnGearsRoll.l2 kj114 t350 t351 t352 1) = some r := by rw [if_pos rfl] at H; exact H
                                        clear H
                                        have H := H1
                                        clear H1
                                        have H' := Aside0.mk H
                                        clear H
                                        go_wp2_with (first | ((with_reducible refine gate_callee (f := 30) rfl ?_); refine goesL_ (some 476) rfl rfl Try.func30 (by kernel_rfl) rfl #[.slice Ao125 t352.length co125] rfl (by (try simp only [List.map_toArray, List.map_cons, List.map_nil]); first | done | rfl | (simp only [List.length_drop, List.length_take]; rfl)) ?_; (with_reducible refine (laws_uRises.calls kj114 _ _ t352 true _ ?side1 ?side2 A143.out).mono ?_); (case side1 => repeat (first | exact (Kd.R_reads' HO_62.out).2.2 | (with_reducible refine Kd.C_alloc ?_ _) | (with_reducible refine Kd.C_drewN ?_ _) | (with_reducible refine Kd.C_drew ?_))); (case side2 => exact (Kd.R_reads' HO_62.out).2.1); rintro e w' ⟨rfl, ⟨nd, rfl⟩⟩; refine ⟨_, rfl, ?_⟩))
                                        go_loopg [73] kj114 (fun kq v73 w' => ∃ (x73_4 : Int), v73 = .int .i64 x73_4 ∧ Aside0 (laws_FnGearsRoll.l2 kq t350 t351 t352 x73_4 = some r) ∧ Aside0 (kq ≤ kj114) ∧ Aside0 (Kd.R (Kd.int .i64) 3 w' w.heap.size (fun _ => True) (.slice Ao125 t352.length co125) t352) ∧ Aside0 (w'.heap[gb309]? = some (.cells #[.int .i64 t306, .int .i64 t307] 32 (0, 0))) ∧ Aside0 (w'.heap[gb313]? = some (.cells #[.int .i64 t310, .int .i64 t311] 32 (0, 0))) ∧ Aside0 (Below w.heap.size w w'))
                                        case atStart => exact ⟨(1), (by first | rfl | (simp; done) | (simp [*]; done)), H', ⟨Nat.le_refl _⟩, ⟨by (with_reducible repeat (first | apply Kd.R_alloc | apply Kd.R_drewN | apply Kd.R_drew)); exact HO_62.out⟩, ⟨by (with_reducible repeat (first | refine blk_drewN ?_ _ | refine blk_drew ?_ | refine blk_alloc ?_ _)); exact BK309.out⟩, ⟨by (with_reducible repeat (first | refine blk_drewN ?_ _ | refine blk_drew ?_ | refine blk_alloc ?_ _)); exact BK313.out⟩, ⟨by repeat (first | (with_reducible first | exact HB.out | apply below_alloc | apply pw_below_drewN | apply below_drew1 | refine below_set ?_ GE309.out | refine below_set ?_ GE313.out) | exact HB.out)⟩⟩
                                        case round =>
                                          as_aux_lemma =>
                                          clear H'
                                          try clear c1
                                          try clear c2
                                          try clear p2
                                          try clear c3
                                          try clear p3
                                          try clear q3
                                          try clear hx3
                                          try clear c4
                                          try clear c5
                                          try clear c6
                                          try clear p6
                                          try clear c7
                                          try clear c8
                                          try clear c9
                                          try clear c10
                                          try clear c11
                                          try clear c12
                                          try clear c13
                                          try clear c14
                                          try clear c15
                                          try clear c16
                                          try clear c17
                                          try clear c18
                                          try clear c19
                                          try clear c20
                                          try clear c21
                                          try clear c22
                                          try clear c23
                                          try clear c24
                                          try clear c25
                                          try clear c26
                                          try clear c27
                                          try clear c27b0
                                          try clear c27b1
                                          try clear c27b2
                                          try clear c28
                                          try clear c29
                                          try clear c30
                                          try clear c30b0
                                          try clear c30b1
                                          try clear c30b2
                                          try clear c31
                                          try clear c31b0
                                          try clear c31b1
                                          try clear p31
                                          try clear q31
                                          try clear hx31
                                          try clear c32
                                          try clear c32b0
                                          try clear c32b1
                                          try clear c32b2
                                          try clear c33
                                          try clear c33b0
                                          try clear c33b1
                                          try clear c34
                                          try clear c34b0
                                          try clear c34b1
                                          try clear c34b2
                                          try clear c35
                                          try clear c35b0
                                          try clear c36
                                          try clear c36b0
                                          try clear c36b1
                                          try clear c36b2
                                          try clear p36
                                          try clear q36
                                          try clear hx36
                                          try clear c37
                                          try clear c37b0
                                          try clear c37b1
                                          try clear c37b2
                                          try clear c38
                                          try clear c39
                                          try clear c39b0
                                          try clear c42
                                          try clear c47
                                          try clear c52
                                          try clear c55
                                          try clear c57
                                          try clear c60
                                          try clear c60b0
                                          try clear c60b1
                                          try clear c61
                                          try clear c61b0
                                          try clear c61b1
                                          try clear c62
                                          try clear c63
                                          try clear c63b0
                                          try clear c63b1
                                          try clear c64
                                          try clear p64
                                          try clear c65
                                          try clear c65b0
                                          try clear c65b1
                                          try clear c66
                                          try clear c66b0
                                          try clear c66b1
                                          try clear c70
                                          try clear c70b0
                                          try clear c71
                                          try clear c71b0
                                          try clear c72
                                          try clear c72b0
                                          try clear c75
                                          try clear c75b0
                                          try clear c75b1
                                          try clear c76
                                          try clear c76b0
                                          try clear c76b1
                                          try clear c77
                                          try clear c78
                                          try clear c78b0
                                          try clear c78b1
                                          try clear c79
                                          try clear c79b0
                                          try clear c79b1
                                          try clear c80
                                          try clear c81
                                          try clear c82
                                          try clear c84
                                          try clear c85
                                          try clear c85b0
                                          try clear c85b1
                                          try clear c88
                                          try clear c105
                                          try clear c105b0
                                          try clear c105b1
                                          try clear c105b2
                                          try clear c106
                                          try clear c106b0
                                          try clear c106b1
                                          try clear c107
                                          try clear c107b0
                                          try clear c107b1
                                          try clear c107b2
                                          try clear c108
                                          try clear c108b0
                                          try clear c108b1
                                          try clear c109
                                          try clear c109b0
                                          try clear c109b1
                                          try clear c110
                                          try clear c110b0
                                          try clear c110b1
                                          try clear c110b2
                                          try clear c111
                                          try clear c111b0
                                          try clear c111b1
                                          try clear c111b2
                                          try clear c112
                                          try clear c112b0
                                          try clear c112b1
                                          try clear c112b2
                                          try clear c114
                                          try clear c127
                                          try clear c130
                                          try clear c131
                                          try clear c136
                                          try clear c136b0
                                          try clear c137
                                          try clear c137b0
                                          try clear c138
                                          try clear c138b0
                                          try clear c139
                                          try clear c141
                                          try clear c141b0
                                          try clear c141b1
                                          try clear c141b2
                                          try clear c142
                                          try clear c144
                                          try clear hcz22_0
                                          try clear hcz22_1
                                          try clear hcz26_0
                                          try clear hcz26_1
                                          try clear hcz43_0
                                          try clear hcz43_1
                                          try clear hcz44_0
                                          try clear hcz44_1
                                          try clear hcz48_0
                                          try clear hcz48_1
                                          try clear hcz49_0
                                          try clear hcz49_1
                                          try clear hcz53_0
                                          try clear hcz53_1
                                          try clear hcz54_0
                                          try clear hcz54_1
                                          try clear hcz89_0
                                          try clear hcz89_1
                                          try clear hfz22_0
                                          try clear hfz22_1
                                          try clear hfz26_0
                                          try clear hfz26_1
                                          try clear hfz43_0
                                          try clear hfz43_1
                                          try clear hfz44_0
                                          try clear hfz44_1
                                          try clear hfz48_0
                                          try clear hfz48_1
                                          try clear hfz49_0
                                          try clear hfz49_1
                                          try clear hfz53_0
                                          try clear hfz53_1
                                          try clear hfz54_0
                                          try clear hfz54_1
                                          try clear hfz89_0
                                          try clear hfz89_1
                                          try clear hx319_0
                                          try clear hx369_0
                                          try clear p2
                                          try clear p3
                                          try clear p31
                                          try clear p319
                                          try clear p36
                                          try clear p369
                                          try clear p6
                                          try clear p64
                                          try clear q3
                                          try clear q31
                                          try clear q319
                                          try clear q36
                                          try clear q369
                                          obtain ⟨x73_4, rfl, HA, HK4, HO_62, BK309, BK313, HB⟩ := hrel
                                          cases gk with
                                          | zero => exact absurd HA.out (by simp [laws_FnGearsRoll.l2])
                                          | succ k4 =>
                                            have H := HA.out
                                            clear HA
                                            simp only [laws_FnGearsRoll.l2] at H
                                            by_cases c145 : x73_4 < t350
                                            · rw [if_pos c145] at H
                                              have c145b0 : decide (x73_4 < t350) = true := decide_eq_true c145
                                              clear c145
                                              replace H := Option.bind_eq_some_iff.mp H
                                              obtain ⟨⟨t372, t373⟩, A1460, H⟩ := H
                                              replace H : (if t373 = true then ((laws_uHas.f k4 t352 x73_4).bind fun t374 => (if (t374 != (t372 == t351)) = true then (none) else (laws_FnGearsRoll.l2 k4 t350 t351 t352 (wrap64 (x73_4 + 1))))) else (none)) = some r := H
                                              have A146 := Aside0.mk A1460
                                              clear A1460
                                              by_cases c147 : t373 = true
                                              · subst c147
                                                have H1 : ((laws_uHas.f k4 t352 x73_4).bind fun t374 => (if (t374 != (t372 == t351)) = true then (none) else (laws_FnGearsRoll.l2 k4 t350 t351 t352 (wrap64 (x73_4 + 1))))) = some r := by rw [if_pos rfl] at H; exact H
                                                clear H
                                                have H := H1
                                                clear H1
                                                replace H := Option.bind_eq_some_iff.mp H
                                                obtain ⟨t374, A1480, H⟩ := H
                                                replace H : (if (t374 != (t372 == t351)) = true then (none) else (laws_FnGearsRoll.l2 k4 t350 t351 t352 (wrap64 (x73_4 + 1)))) = some r := H
                                                have A148 := Aside0.mk A1480
                                                clear A1480
                                                by_cases c149 : (t374 != (t372 == t351)) = true
                                                · rw [if_pos c149] at H
                                                  exact absurd H (by simp)
                                                · as_aux_lemma =>
                                                  rw [if_neg c149] at H
                                                  have c149b0 : (t374 != (t372 == t351)) = false := by simpa using c149
                                                  (try (have c149b1 : decide (t374 = (t372 == t351)) = true := by simpa using c149))
                                                  (try (have c149b2 : (t374 == (t372 == t351)) = true := by simpa using c149))
                                                  clear c149
                                                  have H' := Aside0.mk H
                                                  clear H
                                                  go_wp2_with (first | ((with_reducible refine gate_callee (f := 8) rfl ?_); refine goesL_ (some 486) rfl rfl Try.func8 (by kernel_rfl) rfl #[.int .i64 t350, .int .i64 x73_4] rfl (by (try simp only [List.map_toArray, List.map_cons, List.map_nil]); first | done | rfl | (simp only [List.length_drop, List.length_take]; rfl)) ?_; (with_reducible refine (impl_PetalsOf.calls t350 x73_4 t372 true _ A146.out).mono ?_); rintro e w150 ⟨rfl, hb⟩; refine ⟨_, rfl, ?_⟩; have n0_ := Aside0.mk (Kd.R_below (by (with_reducible repeat (first | apply Kd.R_alloc | apply Kd.R_drewN | apply Kd.R_drew)); exact HO_62.out) hb); have n1_ := Aside0.mk (blk_below (g := gb309) (o := .cells #[.int .i64 t306, .int .i64 t307] 32 (0, 0)) (by (with_reducible repeat (first | refine blk_drewN ?_ _ | refine blk_drew ?_ | refine blk_alloc ?_ _)); exact BK309.out) hb); have n2_ := Aside0.mk (blk_below (g := gb313) (o := .cells #[.int .i64 t310, .int .i64 t311] 32 (0, 0)) (by (with_reducible repeat (first | refine blk_drewN ?_ _ | refine blk_drew ?_ | refine blk_alloc ?_ _)); exact BK313.out) hb); have n3_ := Aside0.mk (below_step (by repeat (first | (with_reducible first | exact HB.out | apply below_alloc | apply pw_below_drewN | apply below_drew1 | refine below_set ?_ GE309.out | refine below_set ?_ GE313.out) | exact HB.out)) hb); clear HO_62; clear BK309; clear BK313; clear HB; have HO_62 := n0_; have BK309 := n1_; have BK313 := n2_; have HB := n3_; clear n0_ n1_ n2_ n3_; (try clear hb); (try clear hb2); (try clear hk); (try clear hi)) | (go_at_call 29; (with_reducible refine (laws_uHas.calls k4 _ _ t352 x73_4 t374 _ ?side1 ?side2 A148.out).mono ?_); (case side1 => repeat (first | exact (Kd.R_reads' HO_62.out).2.2 | (with_reducible refine Kd.C_alloc ?_ _) | (with_reducible refine Kd.C_drewN ?_ _) | (with_reducible refine Kd.C_drew ?_))); (case side2 => exact (Kd.R_reads' HO_62.out).2.1); rintro e w' ⟨rfl, ⟨nd, rfl⟩⟩))
                                                  go_roundg k4
                                                  case measure => have := HJ13.out; have := HJ55.out; have := HJ114.out; have := HK4.out; omega
                                                  case rel => exact ⟨(wrap64 (x73_4 + 1)), (by first | rfl | (simp; done) | (simp [*]; done)), H', ⟨by have := HJ13.out; have := HJ55.out; have := HJ114.out; have := HK4.out; omega⟩, ⟨by (with_reducible repeat (first | apply Kd.R_alloc | apply Kd.R_drewN | apply Kd.R_drew)); exact HO_62.out⟩, ⟨by (with_reducible repeat (first | refine blk_drewN ?_ _ | refine blk_drew ?_ | refine blk_alloc ?_ _)); exact BK309.out⟩, ⟨by (with_reducible repeat (first | refine blk_drewN ?_ _ | refine blk_drew ?_ | refine blk_alloc ?_ _)); exact BK313.out⟩, ⟨by repeat (first | (with_reducible first | exact HB.out | apply below_alloc | apply pw_below_drewN | apply below_drew1 | refine below_set ?_ GE309.out | refine below_set ?_ GE313.out) | exact HB.out)⟩⟩
                                              · replace c147 := Bool.eq_false_iff.mpr c147
                                                subst c147
                                                have H1 : (none) = some r := by rw [if_neg (show ¬ (false = true) by decide)] at H; exact H
                                                clear H
                                                have H := H1
                                                clear H1
                                                exact absurd H (by simp)
                                            · as_aux_lemma =>
                                              rw [if_neg c145] at H
                                              have c145b0 : decide (x73_4 < t350) = false := decide_eq_false c145
                                              clear c145
                                              obtain rfl := Option.some.inj H
                                              go_wp2
                                              go_ret
                                              exact ⟨by first | rfl | (simp [errW_none, errW_some] <;> rfl) | (simp [*, errW_none, errW_some] <;> rfl), by repeat (first | (with_reducible first | exact HB.out | apply below_alloc | apply pw_below_drewN | apply below_drew1 | refine below_set ?_ GE309.out | refine below_set ?_ GE313.out) | exact HB.out)⟩
                                      · replace c144 := Bool.eq_false_iff.mpr c144
                                        subst c144
                                        have H1 : (none) = some r := by rw [if_neg (show ¬ (false = true) by decide)] at H; exact H
                                        clear H
                                        have H := H1
                                        clear H1
                                        exact absurd H (by simp)
                                    · as_aux_lemma =>
                                      replace c142 := Bool.eq_false_iff.mpr c142
                                      subst c142
                                      have H1 : (some true) = some r := by rw [if_neg (show ¬ (false = true) by decide)] at H; exact H
                                      clear H
                                      have H := H1
                                      clear H1
                                      obtain rfl := Option.some.inj H
                                      go_wp2
                                      go_ret
                                      exact ⟨by first | rfl | (simp [errW_none, errW_some] <;> rfl) | (simp [*, errW_none, errW_some] <;> rfl), by repeat (first | (with_reducible first | exact HB.out | apply below_alloc | apply pw_below_drewN | apply below_drew1 | refine below_set ?_ GE309.out | refine below_set ?_ GE313.out) | exact HB.out)⟩
                              · replace c114 := Bool.eq_false_iff.mpr c114
                                subst c114
                                have H1 : (none) = some r := by rw [if_neg (show ¬ (false = true) by decide)] at H; exact H
                                clear H
                                have H := H1
                                clear H1
                                exact absurd H (by simp)
                      · rw [if_neg c109] at H
                        exact absurd H (by simp)
                    · rw [if_neg c108] at H
                      exact absurd H (by simp)
                · rw [if_neg c106] at H
                  exact absurd H (by simp)

/-- THE ONE PURE STATEMENT of laws_FnGearsRoll: yours. -/
def laws_FnGearsRoll.Pure : Prop := ∀ (l0 : List Int) (l1 : List Int), l0.length ≤ maxLen → l0.length * 1 ≤ 140737488351232 → (∀ x ∈ l0, (Lit.int .u8 x).wf = true) → l1.length ≤ maxLen → l1.length * 1 ≤ 140737488351232 → (∀ x ∈ l1, (Lit.int .u8 x).wf = true) → ∃ k, laws_FnGearsRoll.f k l0 l1 = some true
theorem laws_FnGearsRoll.walk (P : laws_FnGearsRoll.Pure) (a0 : Option Addr) (len0 cap0 : Nat) (z0 : List Int) (a1 : Option Addr) (len1 cap1 : Nat) (z1 : List Int) (w : World) (w0 : (a0 = none ∧ len0 = 0 ∧ cap0 = 0 ∧ z0 = []) ∨ ∃ x, a0 = some x ∧ len0 ≤ cap0 ∧ cap0 ≤ maxLen ∧ z0.length = cap0 ∧ (∀ i, i < z0.length → w.cell? (x.add i) = some (.int .u8 (z0.getD i 0))) ∧ ∀ n ∈ z0, (Lit.int .u8 n).wf = true) (y0 : len0 * 1 ≤ 140737488351232) (w1 : (a1 = none ∧ len1 = 0 ∧ cap1 = 0 ∧ z1 = []) ∨ ∃ x, a1 = some x ∧ len1 ≤ cap1 ∧ cap1 ≤ maxLen ∧ z1.length = cap1 ∧ (∀ i, i < z1.length → w.cell? (x.add i) = some (.int .u8 (z1.getD i 0))) ∧ ∀ n ∈ z1, (Lit.int .u8 n).wf = true) (y1 : len1 * 1 ≤ 140737488351232) :
    Calls Try.prog 3 #[.slice a0 len0 cap0, .slice a1 len1 cap1] w fun e w' => e = .returned (.bool true) ∧ Below w.heap.size w w' := by
  obtain ⟨l0, rfl, hr0, hm0, hw0, hc0⟩ := ReadsInt.ofRowC w0
  obtain ⟨l1, rfl, hr1, hm1, hw1, hc1⟩ := ReadsInt.ofRowC w1
  obtain ⟨k, h⟩ := P l0 l1 hm0 y0 hw0 hm1 y1 hw1
  refine (laws_FnGearsRoll.calls k _ _ l0 _ _ l1 true w (Kd.C_of_reads (d := (0 : Int)) (h1 := fun _ => rfl) hr0) hc0 (Kd.C_of_reads (d := (0 : Int)) (h1 := fun _ => rfl) hr1) hc1 h).mono ?_
  rintro e w' ⟨rfl, hd⟩
  exact ⟨rfl, hd⟩

end Go.Proofs.Ytkbioklfdfopmaa.P
