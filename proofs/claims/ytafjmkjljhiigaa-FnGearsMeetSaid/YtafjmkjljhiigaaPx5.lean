/- A part of this seat's proofs: contracts of the translated functions, written by the session's own program (gp.py) out of the kit's print.py and the session's own contracts; no conditions of its own. -/
import Derived.Test.YtafjmkjljhiigaaPx0
import Derived.Test.YtafjmkjljhiigaaPx1
import Derived.Test.YtafjmkjljhiigaaPx2
import Derived.Test.YtafjmkjljhiigaaPx3
import Derived.Test.YtafjmkjljhiigaaPx4
namespace Go.Proofs.Ytafjmkjljhiigaa.P
open Go.RowKit Go.Proofs.YtafjmkjljhiigaaW.PrintWords Go.Proofs.YtafjmkjljhiigaaW.PrintLast Go.Proofs.YtafjmkjljhiigaaW.PrintMore
attribute [local go_sem] max2_int min2_int max_two min_two max_three min_three max_four min_four   -- for this text's walks alone
set_option linter.unusedVariables false
set_option linter.unusedSimpArgs false

/-! ### laws_FnGearsMeet: function 3 -/
mutual
def laws_FnGearsMeet.j0 : Nat → List Int → Int → Int → Int → Int → Int → Bool → Bool → List Int → Bool → Option (Bool)
 | 0, _, _, _, _, _, _, _, _, _, _ => none
 | k + 1, x1, x5, x6, x7, x8, x9, x10, x14, x17, x177 => if x177 = true then (none) else (if x10 = true then ((impl_TeethAt.f x5 x6 x9).bind fun bt445 => ((impl_RoundsOf.f x5 x6).bind fun bt448 => (if bt445.2.2 = true then (if bt445.1 = x7 then (if bt445.2.1 = x8 then (if bt448.2 = true then (if x9 ≥ (wrap64 (bt448.1 * x5)) then (none) else (laws_FnGearsMeet.j1 k x1 x5 x6 x14 x17)) else (none)) else (none)) else (none)) else (none)))) else (laws_FnGearsMeet.j1 k x1 x5 x6 x14 x17))
def laws_FnGearsMeet.j1 : Nat → List Int → Int → Int → Bool → List Int → Option (Bool)
 | 0, _, _, _, _, _ => none
 | k + 1, x1, x5, x6, x14, x17 => if x14 = true then ((impl_PetalsOf.f x5 x6).bind fun bt450 => (if bt450.2 = true then ((laws_uRises.f k x17).bind fun t452 => (if t452 = true then (if (wrap64 ((x17.length : Int) * x5)) = (wrap64 (x6 * bt450.1)) then (laws_FnGearsMeet.j2 k x1) else (none)) else (none))) else (none))) else (laws_FnGearsMeet.j2 k x1)
def laws_FnGearsMeet.j2 : Nat → List Int → Option (Bool)
 | 0, _ => none
 | k + 1, x1 => (spec_DrawTrainTurns.f k x1).bind fun bt453 => ((impl_TrainTurns.f k bt453.1 bt453.2).bind fun bt457 => ((spec_TrainTurns.f k bt453.1 bt453.2).bind fun bt464 => ((spec_DrawTrainTeeth.f k x1).bind fun bt471 => ((impl_TrainTeeth.f k bt471.1 bt471.2).bind fun bt475 => ((spec_TrainTeeth.f k bt471.1 bt471.2).bind fun bt479 => ((spec_DrawTrainPeriod.f k x1).bind fun t483 => ((impl_TrainPeriod.f k t483).bind fun bt486 => ((spec_TrainPeriod.f k t483).bind fun bt488 => ((impl_LeastTurns.f k t483).bind fun bt490 => ((spec_LeastTurns.f k t483).bind fun bt492 => ((spec_DrawAreInGear.f k x1).bind fun bt494 => ((impl_AreInGear.f k bt494.1 bt494.2).bind fun bt500 => ((spec_AreInGear.f k bt494.1 bt494.2).bind fun bt502 => (if (bt457.2.2 != bt464.2.2) = true then (none) else ((laws_uSame.f k bt457.1 bt464.1).bind fun t504 => (if t504 = true then ((laws_uSame.f k bt457.2.1 bt464.2.1).bind fun t505 => (if t505 = true then (if (bt475.2 != bt479.2) = true then (none) else ((laws_uSame.f k bt475.1 bt479.1).bind fun t506 => (if t506 = true then (if (bt486.2 != bt488.2) = true then (none) else (if bt486.1 = bt488.1 then (if (bt490.2 != bt492.2) = true then (none) else (if bt490.1 = bt492.1 then (if (bt490.2 != bt486.2) = true then (none) else (if (bt500.2 != bt502.2) = true then (none) else (if (bt500.1 != bt502.1) = true then (none) else (if bt457.2.2 = true then (laws_FnGearsMeet.l0 k bt453.1 bt453.2 bt457.2.1 bt471.1 bt475.1 bt475.2 t483 bt486.1 bt486.2 bt490.1 1 bt457.1 (bt457.1.length : Int) 0) else (laws_FnGearsMeet.j4 k bt471.1 bt475.1 bt475.2 t483 bt486.1 bt486.2 bt490.1))))) else (none))) else (none))) else (none)))) else (none))) else (none)))))))))))))))))
def laws_FnGearsMeet.j4 : Nat → List Int → List Int → Bool → List Int → Int → Bool → Int → Option (Bool)
 | 0, _, _, _, _, _, _, _ => none
 | k + 1, x36, x38, x39, x42, x43, x44, x47 => if x39 = true then ((impl_AreInGear.f k x36 x38).bind fun bt512 => (if bt512.2 = true then (if bt512.1 = true then (if (x38.length : Int) = (x36.length : Int) then (laws_FnGearsMeet.j5 k x42 x43 x44 x47) else (none)) else (none)) else (none))) else (laws_FnGearsMeet.j5 k x42 x43 x44 x47)
def laws_FnGearsMeet.j5 : Nat → List Int → Int → Bool → Int → Option (Bool)
 | 0, _, _, _, _ => none
 | k + 1, x42, x43, x44, x47 => if x44 = true then (if x43 < 1 then (none) else (if 0 < (x42.length : Int) then (if (wrap64 (x47 * (rd x42 0))) = x43 then (laws_FnGearsMeet.l1 k x42 x43 x42 (x42.length : Int) 0) else (none)) else (none))) else (some true)
def laws_FnGearsMeet.l1 : Nat → List Int → Int → List Int → Int → Int → Option (Bool)
 | 0, _, _, _, _, _ => none
 | k + 1, x42, x43, x445, x446, x447 => if x447 < x446 then (if 0 ≤ x447 then (if x447 < (x445.length : Int) then (if (rd x445 x447) = 0 then (none) else (if (Int.tmod x43 (rd x445 x447)) = 0 then (laws_FnGearsMeet.l1 k x42 x43 x445 x446 (wrap64 (x447 + 1))) else (none))) else (none)) else (none)) else (if x43 ≤ 1000000 then ((impl_TrainTeeth.f k x42 x43).bind fun bt516 => (if bt516.2 = true then (laws_FnGearsMeet.l2 k bt516.1 (bt516.1.length : Int) 0) else (none))) else (some true))
def laws_FnGearsMeet.l2 : Nat → List Int → Int → Int → Option (Bool)
 | 0, _, _, _ => none
 | k + 1, x466, x467, x468 => if x468 < x467 then (if 0 ≤ x468 then (if x468 < (x466.length : Int) then (if (rd x466 x468) = 0 then (laws_FnGearsMeet.l2 k x466 x467 (wrap64 (x468 + 1))) else (none)) else (none)) else (none)) else (some true)
def laws_FnGearsMeet.l0 : Nat → List Int → Int → List Int → List Int → List Int → Bool → List Int → Int → Bool → Int → Int → List Int → Int → Int → Option (Bool)
 | 0, _, _, _, _, _, _, _, _, _, _, _, _, _, _ => none
 | k + 1, x28, x29, x31, x36, x38, x39, x42, x43, x44, x47, x57, x377, x378, x379 => if x379 < x378 then (if 0 ≤ x379 then (if x379 < (x377.length : Int) then (if x379 < (x31.length : Int) then (if (rd x31 x379) < 1 then (none) else (if x379 < (x28.length : Int) then (if 0 < (x28.length : Int) then (if (wrap64 ((rd x377 x379) * (rd x28 x379))) = (wrap64 ((wrap64 ((wrap64 (x57 * x29)) * (rd x28 0))) * (rd x31 x379))) then (laws_FnGearsMeet.l0 k x28 x29 x31 x36 x38 x39 x42 x43 x44 x47 (wrap64 (-x57)) x377 x378 (wrap64 (x379 + 1))) else (none)) else (none)) else (none))) else (none)) else (none)) else (none)) else (laws_FnGearsMeet.j4 k x36 x38 x39 x42 x43 x44 x47)
end
def laws_FnGearsMeet.f (k : Nat) (l0 : List Int) (l1 : List Int) : Option (Bool) := (laws_big.f l0 l1).bind fun t422 => (if t422 = true then (some true) else ((spec_DrawFirstMeeting.f k l0).bind fun bt423 => ((impl_FirstMeeting.f k bt423.1 bt423.2.1 bt423.2.2.1 bt423.2.2.2).bind fun bt427 => ((spec_FirstMeeting.f k bt423.1 bt423.2.1 bt423.2.2.1 bt423.2.2.2).bind fun bt429 => ((impl_DoMeet.f bt423.1 bt423.2.1 bt423.2.2.1 bt423.2.2.2).bind fun bt431 => ((spec_DoMeet.f k bt423.1 bt423.2.1 bt423.2.2.1 bt423.2.2.2).bind fun bt433 => ((impl_MeetingsOf.f bt423.1 bt423.2.1 bt423.2.2.1).bind fun bt435 => ((spec_MeetingsOf.f k bt423.1 bt423.2.1 bt423.2.2.1).bind fun bt439 => (if (bt427.2 != bt429.2) = true then (none) else (if bt427.1 = bt429.1 then (if (bt431.2 != bt433.2) = true then (none) else (if (bt431.1 != bt433.1) = true then (none) else (if (bt435.2 != bt439.2) = true then (none) else ((laws_uSame.f k bt435.1 bt439.1).bind fun t443 => (if t443 = true then (if bt431.2 = true then (if (bt427.2 != bt431.1) = true then (none) else (if bt435.2 = true then ((laws_uHas.f k bt435.1 bt423.2.2.2).bind fun t444 => (laws_FnGearsMeet.j0 k l1 bt423.1 bt423.2.1 bt423.2.2.1 bt423.2.2.2 bt427.1 bt427.2 bt431.2 bt435.1 (bt431.1 != t444))) else (none))) else (if (bt427.2 != false) = true then (none) else (laws_FnGearsMeet.j0 k l1 bt423.1 bt423.2.1 bt423.2.2.1 bt423.2.2.2 bt427.1 bt427.2 bt431.2 bt435.1 false))) else (none)))))) else (none)))))))))))
theorem laws_FnGearsMeet.mono_l : ∀ k, (∀ y0 y1 y2 y3 y4 y5 y6 y7 y8 y9, LeO (laws_FnGearsMeet.j0 k y0 y1 y2 y3 y4 y5 y6 y7 y8 y9) (laws_FnGearsMeet.j0 (k + 1) y0 y1 y2 y3 y4 y5 y6 y7 y8 y9)) ∧ (∀ y0 y1 y2 y3 y4, LeO (laws_FnGearsMeet.j1 k y0 y1 y2 y3 y4) (laws_FnGearsMeet.j1 (k + 1) y0 y1 y2 y3 y4)) ∧ (∀ y0, LeO (laws_FnGearsMeet.j2 k y0) (laws_FnGearsMeet.j2 (k + 1) y0)) ∧ (∀ y0 y1 y2 y3 y4 y5 y6, LeO (laws_FnGearsMeet.j4 k y0 y1 y2 y3 y4 y5 y6) (laws_FnGearsMeet.j4 (k + 1) y0 y1 y2 y3 y4 y5 y6)) ∧ (∀ y0 y1 y2 y3, LeO (laws_FnGearsMeet.j5 k y0 y1 y2 y3) (laws_FnGearsMeet.j5 (k + 1) y0 y1 y2 y3)) ∧ (∀ y0 y1 y2 y3 y4, LeO (laws_FnGearsMeet.l1 k y0 y1 y2 y3 y4) (laws_FnGearsMeet.l1 (k + 1) y0 y1 y2 y3 y4)) ∧ (∀ y0 y1 y2, LeO (laws_FnGearsMeet.l2 k y0 y1 y2) (laws_FnGearsMeet.l2 (k + 1) y0 y1 y2)) ∧ (∀ y0 y1 y2 y3 y4 y5 y6 y7 y8 y9 y10 y11 y12 y13, LeO (laws_FnGearsMeet.l0 k y0 y1 y2 y3 y4 y5 y6 y7 y8 y9 y10 y11 y12 y13) (laws_FnGearsMeet.l0 (k + 1) y0 y1 y2 y3 y4 y5 y6 y7 y8 y9 y10 y11 y12 y13))
 | 0 => ⟨fun _ _ _ _ _ _ _ _ _ _ r h => by simp [laws_FnGearsMeet.j0] at h, fun _ _ _ _ _ r h => by simp [laws_FnGearsMeet.j1] at h, fun _ r h => by simp [laws_FnGearsMeet.j2] at h, fun _ _ _ _ _ _ _ r h => by simp [laws_FnGearsMeet.j4] at h, fun _ _ _ _ r h => by simp [laws_FnGearsMeet.j5] at h, fun _ _ _ _ _ r h => by simp [laws_FnGearsMeet.l1] at h, fun _ _ _ r h => by simp [laws_FnGearsMeet.l2] at h, fun _ _ _ _ _ _ _ _ _ _ _ _ _ _ r h => by simp [laws_FnGearsMeet.l0] at h⟩
 | k + 1 => by
  obtain ⟨ih0, ih1, ih2, ih3, ih4, ih5, ih6, ih7⟩ := laws_FnGearsMeet.mono_l k
  refine ⟨?_, ?_, ?_, ?_, ?_, ?_, ?_, ?_⟩
  ·intro y0 y1 y2 y3 y4 y5 y6 y7 y8 y9
   unfold laws_FnGearsMeet.j0
   repeat' first
   | (with_reducible exact ih0 _ _ _ _ _ _ _ _ _ _)
   | (with_reducible exact ih1 _ _ _ _ _)
   | (with_reducible exact ih2 _)
   | (with_reducible exact ih3 _ _ _ _ _ _ _)
   | (with_reducible exact ih4 _ _ _ _)
   | (with_reducible exact ih5 _ _ _ _ _)
   | (with_reducible exact ih6 _ _ _)
   | (with_reducible exact ih7 _ _ _ _ _ _ _ _ _ _ _ _ _ _)
   | (with_reducible exact impl_AreInGear.mono _ _ _)
   | (with_reducible exact impl_FirstMeeting.mono _ _ _ _ _)
   | (with_reducible exact impl_LeastTurns.mono _ _)
   | (with_reducible exact impl_TrainPeriod.mono _ _)
   | (with_reducible exact impl_TrainTeeth.mono _ _ _)
   | (with_reducible exact impl_TrainTurns.mono _ _ _)
   | (with_reducible exact laws_uHas.mono _ _ _)
   | (with_reducible exact laws_uRises.mono _ _)
   | (with_reducible exact laws_uSame.mono _ _ _)
   | (with_reducible exact spec_AreInGear.mono _ _ _)
   | (with_reducible exact spec_DoMeet.mono _ _ _ _ _)
   | (with_reducible exact spec_DrawAreInGear.mono _ _)
   | (with_reducible exact spec_DrawFirstMeeting.mono _ _)
   | (with_reducible exact spec_DrawTrainPeriod.mono _ _)
   | (with_reducible exact spec_DrawTrainTeeth.mono _ _)
   | (with_reducible exact spec_DrawTrainTurns.mono _ _)
   | (with_reducible exact spec_FirstMeeting.mono _ _ _ _ _)
   | (with_reducible exact spec_LeastTurns.mono _ _)
   | (with_reducible exact spec_MeetingsOf.mono _ _ _ _)
   | (with_reducible exact spec_TrainPeriod.mono _ _)
   | (with_reducible exact spec_TrainTeeth.mono _ _ _)
   | (with_reducible exact spec_TrainTurns.mono _ _ _)
   | (with_reducible exact LeO.refl _)
   | (with_reducible exact LeO.none _)
   | (with_reducible refine LeO.ite ?_ ?_)
   | (with_reducible refine LeO.bind ?_ (fun _ => ?_))
   | exact ih0 _ _ _ _ _ _ _ _ _ _
   | exact ih1 _ _ _ _ _
   | exact ih2 _
   | exact ih3 _ _ _ _ _ _ _
   | exact ih4 _ _ _ _
   | exact ih5 _ _ _ _ _
   | exact ih6 _ _ _
   | exact ih7 _ _ _ _ _ _ _ _ _ _ _ _ _ _
   | exact impl_AreInGear.mono _ _ _
   | exact impl_FirstMeeting.mono _ _ _ _ _
   | exact impl_LeastTurns.mono _ _
   | exact impl_TrainPeriod.mono _ _
   | exact impl_TrainTeeth.mono _ _ _
   | exact impl_TrainTurns.mono _ _ _
   | exact laws_uHas.mono _ _ _
   | exact laws_uRises.mono _ _
   | exact laws_uSame.mono _ _ _
   | exact spec_AreInGear.mono _ _ _
   | exact spec_DoMeet.mono _ _ _ _ _
   | exact spec_DrawAreInGear.mono _ _
   | exact spec_DrawFirstMeeting.mono _ _
   | exact spec_DrawTrainPeriod.mono _ _
   | exact spec_DrawTrainTeeth.mono _ _
   | exact spec_DrawTrainTurns.mono _ _
   | exact spec_FirstMeeting.mono _ _ _ _ _
   | exact spec_LeastTurns.mono _ _
   | exact spec_MeetingsOf.mono _ _ _ _
   | exact spec_TrainPeriod.mono _ _
   | exact spec_TrainTeeth.mono _ _ _
   | exact spec_TrainTurns.mono _ _ _
   | exact LeO.none _
   | refine LeO.ite ?_ ?_
   | refine LeO.bind ?_ (fun _ => ?_)
  ·intro y0 y1 y2 y3 y4
   unfold laws_FnGearsMeet.j1
   repeat' first
   | (with_reducible exact ih0 _ _ _ _ _ _ _ _ _ _)
   | (with_reducible exact ih1 _ _ _ _ _)
   | (with_reducible exact ih2 _)
   | (with_reducible exact ih3 _ _ _ _ _ _ _)
   | (with_reducible exact ih4 _ _ _ _)
   | (with_reducible exact ih5 _ _ _ _ _)
   | (with_reducible exact ih6 _ _ _)
   | (with_reducible exact ih7 _ _ _ _ _ _ _ _ _ _ _ _ _ _)
   | (with_reducible exact impl_AreInGear.mono _ _ _)
   | (with_reducible exact impl_FirstMeeting.mono _ _ _ _ _)
   | (with_reducible exact impl_LeastTurns.mono _ _)
   | (with_reducible exact impl_TrainPeriod.mono _ _)
   | (with_reducible exact impl_TrainTeeth.mono _ _ _)
   | (with_reducible exact impl_TrainTurns.mono _ _ _)
   | (with_reducible exact laws_uHas.mono _ _ _)
   | (with_reducible exact laws_uRises.mono _ _)
   | (with_reducible exact laws_uSame.mono _ _ _)
   | (with_reducible exact spec_AreInGear.mono _ _ _)
   | (with_reducible exact spec_DoMeet.mono _ _ _ _ _)
   | (with_reducible exact spec_DrawAreInGear.mono _ _)
   | (with_reducible exact spec_DrawFirstMeeting.mono _ _)
   | (with_reducible exact spec_DrawTrainPeriod.mono _ _)
   | (with_reducible exact spec_DrawTrainTeeth.mono _ _)
   | (with_reducible exact spec_DrawTrainTurns.mono _ _)
   | (with_reducible exact spec_FirstMeeting.mono _ _ _ _ _)
   | (with_reducible exact spec_LeastTurns.mono _ _)
   | (with_reducible exact spec_MeetingsOf.mono _ _ _ _)
   | (with_reducible exact spec_TrainPeriod.mono _ _)
   | (with_reducible exact spec_TrainTeeth.mono _ _ _)
   | (with_reducible exact spec_TrainTurns.mono _ _ _)
   | (with_reducible exact LeO.refl _)
   | (with_reducible exact LeO.none _)
   | (with_reducible refine LeO.ite ?_ ?_)
   | (with_reducible refine LeO.bind ?_ (fun _ => ?_))
   | exact ih0 _ _ _ _ _ _ _ _ _ _
   | exact ih1 _ _ _ _ _
   | exact ih2 _
   | exact ih3 _ _ _ _ _ _ _
   | exact ih4 _ _ _ _
   | exact ih5 _ _ _ _ _
   | exact ih6 _ _ _
   | exact ih7 _ _ _ _ _ _ _ _ _ _ _ _ _ _
   | exact impl_AreInGear.mono _ _ _
   | exact impl_FirstMeeting.mono _ _ _ _ _
   | exact impl_LeastTurns.mono _ _
   | exact impl_TrainPeriod.mono _ _
   | exact impl_TrainTeeth.mono _ _ _
   | exact impl_TrainTurns.mono _ _ _
   | exact laws_uHas.mono _ _ _
   | exact laws_uRises.mono _ _
   | exact laws_uSame.mono _ _ _
   | exact spec_AreInGear.mono _ _ _
   | exact spec_DoMeet.mono _ _ _ _ _
   | exact spec_DrawAreInGear.mono _ _
   | exact spec_DrawFirstMeeting.mono _ _
   | exact spec_DrawTrainPeriod.mono _ _
   | exact spec_DrawTrainTeeth.mono _ _
   | exact spec_DrawTrainTurns.mono _ _
   | exact spec_FirstMeeting.mono _ _ _ _ _
   | exact spec_LeastTurns.mono _ _
   | exact spec_MeetingsOf.mono _ _ _ _
   | exact spec_TrainPeriod.mono _ _
   | exact spec_TrainTeeth.mono _ _ _
   | exact spec_TrainTurns.mono _ _ _
   | exact LeO.none _
   | refine LeO.ite ?_ ?_
   | refine LeO.bind ?_ (fun _ => ?_)
  ·intro y0
   unfold laws_FnGearsMeet.j2
   repeat' first
   | (with_reducible exact ih0 _ _ _ _ _ _ _ _ _ _)
   | (with_reducible exact ih1 _ _ _ _ _)
   | (with_reducible exact ih2 _)
   | (with_reducible exact ih3 _ _ _ _ _ _ _)
   | (with_reducible exact ih4 _ _ _ _)
   | (with_reducible exact ih5 _ _ _ _ _)
   | (with_reducible exact ih6 _ _ _)
   | (with_reducible exact ih7 _ _ _ _ _ _ _ _ _ _ _ _ _ _)
   | (with_reducible exact impl_AreInGear.mono _ _ _)
   | (with_reducible exact impl_FirstMeeting.mono _ _ _ _ _)
   | (with_reducible exact impl_LeastTurns.mono _ _)
   | (with_reducible exact impl_TrainPeriod.mono _ _)
   | (with_reducible exact impl_TrainTeeth.mono _ _ _)
   | (with_reducible exact impl_TrainTurns.mono _ _ _)
   | (with_reducible exact laws_uHas.mono _ _ _)
   | (with_reducible exact laws_uRises.mono _ _)
   | (with_reducible exact laws_uSame.mono _ _ _)
   | (with_reducible exact spec_AreInGear.mono _ _ _)
   | (with_reducible exact spec_DoMeet.mono _ _ _ _ _)
   | (with_reducible exact spec_DrawAreInGear.mono _ _)
   | (with_reducible exact spec_DrawFirstMeeting.mono _ _)
   | (with_reducible exact spec_DrawTrainPeriod.mono _ _)
   | (with_reducible exact spec_DrawTrainTeeth.mono _ _)
   | (with_reducible exact spec_DrawTrainTurns.mono _ _)
   | (with_reducible exact spec_FirstMeeting.mono _ _ _ _ _)
   | (with_reducible exact spec_LeastTurns.mono _ _)
   | (with_reducible exact spec_MeetingsOf.mono _ _ _ _)
   | (with_reducible exact spec_TrainPeriod.mono _ _)
   | (with_reducible exact spec_TrainTeeth.mono _ _ _)
   | (with_reducible exact spec_TrainTurns.mono _ _ _)
   | (with_reducible exact LeO.refl _)
   | (with_reducible exact LeO.none _)
   | (with_reducible refine LeO.ite ?_ ?_)
   | (with_reducible refine LeO.bind ?_ (fun _ => ?_))
   | exact ih0 _ _ _ _ _ _ _ _ _ _
   | exact ih1 _ _ _ _ _
   | exact ih2 _
   | exact ih3 _ _ _ _ _ _ _
   | exact ih4 _ _ _ _
   | exact ih5 _ _ _ _ _
   | exact ih6 _ _ _
   | exact ih7 _ _ _ _ _ _ _ _ _ _ _ _ _ _
   | exact impl_AreInGear.mono _ _ _
   | exact impl_FirstMeeting.mono _ _ _ _ _
   | exact impl_LeastTurns.mono _ _
   | exact impl_TrainPeriod.mono _ _
   | exact impl_TrainTeeth.mono _ _ _
   | exact impl_TrainTurns.mono _ _ _
   | exact laws_uHas.mono _ _ _
   | exact laws_uRises.mono _ _
   | exact laws_uSame.mono _ _ _
   | exact spec_AreInGear.mono _ _ _
   | exact spec_DoMeet.mono _ _ _ _ _
   | exact spec_DrawAreInGear.mono _ _
   | exact spec_DrawFirstMeeting.mono _ _
   | exact spec_DrawTrainPeriod.mono _ _
   | exact spec_DrawTrainTeeth.mono _ _
   | exact spec_DrawTrainTurns.mono _ _
   | exact spec_FirstMeeting.mono _ _ _ _ _
   | exact spec_LeastTurns.mono _ _
   | exact spec_MeetingsOf.mono _ _ _ _
   | exact spec_TrainPeriod.mono _ _
   | exact spec_TrainTeeth.mono _ _ _
   | exact spec_TrainTurns.mono _ _ _
   | exact LeO.none _
   | refine LeO.ite ?_ ?_
   | refine LeO.bind ?_ (fun _ => ?_)
  ·intro y0 y1 y2 y3 y4 y5 y6
   unfold laws_FnGearsMeet.j4
   repeat' first
   | (with_reducible exact ih0 _ _ _ _ _ _ _ _ _ _)
   | (with_reducible exact ih1 _ _ _ _ _)
   | (with_reducible exact ih2 _)
   | (with_reducible exact ih3 _ _ _ _ _ _ _)
   | (with_reducible exact ih4 _ _ _ _)
   | (with_reducible exact ih5 _ _ _ _ _)
   | (with_reducible exact ih6 _ _ _)
   | (with_reducible exact ih7 _ _ _ _ _ _ _ _ _ _ _ _ _ _)
   | (with_reducible exact impl_AreInGear.mono _ _ _)
   | (with_reducible exact impl_FirstMeeting.mono _ _ _ _ _)
   | (with_reducible exact impl_LeastTurns.mono _ _)
   | (with_reducible exact impl_TrainPeriod.mono _ _)
   | (with_reducible exact impl_TrainTeeth.mono _ _ _)
   | (with_reducible exact impl_TrainTurns.mono _ _ _)
   | (with_reducible exact laws_uHas.mono _ _ _)
   | (with_reducible exact laws_uRises.mono _ _)
   | (with_reducible exact laws_uSame.mono _ _ _)
   | (with_reducible exact spec_AreInGear.mono _ _ _)
   | (with_reducible exact spec_DoMeet.mono _ _ _ _ _)
   | (with_reducible exact spec_DrawAreInGear.mono _ _)
   | (with_reducible exact spec_DrawFirstMeeting.mono _ _)
   | (with_reducible exact spec_DrawTrainPeriod.mono _ _)
   | (with_reducible exact spec_DrawTrainTeeth.mono _ _)
   | (with_reducible exact spec_DrawTrainTurns.mono _ _)
   | (with_reducible exact spec_FirstMeeting.mono _ _ _ _ _)
   | (with_reducible exact spec_LeastTurns.mono _ _)
   | (with_reducible exact spec_MeetingsOf.mono _ _ _ _)
   | (with_reducible exact spec_TrainPeriod.mono _ _)
   | (with_reducible exact spec_TrainTeeth.mono _ _ _)
   | (with_reducible exact spec_TrainTurns.mono _ _ _)
   | (with_reducible exact LeO.refl _)
   | (with_reducible exact LeO.none _)
   | (with_reducible refine LeO.ite ?_ ?_)
   | (with_reducible refine LeO.bind ?_ (fun _ => ?_))
   | exact ih0 _ _ _ _ _ _ _ _ _ _
   | exact ih1 _ _ _ _ _
   | exact ih2 _
   | exact ih3 _ _ _ _ _ _ _
   | exact ih4 _ _ _ _
   | exact ih5 _ _ _ _ _
   | exact ih6 _ _ _
   | exact ih7 _ _ _ _ _ _ _ _ _ _ _ _ _ _
   | exact impl_AreInGear.mono _ _ _
   | exact impl_FirstMeeting.mono _ _ _ _ _
   | exact impl_LeastTurns.mono _ _
   | exact impl_TrainPeriod.mono _ _
   | exact impl_TrainTeeth.mono _ _ _
   | exact impl_TrainTurns.mono _ _ _
   | exact laws_uHas.mono _ _ _
   | exact laws_uRises.mono _ _
   | exact laws_uSame.mono _ _ _
   | exact spec_AreInGear.mono _ _ _
   | exact spec_DoMeet.mono _ _ _ _ _
   | exact spec_DrawAreInGear.mono _ _
   | exact spec_DrawFirstMeeting.mono _ _
   | exact spec_DrawTrainPeriod.mono _ _
   | exact spec_DrawTrainTeeth.mono _ _
   | exact spec_DrawTrainTurns.mono _ _
   | exact spec_FirstMeeting.mono _ _ _ _ _
   | exact spec_LeastTurns.mono _ _
   | exact spec_MeetingsOf.mono _ _ _ _
   | exact spec_TrainPeriod.mono _ _
   | exact spec_TrainTeeth.mono _ _ _
   | exact spec_TrainTurns.mono _ _ _
   | exact LeO.none _
   | refine LeO.ite ?_ ?_
   | refine LeO.bind ?_ (fun _ => ?_)
  ·intro y0 y1 y2 y3
   unfold laws_FnGearsMeet.j5
   repeat' first
   | (with_reducible exact ih0 _ _ _ _ _ _ _ _ _ _)
   | (with_reducible exact ih1 _ _ _ _ _)
   | (with_reducible exact ih2 _)
   | (with_reducible exact ih3 _ _ _ _ _ _ _)
   | (with_reducible exact ih4 _ _ _ _)
   | (with_reducible exact ih5 _ _ _ _ _)
   | (with_reducible exact ih6 _ _ _)
   | (with_reducible exact ih7 _ _ _ _ _ _ _ _ _ _ _ _ _ _)
   | (with_reducible exact impl_AreInGear.mono _ _ _)
   | (with_reducible exact impl_FirstMeeting.mono _ _ _ _ _)
   | (with_reducible exact impl_LeastTurns.mono _ _)
   | (with_reducible exact impl_TrainPeriod.mono _ _)
   | (with_reducible exact impl_TrainTeeth.mono _ _ _)
   | (with_reducible exact impl_TrainTurns.mono _ _ _)
   | (with_reducible exact laws_uHas.mono _ _ _)
   | (with_reducible exact laws_uRises.mono _ _)
   | (with_reducible exact laws_uSame.mono _ _ _)
   | (with_reducible exact spec_AreInGear.mono _ _ _)
   | (with_reducible exact spec_DoMeet.mono _ _ _ _ _)
   | (with_reducible exact spec_DrawAreInGear.mono _ _)
   | (with_reducible exact spec_DrawFirstMeeting.mono _ _)
   | (with_reducible exact spec_DrawTrainPeriod.mono _ _)
   | (with_reducible exact spec_DrawTrainTeeth.mono _ _)
   | (with_reducible exact spec_DrawTrainTurns.mono _ _)
   | (with_reducible exact spec_FirstMeeting.mono _ _ _ _ _)
   | (with_reducible exact spec_LeastTurns.mono _ _)
   | (with_reducible exact spec_MeetingsOf.mono _ _ _ _)
   | (with_reducible exact spec_TrainPeriod.mono _ _)
   | (with_reducible exact spec_TrainTeeth.mono _ _ _)
   | (with_reducible exact spec_TrainTurns.mono _ _ _)
   | (with_reducible exact LeO.refl _)
   | (with_reducible exact LeO.none _)
   | (with_reducible refine LeO.ite ?_ ?_)
   | (with_reducible refine LeO.bind ?_ (fun _ => ?_))
   | exact ih0 _ _ _ _ _ _ _ _ _ _
   | exact ih1 _ _ _ _ _
   | exact ih2 _
   | exact ih3 _ _ _ _ _ _ _
   | exact ih4 _ _ _ _
   | exact ih5 _ _ _ _ _
   | exact ih6 _ _ _
   | exact ih7 _ _ _ _ _ _ _ _ _ _ _ _ _ _
   | exact impl_AreInGear.mono _ _ _
   | exact impl_FirstMeeting.mono _ _ _ _ _
   | exact impl_LeastTurns.mono _ _
   | exact impl_TrainPeriod.mono _ _
   | exact impl_TrainTeeth.mono _ _ _
   | exact impl_TrainTurns.mono _ _ _
   | exact laws_uHas.mono _ _ _
   | exact laws_uRises.mono _ _
   | exact laws_uSame.mono _ _ _
   | exact spec_AreInGear.mono _ _ _
   | exact spec_DoMeet.mono _ _ _ _ _
   | exact spec_DrawAreInGear.mono _ _
   | exact spec_DrawFirstMeeting.mono _ _
   | exact spec_DrawTrainPeriod.mono _ _
   | exact spec_DrawTrainTeeth.mono _ _
   | exact spec_DrawTrainTurns.mono _ _
   | exact spec_FirstMeeting.mono _ _ _ _ _
   | exact spec_LeastTurns.mono _ _
   | exact spec_MeetingsOf.mono _ _ _ _
   | exact spec_TrainPeriod.mono _ _
   | exact spec_TrainTeeth.mono _ _ _
   | exact spec_TrainTurns.mono _ _ _
   | exact LeO.none _
   | refine LeO.ite ?_ ?_
   | refine LeO.bind ?_ (fun _ => ?_)
  ·intro y0 y1 y2 y3 y4
   unfold laws_FnGearsMeet.l1
   repeat' first
   | (with_reducible exact ih0 _ _ _ _ _ _ _ _ _ _)
   | (with_reducible exact ih1 _ _ _ _ _)
   | (with_reducible exact ih2 _)
   | (with_reducible exact ih3 _ _ _ _ _ _ _)
   | (with_reducible exact ih4 _ _ _ _)
   | (with_reducible exact ih5 _ _ _ _ _)
   | (with_reducible exact ih6 _ _ _)
   | (with_reducible exact ih7 _ _ _ _ _ _ _ _ _ _ _ _ _ _)
   | (with_reducible exact impl_AreInGear.mono _ _ _)
   | (with_reducible exact impl_FirstMeeting.mono _ _ _ _ _)
   | (with_reducible exact impl_LeastTurns.mono _ _)
   | (with_reducible exact impl_TrainPeriod.mono _ _)
   | (with_reducible exact impl_TrainTeeth.mono _ _ _)
   | (with_reducible exact impl_TrainTurns.mono _ _ _)
   | (with_reducible exact laws_uHas.mono _ _ _)
   | (with_reducible exact laws_uRises.mono _ _)
   | (with_reducible exact laws_uSame.mono _ _ _)
   | (with_reducible exact spec_AreInGear.mono _ _ _)
   | (with_reducible exact spec_DoMeet.mono _ _ _ _ _)
   | (with_reducible exact spec_DrawAreInGear.mono _ _)
   | (with_reducible exact spec_DrawFirstMeeting.mono _ _)
   | (with_reducible exact spec_DrawTrainPeriod.mono _ _)
   | (with_reducible exact spec_DrawTrainTeeth.mono _ _)
   | (with_reducible exact spec_DrawTrainTurns.mono _ _)
   | (with_reducible exact spec_FirstMeeting.mono _ _ _ _ _)
   | (with_reducible exact spec_LeastTurns.mono _ _)
   | (with_reducible exact spec_MeetingsOf.mono _ _ _ _)
   | (with_reducible exact spec_TrainPeriod.mono _ _)
   | (with_reducible exact spec_TrainTeeth.mono _ _ _)
   | (with_reducible exact spec_TrainTurns.mono _ _ _)
   | (with_reducible exact LeO.refl _)
   | (with_reducible exact LeO.none _)
   | (with_reducible refine LeO.ite ?_ ?_)
   | (with_reducible refine LeO.bind ?_ (fun _ => ?_))
   | exact ih0 _ _ _ _ _ _ _ _ _ _
   | exact ih1 _ _ _ _ _
   | exact ih2 _
   | exact ih3 _ _ _ _ _ _ _
   | exact ih4 _ _ _ _
   | exact ih5 _ _ _ _ _
   | exact ih6 _ _ _
   | exact ih7 _ _ _ _ _ _ _ _ _ _ _ _ _ _
   | exact impl_AreInGear.mono _ _ _
   | exact impl_FirstMeeting.mono _ _ _ _ _
   | exact impl_LeastTurns.mono _ _
   | exact impl_TrainPeriod.mono _ _
   | exact impl_TrainTeeth.mono _ _ _
   | exact impl_TrainTurns.mono _ _ _
   | exact laws_uHas.mono _ _ _
   | exact laws_uRises.mono _ _
   | exact laws_uSame.mono _ _ _
   | exact spec_AreInGear.mono _ _ _
   | exact spec_DoMeet.mono _ _ _ _ _
   | exact spec_DrawAreInGear.mono _ _
   | exact spec_DrawFirstMeeting.mono _ _
   | exact spec_DrawTrainPeriod.mono _ _
   | exact spec_DrawTrainTeeth.mono _ _
   | exact spec_DrawTrainTurns.mono _ _
   | exact spec_FirstMeeting.mono _ _ _ _ _
   | exact spec_LeastTurns.mono _ _
   | exact spec_MeetingsOf.mono _ _ _ _
   | exact spec_TrainPeriod.mono _ _
   | exact spec_TrainTeeth.mono _ _ _
   | exact spec_TrainTurns.mono _ _ _
   | exact LeO.none _
   | refine LeO.ite ?_ ?_
   | refine LeO.bind ?_ (fun _ => ?_)
  ·intro y0 y1 y2
   unfold laws_FnGearsMeet.l2
   repeat' first
   | (with_reducible exact ih0 _ _ _ _ _ _ _ _ _ _)
   | (with_reducible exact ih1 _ _ _ _ _)
   | (with_reducible exact ih2 _)
   | (with_reducible exact ih3 _ _ _ _ _ _ _)
   | (with_reducible exact ih4 _ _ _ _)
   | (with_reducible exact ih5 _ _ _ _ _)
   | (with_reducible exact ih6 _ _ _)
   | (with_reducible exact ih7 _ _ _ _ _ _ _ _ _ _ _ _ _ _)
   | (with_reducible exact impl_AreInGear.mono _ _ _)
   | (with_reducible exact impl_FirstMeeting.mono _ _ _ _ _)
   | (with_reducible exact impl_LeastTurns.mono _ _)
   | (with_reducible exact impl_TrainPeriod.mono _ _)
   | (with_reducible exact impl_TrainTeeth.mono _ _ _)
   | (with_reducible exact impl_TrainTurns.mono _ _ _)
   | (with_reducible exact laws_uHas.mono _ _ _)
   | (with_reducible exact laws_uRises.mono _ _)
   | (with_reducible exact laws_uSame.mono _ _ _)
   | (with_reducible exact spec_AreInGear.mono _ _ _)
   | (with_reducible exact spec_DoMeet.mono _ _ _ _ _)
   | (with_reducible exact spec_DrawAreInGear.mono _ _)
   | (with_reducible exact spec_DrawFirstMeeting.mono _ _)
   | (with_reducible exact spec_DrawTrainPeriod.mono _ _)
   | (with_reducible exact spec_DrawTrainTeeth.mono _ _)
   | (with_reducible exact spec_DrawTrainTurns.mono _ _)
   | (with_reducible exact spec_FirstMeeting.mono _ _ _ _ _)
   | (with_reducible exact spec_LeastTurns.mono _ _)
   | (with_reducible exact spec_MeetingsOf.mono _ _ _ _)
   | (with_reducible exact spec_TrainPeriod.mono _ _)
   | (with_reducible exact spec_TrainTeeth.mono _ _ _)
   | (with_reducible exact spec_TrainTurns.mono _ _ _)
   | (with_reducible exact LeO.refl _)
   | (with_reducible exact LeO.none _)
   | (with_reducible refine LeO.ite ?_ ?_)
   | (with_reducible refine LeO.bind ?_ (fun _ => ?_))
   | exact ih0 _ _ _ _ _ _ _ _ _ _
   | exact ih1 _ _ _ _ _
   | exact ih2 _
   | exact ih3 _ _ _ _ _ _ _
   | exact ih4 _ _ _ _
   | exact ih5 _ _ _ _ _
   | exact ih6 _ _ _
   | exact ih7 _ _ _ _ _ _ _ _ _ _ _ _ _ _
   | exact impl_AreInGear.mono _ _ _
   | exact impl_FirstMeeting.mono _ _ _ _ _
   | exact impl_LeastTurns.mono _ _
   | exact impl_TrainPeriod.mono _ _
   | exact impl_TrainTeeth.mono _ _ _
   | exact impl_TrainTurns.mono _ _ _
   | exact laws_uHas.mono _ _ _
   | exact laws_uRises.mono _ _
   | exact laws_uSame.mono _ _ _
   | exact spec_AreInGear.mono _ _ _
   | exact spec_DoMeet.mono _ _ _ _ _
   | exact spec_DrawAreInGear.mono _ _
   | exact spec_DrawFirstMeeting.mono _ _
   | exact spec_DrawTrainPeriod.mono _ _
   | exact spec_DrawTrainTeeth.mono _ _
   | exact spec_DrawTrainTurns.mono _ _
   | exact spec_FirstMeeting.mono _ _ _ _ _
   | exact spec_LeastTurns.mono _ _
   | exact spec_MeetingsOf.mono _ _ _ _
   | exact spec_TrainPeriod.mono _ _
   | exact spec_TrainTeeth.mono _ _ _
   | exact spec_TrainTurns.mono _ _ _
   | exact LeO.none _
   | refine LeO.ite ?_ ?_
   | refine LeO.bind ?_ (fun _ => ?_)
  ·intro y0 y1 y2 y3 y4 y5 y6 y7 y8 y9 y10 y11 y12 y13
   unfold laws_FnGearsMeet.l0
   repeat' first
   | (with_reducible exact ih0 _ _ _ _ _ _ _ _ _ _)
   | (with_reducible exact ih1 _ _ _ _ _)
   | (with_reducible exact ih2 _)
   | (with_reducible exact ih3 _ _ _ _ _ _ _)
   | (with_reducible exact ih4 _ _ _ _)
   | (with_reducible exact ih5 _ _ _ _ _)
   | (with_reducible exact ih6 _ _ _)
   | (with_reducible exact ih7 _ _ _ _ _ _ _ _ _ _ _ _ _ _)
   | (with_reducible exact impl_AreInGear.mono _ _ _)
   | (with_reducible exact impl_FirstMeeting.mono _ _ _ _ _)
   | (with_reducible exact impl_LeastTurns.mono _ _)
   | (with_reducible exact impl_TrainPeriod.mono _ _)
   | (with_reducible exact impl_TrainTeeth.mono _ _ _)
   | (with_reducible exact impl_TrainTurns.mono _ _ _)
   | (with_reducible exact laws_uHas.mono _ _ _)
   | (with_reducible exact laws_uRises.mono _ _)
   | (with_reducible exact laws_uSame.mono _ _ _)
   | (with_reducible exact spec_AreInGear.mono _ _ _)
   | (with_reducible exact spec_DoMeet.mono _ _ _ _ _)
   | (with_reducible exact spec_DrawAreInGear.mono _ _)
   | (with_reducible exact spec_DrawFirstMeeting.mono _ _)
   | (with_reducible exact spec_DrawTrainPeriod.mono _ _)
   | (with_reducible exact spec_DrawTrainTeeth.mono _ _)
   | (with_reducible exact spec_DrawTrainTurns.mono _ _)
   | (with_reducible exact spec_FirstMeeting.mono _ _ _ _ _)
   | (with_reducible exact spec_LeastTurns.mono _ _)
   | (with_reducible exact spec_MeetingsOf.mono _ _ _ _)
   | (with_reducible exact spec_TrainPeriod.mono _ _)
   | (with_reducible exact spec_TrainTeeth.mono _ _ _)
   | (with_reducible exact spec_TrainTurns.mono _ _ _)
   | (with_reducible exact LeO.refl _)
   | (with_reducible exact LeO.none _)
   | (with_reducible refine LeO.ite ?_ ?_)
   | (with_reducible refine LeO.bind ?_ (fun _ => ?_))
   | exact ih0 _ _ _ _ _ _ _ _ _ _
   | exact ih1 _ _ _ _ _
   | exact ih2 _
   | exact ih3 _ _ _ _ _ _ _
   | exact ih4 _ _ _ _
   | exact ih5 _ _ _ _ _
   | exact ih6 _ _ _
   | exact ih7 _ _ _ _ _ _ _ _ _ _ _ _ _ _
   | exact impl_AreInGear.mono _ _ _
   | exact impl_FirstMeeting.mono _ _ _ _ _
   | exact impl_LeastTurns.mono _ _
   | exact impl_TrainPeriod.mono _ _
   | exact impl_TrainTeeth.mono _ _ _
   | exact impl_TrainTurns.mono _ _ _
   | exact laws_uHas.mono _ _ _
   | exact laws_uRises.mono _ _
   | exact laws_uSame.mono _ _ _
   | exact spec_AreInGear.mono _ _ _
   | exact spec_DoMeet.mono _ _ _ _ _
   | exact spec_DrawAreInGear.mono _ _
   | exact spec_DrawFirstMeeting.mono _ _
   | exact spec_DrawTrainPeriod.mono _ _
   | exact spec_DrawTrainTeeth.mono _ _
   | exact spec_DrawTrainTurns.mono _ _
   | exact spec_FirstMeeting.mono _ _ _ _ _
   | exact spec_LeastTurns.mono _ _
   | exact spec_MeetingsOf.mono _ _ _ _
   | exact spec_TrainPeriod.mono _ _
   | exact spec_TrainTeeth.mono _ _ _
   | exact spec_TrainTurns.mono _ _ _
   | exact LeO.none _
   | refine LeO.ite ?_ ?_
   | refine LeO.bind ?_ (fun _ => ?_)
theorem laws_FnGearsMeet.mono : ∀ a0 a1 k, LeO (laws_FnGearsMeet.f k a0 a1) (laws_FnGearsMeet.f (k + 1) a0 a1) := by
 intro a0 a1 k
 obtain ⟨ih0, ih1, ih2, ih3, ih4, ih5, ih6, ih7⟩ := laws_FnGearsMeet.mono_l k
 unfold laws_FnGearsMeet.f
 repeat' first
   | (with_reducible exact ih0 _ _ _ _ _ _ _ _ _ _)
   | (with_reducible exact ih1 _ _ _ _ _)
   | (with_reducible exact ih2 _)
   | (with_reducible exact ih3 _ _ _ _ _ _ _)
   | (with_reducible exact ih4 _ _ _ _)
   | (with_reducible exact ih5 _ _ _ _ _)
   | (with_reducible exact ih6 _ _ _)
   | (with_reducible exact ih7 _ _ _ _ _ _ _ _ _ _ _ _ _ _)
   | (with_reducible exact impl_AreInGear.mono _ _ _)
   | (with_reducible exact impl_FirstMeeting.mono _ _ _ _ _)
   | (with_reducible exact impl_LeastTurns.mono _ _)
   | (with_reducible exact impl_TrainPeriod.mono _ _)
   | (with_reducible exact impl_TrainTeeth.mono _ _ _)
   | (with_reducible exact impl_TrainTurns.mono _ _ _)
   | (with_reducible exact laws_uHas.mono _ _ _)
   | (with_reducible exact laws_uRises.mono _ _)
   | (with_reducible exact laws_uSame.mono _ _ _)
   | (with_reducible exact spec_AreInGear.mono _ _ _)
   | (with_reducible exact spec_DoMeet.mono _ _ _ _ _)
   | (with_reducible exact spec_DrawAreInGear.mono _ _)
   | (with_reducible exact spec_DrawFirstMeeting.mono _ _)
   | (with_reducible exact spec_DrawTrainPeriod.mono _ _)
   | (with_reducible exact spec_DrawTrainTeeth.mono _ _)
   | (with_reducible exact spec_DrawTrainTurns.mono _ _)
   | (with_reducible exact spec_FirstMeeting.mono _ _ _ _ _)
   | (with_reducible exact spec_LeastTurns.mono _ _)
   | (with_reducible exact spec_MeetingsOf.mono _ _ _ _)
   | (with_reducible exact spec_TrainPeriod.mono _ _)
   | (with_reducible exact spec_TrainTeeth.mono _ _ _)
   | (with_reducible exact spec_TrainTurns.mono _ _ _)
   | (with_reducible exact LeO.refl _)
   | (with_reducible exact LeO.none _)
   | (with_reducible refine LeO.ite ?_ ?_)
   | (with_reducible refine LeO.bind ?_ (fun _ => ?_))
   | exact ih0 _ _ _ _ _ _ _ _ _ _
   | exact ih1 _ _ _ _ _
   | exact ih2 _
   | exact ih3 _ _ _ _ _ _ _
   | exact ih4 _ _ _ _
   | exact ih5 _ _ _ _ _
   | exact ih6 _ _ _
   | exact ih7 _ _ _ _ _ _ _ _ _ _ _ _ _ _
   | exact impl_AreInGear.mono _ _ _
   | exact impl_FirstMeeting.mono _ _ _ _ _
   | exact impl_LeastTurns.mono _ _
   | exact impl_TrainPeriod.mono _ _
   | exact impl_TrainTeeth.mono _ _ _
   | exact impl_TrainTurns.mono _ _ _
   | exact laws_uHas.mono _ _ _
   | exact laws_uRises.mono _ _
   | exact laws_uSame.mono _ _ _
   | exact spec_AreInGear.mono _ _ _
   | exact spec_DoMeet.mono _ _ _ _ _
   | exact spec_DrawAreInGear.mono _ _
   | exact spec_DrawFirstMeeting.mono _ _
   | exact spec_DrawTrainPeriod.mono _ _
   | exact spec_DrawTrainTeeth.mono _ _
   | exact spec_DrawTrainTurns.mono _ _
   | exact spec_FirstMeeting.mono _ _ _ _ _
   | exact spec_LeastTurns.mono _ _
   | exact spec_MeetingsOf.mono _ _ _ _
   | exact spec_TrainPeriod.mono _ _
   | exact spec_TrainTeeth.mono _ _ _
   | exact spec_TrainTurns.mono _ _ _
   | exact LeO.none _
   | refine LeO.ite ?_ ?_
   | refine LeO.bind ?_ (fun _ => ?_)
set_option maxHeartbeats 8000000 in
set_option maxRecDepth 100000 in
theorem laws_FnGearsMeet.calls (k : Nat) (A0 : Option Addr) (c0 : Nat) (l0 : List Int) (A1 : Option Addr) (c1 : Nat) (l1 : List Int) (r : Bool) (w : World) (hr0 : Kd.C (Kd.int .u8) w A0 l0.length l0) (hc0 : l0.length ≤ c0) (hr1 : Kd.C (Kd.int .u8) w A1 l1.length l1) (hc1 : l1.length ≤ c1) (h : laws_FnGearsMeet.f k l0 l1 = some r) :
  Calls Try.prog 3 #[.slice A0 l0.length c0, .slice A1 l1.length c1] w fun e w' => e = .returned (.bool r) ∧ Below w.heap.size w w' := by
 have HR0 := Aside0.mk hr0
 have HC0 := Aside0.mk hc0
 clear hr0 hc0
 have HR1 := Aside0.mk hr1
 have HC1 := Aside0.mk hc1
 clear hr1 hc1
 have HB := Aside0.mk (Below.refl w.heap.size w)
 have H : ((laws_big.f l0 l1).bind fun t422 => (if t422 = true then (some true) else ((spec_DrawFirstMeeting.f k l0).bind fun bt423 => ((impl_FirstMeeting.f k bt423.1 bt423.2.1 bt423.2.2.1 bt423.2.2.2).bind fun bt427 => ((spec_FirstMeeting.f k bt423.1 bt423.2.1 bt423.2.2.1 bt423.2.2.2).bind fun bt429 => ((impl_DoMeet.f bt423.1 bt423.2.1 bt423.2.2.1 bt423.2.2.2).bind fun bt431 => ((spec_DoMeet.f k bt423.1 bt423.2.1 bt423.2.2.1 bt423.2.2.2).bind fun bt433 => ((impl_MeetingsOf.f bt423.1 bt423.2.1 bt423.2.2.1).bind fun bt435 => ((spec_MeetingsOf.f k bt423.1 bt423.2.1 bt423.2.2.1).bind fun bt439 => (if (bt427.2 != bt429.2) = true then (none) else (if bt427.1 = bt429.1 then (if (bt431.2 != bt433.2) = true then (none) else (if (bt431.1 != bt433.1) = true then (none) else (if (bt435.2 != bt439.2) = true then (none) else ((laws_uSame.f k bt435.1 bt439.1).bind fun t443 => (if t443 = true then (if bt431.2 = true then (if (bt427.2 != bt431.1) = true then (none) else (if bt435.2 = true then ((laws_uHas.f k bt435.1 bt423.2.2.2).bind fun t444 => (laws_FnGearsMeet.j0 k l1 bt423.1 bt423.2.1 bt423.2.2.1 bt423.2.2.2 bt427.1 bt427.2 bt431.2 bt435.1 (bt431.1 != t444))) else (none))) else (if (bt427.2 != false) = true then (none) else (laws_FnGearsMeet.j0 k l1 bt423.1 bt423.2.1 bt423.2.2.1 bt423.2.2.2 bt427.1 bt427.2 bt431.2 bt435.1 false))) else (none)))))) else (none)))))))))))) = some r := h
 clear h
 replace H := Option.bind_eq_some_iff.mp H
 obtain ⟨t422, A30, H⟩ := H
 (try dsimp only at H)
 have A3 := Aside0.mk A30
 clear A30
 by_cases c4 : t422 = true
 ·as_aux_lemma =>
  subst c4
  rw [if_pos rfl] at H
  obtain rfl := Option.some.inj H
  go_enter Try.func3, Try.ntmps3
  go_wp2_with (first | (go_at_call 4; (with_reducible refine (laws_big.calls _ _ l0 _ _ l1 true _ ?side1 ?side2 ?side3 ?side4 A3.out).mono ?_); (case side1 => repeat (first | exact HR0.out | (with_reducible refine Kd.C_alloc ?_ _) | (with_reducible refine Kd.C_drewN ?_ _) | (with_reducible refine Kd.C_drew ?_))); (case side2 => exact HC0.out); (case side3 => repeat (first | exact HR1.out | (with_reducible refine Kd.C_alloc ?_ _) | (with_reducible refine Kd.C_drewN ?_ _) | (with_reducible refine Kd.C_drew ?_))); (case side4 => exact HC1.out); rintro e w' ⟨rfl, ⟨nd, rfl⟩⟩; (try first | exact ⟨rfl, _, World.drewN_drewN _ _ _⟩ | exact ⟨rfl, _, Eq.trans (World.drewN_drewN _ _ _) (congrArg (World.drewN _) (Nat.add_assoc _ _ _))⟩)))
  repeat (go_quiet (first | (go_at_call 4; (with_reducible refine (laws_big.calls _ _ l0 _ _ l1 true _ ?side1 ?side2 ?side3 ?side4 A3.out).mono ?_); (case side1 => repeat (first | exact HR0.out | (with_reducible refine Kd.C_alloc ?_ _) | (with_reducible refine Kd.C_drewN ?_ _) | (with_reducible refine Kd.C_drew ?_))); (case side2 => exact HC0.out); (case side3 => repeat (first | exact HR1.out | (with_reducible refine Kd.C_alloc ?_ _) | (with_reducible refine Kd.C_drewN ?_ _) | (with_reducible refine Kd.C_drew ?_))); (case side4 => exact HC1.out); rintro e w' ⟨rfl, ⟨nd, rfl⟩⟩; (try first | exact ⟨rfl, _, World.drewN_drewN _ _ _⟩ | exact ⟨rfl, _, Eq.trans (World.drewN_drewN _ _ _) (congrArg (World.drewN _) (Nat.add_assoc _ _ _))⟩))); try go_wp2_with (first | (go_at_call 4; (with_reducible refine (laws_big.calls _ _ l0 _ _ l1 true _ ?side1 ?side2 ?side3 ?side4 A3.out).mono ?_); (case side1 => repeat (first | exact HR0.out | (with_reducible refine Kd.C_alloc ?_ _) | (with_reducible refine Kd.C_drewN ?_ _) | (with_reducible refine Kd.C_drew ?_))); (case side2 => exact HC0.out); (case side3 => repeat (first | exact HR1.out | (with_reducible refine Kd.C_alloc ?_ _) | (with_reducible refine Kd.C_drewN ?_ _) | (with_reducible refine Kd.C_drew ?_))); (case side4 => exact HC1.out); rintro e w' ⟨rfl, ⟨nd, rfl⟩⟩; (try first | exact ⟨rfl, _, World.drewN_drewN _ _ _⟩ | exact ⟨rfl, _, Eq.trans (World.drewN_drewN _ _ _) (congrArg (World.drewN _) (Nat.add_assoc _ _ _))⟩))))
  go_ret
  exact ⟨by first | rfl | (simp [errW_none, errW_some] <;> rfl) | (simp [*, errW_none, errW_some] <;> rfl), by repeat (first | (with_reducible first | apply below_alloc | apply pw_below_drewN | apply below_drew1) | exact HB.out)⟩
 ·as_aux_lemma =>
  replace c4 := Bool.eq_false_iff.mpr c4
  subst c4
  rw [if_neg (show ¬ (false = true) by decide)] at H
  replace H := Option.bind_eq_some_iff.mp H
  obtain ⟨⟨t423, t424, t425, t426⟩, A50, H⟩ := H
  (try dsimp only at H)
  have A5 := Aside0.mk A50
  clear A50
  replace H := Option.bind_eq_some_iff.mp H
  obtain ⟨⟨t427, t428⟩, A60, H⟩ := H
  (try dsimp only at H)
  have A6 := Aside0.mk A60
  clear A60
  replace H := Option.bind_eq_some_iff.mp H
  obtain ⟨⟨t429, t430⟩, A70, H⟩ := H
  (try dsimp only at H)
  have A7 := Aside0.mk A70
  clear A70
  replace H := Option.bind_eq_some_iff.mp H
  obtain ⟨⟨t431, t432⟩, A80, H⟩ := H
  (try dsimp only at H)
  have A8 := Aside0.mk A80
  clear A80
  replace H := Option.bind_eq_some_iff.mp H
  obtain ⟨⟨t433, t434⟩, A90, H⟩ := H
  (try dsimp only at H)
  have A9 := Aside0.mk A90
  clear A90
  replace H := Option.bind_eq_some_iff.mp H
  obtain ⟨⟨t435, t436⟩, A100, H⟩ := H
  (try dsimp only at H)
  have A10 := Aside0.mk A100
  clear A100
  replace H := Option.bind_eq_some_iff.mp H
  obtain ⟨⟨t439, t440⟩, A110, H⟩ := H
  (try dsimp only at H)
  have A11 := Aside0.mk A110
  clear A110
  have HC12 := Aside0.mk H
  clear H
  go_enter Try.func3, Try.ntmps3
  go_upto_region 10 with (first | (go_at_call 4; (with_reducible refine (laws_big.calls _ _ l0 _ _ l1 false _ ?side1 ?side2 ?side3 ?side4 A3.out).mono ?_); (case side1 => repeat (first | exact HR0.out | (with_reducible refine Kd.C_alloc ?_ _) | (with_reducible refine Kd.C_drewN ?_ _) | (with_reducible refine Kd.C_drew ?_))); (case side2 => exact HC0.out); (case side3 => repeat (first | exact HR1.out | (with_reducible refine Kd.C_alloc ?_ _) | (with_reducible refine Kd.C_drewN ?_ _) | (with_reducible refine Kd.C_drew ?_))); (case side4 => exact HC1.out); rintro e w' ⟨rfl, ⟨nd, rfl⟩⟩; (try first | exact ⟨rfl, _, World.drewN_drewN _ _ _⟩ | exact ⟨rfl, _, Eq.trans (World.drewN_drewN _ _ _) (congrArg (World.drewN _) (Nat.add_assoc _ _ _))⟩)) | (go_at_call 5; (with_reducible refine (spec_DrawFirstMeeting.calls k _ _ l0 t423 t424 t425 t426 _ ?side1 ?side2 A5.out).mono ?_); (case side1 => repeat (first | exact HR0.out | (with_reducible refine Kd.C_alloc ?_ _) | (with_reducible refine Kd.C_drewN ?_ _) | (with_reducible refine Kd.C_drew ?_))); (case side2 => exact HC0.out); rintro e w13 ⟨rfl, hb⟩; have n0_ := Aside0.mk (below_step (by repeat (first | (with_reducible first | apply below_alloc | apply pw_below_drewN | apply below_drew1) | exact HB.out)) hb); clear HB; have HB := n0_; clear n0_; (try clear hb); (try clear hb2); (try clear hk); (try clear hi)) | (go_at_call 6; (with_reducible refine (impl_FirstMeeting.calls k t423 t424 t425 t426 t427 t428 _ A6.out).mono ?_); rintro e w14 ⟨rfl, hb⟩; have n0_ := Aside0.mk (below_step (by repeat (first | (with_reducible first | apply below_alloc | apply pw_below_drewN | apply below_drew1) | exact HB.out)) hb); clear HB; have HB := n0_; clear n0_; (try clear hb); (try clear hb2); (try clear hk); (try clear hi)) | (go_at_call 7; (with_reducible refine (spec_FirstMeeting.calls k t423 t424 t425 t426 t429 t430 _ A7.out).mono ?_); rintro e w' ⟨rfl, ⟨nd, rfl⟩⟩; (try first | exact ⟨rfl, _, World.drewN_drewN _ _ _⟩ | exact ⟨rfl, _, Eq.trans (World.drewN_drewN _ _ _) (congrArg (World.drewN _) (Nat.add_assoc _ _ _))⟩)) | (go_at_call 8; (with_reducible refine (impl_DoMeet.calls t423 t424 t425 t426 t431 t432 _ A8.out).mono ?_); rintro e w15 ⟨rfl, hb⟩; have n0_ := Aside0.mk (below_step (by repeat (first | (with_reducible first | apply below_alloc | apply pw_below_drewN | apply below_drew1) | exact HB.out)) hb); clear HB; have HB := n0_; clear n0_; (try clear hb); (try clear hb2); (try clear hk); (try clear hi)) | (go_at_call 9; (with_reducible refine (spec_DoMeet.calls k t423 t424 t425 t426 t433 t434 _ A9.out).mono ?_); rintro e w' ⟨rfl, ⟨nd, rfl⟩⟩; (try first | exact ⟨rfl, _, World.drewN_drewN _ _ _⟩ | exact ⟨rfl, _, Eq.trans (World.drewN_drewN _ _ _) (congrArg (World.drewN _) (Nat.add_assoc _ _ _))⟩)) | (go_at_call 10; (with_reducible refine (impl_MeetingsOf.calls t423 t424 t425 t435 t436 _ A10.out).mono ?_); rintro e w16 ⟨v437, rfl, ho0, hb⟩; have n0_ := Aside0.mk (Kd.R_lower ho0 (below_size (by repeat (first | (with_reducible first | apply below_alloc | apply pw_below_drewN | apply below_drew1) | exact HB.out)))); have n1_ := Aside0.mk (below_step (by repeat (first | (with_reducible first | apply below_alloc | apply pw_below_drewN | apply below_drew1) | exact HB.out)) hb); clear HB; have HO438 := n0_; have HB := n1_; clear n0_ n1_; (try clear hb); (try clear hb2); (try clear hk); (try clear hi); (try clear ho0)) | (go_at_call 11; (with_reducible refine (spec_MeetingsOf.calls k t423 t424 t425 t439 t440 _ A11.out).mono ?_); rintro e w17 ⟨v441, rfl, ho0, hb⟩; have n0_ := Aside0.mk (Kd.R_elder' (by (with_reducible repeat (first | apply Kd.R_alloc | apply Kd.R_drewN | apply Kd.R_drew)); exact HO438.out) (Kd.R_base ho0) hb); have n1_ := Aside0.mk (Kd.R_lower (Kd.R_new' ho0 (Kd.R_lt (by (with_reducible repeat (first | apply Kd.R_alloc | apply Kd.R_drewN | apply Kd.R_drew)); exact HO438.out))) (below_size (by repeat (first | (with_reducible first | apply below_alloc | apply pw_below_drewN | apply below_drew1) | exact HB.out)))); have n2_ := Aside0.mk (below_step (by repeat (first | (with_reducible first | apply below_alloc | apply pw_below_drewN | apply below_drew1) | exact HB.out)) hb); clear HO438; clear HB; have HO438 := n0_; have HO442 := n1_; have HB := n2_; clear n0_ n1_ n2_; (try clear hb); (try clear hb2); (try clear hk); (try clear hi); (try clear ho0)))
  repeat (go_quiet (first | (go_at_call 4; (with_reducible refine (laws_big.calls _ _ l0 _ _ l1 false _ ?side1 ?side2 ?side3 ?side4 A3.out).mono ?_); (case side1 => repeat (first | exact HR0.out | (with_reducible refine Kd.C_alloc ?_ _) | (with_reducible refine Kd.C_drewN ?_ _) | (with_reducible refine Kd.C_drew ?_))); (case side2 => exact HC0.out); (case side3 => repeat (first | exact HR1.out | (with_reducible refine Kd.C_alloc ?_ _) | (with_reducible refine Kd.C_drewN ?_ _) | (with_reducible refine Kd.C_drew ?_))); (case side4 => exact HC1.out); rintro e w' ⟨rfl, ⟨nd, rfl⟩⟩; (try first | exact ⟨rfl, _, World.drewN_drewN _ _ _⟩ | exact ⟨rfl, _, Eq.trans (World.drewN_drewN _ _ _) (congrArg (World.drewN _) (Nat.add_assoc _ _ _))⟩)) | (go_at_call 5; (with_reducible refine (spec_DrawFirstMeeting.calls k _ _ l0 t423 t424 t425 t426 _ ?side1 ?side2 A5.out).mono ?_); (case side1 => repeat (first | exact HR0.out | (with_reducible refine Kd.C_alloc ?_ _) | (with_reducible refine Kd.C_drewN ?_ _) | (with_reducible refine Kd.C_drew ?_))); (case side2 => exact HC0.out); rintro e w13 ⟨rfl, hb⟩; have n0_ := Aside0.mk (below_step (by repeat (first | (with_reducible first | apply below_alloc | apply pw_below_drewN | apply below_drew1) | exact HB.out)) hb); clear HB; have HB := n0_; clear n0_; (try clear hb); (try clear hb2); (try clear hk); (try clear hi)) | (go_at_call 6; (with_reducible refine (impl_FirstMeeting.calls k t423 t424 t425 t426 t427 t428 _ A6.out).mono ?_); rintro e w14 ⟨rfl, hb⟩; have n0_ := Aside0.mk (below_step (by repeat (first | (with_reducible first | apply below_alloc | apply pw_below_drewN | apply below_drew1) | exact HB.out)) hb); clear HB; have HB := n0_; clear n0_; (try clear hb); (try clear hb2); (try clear hk); (try clear hi)) | (go_at_call 7; (with_reducible refine (spec_FirstMeeting.calls k t423 t424 t425 t426 t429 t430 _ A7.out).mono ?_); rintro e w' ⟨rfl, ⟨nd, rfl⟩⟩; (try first | exact ⟨rfl, _, World.drewN_drewN _ _ _⟩ | exact ⟨rfl, _, Eq.trans (World.drewN_drewN _ _ _) (congrArg (World.drewN _) (Nat.add_assoc _ _ _))⟩)) | (go_at_call 8; (with_reducible refine (impl_DoMeet.calls t423 t424 t425 t426 t431 t432 _ A8.out).mono ?_); rintro e w15 ⟨rfl, hb⟩; have n0_ := Aside0.mk (below_step (by repeat (first | (with_reducible first | apply below_alloc | apply pw_below_drewN | apply below_drew1) | exact HB.out)) hb); clear HB; have HB := n0_; clear n0_; (try clear hb); (try clear hb2); (try clear hk); (try clear hi)) | (go_at_call 9; (with_reducible refine (spec_DoMeet.calls k t423 t424 t425 t426 t433 t434 _ A9.out).mono ?_); rintro e w' ⟨rfl, ⟨nd, rfl⟩⟩; (try first | exact ⟨rfl, _, World.drewN_drewN _ _ _⟩ | exact ⟨rfl, _, Eq.trans (World.drewN_drewN _ _ _) (congrArg (World.drewN _) (Nat.add_assoc _ _ _))⟩)) | (go_at_call 10; (with_reducible refine (impl_MeetingsOf.calls t423 t424 t425 t435 t436 _ A10.out).mono ?_); rintro e w16 ⟨v437, rfl, ho0, hb⟩; have n0_ := Aside0.mk (Kd.R_lower ho0 (below_size (by repeat (first | (with_reducible first | apply below_alloc | apply pw_below_drewN | apply below_drew1) | exact HB.out)))); have n1_ := Aside0.mk (below_step (by repeat (first | (with_reducible first | apply below_alloc | apply pw_below_drewN | apply below_drew1) | exact HB.out)) hb); clear HB; have HO438 := n0_; have HB := n1_; clear n0_ n1_; (try clear hb); (try clear hb2); (try clear hk); (try clear hi); (try clear ho0)) | (go_at_call 11; (with_reducible refine (spec_MeetingsOf.calls k t423 t424 t425 t439 t440 _ A11.out).mono ?_); rintro e w17 ⟨v441, rfl, ho0, hb⟩; have n0_ := Aside0.mk (Kd.R_elder' (by (with_reducible repeat (first | apply Kd.R_alloc | apply Kd.R_drewN | apply Kd.R_drew)); exact HO438.out) (Kd.R_base ho0) hb); have n1_ := Aside0.mk (Kd.R_lower (Kd.R_new' ho0 (Kd.R_lt (by (with_reducible repeat (first | apply Kd.R_alloc | apply Kd.R_drewN | apply Kd.R_drew)); exact HO438.out))) (below_size (by repeat (first | (with_reducible first | apply below_alloc | apply pw_below_drewN | apply below_drew1) | exact HB.out)))); have n2_ := Aside0.mk (below_step (by repeat (first | (with_reducible first | apply below_alloc | apply pw_below_drewN | apply below_drew1) | exact HB.out)) hb); clear HO438; clear HB; have HO438 := n0_; have HO442 := n1_; have HB := n2_; clear n0_ n1_ n2_; (try clear hb); (try clear hb2); (try clear hk); (try clear hi); (try clear ho0))); go_upto_region 10 with (first | (go_at_call 4; (with_reducible refine (laws_big.calls _ _ l0 _ _ l1 false _ ?side1 ?side2 ?side3 ?side4 A3.out).mono ?_); (case side1 => repeat (first | exact HR0.out | (with_reducible refine Kd.C_alloc ?_ _) | (with_reducible refine Kd.C_drewN ?_ _) | (with_reducible refine Kd.C_drew ?_))); (case side2 => exact HC0.out); (case side3 => repeat (first | exact HR1.out | (with_reducible refine Kd.C_alloc ?_ _) | (with_reducible refine Kd.C_drewN ?_ _) | (with_reducible refine Kd.C_drew ?_))); (case side4 => exact HC1.out); rintro e w' ⟨rfl, ⟨nd, rfl⟩⟩; (try first | exact ⟨rfl, _, World.drewN_drewN _ _ _⟩ | exact ⟨rfl, _, Eq.trans (World.drewN_drewN _ _ _) (congrArg (World.drewN _) (Nat.add_assoc _ _ _))⟩)) | (go_at_call 5; (with_reducible refine (spec_DrawFirstMeeting.calls k _ _ l0 t423 t424 t425 t426 _ ?side1 ?side2 A5.out).mono ?_); (case side1 => repeat (first | exact HR0.out | (with_reducible refine Kd.C_alloc ?_ _) | (with_reducible refine Kd.C_drewN ?_ _) | (with_reducible refine Kd.C_drew ?_))); (case side2 => exact HC0.out); rintro e w13 ⟨rfl, hb⟩; have n0_ := Aside0.mk (below_step (by repeat (first | (with_reducible first | apply below_alloc | apply pw_below_drewN | apply below_drew1) | exact HB.out)) hb); clear HB; have HB := n0_; clear n0_; (try clear hb); (try clear hb2); (try clear hk); (try clear hi)) | (go_at_call 6; (with_reducible refine (impl_FirstMeeting.calls k t423 t424 t425 t426 t427 t428 _ A6.out).mono ?_); rintro e w14 ⟨rfl, hb⟩; have n0_ := Aside0.mk (below_step (by repeat (first | (with_reducible first | apply below_alloc | apply pw_below_drewN | apply below_drew1) | exact HB.out)) hb); clear HB; have HB := n0_; clear n0_; (try clear hb); (try clear hb2); (try clear hk); (try clear hi)) | (go_at_call 7; (with_reducible refine (spec_FirstMeeting.calls k t423 t424 t425 t426 t429 t430 _ A7.out).mono ?_); rintro e w' ⟨rfl, ⟨nd, rfl⟩⟩; (try first | exact ⟨rfl, _, World.drewN_drewN _ _ _⟩ | exact ⟨rfl, _, Eq.trans (World.drewN_drewN _ _ _) (congrArg (World.drewN _) (Nat.add_assoc _ _ _))⟩)) | (go_at_call 8; (with_reducible refine (impl_DoMeet.calls t423 t424 t425 t426 t431 t432 _ A8.out).mono ?_); rintro e w15 ⟨rfl, hb⟩; have n0_ := Aside0.mk (below_step (by repeat (first | (with_reducible first | apply below_alloc | apply pw_below_drewN | apply below_drew1) | exact HB.out)) hb); clear HB; have HB := n0_; clear n0_; (try clear hb); (try clear hb2); (try clear hk); (try clear hi)) | (go_at_call 9; (with_reducible refine (spec_DoMeet.calls k t423 t424 t425 t426 t433 t434 _ A9.out).mono ?_); rintro e w' ⟨rfl, ⟨nd, rfl⟩⟩; (try first | exact ⟨rfl, _, World.drewN_drewN _ _ _⟩ | exact ⟨rfl, _, Eq.trans (World.drewN_drewN _ _ _) (congrArg (World.drewN _) (Nat.add_assoc _ _ _))⟩)) | (go_at_call 10; (with_reducible refine (impl_MeetingsOf.calls t423 t424 t425 t435 t436 _ A10.out).mono ?_); rintro e w16 ⟨v437, rfl, ho0, hb⟩; have n0_ := Aside0.mk (Kd.R_lower ho0 (below_size (by repeat (first | (with_reducible first | apply below_alloc | apply pw_below_drewN | apply below_drew1) | exact HB.out)))); have n1_ := Aside0.mk (below_step (by repeat (first | (with_reducible first | apply below_alloc | apply pw_below_drewN | apply below_drew1) | exact HB.out)) hb); clear HB; have HO438 := n0_; have HB := n1_; clear n0_ n1_; (try clear hb); (try clear hb2); (try clear hk); (try clear hi); (try clear ho0)) | (go_at_call 11; (with_reducible refine (spec_MeetingsOf.calls k t423 t424 t425 t439 t440 _ A11.out).mono ?_); rintro e w17 ⟨v441, rfl, ho0, hb⟩; have n0_ := Aside0.mk (Kd.R_elder' (by (with_reducible repeat (first | apply Kd.R_alloc | apply Kd.R_drewN | apply Kd.R_drew)); exact HO438.out) (Kd.R_base ho0) hb); have n1_ := Aside0.mk (Kd.R_lower (Kd.R_new' ho0 (Kd.R_lt (by (with_reducible repeat (first | apply Kd.R_alloc | apply Kd.R_drewN | apply Kd.R_drew)); exact HO438.out))) (below_size (by repeat (first | (with_reducible first | apply below_alloc | apply pw_below_drewN | apply below_drew1) | exact HB.out)))); have n2_ := Aside0.mk (below_step (by repeat (first | (with_reducible first | apply below_alloc | apply pw_below_drewN | apply below_drew1) | exact HB.out)) hb); clear HO438; clear HB; have HO438 := n0_; have HO442 := n1_; have HB := n2_; clear n0_ n1_ n2_; (try clear hb); (try clear hb2); (try clear hk); (try clear hi); (try clear ho0))))
  (try simp only [Act.put, List.setIfInBounds_toArray, List.set_cons_zero, List.set_cons_succ])
  go_cut [177] (fun v177 wc => ∃ (kq : Nat) (x177_11 : Bool), v177 = .bool x177_11 ∧ Aside0 (laws_FnGearsMeet.j0 kq l1 t423 t424 t425 t426 t427 t428 t432 t435 x177_11 = some r) ∧ Aside0 (kq ≤ k) ∧ Aside0 (Kd.R (Kd.int .i64) 3 wc w.heap.size (fun _ => True) v437 t435) ∧ Aside0 (Below w.heap.size w wc))
  case first =>
   as_aux_lemma =>
   have H := HC12.out
   clear HC12
   by_cases c18 : (t428 != t430) = true
   ·rw [if_pos c18] at H
    exact absurd H (by simp)
   ·rw [if_neg c18] at H
    have c18b0 : (t428 != t430) = false := by simpa using c18
    (try (have c18b1 : decide (t428 = t430) = true := by simpa using c18))
    (try (have c18b2 : (t428 == t430) = true := by simpa using c18))
    clear c18
    (first | rw [c18b0] | (simp only [i64_w, i32_w]; rw [c18b0]) | skip)
    by_cases c19 : t427 = t429
    ·rw [if_pos c19] at H
     have c19b0 : (t427 == t429) = true := beq_iff_eq.mpr c19
     have c19b1 : (t427 != t429) = false := bne_eq_false_iff_eq.mpr c19
     clear c19
     by_cases c20 : (t432 != t434) = true
     ·rw [if_pos c20] at H
      exact absurd H (by simp)
     ·rw [if_neg c20] at H
      have c20b0 : (t432 != t434) = false := by simpa using c20
      (try (have c20b1 : decide (t432 = t434) = true := by simpa using c20))
      (try (have c20b2 : (t432 == t434) = true := by simpa using c20))
      clear c20
      by_cases c21 : (t431 != t433) = true
      ·rw [if_pos c21] at H
       exact absurd H (by simp)
      ·rw [if_neg c21] at H
       have c21b0 : (t431 != t433) = false := by simpa using c21
       (try (have c21b1 : decide (t431 = t433) = true := by simpa using c21))
       (try (have c21b2 : (t431 == t433) = true := by simpa using c21))
       clear c21
       by_cases c22 : (t436 != t440) = true
       ·rw [if_pos c22] at H
        exact absurd H (by simp)
       ·rw [if_neg c22] at H
        have c22b0 : (t436 != t440) = false := by simpa using c22
        (try (have c22b1 : decide (t436 = t440) = true := by simpa using c22))
        (try (have c22b2 : (t436 == t440) = true := by simpa using c22))
        clear c22
        replace H := Option.bind_eq_some_iff.mp H
        obtain ⟨t443, A230, H⟩ := H
        (try dsimp only at H)
        have A23 := Aside0.mk A230
        clear A230
        by_cases c24 : t443 = true
        ·subst c24
         rw [if_pos rfl] at H
         by_cases c25 : t432 = true
         ·subst c25
          rw [if_pos rfl] at H
          by_cases c26 : (t428 != t431) = true
          ·rw [if_pos c26] at H
           exact absurd H (by simp)
          ·rw [if_neg c26] at H
           have c26b0 : (t428 != t431) = false := by simpa using c26
           (try (have c26b1 : decide (t428 = t431) = true := by simpa using c26))
           (try (have c26b2 : (t428 == t431) = true := by simpa using c26))
           clear c26
           by_cases c27 : t436 = true
           ·as_aux_lemma =>
            subst c27
            rw [if_pos rfl] at H
            replace H := Option.bind_eq_some_iff.mp H
            obtain ⟨t444, A280, H⟩ := H
            (try dsimp only at H)
            have A28 := Aside0.mk A280
            clear A280
            have H' := Aside0.mk H
            clear H
            obtain ⟨Ao29, co29, eo29⟩ := Kd.R_slice HO438.out
            subst eo29
            obtain ⟨Ao30, co30, eo30⟩ := Kd.R_slice HO442.out
            subst eo30
            go_wp2_with (first | (go_at_call 12; (with_reducible refine (laws_uSame.calls k _ _ t435 _ _ t439 true _ ?side1 ?side2 ?side3 ?side4 A23.out).mono ?_); (case side1 => repeat (first | exact (Kd.R_reads' HO438.out).2.2 | (with_reducible refine Kd.C_alloc ?_ _) | (with_reducible refine Kd.C_drewN ?_ _) | (with_reducible refine Kd.C_drew ?_))); (case side2 => exact (Kd.R_reads' HO438.out).2.1); (case side3 => repeat (first | exact (Kd.R_reads' HO442.out).2.2 | (with_reducible refine Kd.C_alloc ?_ _) | (with_reducible refine Kd.C_drewN ?_ _) | (with_reducible refine Kd.C_drew ?_))); (case side4 => exact (Kd.R_reads' HO442.out).2.1); rintro e w' ⟨rfl, ⟨nd, rfl⟩⟩; (try first | exact ⟨rfl, _, World.drewN_drewN _ _ _⟩ | exact ⟨rfl, _, Eq.trans (World.drewN_drewN _ _ _) (congrArg (World.drewN _) (Nat.add_assoc _ _ _))⟩)) | (go_at_call 13; (with_reducible refine (laws_uHas.calls k _ _ t435 t426 t444 _ ?side1 ?side2 A28.out).mono ?_); (case side1 => repeat (first | exact (Kd.R_reads' HO438.out).2.2 | (with_reducible refine Kd.C_alloc ?_ _) | (with_reducible refine Kd.C_drewN ?_ _) | (with_reducible refine Kd.C_drew ?_))); (case side2 => exact (Kd.R_reads' HO438.out).2.1); rintro e w' ⟨rfl, ⟨nd, rfl⟩⟩; (try first | exact ⟨rfl, _, World.drewN_drewN _ _ _⟩ | exact ⟨rfl, _, Eq.trans (World.drewN_drewN _ _ _) (congrArg (World.drewN _) (Nat.add_assoc _ _ _))⟩)))
            repeat (go_quiet (first | (go_at_call 12; (with_reducible refine (laws_uSame.calls k _ _ t435 _ _ t439 true _ ?side1 ?side2 ?side3 ?side4 A23.out).mono ?_); (case side1 => repeat (first | exact (Kd.R_reads' HO438.out).2.2 | (with_reducible refine Kd.C_alloc ?_ _) | (with_reducible refine Kd.C_drewN ?_ _) | (with_reducible refine Kd.C_drew ?_))); (case side2 => exact (Kd.R_reads' HO438.out).2.1); (case side3 => repeat (first | exact (Kd.R_reads' HO442.out).2.2 | (with_reducible refine Kd.C_alloc ?_ _) | (with_reducible refine Kd.C_drewN ?_ _) | (with_reducible refine Kd.C_drew ?_))); (case side4 => exact (Kd.R_reads' HO442.out).2.1); rintro e w' ⟨rfl, ⟨nd, rfl⟩⟩; (try first | exact ⟨rfl, _, World.drewN_drewN _ _ _⟩ | exact ⟨rfl, _, Eq.trans (World.drewN_drewN _ _ _) (congrArg (World.drewN _) (Nat.add_assoc _ _ _))⟩)) | (go_at_call 13; (with_reducible refine (laws_uHas.calls k _ _ t435 t426 t444 _ ?side1 ?side2 A28.out).mono ?_); (case side1 => repeat (first | exact (Kd.R_reads' HO438.out).2.2 | (with_reducible refine Kd.C_alloc ?_ _) | (with_reducible refine Kd.C_drewN ?_ _) | (with_reducible refine Kd.C_drew ?_))); (case side2 => exact (Kd.R_reads' HO438.out).2.1); rintro e w' ⟨rfl, ⟨nd, rfl⟩⟩; (try first | exact ⟨rfl, _, World.drewN_drewN _ _ _⟩ | exact ⟨rfl, _, Eq.trans (World.drewN_drewN _ _ _) (congrArg (World.drewN _) (Nat.add_assoc _ _ _))⟩))); try go_wp2_with (first | (go_at_call 12; (with_reducible refine (laws_uSame.calls k _ _ t435 _ _ t439 true _ ?side1 ?side2 ?side3 ?side4 A23.out).mono ?_); (case side1 => repeat (first | exact (Kd.R_reads' HO438.out).2.2 | (with_reducible refine Kd.C_alloc ?_ _) | (with_reducible refine Kd.C_drewN ?_ _) | (with_reducible refine Kd.C_drew ?_))); (case side2 => exact (Kd.R_reads' HO438.out).2.1); (case side3 => repeat (first | exact (Kd.R_reads' HO442.out).2.2 | (with_reducible refine Kd.C_alloc ?_ _) | (with_reducible refine Kd.C_drewN ?_ _) | (with_reducible refine Kd.C_drew ?_))); (case side4 => exact (Kd.R_reads' HO442.out).2.1); rintro e w' ⟨rfl, ⟨nd, rfl⟩⟩; (try first | exact ⟨rfl, _, World.drewN_drewN _ _ _⟩ | exact ⟨rfl, _, Eq.trans (World.drewN_drewN _ _ _) (congrArg (World.drewN _) (Nat.add_assoc _ _ _))⟩)) | (go_at_call 13; (with_reducible refine (laws_uHas.calls k _ _ t435 t426 t444 _ ?side1 ?side2 A28.out).mono ?_); (case side1 => repeat (first | exact (Kd.R_reads' HO438.out).2.2 | (with_reducible refine Kd.C_alloc ?_ _) | (with_reducible refine Kd.C_drewN ?_ _) | (with_reducible refine Kd.C_drew ?_))); (case side2 => exact (Kd.R_reads' HO438.out).2.1); rintro e w' ⟨rfl, ⟨nd, rfl⟩⟩; (try first | exact ⟨rfl, _, World.drewN_drewN _ _ _⟩ | exact ⟨rfl, _, Eq.trans (World.drewN_drewN _ _ _) (congrArg (World.drewN _) (Nat.add_assoc _ _ _))⟩))))
            go_meet
            case rel => exact ⟨_, ((t431 != t444)), (by first | rfl | (simp; done) | (simp [*]; done)), H', ⟨by first | omega | exact Nat.le_refl _⟩, ⟨by (with_reducible repeat (first | apply Kd.R_alloc | apply Kd.R_drewN | apply Kd.R_drew)); exact Kd.R_mono HO438.out (fun _ hk => trivial)⟩, ⟨by repeat (first | (with_reducible first | apply below_alloc | apply pw_below_drewN | apply below_drew1) | exact HB.out)⟩⟩
           ·replace c27 := Bool.eq_false_iff.mpr c27
            subst c27
            rw [if_neg (show ¬ (false = true) by decide)] at H
            exact absurd H (by simp)
         ·replace c25 := Bool.eq_false_iff.mpr c25
          subst c25
          rw [if_neg (show ¬ (false = true) by decide)] at H
          by_cases c31 : (t428 != false) = true
          ·rw [if_pos c31] at H
           exact absurd H (by simp)
          ·as_aux_lemma =>
           rw [if_neg c31] at H
           have c31b0 : (t428 != false) = false := by simpa using c31
           (try (have c31b1 : decide (t428 = false) = true := by simpa using c31))
           (try (have c31b2 : (t428 == false) = true := by simpa using c31))
           clear c31
           have H' := Aside0.mk H
           clear H
           obtain ⟨Ao32, co32, eo32⟩ := Kd.R_slice HO438.out
           subst eo32
           obtain ⟨Ao33, co33, eo33⟩ := Kd.R_slice HO442.out
           subst eo33
           go_wp2_with (first | (go_at_call 12; (with_reducible refine (laws_uSame.calls k _ _ t435 _ _ t439 true _ ?side1 ?side2 ?side3 ?side4 A23.out).mono ?_); (case side1 => repeat (first | exact (Kd.R_reads' HO438.out).2.2 | (with_reducible refine Kd.C_alloc ?_ _) | (with_reducible refine Kd.C_drewN ?_ _) | (with_reducible refine Kd.C_drew ?_))); (case side2 => exact (Kd.R_reads' HO438.out).2.1); (case side3 => repeat (first | exact (Kd.R_reads' HO442.out).2.2 | (with_reducible refine Kd.C_alloc ?_ _) | (with_reducible refine Kd.C_drewN ?_ _) | (with_reducible refine Kd.C_drew ?_))); (case side4 => exact (Kd.R_reads' HO442.out).2.1); rintro e w' ⟨rfl, ⟨nd, rfl⟩⟩; (try first | exact ⟨rfl, _, World.drewN_drewN _ _ _⟩ | exact ⟨rfl, _, Eq.trans (World.drewN_drewN _ _ _) (congrArg (World.drewN _) (Nat.add_assoc _ _ _))⟩)))
           repeat (go_quiet (first | (go_at_call 12; (with_reducible refine (laws_uSame.calls k _ _ t435 _ _ t439 true _ ?side1 ?side2 ?side3 ?side4 A23.out).mono ?_); (case side1 => repeat (first | exact (Kd.R_reads' HO438.out).2.2 | (with_reducible refine Kd.C_alloc ?_ _) | (with_reducible refine Kd.C_drewN ?_ _) | (with_reducible refine Kd.C_drew ?_))); (case side2 => exact (Kd.R_reads' HO438.out).2.1); (case side3 => repeat (first | exact (Kd.R_reads' HO442.out).2.2 | (with_reducible refine Kd.C_alloc ?_ _) | (with_reducible refine Kd.C_drewN ?_ _) | (with_reducible refine Kd.C_drew ?_))); (case side4 => exact (Kd.R_reads' HO442.out).2.1); rintro e w' ⟨rfl, ⟨nd, rfl⟩⟩; (try first | exact ⟨rfl, _, World.drewN_drewN _ _ _⟩ | exact ⟨rfl, _, Eq.trans (World.drewN_drewN _ _ _) (congrArg (World.drewN _) (Nat.add_assoc _ _ _))⟩))); try go_wp2_with (first | (go_at_call 12; (with_reducible refine (laws_uSame.calls k _ _ t435 _ _ t439 true _ ?side1 ?side2 ?side3 ?side4 A23.out).mono ?_); (case side1 => repeat (first | exact (Kd.R_reads' HO438.out).2.2 | (with_reducible refine Kd.C_alloc ?_ _) | (with_reducible refine Kd.C_drewN ?_ _) | (with_reducible refine Kd.C_drew ?_))); (case side2 => exact (Kd.R_reads' HO438.out).2.1); (case side3 => repeat (first | exact (Kd.R_reads' HO442.out).2.2 | (with_reducible refine Kd.C_alloc ?_ _) | (with_reducible refine Kd.C_drewN ?_ _) | (with_reducible refine Kd.C_drew ?_))); (case side4 => exact (Kd.R_reads' HO442.out).2.1); rintro e w' ⟨rfl, ⟨nd, rfl⟩⟩; (try first | exact ⟨rfl, _, World.drewN_drewN _ _ _⟩ | exact ⟨rfl, _, Eq.trans (World.drewN_drewN _ _ _) (congrArg (World.drewN _) (Nat.add_assoc _ _ _))⟩))))
           go_meet
           case rel => exact ⟨_, (false), (by first | rfl | (simp; done) | (simp [*]; done)), H', ⟨by first | omega | exact Nat.le_refl _⟩, ⟨by (with_reducible repeat (first | apply Kd.R_alloc | apply Kd.R_drewN | apply Kd.R_drew)); exact Kd.R_mono HO438.out (fun _ hk => trivial)⟩, ⟨by repeat (first | (with_reducible first | apply below_alloc | apply pw_below_drewN | apply below_drew1) | exact HB.out)⟩⟩
        ·replace c24 := Bool.eq_false_iff.mpr c24
         subst c24
         rw [if_neg (show ¬ (false = true) by decide)] at H
         exact absurd H (by simp)
    ·rw [if_neg c19] at H
     exact absurd H (by simp)
  case rest =>
   as_aux_lemma =>
   clear HC12
   try clear c1
   try clear c2
   try clear p2
   try clear c3
   try clear c4
   try clear c18
   try clear c18b0
   try clear c18b1
   try clear c18b2
   try clear c19
   try clear c19b0
   try clear c19b1
   try clear c20
   try clear c20b0
   try clear c20b1
   try clear c20b2
   try clear c21
   try clear c21b0
   try clear c21b1
   try clear c21b2
   try clear c22
   try clear c22b0
   try clear c22b1
   try clear c22b2
   try clear c24
   try clear c25
   try clear c26
   try clear c26b0
   try clear c26b1
   try clear c26b2
   try clear c27
   try clear c31
   try clear c31b0
   try clear c31b1
   try clear c31b2
   obtain ⟨kq, x177_11, rfl, HA, HJ11, HO_17, HB⟩ := hcut
   cases kq with
   | zero => exact absurd HA.out (by simp [laws_FnGearsMeet.j0])
   | succ kj11 =>
    have H := HA.out
    clear HA
    simp only [laws_FnGearsMeet.j0] at H
    by_cases c34 : x177_11 = true
    ·subst c34
     rw [if_pos rfl] at H
     exact absurd H (by simp)
    ·as_aux_lemma =>
     replace c34 := Bool.eq_false_iff.mpr c34
     subst c34
     rw [if_neg (show ¬ (false = true) by decide)] at H
     have HC35 := Aside0.mk H
     clear H
     go_upto_if 178 with (fail)
     repeat (go_quiet (fail); go_upto_if 178 with (fail))
     go_cut [] (fun wc => ∃ (kq : Nat), Aside0 (laws_FnGearsMeet.j1 kq l1 t423 t424 t432 t435 = some r) ∧ Aside0 (kq ≤ kj11) ∧ Aside0 (Kd.R (Kd.int .i64) 3 wc w.heap.size (fun _ => True) v437 t435) ∧ Aside0 (Below w.heap.size w wc))
     case first =>
      as_aux_lemma =>
      have H := HC35.out
      clear HC35
      by_cases c36 : t428 = true
      ·subst c36
       rw [if_pos rfl] at H
       replace H := Option.bind_eq_some_iff.mp H
       obtain ⟨⟨t445, t446, t447⟩, A370, H⟩ := H
       (try dsimp only at H)
       have A37 := Aside0.mk A370
       clear A370
       replace H := Option.bind_eq_some_iff.mp H
       obtain ⟨⟨t448, t449⟩, A380, H⟩ := H
       (try dsimp only at H)
       have A38 := Aside0.mk A380
       clear A380
       by_cases c39 : t447 = true
       ·subst c39
        rw [if_pos rfl] at H
        by_cases c40 : t445 = t425
        ·rw [if_pos c40] at H
         have c40b0 : (t445 == t425) = true := beq_iff_eq.mpr c40
         have c40b1 : (t445 != t425) = false := bne_eq_false_iff_eq.mpr c40
         clear c40
         (first | rw [c40b0] | (simp only [i64_w, i32_w]; rw [c40b0]) | skip)
         by_cases c41 : t446 = t426
         ·rw [if_pos c41] at H
          have c41b0 : (t446 == t426) = true := beq_iff_eq.mpr c41
          have c41b1 : (t446 != t426) = false := bne_eq_false_iff_eq.mpr c41
          clear c41
          by_cases c42 : t449 = true
          ·subst c42
           rw [if_pos rfl] at H
           by_cases c43 : t427 ≥ (wrap64 (t448 * t423))
           ·rw [if_pos c43] at H
            exact absurd H (by simp)
           ·as_aux_lemma =>
            rw [if_neg c43] at H
            have c43b0 : decide ((wrap64 (t448 * t423)) ≤ t427) = false := decide_eq_false c43
            clear c43
            have H' := Aside0.mk H
            clear H
            go_wp2_with (first | (go_at_call 14; (with_reducible refine (impl_TeethAt.calls t423 t424 t427 t445 t446 true _ A37.out).mono ?_); rintro e w44 ⟨rfl, hb⟩; have n0_ := Aside0.mk (Kd.R_below (by (with_reducible repeat (first | apply Kd.R_alloc | apply Kd.R_drewN | apply Kd.R_drew)); exact HO_17.out) hb); have n1_ := Aside0.mk (below_step (by repeat (first | (with_reducible first | apply below_alloc | apply pw_below_drewN | apply below_drew1) | exact HB.out)) hb); clear HO_17; clear HB; have HO_17 := n0_; have HB := n1_; clear n0_ n1_; (try clear hb); (try clear hb2); (try clear hk); (try clear hi)) | (go_at_call 15; (with_reducible refine (impl_RoundsOf.calls t423 t424 t448 true _ A38.out).mono ?_); rintro e w45 ⟨rfl, hb⟩; have n0_ := Aside0.mk (Kd.R_below (by (with_reducible repeat (first | apply Kd.R_alloc | apply Kd.R_drewN | apply Kd.R_drew)); exact HO_17.out) hb); have n1_ := Aside0.mk (below_step (by repeat (first | (with_reducible first | apply below_alloc | apply pw_below_drewN | apply below_drew1) | exact HB.out)) hb); clear HO_17; clear HB; have HO_17 := n0_; have HB := n1_; clear n0_ n1_; (try clear hb); (try clear hb2); (try clear hk); (try clear hi)))
            repeat (go_quiet (first | (go_at_call 14; (with_reducible refine (impl_TeethAt.calls t423 t424 t427 t445 t446 true _ A37.out).mono ?_); rintro e w44 ⟨rfl, hb⟩; have n0_ := Aside0.mk (Kd.R_below (by (with_reducible repeat (first | apply Kd.R_alloc | apply Kd.R_drewN | apply Kd.R_drew)); exact HO_17.out) hb); have n1_ := Aside0.mk (below_step (by repeat (first | (with_reducible first | apply below_alloc | apply pw_below_drewN | apply below_drew1) | exact HB.out)) hb); clear HO_17; clear HB; have HO_17 := n0_; have HB := n1_; clear n0_ n1_; (try clear hb); (try clear hb2); (try clear hk); (try clear hi)) | (go_at_call 15; (with_reducible refine (impl_RoundsOf.calls t423 t424 t448 true _ A38.out).mono ?_); rintro e w45 ⟨rfl, hb⟩; have n0_ := Aside0.mk (Kd.R_below (by (with_reducible repeat (first | apply Kd.R_alloc | apply Kd.R_drewN | apply Kd.R_drew)); exact HO_17.out) hb); have n1_ := Aside0.mk (below_step (by repeat (first | (with_reducible first | apply below_alloc | apply pw_below_drewN | apply below_drew1) | exact HB.out)) hb); clear HO_17; clear HB; have HO_17 := n0_; have HB := n1_; clear n0_ n1_; (try clear hb); (try clear hb2); (try clear hk); (try clear hi))); try go_wp2_with (first | (go_at_call 14; (with_reducible refine (impl_TeethAt.calls t423 t424 t427 t445 t446 true _ A37.out).mono ?_); rintro e w44 ⟨rfl, hb⟩; have n0_ := Aside0.mk (Kd.R_below (by (with_reducible repeat (first | apply Kd.R_alloc | apply Kd.R_drewN | apply Kd.R_drew)); exact HO_17.out) hb); have n1_ := Aside0.mk (below_step (by repeat (first | (with_reducible first | apply below_alloc | apply pw_below_drewN | apply below_drew1) | exact HB.out)) hb); clear HO_17; clear HB; have HO_17 := n0_; have HB := n1_; clear n0_ n1_; (try clear hb); (try clear hb2); (try clear hk); (try clear hi)) | (go_at_call 15; (with_reducible refine (impl_RoundsOf.calls t423 t424 t448 true _ A38.out).mono ?_); rintro e w45 ⟨rfl, hb⟩; have n0_ := Aside0.mk (Kd.R_below (by (with_reducible repeat (first | apply Kd.R_alloc | apply Kd.R_drewN | apply Kd.R_drew)); exact HO_17.out) hb); have n1_ := Aside0.mk (below_step (by repeat (first | (with_reducible first | apply below_alloc | apply pw_below_drewN | apply below_drew1) | exact HB.out)) hb); clear HO_17; clear HB; have HO_17 := n0_; have HB := n1_; clear n0_ n1_; (try clear hb); (try clear hb2); (try clear hk); (try clear hi))))
            go_meet
            case rel => exact ⟨_, H', ⟨by have := HJ11.out; first | omega | exact Nat.le_refl _⟩, ⟨by (with_reducible repeat (first | apply Kd.R_alloc | apply Kd.R_drewN | apply Kd.R_drew)); exact HO_17.out⟩, ⟨by repeat (first | (with_reducible first | apply below_alloc | apply pw_below_drewN | apply below_drew1) | exact HB.out)⟩⟩
          ·replace c42 := Bool.eq_false_iff.mpr c42
           subst c42
           rw [if_neg (show ¬ (false = true) by decide)] at H
           exact absurd H (by simp)
         ·rw [if_neg c41] at H
          exact absurd H (by simp)
        ·rw [if_neg c40] at H
         exact absurd H (by simp)
       ·replace c39 := Bool.eq_false_iff.mpr c39
        subst c39
        rw [if_neg (show ¬ (false = true) by decide)] at H
        exact absurd H (by simp)
      ·as_aux_lemma =>
       replace c36 := Bool.eq_false_iff.mpr c36
       subst c36
       rw [if_neg (show ¬ (false = true) by decide)] at H
       have H' := Aside0.mk H
       clear H
       go_wp2
       repeat (go_quiet (fail); try go_wp2)
       go_meet
       case rel => exact ⟨_, H', ⟨by have := HJ11.out; first | omega | exact Nat.le_refl _⟩, ⟨by (with_reducible repeat (first | apply Kd.R_alloc | apply Kd.R_drewN | apply Kd.R_drew)); exact HO_17.out⟩, ⟨by repeat (first | (with_reducible first | apply below_alloc | apply pw_below_drewN | apply below_drew1) | exact HB.out)⟩⟩
     case rest =>
      as_aux_lemma =>
      clear HC35
      try clear c1
      try clear c2
      try clear p2
      try clear c3
      try clear c4
      try clear p6
      try clear c18
      try clear c18b0
      try clear c18b1
      try clear c18b2
      try clear c19
      try clear c19b0
      try clear c19b1
      try clear c20
      try clear c20b0
      try clear c20b1
      try clear c20b2
      try clear c21
      try clear c21b0
      try clear c21b1
      try clear c21b2
      try clear c22
      try clear c22b0
      try clear c22b1
      try clear c22b2
      try clear c24
      try clear c25
      try clear c26
      try clear c26b0
      try clear c26b1
      try clear c26b2
      try clear c27
      try clear c31
      try clear c31b0
      try clear c31b1
      try clear c31b2
      try clear c34
      try clear c36
      try clear c39
      try clear c40
      try clear c40b0
      try clear c40b1
      try clear c41
      try clear c41b0
      try clear c41b1
      try clear c42
      try clear c43
      try clear c43b0
      try clear p2
      obtain ⟨kq, HA, HJ34, HO_17, HB⟩ := hcut
      cases kq with
      | zero => exact absurd HA.out (by simp [laws_FnGearsMeet.j1])
      | succ kj34 =>
       have H := HA.out
       clear HA
       simp only [laws_FnGearsMeet.j1] at H
       have HC46 := Aside0.mk H
       clear H
       go_upto_if 216 with (fail)
       repeat (go_quiet (fail); go_upto_if 216 with (fail))
       go_cut [] (fun wc => ∃ (kq : Nat), Aside0 (laws_FnGearsMeet.j2 kq l1 = some r) ∧ Aside0 (kq ≤ kj34) ∧ Aside0 (Below w.heap.size w wc))
       case first =>
        as_aux_lemma =>
        have H := HC46.out
        clear HC46
        by_cases c47 : t432 = true
        ·subst c47
         rw [if_pos rfl] at H
         replace H := Option.bind_eq_some_iff.mp H
         obtain ⟨⟨t450, t451⟩, A480, H⟩ := H
         (try dsimp only at H)
         have A48 := Aside0.mk A480
         clear A480
         by_cases c49 : t451 = true
         ·subst c49
          rw [if_pos rfl] at H
          replace H := Option.bind_eq_some_iff.mp H
          obtain ⟨t452, A500, H⟩ := H
          (try dsimp only at H)
          have A50 := Aside0.mk A500
          clear A500
          by_cases c51 : t452 = true
          ·subst c51
           rw [if_pos rfl] at H
           by_cases c52 : (wrap64 ((t435.length : Int) * t423)) = (wrap64 (t424 * t450))
           ·as_aux_lemma =>
            rw [if_pos c52] at H
            have c52b0 : ((wrap64 ((t435.length : Int) * t423)) == (wrap64 (t424 * t450))) = true := beq_iff_eq.mpr c52
            have c52b1 : ((wrap64 ((t435.length : Int) * t423)) != (wrap64 (t424 * t450))) = false := bne_eq_false_iff_eq.mpr c52
            clear c52
            (first | rw [c52b0] | (simp only [i64_w, i32_w]; rw [c52b0]) | skip)
            have H' := Aside0.mk H
            clear H
            go_wp2_with (first | (go_at_call 16; (with_reducible refine (impl_PetalsOf.calls t423 t424 t450 true _ A48.out).mono ?_); rintro e w53 ⟨rfl, hb⟩; have n0_ := Aside0.mk (Kd.R_below (by (with_reducible repeat (first | apply Kd.R_alloc | apply Kd.R_drewN | apply Kd.R_drew)); exact HO_17.out) hb); have n1_ := Aside0.mk (below_step (by repeat (first | (with_reducible first | apply below_alloc | apply pw_below_drewN | apply below_drew1) | exact HB.out)) hb); clear HO_17; clear HB; have HO_17 := n0_; have HB := n1_; clear n0_ n1_; (try clear hb); (try clear hb2); (try clear hk); (try clear hi); obtain ⟨Ao54, co54, eo54⟩ := Kd.R_slice HO_17.out; subst eo54) | (go_at_call 17; (with_reducible refine (laws_uRises.calls kj34 _ _ t435 true _ ?side1 ?side2 A50.out).mono ?_); (case side1 => repeat (first | exact (Kd.R_reads' HO_17.out).2.2 | (with_reducible refine Kd.C_alloc ?_ _) | (with_reducible refine Kd.C_drewN ?_ _) | (with_reducible refine Kd.C_drew ?_))); (case side2 => exact (Kd.R_reads' HO_17.out).2.1); rintro e w' ⟨rfl, ⟨nd, rfl⟩⟩; (try first | exact ⟨rfl, _, World.drewN_drewN _ _ _⟩ | exact ⟨rfl, _, Eq.trans (World.drewN_drewN _ _ _) (congrArg (World.drewN _) (Nat.add_assoc _ _ _))⟩)))
            repeat (go_quiet (first | (go_at_call 16; (with_reducible refine (impl_PetalsOf.calls t423 t424 t450 true _ A48.out).mono ?_); rintro e w53 ⟨rfl, hb⟩; have n0_ := Aside0.mk (Kd.R_below (by (with_reducible repeat (first | apply Kd.R_alloc | apply Kd.R_drewN | apply Kd.R_drew)); exact HO_17.out) hb); have n1_ := Aside0.mk (below_step (by repeat (first | (with_reducible first | apply below_alloc | apply pw_below_drewN | apply below_drew1) | exact HB.out)) hb); clear HO_17; clear HB; have HO_17 := n0_; have HB := n1_; clear n0_ n1_; (try clear hb); (try clear hb2); (try clear hk); (try clear hi); obtain ⟨Ao54, co54, eo54⟩ := Kd.R_slice HO_17.out; subst eo54) | (go_at_call 17; (with_reducible refine (laws_uRises.calls kj34 _ _ t435 true _ ?side1 ?side2 A50.out).mono ?_); (case side1 => repeat (first | exact (Kd.R_reads' HO_17.out).2.2 | (with_reducible refine Kd.C_alloc ?_ _) | (with_reducible refine Kd.C_drewN ?_ _) | (with_reducible refine Kd.C_drew ?_))); (case side2 => exact (Kd.R_reads' HO_17.out).2.1); rintro e w' ⟨rfl, ⟨nd, rfl⟩⟩; (try first | exact ⟨rfl, _, World.drewN_drewN _ _ _⟩ | exact ⟨rfl, _, Eq.trans (World.drewN_drewN _ _ _) (congrArg (World.drewN _) (Nat.add_assoc _ _ _))⟩))); try go_wp2_with (first | (go_at_call 16; (with_reducible refine (impl_PetalsOf.calls t423 t424 t450 true _ A48.out).mono ?_); rintro e w53 ⟨rfl, hb⟩; have n0_ := Aside0.mk (Kd.R_below (by (with_reducible repeat (first | apply Kd.R_alloc | apply Kd.R_drewN | apply Kd.R_drew)); exact HO_17.out) hb); have n1_ := Aside0.mk (below_step (by repeat (first | (with_reducible first | apply below_alloc | apply pw_below_drewN | apply below_drew1) | exact HB.out)) hb); clear HO_17; clear HB; have HO_17 := n0_; have HB := n1_; clear n0_ n1_; (try clear hb); (try clear hb2); (try clear hk); (try clear hi); obtain ⟨Ao54, co54, eo54⟩ := Kd.R_slice HO_17.out; subst eo54) | (go_at_call 17; (with_reducible refine (laws_uRises.calls kj34 _ _ t435 true _ ?side1 ?side2 A50.out).mono ?_); (case side1 => repeat (first | exact (Kd.R_reads' HO_17.out).2.2 | (with_reducible refine Kd.C_alloc ?_ _) | (with_reducible refine Kd.C_drewN ?_ _) | (with_reducible refine Kd.C_drew ?_))); (case side2 => exact (Kd.R_reads' HO_17.out).2.1); rintro e w' ⟨rfl, ⟨nd, rfl⟩⟩; (try first | exact ⟨rfl, _, World.drewN_drewN _ _ _⟩ | exact ⟨rfl, _, Eq.trans (World.drewN_drewN _ _ _) (congrArg (World.drewN _) (Nat.add_assoc _ _ _))⟩))))
            go_meet
            case rel => exact ⟨_, H', ⟨by have := HJ11.out; have := HJ34.out; first | omega | exact Nat.le_refl _⟩, ⟨by repeat (first | (with_reducible first | apply below_alloc | apply pw_below_drewN | apply below_drew1) | exact HB.out)⟩⟩
           ·rw [if_neg c52] at H
            exact absurd H (by simp)
          ·replace c51 := Bool.eq_false_iff.mpr c51
           subst c51
           rw [if_neg (show ¬ (false = true) by decide)] at H
           exact absurd H (by simp)
         ·replace c49 := Bool.eq_false_iff.mpr c49
          subst c49
          rw [if_neg (show ¬ (false = true) by decide)] at H
          exact absurd H (by simp)
        ·as_aux_lemma =>
         replace c47 := Bool.eq_false_iff.mpr c47
         subst c47
         rw [if_neg (show ¬ (false = true) by decide)] at H
         have H' := Aside0.mk H
         clear H
         go_wp2
         repeat (go_quiet (fail); try go_wp2)
         go_meet
         case rel => exact ⟨_, H', ⟨by have := HJ11.out; have := HJ34.out; first | omega | exact Nat.le_refl _⟩, ⟨by repeat (first | (with_reducible first | apply below_alloc | apply pw_below_drewN | apply below_drew1) | exact HB.out)⟩⟩
       case rest =>
        as_aux_lemma =>
        clear HC46
        try clear c1
        try clear c2
        try clear p2
        try clear c3
        try clear c4
        try clear c5
        try clear p6
        try clear c18
        try clear c18b0
        try clear c18b1
        try clear c18b2
        try clear c19
        try clear c19b0
        try clear c19b1
        try clear c20
        try clear c20b0
        try clear c20b1
        try clear c20b2
        try clear c21
        try clear c21b0
        try clear c21b1
        try clear c21b2
        try clear c22
        try clear c22b0
        try clear c22b1
        try clear c22b2
        try clear c24
        try clear c25
        try clear c26
        try clear c26b0
        try clear c26b1
        try clear c26b2
        try clear c27
        try clear c31
        try clear c31b0
        try clear c31b1
        try clear c31b2
        try clear c34
        try clear c36
        try clear c39
        try clear c40
        try clear c40b0
        try clear c40b1
        try clear c41
        try clear c41b0
        try clear c41b1
        try clear c42
        try clear c43
        try clear c43b0
        try clear c47
        try clear c49
        try clear c51
        try clear c52
        try clear c52b0
        try clear c52b1
        try clear p2
        try clear p6
        obtain ⟨kq, HA, HJ45, HB⟩ := hcut
        cases kq with
        | zero => exact absurd HA.out (by simp [laws_FnGearsMeet.j2])
        | succ kj45 =>
         have H := HA.out
         clear HA
         simp only [laws_FnGearsMeet.j2] at H
         replace H := Option.bind_eq_some_iff.mp H
         obtain ⟨⟨t453, t456⟩, A550, H⟩ := H
         (try dsimp only at H)
         have A55 := Aside0.mk A550
         clear A550
         replace H := Option.bind_eq_some_iff.mp H
         obtain ⟨⟨t457, t458, t459⟩, A560, H⟩ := H
         (try dsimp only at H)
         have A56 := Aside0.mk A560
         clear A560
         replace H := Option.bind_eq_some_iff.mp H
         obtain ⟨⟨t464, t465, t466⟩, A570, H⟩ := H
         (try dsimp only at H)
         have A57 := Aside0.mk A570
         clear A570
         replace H := Option.bind_eq_some_iff.mp H
         obtain ⟨⟨t471, t474⟩, A580, H⟩ := H
         (try dsimp only at H)
         have A58 := Aside0.mk A580
         clear A580
         replace H := Option.bind_eq_some_iff.mp H
         obtain ⟨⟨t475, t476⟩, A590, H⟩ := H
         (try dsimp only at H)
         have A59 := Aside0.mk A590
         clear A590
         replace H := Option.bind_eq_some_iff.mp H
         obtain ⟨⟨t479, t480⟩, A600, H⟩ := H
         (try dsimp only at H)
         have A60 := Aside0.mk A600
         clear A600
         replace H := Option.bind_eq_some_iff.mp H
         obtain ⟨t483, A610, H⟩ := H
         (try dsimp only at H)
         have A61 := Aside0.mk A610
         clear A610
         replace H := Option.bind_eq_some_iff.mp H
         obtain ⟨⟨t486, t487⟩, A620, H⟩ := H
         (try dsimp only at H)
         have A62 := Aside0.mk A620
         clear A620
         replace H := Option.bind_eq_some_iff.mp H
         obtain ⟨⟨t488, t489⟩, A630, H⟩ := H
         (try dsimp only at H)
         have A63 := Aside0.mk A630
         clear A630
         replace H := Option.bind_eq_some_iff.mp H
         obtain ⟨⟨t490, t491⟩, A640, H⟩ := H
         (try dsimp only at H)
         have A64 := Aside0.mk A640
         clear A640
         replace H := Option.bind_eq_some_iff.mp H
         obtain ⟨⟨t492, t493⟩, A650, H⟩ := H
         (try dsimp only at H)
         have A65 := Aside0.mk A650
         clear A650
         replace H := Option.bind_eq_some_iff.mp H
         obtain ⟨⟨t494, t497⟩, A660, H⟩ := H
         (try dsimp only at H)
         have A66 := Aside0.mk A660
         clear A660
         replace H := Option.bind_eq_some_iff.mp H
         obtain ⟨⟨t500, t501⟩, A670, H⟩ := H
         (try dsimp only at H)
         have A67 := Aside0.mk A670
         clear A670
         replace H := Option.bind_eq_some_iff.mp H
         obtain ⟨⟨t502, t503⟩, A680, H⟩ := H
         (try dsimp only at H)
         have A68 := Aside0.mk A680
         clear A680
         by_cases c69 : (t459 != t466) = true
         ·rw [if_pos c69] at H
          exact absurd H (by simp)
         ·rw [if_neg c69] at H
          have c69b0 : (t459 != t466) = false := by simpa using c69
          (try (have c69b1 : decide (t459 = t466) = true := by simpa using c69))
          (try (have c69b2 : (t459 == t466) = true := by simpa using c69))
          clear c69
          replace H := Option.bind_eq_some_iff.mp H
          obtain ⟨t504, A700, H⟩ := H
          (try dsimp only at H)
          have A70 := Aside0.mk A700
          clear A700
          by_cases c71 : t504 = true
          ·subst c71
           rw [if_pos rfl] at H
           replace H := Option.bind_eq_some_iff.mp H
           obtain ⟨t505, A720, H⟩ := H
           (try dsimp only at H)
           have A72 := Aside0.mk A720
           clear A720
           by_cases c73 : t505 = true
           ·subst c73
            rw [if_pos rfl] at H
            by_cases c74 : (t476 != t480) = true
            ·rw [if_pos c74] at H
             exact absurd H (by simp)
            ·rw [if_neg c74] at H
             have c74b0 : (t476 != t480) = false := by simpa using c74
             (try (have c74b1 : decide (t476 = t480) = true := by simpa using c74))
             (try (have c74b2 : (t476 == t480) = true := by simpa using c74))
             clear c74
             replace H := Option.bind_eq_some_iff.mp H
             obtain ⟨t506, A750, H⟩ := H
             (try dsimp only at H)
             have A75 := Aside0.mk A750
             clear A750
             by_cases c76 : t506 = true
             ·subst c76
              rw [if_pos rfl] at H
              by_cases c77 : (t487 != t489) = true
              ·rw [if_pos c77] at H
               exact absurd H (by simp)
              ·rw [if_neg c77] at H
               have c77b0 : (t487 != t489) = false := by simpa using c77
               (try (have c77b1 : decide (t487 = t489) = true := by simpa using c77))
               (try (have c77b2 : (t487 == t489) = true := by simpa using c77))
               clear c77
               by_cases c78 : t486 = t488
               ·rw [if_pos c78] at H
                have c78b0 : (t486 == t488) = true := beq_iff_eq.mpr c78
                have c78b1 : (t486 != t488) = false := bne_eq_false_iff_eq.mpr c78
                clear c78
                by_cases c79 : (t491 != t493) = true
                ·rw [if_pos c79] at H
                 exact absurd H (by simp)
                ·rw [if_neg c79] at H
                 have c79b0 : (t491 != t493) = false := by simpa using c79
                 (try (have c79b1 : decide (t491 = t493) = true := by simpa using c79))
                 (try (have c79b2 : (t491 == t493) = true := by simpa using c79))
                 clear c79
                 by_cases c80 : t490 = t492
                 ·rw [if_pos c80] at H
                  have c80b0 : (t490 == t492) = true := beq_iff_eq.mpr c80
                  have c80b1 : (t490 != t492) = false := bne_eq_false_iff_eq.mpr c80
                  clear c80
                  by_cases c81 : (t491 != t487) = true
                  ·rw [if_pos c81] at H
                   exact absurd H (by simp)
                  ·rw [if_neg c81] at H
                   have c81b0 : (t491 != t487) = false := by simpa using c81
                   (try (have c81b1 : decide (t491 = t487) = true := by simpa using c81))
                   (try (have c81b2 : (t491 == t487) = true := by simpa using c81))
                   clear c81
                   by_cases c82 : (t501 != t503) = true
                   ·rw [if_pos c82] at H
                    exact absurd H (by simp)
                   ·rw [if_neg c82] at H
                    have c82b0 : (t501 != t503) = false := by simpa using c82
                    (try (have c82b1 : decide (t501 = t503) = true := by simpa using c82))
                    (try (have c82b2 : (t501 == t503) = true := by simpa using c82))
                    clear c82
                    by_cases c83 : (t500 != t502) = true
                    ·rw [if_pos c83] at H
                     exact absurd H (by simp)
                    ·as_aux_lemma =>
                     rw [if_neg c83] at H
                     have c83b0 : (t500 != t502) = false := by simpa using c83
                     (try (have c83b1 : decide (t500 = t502) = true := by simpa using c83))
                     (try (have c83b2 : (t500 == t502) = true := by simpa using c83))
                     clear c83
                     have HC84 := Aside0.mk H
                     clear H
                     go_upto_if 376 with (first | (go_at_call 18; (with_reducible refine (spec_DrawTrainTurns.calls kj45 _ _ l1 t453 t456 _ ?side1 ?side2 A55.out).mono ?_); (case side1 => repeat (first | exact (Kd.C_below HR1.out HB.out) | (with_reducible refine Kd.C_alloc ?_ _) | (with_reducible refine Kd.C_drewN ?_ _) | (with_reducible refine Kd.C_drew ?_))); (case side2 => exact HC1.out); rintro e w85 ⟨v454, rfl, ho0, hb⟩; have n0_ := Aside0.mk (Kd.V_lower (Kd.V_mono (ok' := fun k_ => True) ho0 (fun k_ hk_ => trivial)) (below_size (by repeat (first | (with_reducible first | apply below_alloc | apply pw_below_drewN | apply below_drew1) | exact HB.out)))); have n1_ := Aside0.mk (below_step (by repeat (first | (with_reducible first | apply below_alloc | apply pw_below_drewN | apply below_drew1) | exact HB.out)) hb); clear HB; have HO455 := n0_; have HB := n1_; clear n0_ n1_; (try clear hb); (try clear hb2); (try clear hk); (try clear hi); (try clear ho0); obtain ⟨Ao86, co86, eo86⟩ := Kd.V_slice HO455.out; subst eo86) | (go_at_call 19; (with_reducible refine (impl_TrainTurns.calls kj45 _ _ t453 t456 t457 t458 t459 _ ?side1 ?side2 A56.out).mono ?_); (case side1 => repeat (first | exact (Kd.V_reads' HO455.out).2.2 | (with_reducible refine Kd.C_alloc ?_ _) | (with_reducible refine Kd.C_drewN ?_ _) | (with_reducible refine Kd.C_drew ?_))); (case side2 => exact (Kd.V_reads' HO455.out).2.1); rintro e w87 ⟨v460, v462, rfl, ho0, ho1, hb⟩; have n0_ := Aside0.mk (Kd.V_mono (Kd.V_told (Kd.V_told (Kd.V_old (by (with_reducible repeat (first | apply Kd.V_alloc | apply Kd.V_drewN | apply Kd.V_drew)); exact HO455.out) hb) (Kd.R_base ho0)) (Kd.R_base ho1)) (fun _ h_ => by first | exact h_.1 | exact ⟨trivial, h_.1⟩)); have n1_ := Aside0.mk (Kd.R_lower ho0 (below_size (by repeat (first | (with_reducible first | apply below_alloc | apply pw_below_drewN | apply below_drew1) | exact HB.out)))); have n2_ := Aside0.mk (Kd.R_lower ho1 (below_size (by repeat (first | (with_reducible first | apply below_alloc | apply pw_below_drewN | apply below_drew1) | exact HB.out)))); have n3_ := Aside0.mk (below_step (by repeat (first | (with_reducible first | apply below_alloc | apply pw_below_drewN | apply below_drew1) | exact HB.out)) hb); clear HO455; clear HB; have HO455 := n0_; have HO461 := n1_; have HO463 := n2_; have HB := n3_; clear n0_ n1_ n2_ n3_; (try clear hb); (try clear hb2); (try clear hk); (try clear hi); (try clear ho0); (try clear ho1)) | (go_at_call 20; (with_reducible refine (spec_TrainTurns.calls kj45 _ _ t453 t456 t464 t465 t466 _ ?side1 ?side2 A57.out).mono ?_); (case side1 => repeat (first | exact (Kd.V_reads' HO455.out).2.2 | (with_reducible refine Kd.C_alloc ?_ _) | (with_reducible refine Kd.C_drewN ?_ _) | (with_reducible refine Kd.C_drew ?_))); (case side2 => exact (Kd.V_reads' HO455.out).2.1); rintro e w88 ⟨v467, v469, rfl, ho0, ho1, hb⟩; have n0_ := Aside0.mk (Kd.V_mono (Kd.V_told (Kd.V_told (Kd.V_old (by (with_reducible repeat (first | apply Kd.V_alloc | apply Kd.V_drewN | apply Kd.V_drew)); exact HO455.out) hb) (Kd.R_base ho0)) (Kd.R_base ho1)) (fun _ h_ => by first | exact h_.1 | exact ⟨trivial, h_.1⟩)); have n1_ := Aside0.mk (Kd.R_mono (Kd.R_told (Kd.R_told (Kd.R_old (by (with_reducible repeat (first | apply Kd.R_alloc | apply Kd.R_drewN | apply Kd.R_drew)); exact HO461.out) hb) (Kd.R_base ho0)) (Kd.R_base ho1)) (fun _ h_ => by first | exact h_.1 | exact ⟨trivial, h_.1⟩)); have n2_ := Aside0.mk (Kd.R_mono (Kd.R_told (Kd.R_told (Kd.R_old (by (with_reducible repeat (first | apply Kd.R_alloc | apply Kd.R_drewN | apply Kd.R_drew)); exact HO463.out) hb) (Kd.R_base ho0)) (Kd.R_base ho1)) (fun _ h_ => by first | exact h_.1 | exact ⟨trivial, h_.1⟩)); have n3_ := Aside0.mk (Kd.R_lower (Kd.R_new' (Kd.R_new' ho0 (Kd.R_lt (by (with_reducible repeat (first | apply Kd.R_alloc | apply Kd.R_drewN | apply Kd.R_drew)); exact HO461.out))) (Kd.R_lt (by (with_reducible repeat (first | apply Kd.R_alloc | apply Kd.R_drewN | apply Kd.R_drew)); exact HO463.out))) (below_size (by repeat (first | (with_reducible first | apply below_alloc | apply pw_below_drewN | apply below_drew1) | exact HB.out)))); have n4_ := Aside0.mk (Kd.R_lower (Kd.R_new' (Kd.R_new' ho1 (Kd.R_lt (by (with_reducible repeat (first | apply Kd.R_alloc | apply Kd.R_drewN | apply Kd.R_drew)); exact HO461.out))) (Kd.R_lt (by (with_reducible repeat (first | apply Kd.R_alloc | apply Kd.R_drewN | apply Kd.R_drew)); exact HO463.out))) (below_size (by repeat (first | (with_reducible first | apply below_alloc | apply pw_below_drewN | apply below_drew1) | exact HB.out)))); have n5_ := Aside0.mk (below_step (by repeat (first | (with_reducible first | apply below_alloc | apply pw_below_drewN | apply below_drew1) | exact HB.out)) hb); clear HO455; clear HO461; clear HO463; clear HB; have HO455 := n0_; have HO461 := n1_; have HO463 := n2_; have HO468 := n3_; have HO470 := n4_; have HB := n5_; clear n0_ n1_ n2_ n3_ n4_ n5_; (try clear hb); (try clear hb2); (try clear hk); (try clear hi); (try clear ho0); (try clear ho1)) | (go_at_call 21; (with_reducible refine (spec_DrawTrainTeeth.calls kj45 _ _ l1 t471 t474 _ ?side1 ?side2 A58.out).mono ?_); (case side1 => repeat (first | exact (Kd.C_below HR1.out HB.out) | (with_reducible refine Kd.C_alloc ?_ _) | (with_reducible refine Kd.C_drewN ?_ _) | (with_reducible refine Kd.C_drew ?_))); (case side2 => exact HC1.out); rintro e w89 ⟨v472, rfl, ho0, hb⟩; have n0_ := Aside0.mk (Kd.V_below (by (with_reducible repeat (first | apply Kd.V_alloc | apply Kd.V_drewN | apply Kd.V_drew)); exact HO455.out) hb); have n1_ := Aside0.mk (Kd.R_below (by (with_reducible repeat (first | apply Kd.R_alloc | apply Kd.R_drewN | apply Kd.R_drew)); exact HO461.out) hb); have n2_ := Aside0.mk (Kd.R_below (by (with_reducible repeat (first | apply Kd.R_alloc | apply Kd.R_drewN | apply Kd.R_drew)); exact HO463.out) hb); have n3_ := Aside0.mk (Kd.R_below (by (with_reducible repeat (first | apply Kd.R_alloc | apply Kd.R_drewN | apply Kd.R_drew)); exact HO468.out) hb); have n4_ := Aside0.mk (Kd.R_below (by (with_reducible repeat (first | apply Kd.R_alloc | apply Kd.R_drewN | apply Kd.R_drew)); exact HO470.out) hb); have n5_ := Aside0.mk (Kd.V_lower (Kd.V_mono (ok' := fun k_ => some k_ ≠ (v460 : Value).ownBlock ∧ some k_ ≠ (v462 : Value).ownBlock ∧ some k_ ≠ (v467 : Value).ownBlock ∧ some k_ ≠ (v469 : Value).ownBlock) ho0 (fun k_ hk_ => ⟨(Kd.fresh' (Kd.R_lt (by (with_reducible repeat (first | apply Kd.R_alloc | apply Kd.R_drewN | apply Kd.R_drew)); exact HO461.out)) k_ hk_), (Kd.fresh' (Kd.R_lt (by (with_reducible repeat (first | apply Kd.R_alloc | apply Kd.R_drewN | apply Kd.R_drew)); exact HO463.out)) k_ hk_), (Kd.fresh' (Kd.R_lt (by (with_reducible repeat (first | apply Kd.R_alloc | apply Kd.R_drewN | apply Kd.R_drew)); exact HO468.out)) k_ hk_), (Kd.fresh' (Kd.R_lt (by (with_reducible repeat (first | apply Kd.R_alloc | apply Kd.R_drewN | apply Kd.R_drew)); exact HO470.out)) k_ hk_)⟩)) (below_size (by repeat (first | (with_reducible first | apply below_alloc | apply pw_below_drewN | apply below_drew1) | exact HB.out)))); have n6_ := Aside0.mk (below_step (by repeat (first | (with_reducible first | apply below_alloc | apply pw_below_drewN | apply below_drew1) | exact HB.out)) hb); clear HO455; clear HO461; clear HO463; clear HO468; clear HO470; clear HB; have HO455 := n0_; have HO461 := n1_; have HO463 := n2_; have HO468 := n3_; have HO470 := n4_; have HO473 := n5_; have HB := n6_; clear n0_ n1_ n2_ n3_ n4_ n5_ n6_; (try clear hb); (try clear hb2); (try clear hk); (try clear hi); (try clear ho0); obtain ⟨Ao90, co90, eo90⟩ := Kd.V_slice HO473.out; subst eo90) | (go_at_call 22; (with_reducible refine (impl_TrainTeeth.calls kj45 _ _ t471 t474 t475 t476 _ ?side1 ?side2 A59.out).mono ?_); (case side1 => repeat (first | exact (Kd.V_reads' HO473.out).2.2 | (with_reducible refine Kd.C_alloc ?_ _) | (with_reducible refine Kd.C_drewN ?_ _) | (with_reducible refine Kd.C_drew ?_))); (case side2 => exact (Kd.V_reads' HO473.out).2.1); rintro e w91 ⟨v477, rfl, ho0, hb⟩; have n0_ := Aside0.mk (Kd.V_elder' (by (with_reducible repeat (first | apply Kd.V_alloc | apply Kd.V_drewN | apply Kd.V_drew)); exact HO455.out) (Kd.R_base ho0) hb); have n1_ := Aside0.mk (Kd.R_elder' (by (with_reducible repeat (first | apply Kd.R_alloc | apply Kd.R_drewN | apply Kd.R_drew)); exact HO461.out) (Kd.R_base ho0) hb); have n2_ := Aside0.mk (Kd.R_elder' (by (with_reducible repeat (first | apply Kd.R_alloc | apply Kd.R_drewN | apply Kd.R_drew)); exact HO463.out) (Kd.R_base ho0) hb); have n3_ := Aside0.mk (Kd.R_elder' (by (with_reducible repeat (first | apply Kd.R_alloc | apply Kd.R_drewN | apply Kd.R_drew)); exact HO468.out) (Kd.R_base ho0) hb); have n4_ := Aside0.mk (Kd.R_elder' (by (with_reducible repeat (first | apply Kd.R_alloc | apply Kd.R_drewN | apply Kd.R_drew)); exact HO470.out) (Kd.R_base ho0) hb); have n5_ := Aside0.mk (Kd.V_elder' (by (with_reducible repeat (first | apply Kd.V_alloc | apply Kd.V_drewN | apply Kd.V_drew)); exact HO473.out) (Kd.R_base ho0) hb); have n6_ := Aside0.mk (Kd.R_lower (Kd.R_new' (Kd.R_new' (Kd.R_new' (Kd.R_new' ho0 (Kd.R_lt (by (with_reducible repeat (first | apply Kd.R_alloc | apply Kd.R_drewN | apply Kd.R_drew)); exact HO461.out))) (Kd.R_lt (by (with_reducible repeat (first | apply Kd.R_alloc | apply Kd.R_drewN | apply Kd.R_drew)); exact HO463.out))) (Kd.R_lt (by (with_reducible repeat (first | apply Kd.R_alloc | apply Kd.R_drewN | apply Kd.R_drew)); exact HO468.out))) (Kd.R_lt (by (with_reducible repeat (first | apply Kd.R_alloc | apply Kd.R_drewN | apply Kd.R_drew)); exact HO470.out))) (below_size (by repeat (first | (with_reducible first | apply below_alloc | apply pw_below_drewN | apply below_drew1) | exact HB.out)))); have n7_ := Aside0.mk (below_step (by repeat (first | (with_reducible first | apply below_alloc | apply pw_below_drewN | apply below_drew1) | exact HB.out)) hb); clear HO455; clear HO461; clear HO463; clear HO468; clear HO470; clear HO473; clear HB; have HO455 := n0_; have HO461 := n1_; have HO463 := n2_; have HO468 := n3_; have HO470 := n4_; have HO473 := n5_; have HO478 := n6_; have HB := n7_; clear n0_ n1_ n2_ n3_ n4_ n5_ n6_ n7_; (try clear hb); (try clear hb2); (try clear hk); (try clear hi); (try clear ho0)) | (go_at_call 23; (with_reducible refine (spec_TrainTeeth.calls kj45 _ _ t471 t474 t479 t480 _ ?side1 ?side2 A60.out).mono ?_); (case side1 => repeat (first | exact (Kd.V_reads' HO473.out).2.2 | (with_reducible refine Kd.C_alloc ?_ _) | (with_reducible refine Kd.C_drewN ?_ _) | (with_reducible refine Kd.C_drew ?_))); (case side2 => exact (Kd.V_reads' HO473.out).2.1); rintro e w92 ⟨v481, rfl, ho0, hb⟩; have n0_ := Aside0.mk (Kd.V_elder' (by (with_reducible repeat (first | apply Kd.V_alloc | apply Kd.V_drewN | apply Kd.V_drew)); exact HO455.out) (Kd.R_base ho0) hb); have n1_ := Aside0.mk (Kd.R_elder' (by (with_reducible repeat (first | apply Kd.R_alloc | apply Kd.R_drewN | apply Kd.R_drew)); exact HO461.out) (Kd.R_base ho0) hb); have n2_ := Aside0.mk (Kd.R_elder' (by (with_reducible repeat (first | apply Kd.R_alloc | apply Kd.R_drewN | apply Kd.R_drew)); exact HO463.out) (Kd.R_base ho0) hb); have n3_ := Aside0.mk (Kd.R_elder' (by (with_reducible repeat (first | apply Kd.R_alloc | apply Kd.R_drewN | apply Kd.R_drew)); exact HO468.out) (Kd.R_base ho0) hb); have n4_ := Aside0.mk (Kd.R_elder' (by (with_reducible repeat (first | apply Kd.R_alloc | apply Kd.R_drewN | apply Kd.R_drew)); exact HO470.out) (Kd.R_base ho0) hb); have n5_ := Aside0.mk (Kd.V_elder' (by (with_reducible repeat (first | apply Kd.V_alloc | apply Kd.V_drewN | apply Kd.V_drew)); exact HO473.out) (Kd.R_base ho0) hb); have n6_ := Aside0.mk (Kd.R_elder' (by (with_reducible repeat (first | apply Kd.R_alloc | apply Kd.R_drewN | apply Kd.R_drew)); exact HO478.out) (Kd.R_base ho0) hb); have n7_ := Aside0.mk (Kd.R_lower (Kd.R_new' (Kd.R_new' (Kd.R_new' (Kd.R_new' (Kd.R_new' ho0 (Kd.R_lt (by (with_reducible repeat (first | apply Kd.R_alloc | apply Kd.R_drewN | apply Kd.R_drew)); exact HO461.out))) (Kd.R_lt (by (with_reducible repeat (first | apply Kd.R_alloc | apply Kd.R_drewN | apply Kd.R_drew)); exact HO463.out))) (Kd.R_lt (by (with_reducible repeat (first | apply Kd.R_alloc | apply Kd.R_drewN | apply Kd.R_drew)); exact HO468.out))) (Kd.R_lt (by (with_reducible repeat (first | apply Kd.R_alloc | apply Kd.R_drewN | apply Kd.R_drew)); exact HO470.out))) (Kd.R_lt (by (with_reducible repeat (first | apply Kd.R_alloc | apply Kd.R_drewN | apply Kd.R_drew)); exact HO478.out))) (below_size (by repeat (first | (with_reducible first | apply below_alloc | apply pw_below_drewN | apply below_drew1) | exact HB.out)))); have n8_ := Aside0.mk (below_step (by repeat (first | (with_reducible first | apply below_alloc | apply pw_below_drewN | apply below_drew1) | exact HB.out)) hb); clear HO455; clear HO461; clear HO463; clear HO468; clear HO470; clear HO473; clear HO478; clear HB; have HO455 := n0_; have HO461 := n1_; have HO463 := n2_; have HO468 := n3_; have HO470 := n4_; have HO473 := n5_; have HO478 := n6_; have HO482 := n7_; have HB := n8_; clear n0_ n1_ n2_ n3_ n4_ n5_ n6_ n7_ n8_; (try clear hb); (try clear hb2); (try clear hk); (try clear hi); (try clear ho0)) | (go_at_call 24; (with_reducible refine (spec_DrawTrainPeriod.calls kj45 _ _ l1 t483 _ ?side1 ?side2 A61.out).mono ?_); (case side1 => repeat (first | exact (Kd.C_below HR1.out HB.out) | (with_reducible refine Kd.C_alloc ?_ _) | (with_reducible refine Kd.C_drewN ?_ _) | (with_reducible refine Kd.C_drew ?_))); (case side2 => exact HC1.out); rintro e w93 ⟨v484, rfl, ho0, hb⟩; have n0_ := Aside0.mk (Kd.V_below (by (with_reducible repeat (first | apply Kd.V_alloc | apply Kd.V_drewN | apply Kd.V_drew)); exact HO455.out) hb); have n1_ := Aside0.mk (Kd.R_below (by (with_reducible repeat (first | apply Kd.R_alloc | apply Kd.R_drewN | apply Kd.R_drew)); exact HO461.out) hb); have n2_ := Aside0.mk (Kd.R_below (by (with_reducible repeat (first | apply Kd.R_alloc | apply Kd.R_drewN | apply Kd.R_drew)); exact HO463.out) hb); have n3_ := Aside0.mk (Kd.R_below (by (with_reducible repeat (first | apply Kd.R_alloc | apply Kd.R_drewN | apply Kd.R_drew)); exact HO468.out) hb); have n4_ := Aside0.mk (Kd.R_below (by (with_reducible repeat (first | apply Kd.R_alloc | apply Kd.R_drewN | apply Kd.R_drew)); exact HO470.out) hb); have n5_ := Aside0.mk (Kd.V_below (by (with_reducible repeat (first | apply Kd.V_alloc | apply Kd.V_drewN | apply Kd.V_drew)); exact HO473.out) hb); have n6_ := Aside0.mk (Kd.R_below (by (with_reducible repeat (first | apply Kd.R_alloc | apply Kd.R_drewN | apply Kd.R_drew)); exact HO478.out) hb); have n7_ := Aside0.mk (Kd.R_below (by (with_reducible repeat (first | apply Kd.R_alloc | apply Kd.R_drewN | apply Kd.R_drew)); exact HO482.out) hb); have n8_ := Aside0.mk (Kd.V_lower (Kd.V_mono (ok' := fun k_ => some k_ ≠ (v460 : Value).ownBlock ∧ some k_ ≠ (v462 : Value).ownBlock ∧ some k_ ≠ (v467 : Value).ownBlock ∧ some k_ ≠ (v469 : Value).ownBlock ∧ some k_ ≠ (v477 : Value).ownBlock ∧ some k_ ≠ (v481 : Value).ownBlock) ho0 (fun k_ hk_ => ⟨(Kd.fresh' (Kd.R_lt (by (with_reducible repeat (first | apply Kd.R_alloc | apply Kd.R_drewN | apply Kd.R_drew)); exact HO461.out)) k_ hk_), (Kd.fresh' (Kd.R_lt (by (with_reducible repeat (first | apply Kd.R_alloc | apply Kd.R_drewN | apply Kd.R_drew)); exact HO463.out)) k_ hk_), (Kd.fresh' (Kd.R_lt (by (with_reducible repeat (first | apply Kd.R_alloc | apply Kd.R_drewN | apply Kd.R_drew)); exact HO468.out)) k_ hk_), (Kd.fresh' (Kd.R_lt (by (with_reducible repeat (first | apply Kd.R_alloc | apply Kd.R_drewN | apply Kd.R_drew)); exact HO470.out)) k_ hk_), (Kd.fresh' (Kd.R_lt (by (with_reducible repeat (first | apply Kd.R_alloc | apply Kd.R_drewN | apply Kd.R_drew)); exact HO478.out)) k_ hk_), (Kd.fresh' (Kd.R_lt (by (with_reducible repeat (first | apply Kd.R_alloc | apply Kd.R_drewN | apply Kd.R_drew)); exact HO482.out)) k_ hk_)⟩)) (below_size (by repeat (first | (with_reducible first | apply below_alloc | apply pw_below_drewN | apply below_drew1) | exact HB.out)))); have n9_ := Aside0.mk (below_step (by repeat (first | (with_reducible first | apply below_alloc | apply pw_below_drewN | apply below_drew1) | exact HB.out)) hb); clear HO455; clear HO461; clear HO463; clear HO468; clear HO470; clear HO473; clear HO478; clear HO482; clear HB; have HO455 := n0_; have HO461 := n1_; have HO463 := n2_; have HO468 := n3_; have HO470 := n4_; have HO473 := n5_; have HO478 := n6_; have HO482 := n7_; have HO485 := n8_; have HB := n9_; clear n0_ n1_ n2_ n3_ n4_ n5_ n6_ n7_ n8_ n9_; (try clear hb); (try clear hb2); (try clear hk); (try clear hi); (try clear ho0); obtain ⟨Ao94, co94, eo94⟩ := Kd.V_slice HO485.out; subst eo94) | (go_at_call 25; (with_reducible refine (impl_TrainPeriod.calls kj45 _ _ t483 t486 t487 _ ?side1 ?side2 A62.out).mono ?_); (case side1 => repeat (first | exact (Kd.V_reads' HO485.out).2.2 | (with_reducible refine Kd.C_alloc ?_ _) | (with_reducible refine Kd.C_drewN ?_ _) | (with_reducible refine Kd.C_drew ?_))); (case side2 => exact (Kd.V_reads' HO485.out).2.1); rintro e w95 ⟨rfl, hb⟩; have n0_ := Aside0.mk (Kd.V_below (by (with_reducible repeat (first | apply Kd.V_alloc | apply Kd.V_drewN | apply Kd.V_drew)); exact HO455.out) hb); have n1_ := Aside0.mk (Kd.R_below (by (with_reducible repeat (first | apply Kd.R_alloc | apply Kd.R_drewN | apply Kd.R_drew)); exact HO461.out) hb); have n2_ := Aside0.mk (Kd.R_below (by (with_reducible repeat (first | apply Kd.R_alloc | apply Kd.R_drewN | apply Kd.R_drew)); exact HO463.out) hb); have n3_ := Aside0.mk (Kd.R_below (by (with_reducible repeat (first | apply Kd.R_alloc | apply Kd.R_drewN | apply Kd.R_drew)); exact HO468.out) hb); have n4_ := Aside0.mk (Kd.R_below (by (with_reducible repeat (first | apply Kd.R_alloc | apply Kd.R_drewN | apply Kd.R_drew)); exact HO470.out) hb); have n5_ := Aside0.mk (Kd.V_below (by (with_reducible repeat (first | apply Kd.V_alloc | apply Kd.V_drewN | apply Kd.V_drew)); exact HO473.out) hb); have n6_ := Aside0.mk (Kd.R_below (by (with_reducible repeat (first | apply Kd.R_alloc | apply Kd.R_drewN | apply Kd.R_drew)); exact HO478.out) hb); have n7_ := Aside0.mk (Kd.R_below (by (with_reducible repeat (first | apply Kd.R_alloc | apply Kd.R_drewN | apply Kd.R_drew)); exact HO482.out) hb); have n8_ := Aside0.mk (Kd.V_below (by (with_reducible repeat (first | apply Kd.V_alloc | apply Kd.V_drewN | apply Kd.V_drew)); exact HO485.out) hb); have n9_ := Aside0.mk (below_step (by repeat (first | (with_reducible first | apply below_alloc | apply pw_below_drewN | apply below_drew1) | exact HB.out)) hb); clear HO455; clear HO461; clear HO463; clear HO468; clear HO470; clear HO473; clear HO478; clear HO482; clear HO485; clear HB; have HO455 := n0_; have HO461 := n1_; have HO463 := n2_; have HO468 := n3_; have HO470 := n4_; have HO473 := n5_; have HO478 := n6_; have HO482 := n7_; have HO485 := n8_; have HB := n9_; clear n0_ n1_ n2_ n3_ n4_ n5_ n6_ n7_ n8_ n9_; (try clear hb); (try clear hb2); (try clear hk); (try clear hi)) | (go_at_call 26; (with_reducible refine (spec_TrainPeriod.calls kj45 _ _ t483 t488 t489 _ ?side1 ?side2 A63.out).mono ?_); (case side1 => repeat (first | exact (Kd.V_reads' HO485.out).2.2 | (with_reducible refine Kd.C_alloc ?_ _) | (with_reducible refine Kd.C_drewN ?_ _) | (with_reducible refine Kd.C_drew ?_))); (case side2 => exact (Kd.V_reads' HO485.out).2.1); rintro e w' ⟨rfl, ⟨nd, rfl⟩⟩; (try first | exact ⟨rfl, _, World.drewN_drewN _ _ _⟩ | exact ⟨rfl, _, Eq.trans (World.drewN_drewN _ _ _) (congrArg (World.drewN _) (Nat.add_assoc _ _ _))⟩)) | (go_at_call 27; (with_reducible refine (impl_LeastTurns.calls kj45 _ _ t483 t490 t491 _ ?side1 ?side2 A64.out).mono ?_); (case side1 => repeat (first | exact (Kd.V_reads' HO485.out).2.2 | (with_reducible refine Kd.C_alloc ?_ _) | (with_reducible refine Kd.C_drewN ?_ _) | (with_reducible refine Kd.C_drew ?_))); (case side2 => exact (Kd.V_reads' HO485.out).2.1); rintro e w96 ⟨rfl, hb⟩; have n0_ := Aside0.mk (Kd.V_below (by (with_reducible repeat (first | apply Kd.V_alloc | apply Kd.V_drewN | apply Kd.V_drew)); exact HO455.out) hb); have n1_ := Aside0.mk (Kd.R_below (by (with_reducible repeat (first | apply Kd.R_alloc | apply Kd.R_drewN | apply Kd.R_drew)); exact HO461.out) hb); have n2_ := Aside0.mk (Kd.R_below (by (with_reducible repeat (first | apply Kd.R_alloc | apply Kd.R_drewN | apply Kd.R_drew)); exact HO463.out) hb); have n3_ := Aside0.mk (Kd.R_below (by (with_reducible repeat (first | apply Kd.R_alloc | apply Kd.R_drewN | apply Kd.R_drew)); exact HO468.out) hb); have n4_ := Aside0.mk (Kd.R_below (by (with_reducible repeat (first | apply Kd.R_alloc | apply Kd.R_drewN | apply Kd.R_drew)); exact HO470.out) hb); have n5_ := Aside0.mk (Kd.V_below (by (with_reducible repeat (first | apply Kd.V_alloc | apply Kd.V_drewN | apply Kd.V_drew)); exact HO473.out) hb); have n6_ := Aside0.mk (Kd.R_below (by (with_reducible repeat (first | apply Kd.R_alloc | apply Kd.R_drewN | apply Kd.R_drew)); exact HO478.out) hb); have n7_ := Aside0.mk (Kd.R_below (by (with_reducible repeat (first | apply Kd.R_alloc | apply Kd.R_drewN | apply Kd.R_drew)); exact HO482.out) hb); have n8_ := Aside0.mk (Kd.V_below (by (with_reducible repeat (first | apply Kd.V_alloc | apply Kd.V_drewN | apply Kd.V_drew)); exact HO485.out) hb); have n9_ := Aside0.mk (below_step (by repeat (first | (with_reducible first | apply below_alloc | apply pw_below_drewN | apply below_drew1) | exact HB.out)) hb); clear HO455; clear HO461; clear HO463; clear HO468; clear HO470; clear HO473; clear HO478; clear HO482; clear HO485; clear HB; have HO455 := n0_; have HO461 := n1_; have HO463 := n2_; have HO468 := n3_; have HO470 := n4_; have HO473 := n5_; have HO478 := n6_; have HO482 := n7_; have HO485 := n8_; have HB := n9_; clear n0_ n1_ n2_ n3_ n4_ n5_ n6_ n7_ n8_ n9_; (try clear hb); (try clear hb2); (try clear hk); (try clear hi)) | (go_at_call 28; (with_reducible refine (spec_LeastTurns.calls kj45 _ _ t483 t492 t493 _ ?side1 ?side2 A65.out).mono ?_); (case side1 => repeat (first | exact (Kd.V_reads' HO485.out).2.2 | (with_reducible refine Kd.C_alloc ?_ _) | (with_reducible refine Kd.C_drewN ?_ _) | (with_reducible refine Kd.C_drew ?_))); (case side2 => exact (Kd.V_reads' HO485.out).2.1); rintro e w' ⟨rfl, ⟨nd, rfl⟩⟩; (try first | exact ⟨rfl, _, World.drewN_drewN _ _ _⟩ | exact ⟨rfl, _, Eq.trans (World.drewN_drewN _ _ _) (congrArg (World.drewN _) (Nat.add_assoc _ _ _))⟩)) | (go_at_call 29; (with_reducible refine (spec_DrawAreInGear.calls kj45 _ _ l1 t494 t497 _ ?side1 ?side2 A66.out).mono ?_); (case side1 => repeat (first | exact (Kd.C_below HR1.out (by repeat (first | (with_reducible first | apply below_alloc | apply pw_below_drewN | apply below_drew1) | exact HB.out))) | (with_reducible refine Kd.C_alloc ?_ _) | (with_reducible refine Kd.C_drewN ?_ _) | (with_reducible refine Kd.C_drew ?_))); (case side2 => exact HC1.out); rintro e w97 ⟨v495, v498, rfl, ho0, ho1, hb⟩; have n0_ := Aside0.mk (Kd.V_elder' (by (with_reducible repeat (first | apply Kd.V_alloc | apply Kd.V_drewN | apply Kd.V_drew)); exact HO455.out) (Kd.R_base ho1) hb); have n1_ := Aside0.mk (Kd.R_elder' (by (with_reducible repeat (first | apply Kd.R_alloc | apply Kd.R_drewN | apply Kd.R_drew)); exact HO461.out) (Kd.R_base ho1) hb); have n2_ := Aside0.mk (Kd.R_elder' (by (with_reducible repeat (first | apply Kd.R_alloc | apply Kd.R_drewN | apply Kd.R_drew)); exact HO463.out) (Kd.R_base ho1) hb); have n3_ := Aside0.mk (Kd.R_elder' (by (with_reducible repeat (first | apply Kd.R_alloc | apply Kd.R_drewN | apply Kd.R_drew)); exact HO468.out) (Kd.R_base ho1) hb); have n4_ := Aside0.mk (Kd.R_elder' (by (with_reducible repeat (first | apply Kd.R_alloc | apply Kd.R_drewN | apply Kd.R_drew)); exact HO470.out) (Kd.R_base ho1) hb); have n5_ := Aside0.mk (Kd.V_elder' (by (with_reducible repeat (first | apply Kd.V_alloc | apply Kd.V_drewN | apply Kd.V_drew)); exact HO473.out) (Kd.R_base ho1) hb); have n6_ := Aside0.mk (Kd.R_elder' (by (with_reducible repeat (first | apply Kd.R_alloc | apply Kd.R_drewN | apply Kd.R_drew)); exact HO478.out) (Kd.R_base ho1) hb); have n7_ := Aside0.mk (Kd.R_elder' (by (with_reducible repeat (first | apply Kd.R_alloc | apply Kd.R_drewN | apply Kd.R_drew)); exact HO482.out) (Kd.R_base ho1) hb); have n8_ := Aside0.mk (Kd.V_elder' (by (with_reducible repeat (first | apply Kd.V_alloc | apply Kd.V_drewN | apply Kd.V_drew)); exact HO485.out) (Kd.R_base ho1) hb); have n9_ := Aside0.mk (Kd.V_lower (Kd.V_mono (ok' := fun k_ => some k_ ≠ (v498 : Value).ownBlock ∧ some k_ ≠ (v460 : Value).ownBlock ∧ some k_ ≠ (v462 : Value).ownBlock ∧ some k_ ≠ (v467 : Value).ownBlock ∧ some k_ ≠ (v469 : Value).ownBlock ∧ some k_ ≠ (v477 : Value).ownBlock ∧ some k_ ≠ (v481 : Value).ownBlock) ho0 (fun k_ hk_ => ⟨hk_.2, (Kd.fresh' (Kd.R_lt (by (with_reducible repeat (first | apply Kd.R_alloc | apply Kd.R_drewN | apply Kd.R_drew)); exact HO461.out)) k_ hk_.1), (Kd.fresh' (Kd.R_lt (by (with_reducible repeat (first | apply Kd.R_alloc | apply Kd.R_drewN | apply Kd.R_drew)); exact HO463.out)) k_ hk_.1), (Kd.fresh' (Kd.R_lt (by (with_reducible repeat (first | apply Kd.R_alloc | apply Kd.R_drewN | apply Kd.R_drew)); exact HO468.out)) k_ hk_.1), (Kd.fresh' (Kd.R_lt (by (with_reducible repeat (first | apply Kd.R_alloc | apply Kd.R_drewN | apply Kd.R_drew)); exact HO470.out)) k_ hk_.1), (Kd.fresh' (Kd.R_lt (by (with_reducible repeat (first | apply Kd.R_alloc | apply Kd.R_drewN | apply Kd.R_drew)); exact HO478.out)) k_ hk_.1), (Kd.fresh' (Kd.R_lt (by (with_reducible repeat (first | apply Kd.R_alloc | apply Kd.R_drewN | apply Kd.R_drew)); exact HO482.out)) k_ hk_.1)⟩)) (below_size (by repeat (first | (with_reducible first | apply below_alloc | apply pw_below_drewN | apply below_drew1) | exact HB.out)))); have n10_ := Aside0.mk (Kd.R_lower (Kd.R_new' (Kd.R_new' (Kd.R_new' (Kd.R_new' (Kd.R_new' (Kd.R_new' (Kd.R_mono (ok' := fun k_ => True) ho1 (fun _ hk_ => trivial)) (Kd.R_lt (by (with_reducible repeat (first | apply Kd.R_alloc | apply Kd.R_drewN | apply Kd.R_drew)); exact HO461.out))) (Kd.R_lt (by (with_reducible repeat (first | apply Kd.R_alloc | apply Kd.R_drewN | apply Kd.R_drew)); exact HO463.out))) (Kd.R_lt (by (with_reducible repeat (first | apply Kd.R_alloc | apply Kd.R_drewN | apply Kd.R_drew)); exact HO468.out))) (Kd.R_lt (by (with_reducible repeat (first | apply Kd.R_alloc | apply Kd.R_drewN | apply Kd.R_drew)); exact HO470.out))) (Kd.R_lt (by (with_reducible repeat (first | apply Kd.R_alloc | apply Kd.R_drewN | apply Kd.R_drew)); exact HO478.out))) (Kd.R_lt (by (with_reducible repeat (first | apply Kd.R_alloc | apply Kd.R_drewN | apply Kd.R_drew)); exact HO482.out))) (below_size (by repeat (first | (with_reducible first | apply below_alloc | apply pw_below_drewN | apply below_drew1) | exact HB.out)))); have n11_ := Aside0.mk (below_step (by repeat (first | (with_reducible first | apply below_alloc | apply pw_below_drewN | apply below_drew1) | exact HB.out)) hb); clear HO455; clear HO461; clear HO463; clear HO468; clear HO470; clear HO473; clear HO478; clear HO482; clear HO485; clear HB; have HO455 := n0_; have HO461 := n1_; have HO463 := n2_; have HO468 := n3_; have HO470 := n4_; have HO473 := n5_; have HO478 := n6_; have HO482 := n7_; have HO485 := n8_; have HO496 := n9_; have HO499 := n10_; have HB := n11_; clear n0_ n1_ n2_ n3_ n4_ n5_ n6_ n7_ n8_ n9_ n10_ n11_; (try clear hb); (try clear hb2); (try clear hk); (try clear hi); (try clear ho0); (try clear ho1); obtain ⟨Ao98, co98, eo98⟩ := Kd.V_slice HO496.out; subst eo98; obtain ⟨Ao99, co99, eo99⟩ := Kd.R_slice HO499.out; subst eo99) | (go_at_call 30; (with_reducible refine (impl_AreInGear.calls kj45 _ _ t494 _ _ t497 t500 t501 _ ?side1 ?side2 ?side3 ?side4 A67.out).mono ?_); (case side1 => repeat (first | exact (Kd.V_reads' HO496.out).2.2 | (with_reducible refine Kd.C_alloc ?_ _) | (with_reducible refine Kd.C_drewN ?_ _) | (with_reducible refine Kd.C_drew ?_))); (case side2 => exact (Kd.V_reads' HO496.out).2.1); (case side3 => repeat (first | exact (Kd.R_reads' HO499.out).2.2 | (with_reducible refine Kd.C_alloc ?_ _) | (with_reducible refine Kd.C_drewN ?_ _) | (with_reducible refine Kd.C_drew ?_))); (case side4 => exact (Kd.R_reads' HO499.out).2.1); rintro e w100 ⟨rfl, hb⟩; have n0_ := Aside0.mk (Kd.V_below (by (with_reducible repeat (first | apply Kd.V_alloc | apply Kd.V_drewN | apply Kd.V_drew)); exact HO455.out) hb); have n1_ := Aside0.mk (Kd.R_below (by (with_reducible repeat (first | apply Kd.R_alloc | apply Kd.R_drewN | apply Kd.R_drew)); exact HO461.out) hb); have n2_ := Aside0.mk (Kd.R_below (by (with_reducible repeat (first | apply Kd.R_alloc | apply Kd.R_drewN | apply Kd.R_drew)); exact HO463.out) hb); have n3_ := Aside0.mk (Kd.R_below (by (with_reducible repeat (first | apply Kd.R_alloc | apply Kd.R_drewN | apply Kd.R_drew)); exact HO468.out) hb); have n4_ := Aside0.mk (Kd.R_below (by (with_reducible repeat (first | apply Kd.R_alloc | apply Kd.R_drewN | apply Kd.R_drew)); exact HO470.out) hb); have n5_ := Aside0.mk (Kd.V_below (by (with_reducible repeat (first | apply Kd.V_alloc | apply Kd.V_drewN | apply Kd.V_drew)); exact HO473.out) hb); have n6_ := Aside0.mk (Kd.R_below (by (with_reducible repeat (first | apply Kd.R_alloc | apply Kd.R_drewN | apply Kd.R_drew)); exact HO478.out) hb); have n7_ := Aside0.mk (Kd.R_below (by (with_reducible repeat (first | apply Kd.R_alloc | apply Kd.R_drewN | apply Kd.R_drew)); exact HO482.out) hb); have n8_ := Aside0.mk (Kd.V_below (by (with_reducible repeat (first | apply Kd.V_alloc | apply Kd.V_drewN | apply Kd.V_drew)); exact HO485.out) hb); have n9_ := Aside0.mk (Kd.V_below (by (with_reducible repeat (first | apply Kd.V_alloc | apply Kd.V_drewN | apply Kd.V_drew)); exact HO496.out) hb); have n10_ := Aside0.mk (Kd.R_below (by (with_reducible repeat (first | apply Kd.R_alloc | apply Kd.R_drewN | apply Kd.R_drew)); exact HO499.out) hb); have n11_ := Aside0.mk (below_step (by repeat (first | (with_reducible first | apply below_alloc | apply pw_below_drewN | apply below_drew1) | exact HB.out)) hb); clear HO455; clear HO461; clear HO463; clear HO468; clear HO470; clear HO473; clear HO478; clear HO482; clear HO485; clear HO496; clear HO499; clear HB; have HO455 := n0_; have HO461 := n1_; have HO463 := n2_; have HO468 := n3_; have HO470 := n4_; have HO473 := n5_; have HO478 := n6_; have HO482 := n7_; have HO485 := n8_; have HO496 := n9_; have HO499 := n10_; have HB := n11_; clear n0_ n1_ n2_ n3_ n4_ n5_ n6_ n7_ n8_ n9_ n10_ n11_; (try clear hb); (try clear hb2); (try clear hk); (try clear hi)) | (go_at_call 31; (with_reducible refine (spec_AreInGear.calls kj45 _ _ t494 _ _ t497 t502 t503 _ ?side1 ?side2 ?side3 ?side4 A68.out).mono ?_); (case side1 => repeat (first | exact (Kd.V_reads' HO496.out).2.2 | (with_reducible refine Kd.C_alloc ?_ _) | (with_reducible refine Kd.C_drewN ?_ _) | (with_reducible refine Kd.C_drew ?_))); (case side2 => exact (Kd.V_reads' HO496.out).2.1); (case side3 => repeat (first | exact (Kd.R_reads' HO499.out).2.2 | (with_reducible refine Kd.C_alloc ?_ _) | (with_reducible refine Kd.C_drewN ?_ _) | (with_reducible refine Kd.C_drew ?_))); (case side4 => exact (Kd.R_reads' HO499.out).2.1); rintro e w' ⟨rfl, ⟨nd, rfl⟩⟩; (try first | exact ⟨rfl, _, World.drewN_drewN _ _ _⟩ | exact ⟨rfl, _, Eq.trans (World.drewN_drewN _ _ _) (congrArg (World.drewN _) (Nat.add_assoc _ _ _))⟩); obtain ⟨Ao101, co101, eo101⟩ := Kd.R_slice HO461.out; subst eo101; obtain ⟨Ao102, co102, eo102⟩ := Kd.R_slice HO468.out; subst eo102) | (go_at_call 12; (with_reducible refine (laws_uSame.calls kj45 _ _ t457 _ _ t464 true _ ?side1 ?side2 ?side3 ?side4 A70.out).mono ?_); (case side1 => repeat (first | exact (Kd.R_reads' HO461.out).2.2 | (with_reducible refine Kd.C_alloc ?_ _) | (with_reducible refine Kd.C_drewN ?_ _) | (with_reducible refine Kd.C_drew ?_))); (case side2 => exact (Kd.R_reads' HO461.out).2.1); (case side3 => repeat (first | exact (Kd.R_reads' HO468.out).2.2 | (with_reducible refine Kd.C_alloc ?_ _) | (with_reducible refine Kd.C_drewN ?_ _) | (with_reducible refine Kd.C_drew ?_))); (case side4 => exact (Kd.R_reads' HO468.out).2.1); rintro e w' ⟨rfl, ⟨nd, rfl⟩⟩; (try first | exact ⟨rfl, _, World.drewN_drewN _ _ _⟩ | exact ⟨rfl, _, Eq.trans (World.drewN_drewN _ _ _) (congrArg (World.drewN _) (Nat.add_assoc _ _ _))⟩); obtain ⟨Ao103, co103, eo103⟩ := Kd.R_slice HO463.out; subst eo103; obtain ⟨Ao104, co104, eo104⟩ := Kd.R_slice HO470.out; subst eo104) | (go_at_call 12; (with_reducible refine (laws_uSame.calls kj45 _ _ t458 _ _ t465 true _ ?side1 ?side2 ?side3 ?side4 A72.out).mono ?_); (case side1 => repeat (first | exact (Kd.R_reads' HO463.out).2.2 | (with_reducible refine Kd.C_alloc ?_ _) | (with_reducible refine Kd.C_drewN ?_ _) | (with_reducible refine Kd.C_drew ?_))); (case side2 => exact (Kd.R_reads' HO463.out).2.1); (case side3 => repeat (first | exact (Kd.R_reads' HO470.out).2.2 | (with_reducible refine Kd.C_alloc ?_ _) | (with_reducible refine Kd.C_drewN ?_ _) | (with_reducible refine Kd.C_drew ?_))); (case side4 => exact (Kd.R_reads' HO470.out).2.1); rintro e w' ⟨rfl, ⟨nd, rfl⟩⟩; (try first | exact ⟨rfl, _, World.drewN_drewN _ _ _⟩ | exact ⟨rfl, _, Eq.trans (World.drewN_drewN _ _ _) (congrArg (World.drewN _) (Nat.add_assoc _ _ _))⟩); obtain ⟨Ao105, co105, eo105⟩ := Kd.R_slice HO478.out; subst eo105; obtain ⟨Ao106, co106, eo106⟩ := Kd.R_slice HO482.out; subst eo106) | (go_at_call 12; (with_reducible refine (laws_uSame.calls kj45 _ _ t475 _ _ t479 true _ ?side1 ?side2 ?side3 ?side4 A75.out).mono ?_); (case side1 => repeat (first | exact (Kd.R_reads' HO478.out).2.2 | (with_reducible refine Kd.C_alloc ?_ _) | (with_reducible refine Kd.C_drewN ?_ _) | (with_reducible refine Kd.C_drew ?_))); (case side2 => exact (Kd.R_reads' HO478.out).2.1); (case side3 => repeat (first | exact (Kd.R_reads' HO482.out).2.2 | (with_reducible refine Kd.C_alloc ?_ _) | (with_reducible refine Kd.C_drewN ?_ _) | (with_reducible refine Kd.C_drew ?_))); (case side4 => exact (Kd.R_reads' HO482.out).2.1); rintro e w' ⟨rfl, ⟨nd, rfl⟩⟩; (try first | exact ⟨rfl, _, World.drewN_drewN _ _ _⟩ | exact ⟨rfl, _, Eq.trans (World.drewN_drewN _ _ _) (congrArg (World.drewN _) (Nat.add_assoc _ _ _))⟩)))
                     repeat (go_quiet (first | (go_at_call 18; (with_reducible refine (spec_DrawTrainTurns.calls kj45 _ _ l1 t453 t456 _ ?side1 ?side2 A55.out).mono ?_); (case side1 => repeat (first | exact (Kd.C_below HR1.out HB.out) | (with_reducible refine Kd.C_alloc ?_ _) | (with_reducible refine Kd.C_drewN ?_ _) | (with_reducible refine Kd.C_drew ?_))); (case side2 => exact HC1.out); rintro e w85 ⟨v454, rfl, ho0, hb⟩; have n0_ := Aside0.mk (Kd.V_lower (Kd.V_mono (ok' := fun k_ => True) ho0 (fun k_ hk_ => trivial)) (below_size (by repeat (first | (with_reducible first | apply below_alloc | apply pw_below_drewN | apply below_drew1) | exact HB.out)))); have n1_ := Aside0.mk (below_step (by repeat (first | (with_reducible first | apply below_alloc | apply pw_below_drewN | apply below_drew1) | exact HB.out)) hb); clear HB; have HO455 := n0_; have HB := n1_; clear n0_ n1_; (try clear hb); (try clear hb2); (try clear hk); (try clear hi); (try clear ho0); obtain ⟨Ao86, co86, eo86⟩ := Kd.V_slice HO455.out; subst eo86) | (go_at_call 19; (with_reducible refine (impl_TrainTurns.calls kj45 _ _ t453 t456 t457 t458 t459 _ ?side1 ?side2 A56.out).mono ?_); (case side1 => repeat (first | exact (Kd.V_reads' HO455.out).2.2 | (with_reducible refine Kd.C_alloc ?_ _) | (with_reducible refine Kd.C_drewN ?_ _) | (with_reducible refine Kd.C_drew ?_))); (case side2 => exact (Kd.V_reads' HO455.out).2.1); rintro e w87 ⟨v460, v462, rfl, ho0, ho1, hb⟩; have n0_ := Aside0.mk (Kd.V_mono (Kd.V_told (Kd.V_told (Kd.V_old (by (with_reducible repeat (first | apply Kd.V_alloc | apply Kd.V_drewN | apply Kd.V_drew)); exact HO455.out) hb) (Kd.R_base ho0)) (Kd.R_base ho1)) (fun _ h_ => by first | exact h_.1 | exact ⟨trivial, h_.1⟩)); have n1_ := Aside0.mk (Kd.R_lower ho0 (below_size (by repeat (first | (with_reducible first | apply below_alloc | apply pw_below_drewN | apply below_drew1) | exact HB.out)))); have n2_ := Aside0.mk (Kd.R_lower ho1 (below_size (by repeat (first | (with_reducible first | apply below_alloc | apply pw_below_drewN | apply below_drew1) | exact HB.out)))); have n3_ := Aside0.mk (below_step (by repeat (first | (with_reducible first | apply below_alloc | apply pw_below_drewN | apply below_drew1) | exact HB.out)) hb); clear HO455; clear HB; have HO455 := n0_; have HO461 := n1_; have HO463 := n2_; have HB := n3_; clear n0_ n1_ n2_ n3_; (try clear hb); (try clear hb2); (try clear hk); (try clear hi); (try clear ho0); (try clear ho1)) | (go_at_call 20; (with_reducible refine (spec_TrainTurns.calls kj45 _ _ t453 t456 t464 t465 t466 _ ?side1 ?side2 A57.out).mono ?_); (case side1 => repeat (first | exact (Kd.V_reads' HO455.out).2.2 | (with_reducible refine Kd.C_alloc ?_ _) | (with_reducible refine Kd.C_drewN ?_ _) | (with_reducible refine Kd.C_drew ?_))); (case side2 => exact (Kd.V_reads' HO455.out).2.1); rintro e w88 ⟨v467, v469, rfl, ho0, ho1, hb⟩; have n0_ := Aside0.mk (Kd.V_mono (Kd.V_told (Kd.V_told (Kd.V_old (by (with_reducible repeat (first | apply Kd.V_alloc | apply Kd.V_drewN | apply Kd.V_drew)); exact HO455.out) hb) (Kd.R_base ho0)) (Kd.R_base ho1)) (fun _ h_ => by first | exact h_.1 | exact ⟨trivial, h_.1⟩)); have n1_ := Aside0.mk (Kd.R_mono (Kd.R_told (Kd.R_told (Kd.R_old (by (with_reducible repeat (first | apply Kd.R_alloc | apply Kd.R_drewN | apply Kd.R_drew)); exact HO461.out) hb) (Kd.R_base ho0)) (Kd.R_base ho1)) (fun _ h_ => by first | exact h_.1 | exact ⟨trivial, h_.1⟩)); have n2_ := Aside0.mk (Kd.R_mono (Kd.R_told (Kd.R_told (Kd.R_old (by (with_reducible repeat (first | apply Kd.R_alloc | apply Kd.R_drewN | apply Kd.R_drew)); exact HO463.out) hb) (Kd.R_base ho0)) (Kd.R_base ho1)) (fun _ h_ => by first | exact h_.1 | exact ⟨trivial, h_.1⟩)); have n3_ := Aside0.mk (Kd.R_lower (Kd.R_new' (Kd.R_new' ho0 (Kd.R_lt (by (with_reducible repeat (first | apply Kd.R_alloc | apply Kd.R_drewN | apply Kd.R_drew)); exact HO461.out))) (Kd.R_lt (by (with_reducible repeat (first | apply Kd.R_alloc | apply Kd.R_drewN | apply Kd.R_drew)); exact HO463.out))) (below_size (by repeat (first | (with_reducible first | apply below_alloc | apply pw_below_drewN | apply below_drew1) | exact HB.out)))); have n4_ := Aside0.mk (Kd.R_lower (Kd.R_new' (Kd.R_new' ho1 (Kd.R_lt (by (with_reducible repeat (first | apply Kd.R_alloc | apply Kd.R_drewN | apply Kd.R_drew)); exact HO461.out))) (Kd.R_lt (by (with_reducible repeat (first | apply Kd.R_alloc | apply Kd.R_drewN | apply Kd.R_drew)); exact HO463.out))) (below_size (by repeat (first | (with_reducible first | apply below_alloc | apply pw_below_drewN | apply below_drew1) | exact HB.out)))); have n5_ := Aside0.mk (below_step (by repeat (first | (with_reducible first | apply below_alloc | apply pw_below_drewN | apply below_drew1) | exact HB.out)) hb); clear HO455; clear HO461; clear HO463; clear HB; have HO455 := n0_; have HO461 := n1_; have HO463 := n2_; have HO468 := n3_; have HO470 := n4_; have HB := n5_; clear n0_ n1_ n2_ n3_ n4_ n5_; (try clear hb); (try clear hb2); (try clear hk); (try clear hi); (try clear ho0); (try clear ho1)) | (go_at_call 21; (with_reducible refine (spec_DrawTrainTeeth.calls kj45 _ _ l1 t471 t474 _ ?side1 ?side2 A58.out).mono ?_); (case side1 => repeat (first | exact (Kd.C_below HR1.out HB.out) | (with_reducible refine Kd.C_alloc ?_ _) | (with_reducible refine Kd.C_drewN ?_ _) | (with_reducible refine Kd.C_drew ?_))); (case side2 => exact HC1.out); rintro e w89 ⟨v472, rfl, ho0, hb⟩; have n0_ := Aside0.mk (Kd.V_below (by (with_reducible repeat (first | apply Kd.V_alloc | apply Kd.V_drewN | apply Kd.V_drew)); exact HO455.out) hb); have n1_ := Aside0.mk (Kd.R_below (by (with_reducible repeat (first | apply Kd.R_alloc | apply Kd.R_drewN | apply Kd.R_drew)); exact HO461.out) hb); have n2_ := Aside0.mk (Kd.R_below (by (with_reducible repeat (first | apply Kd.R_alloc | apply Kd.R_drewN | apply Kd.R_drew)); exact HO463.out) hb); have n3_ := Aside0.mk (Kd.R_below (by (with_reducible repeat (first | apply Kd.R_alloc | apply Kd.R_drewN | apply Kd.R_drew)); exact HO468.out) hb); have n4_ := Aside0.mk (Kd.R_below (by (with_reducible repeat (first | apply Kd.R_alloc | apply Kd.R_drewN | apply Kd.R_drew)); exact HO470.out) hb); have n5_ := Aside0.mk (Kd.V_lower (Kd.V_mono (ok' := fun k_ => some k_ ≠ (v460 : Value).ownBlock ∧ some k_ ≠ (v462 : Value).ownBlock ∧ some k_ ≠ (v467 : Value).ownBlock ∧ some k_ ≠ (v469 : Value).ownBlock) ho0 (fun k_ hk_ => ⟨(Kd.fresh' (Kd.R_lt (by (with_reducible repeat (first | apply Kd.R_alloc | apply Kd.R_drewN | apply Kd.R_drew)); exact HO461.out)) k_ hk_), (Kd.fresh' (Kd.R_lt (by (with_reducible repeat (first | apply Kd.R_alloc | apply Kd.R_drewN | apply Kd.R_drew)); exact HO463.out)) k_ hk_), (Kd.fresh' (Kd.R_lt (by (with_reducible repeat (first | apply Kd.R_alloc | apply Kd.R_drewN | apply Kd.R_drew)); exact HO468.out)) k_ hk_), (Kd.fresh' (Kd.R_lt (by (with_reducible repeat (first | apply Kd.R_alloc | apply Kd.R_drewN | apply Kd.R_drew)); exact HO470.out)) k_ hk_)⟩)) (below_size (by repeat (first | (with_reducible first | apply below_alloc | apply pw_below_drewN | apply below_drew1) | exact HB.out)))); have n6_ := Aside0.mk (below_step (by repeat (first | (with_reducible first | apply below_alloc | apply pw_below_drewN | apply below_drew1) | exact HB.out)) hb); clear HO455; clear HO461; clear HO463; clear HO468; clear HO470; clear HB; have HO455 := n0_; have HO461 := n1_; have HO463 := n2_; have HO468 := n3_; have HO470 := n4_; have HO473 := n5_; have HB := n6_; clear n0_ n1_ n2_ n3_ n4_ n5_ n6_; (try clear hb); (try clear hb2); (try clear hk); (try clear hi); (try clear ho0); obtain ⟨Ao90, co90, eo90⟩ := Kd.V_slice HO473.out; subst eo90) | (go_at_call 22; (with_reducible refine (impl_TrainTeeth.calls kj45 _ _ t471 t474 t475 t476 _ ?side1 ?side2 A59.out).mono ?_); (case side1 => repeat (first | exact (Kd.V_reads' HO473.out).2.2 | (with_reducible refine Kd.C_alloc ?_ _) | (with_reducible refine Kd.C_drewN ?_ _) | (with_reducible refine Kd.C_drew ?_))); (case side2 => exact (Kd.V_reads' HO473.out).2.1); rintro e w91 ⟨v477, rfl, ho0, hb⟩; have n0_ := Aside0.mk (Kd.V_elder' (by (with_reducible repeat (first | apply Kd.V_alloc | apply Kd.V_drewN | apply Kd.V_drew)); exact HO455.out) (Kd.R_base ho0) hb); have n1_ := Aside0.mk (Kd.R_elder' (by (with_reducible repeat (first | apply Kd.R_alloc | apply Kd.R_drewN | apply Kd.R_drew)); exact HO461.out) (Kd.R_base ho0) hb); have n2_ := Aside0.mk (Kd.R_elder' (by (with_reducible repeat (first | apply Kd.R_alloc | apply Kd.R_drewN | apply Kd.R_drew)); exact HO463.out) (Kd.R_base ho0) hb); have n3_ := Aside0.mk (Kd.R_elder' (by (with_reducible repeat (first | apply Kd.R_alloc | apply Kd.R_drewN | apply Kd.R_drew)); exact HO468.out) (Kd.R_base ho0) hb); have n4_ := Aside0.mk (Kd.R_elder' (by (with_reducible repeat (first | apply Kd.R_alloc | apply Kd.R_drewN | apply Kd.R_drew)); exact HO470.out) (Kd.R_base ho0) hb); have n5_ := Aside0.mk (Kd.V_elder' (by (with_reducible repeat (first | apply Kd.V_alloc | apply Kd.V_drewN | apply Kd.V_drew)); exact HO473.out) (Kd.R_base ho0) hb); have n6_ := Aside0.mk (Kd.R_lower (Kd.R_new' (Kd.R_new' (Kd.R_new' (Kd.R_new' ho0 (Kd.R_lt (by (with_reducible repeat (first | apply Kd.R_alloc | apply Kd.R_drewN | apply Kd.R_drew)); exact HO461.out))) (Kd.R_lt (by (with_reducible repeat (first | apply Kd.R_alloc | apply Kd.R_drewN | apply Kd.R_drew)); exact HO463.out))) (Kd.R_lt (by (with_reducible repeat (first | apply Kd.R_alloc | apply Kd.R_drewN | apply Kd.R_drew)); exact HO468.out))) (Kd.R_lt (by (with_reducible repeat (first | apply Kd.R_alloc | apply Kd.R_drewN | apply Kd.R_drew)); exact HO470.out))) (below_size (by repeat (first | (with_reducible first | apply below_alloc | apply pw_below_drewN | apply below_drew1) | exact HB.out)))); have n7_ := Aside0.mk (below_step (by repeat (first | (with_reducible first | apply below_alloc | apply pw_below_drewN | apply below_drew1) | exact HB.out)) hb); clear HO455; clear HO461; clear HO463; clear HO468; clear HO470; clear HO473; clear HB; have HO455 := n0_; have HO461 := n1_; have HO463 := n2_; have HO468 := n3_; have HO470 := n4_; have HO473 := n5_; have HO478 := n6_; have HB := n7_; clear n0_ n1_ n2_ n3_ n4_ n5_ n6_ n7_; (try clear hb); (try clear hb2); (try clear hk); (try clear hi); (try clear ho0)) | (go_at_call 23; (with_reducible refine (spec_TrainTeeth.calls kj45 _ _ t471 t474 t479 t480 _ ?side1 ?side2 A60.out).mono ?_); (case side1 => repeat (first | exact (Kd.V_reads' HO473.out).2.2 | (with_reducible refine Kd.C_alloc ?_ _) | (with_reducible refine Kd.C_drewN ?_ _) | (with_reducible refine Kd.C_drew ?_))); (case side2 => exact (Kd.V_reads' HO473.out).2.1); rintro e w92 ⟨v481, rfl, ho0, hb⟩; have n0_ := Aside0.mk (Kd.V_elder' (by (with_reducible repeat (first | apply Kd.V_alloc | apply Kd.V_drewN | apply Kd.V_drew)); exact HO455.out) (Kd.R_base ho0) hb); have n1_ := Aside0.mk (Kd.R_elder' (by (with_reducible repeat (first | apply Kd.R_alloc | apply Kd.R_drewN | apply Kd.R_drew)); exact HO461.out) (Kd.R_base ho0) hb); have n2_ := Aside0.mk (Kd.R_elder' (by (with_reducible repeat (first | apply Kd.R_alloc | apply Kd.R_drewN | apply Kd.R_drew)); exact HO463.out) (Kd.R_base ho0) hb); have n3_ := Aside0.mk (Kd.R_elder' (by (with_reducible repeat (first | apply Kd.R_alloc | apply Kd.R_drewN | apply Kd.R_drew)); exact HO468.out) (Kd.R_base ho0) hb); have n4_ := Aside0.mk (Kd.R_elder' (by (with_reducible repeat (first | apply Kd.R_alloc | apply Kd.R_drewN | apply Kd.R_drew)); exact HO470.out) (Kd.R_base ho0) hb); have n5_ := Aside0.mk (Kd.V_elder' (by (with_reducible repeat (first | apply Kd.V_alloc | apply Kd.V_drewN | apply Kd.V_drew)); exact HO473.out) (Kd.R_base ho0) hb); have n6_ := Aside0.mk (Kd.R_elder' (by (with_reducible repeat (first | apply Kd.R_alloc | apply Kd.R_drewN | apply Kd.R_drew)); exact HO478.out) (Kd.R_base ho0) hb); have n7_ := Aside0.mk (Kd.R_lower (Kd.R_new' (Kd.R_new' (Kd.R_new' (Kd.R_new' (Kd.R_new' ho0 (Kd.R_lt (by (with_reducible repeat (first | apply Kd.R_alloc | apply Kd.R_drewN | apply Kd.R_drew)); exact HO461.out))) (Kd.R_lt (by (with_reducible repeat (first | apply Kd.R_alloc | apply Kd.R_drewN | apply Kd.R_drew)); exact HO463.out))) (Kd.R_lt (by (with_reducible repeat (first | apply Kd.R_alloc | apply Kd.R_drewN | apply Kd.R_drew)); exact HO468.out))) (Kd.R_lt (by (with_reducible repeat (first | apply Kd.R_alloc | apply Kd.R_drewN | apply Kd.R_drew)); exact HO470.out))) (Kd.R_lt (by (with_reducible repeat (first | apply Kd.R_alloc | apply Kd.R_drewN | apply Kd.R_drew)); exact HO478.out))) (below_size (by repeat (first | (with_reducible first | apply below_alloc | apply pw_below_drewN | apply below_drew1) | exact HB.out)))); have n8_ := Aside0.mk (below_step (by repeat (first | (with_reducible first | apply below_alloc | apply pw_below_drewN | apply below_drew1) | exact HB.out)) hb); clear HO455; clear HO461; clear HO463; clear HO468; clear HO470; clear HO473; clear HO478; clear HB; have HO455 := n0_; have HO461 := n1_; have HO463 := n2_; have HO468 := n3_; have HO470 := n4_; have HO473 := n5_; have HO478 := n6_; have HO482 := n7_; have HB := n8_; clear n0_ n1_ n2_ n3_ n4_ n5_ n6_ n7_ n8_; (try clear hb); (try clear hb2); (try clear hk); (try clear hi); (try clear ho0)) | (go_at_call 24; (with_reducible refine (spec_DrawTrainPeriod.calls kj45 _ _ l1 t483 _ ?side1 ?side2 A61.out).mono ?_); (case side1 => repeat (first | exact (Kd.C_below HR1.out HB.out) | (with_reducible refine Kd.C_alloc ?_ _) | (with_reducible refine Kd.C_drewN ?_ _) | (with_reducible refine Kd.C_drew ?_))); (case side2 => exact HC1.out); rintro e w93 ⟨v484, rfl, ho0, hb⟩; have n0_ := Aside0.mk (Kd.V_below (by (with_reducible repeat (first | apply Kd.V_alloc | apply Kd.V_drewN | apply Kd.V_drew)); exact HO455.out) hb); have n1_ := Aside0.mk (Kd.R_below (by (with_reducible repeat (first | apply Kd.R_alloc | apply Kd.R_drewN | apply Kd.R_drew)); exact HO461.out) hb); have n2_ := Aside0.mk (Kd.R_below (by (with_reducible repeat (first | apply Kd.R_alloc | apply Kd.R_drewN | apply Kd.R_drew)); exact HO463.out) hb); have n3_ := Aside0.mk (Kd.R_below (by (with_reducible repeat (first | apply Kd.R_alloc | apply Kd.R_drewN | apply Kd.R_drew)); exact HO468.out) hb); have n4_ := Aside0.mk (Kd.R_below (by (with_reducible repeat (first | apply Kd.R_alloc | apply Kd.R_drewN | apply Kd.R_drew)); exact HO470.out) hb); have n5_ := Aside0.mk (Kd.V_below (by (with_reducible repeat (first | apply Kd.V_alloc | apply Kd.V_drewN | apply Kd.V_drew)); exact HO473.out) hb); have n6_ := Aside0.mk (Kd.R_below (by (with_reducible repeat (first | apply Kd.R_alloc | apply Kd.R_drewN | apply Kd.R_drew)); exact HO478.out) hb); have n7_ := Aside0.mk (Kd.R_below (by (with_reducible repeat (first | apply Kd.R_alloc | apply Kd.R_drewN | apply Kd.R_drew)); exact HO482.out) hb); have n8_ := Aside0.mk (Kd.V_lower (Kd.V_mono (ok' := fun k_ => some k_ ≠ (v460 : Value).ownBlock ∧ some k_ ≠ (v462 : Value).ownBlock ∧ some k_ ≠ (v467 : Value).ownBlock ∧ some k_ ≠ (v469 : Value).ownBlock ∧ some k_ ≠ (v477 : Value).ownBlock ∧ some k_ ≠ (v481 : Value).ownBlock) ho0 (fun k_ hk_ => ⟨(Kd.fresh' (Kd.R_lt (by (with_reducible repeat (first | apply Kd.R_alloc | apply Kd.R_drewN | apply Kd.R_drew)); exact HO461.out)) k_ hk_), (Kd.fresh' (Kd.R_lt (by (with_reducible repeat (first | apply Kd.R_alloc | apply Kd.R_drewN | apply Kd.R_drew)); exact HO463.out)) k_ hk_), (Kd.fresh' (Kd.R_lt (by (with_reducible repeat (first | apply Kd.R_alloc | apply Kd.R_drewN | apply Kd.R_drew)); exact HO468.out)) k_ hk_), (Kd.fresh' (Kd.R_lt (by (with_reducible repeat (first | apply Kd.R_alloc | apply Kd.R_drewN | apply Kd.R_drew)); exact HO470.out)) k_ hk_), (Kd.fresh' (Kd.R_lt (by (with_reducible repeat (first | apply Kd.R_alloc | apply Kd.R_drewN | apply Kd.R_drew)); exact HO478.out)) k_ hk_), (Kd.fresh' (Kd.R_lt (by (with_reducible repeat (first | apply Kd.R_alloc | apply Kd.R_drewN | apply Kd.R_drew)); exact HO482.out)) k_ hk_)⟩)) (below_size (by repeat (first | (with_reducible first | apply below_alloc | apply pw_below_drewN | apply below_drew1) | exact HB.out)))); have n9_ := Aside0.mk (below_step (by repeat (first | (with_reducible first | apply below_alloc | apply pw_below_drewN | apply below_drew1) | exact HB.out)) hb); clear HO455; clear HO461; clear HO463; clear HO468; clear HO470; clear HO473; clear HO478; clear HO482; clear HB; have HO455 := n0_; have HO461 := n1_; have HO463 := n2_; have HO468 := n3_; have HO470 := n4_; have HO473 := n5_; have HO478 := n6_; have HO482 := n7_; have HO485 := n8_; have HB := n9_; clear n0_ n1_ n2_ n3_ n4_ n5_ n6_ n7_ n8_ n9_; (try clear hb); (try clear hb2); (try clear hk); (try clear hi); (try clear ho0); obtain ⟨Ao94, co94, eo94⟩ := Kd.V_slice HO485.out; subst eo94) | (go_at_call 25; (with_reducible refine (impl_TrainPeriod.calls kj45 _ _ t483 t486 t487 _ ?side1 ?side2 A62.out).mono ?_); (case side1 => repeat (first | exact (Kd.V_reads' HO485.out).2.2 | (with_reducible refine Kd.C_alloc ?_ _) | (with_reducible refine Kd.C_drewN ?_ _) | (with_reducible refine Kd.C_drew ?_))); (case side2 => exact (Kd.V_reads' HO485.out).2.1); rintro e w95 ⟨rfl, hb⟩; have n0_ := Aside0.mk (Kd.V_below (by (with_reducible repeat (first | apply Kd.V_alloc | apply Kd.V_drewN | apply Kd.V_drew)); exact HO455.out) hb); have n1_ := Aside0.mk (Kd.R_below (by (with_reducible repeat (first | apply Kd.R_alloc | apply Kd.R_drewN | apply Kd.R_drew)); exact HO461.out) hb); have n2_ := Aside0.mk (Kd.R_below (by (with_reducible repeat (first | apply Kd.R_alloc | apply Kd.R_drewN | apply Kd.R_drew)); exact HO463.out) hb); have n3_ := Aside0.mk (Kd.R_below (by (with_reducible repeat (first | apply Kd.R_alloc | apply Kd.R_drewN | apply Kd.R_drew)); exact HO468.out) hb); have n4_ := Aside0.mk (Kd.R_below (by (with_reducible repeat (first | apply Kd.R_alloc | apply Kd.R_drewN | apply Kd.R_drew)); exact HO470.out) hb); have n5_ := Aside0.mk (Kd.V_below (by (with_reducible repeat (first | apply Kd.V_alloc | apply Kd.V_drewN | apply Kd.V_drew)); exact HO473.out) hb); have n6_ := Aside0.mk (Kd.R_below (by (with_reducible repeat (first | apply Kd.R_alloc | apply Kd.R_drewN | apply Kd.R_drew)); exact HO478.out) hb); have n7_ := Aside0.mk (Kd.R_below (by (with_reducible repeat (first | apply Kd.R_alloc | apply Kd.R_drewN | apply Kd.R_drew)); exact HO482.out) hb); have n8_ := Aside0.mk (Kd.V_below (by (with_reducible repeat (first | apply Kd.V_alloc | apply Kd.V_drewN | apply Kd.V_drew)); exact HO485.out) hb); have n9_ := Aside0.mk (below_step (by repeat (first | (with_reducible first | apply below_alloc | apply pw_below_drewN | apply below_drew1) | exact HB.out)) hb); clear HO455; clear HO461; clear HO463; clear HO468; clear HO470; clear HO473; clear HO478; clear HO482; clear HO485; clear HB; have HO455 := n0_; have HO461 := n1_; have HO463 := n2_; have HO468 := n3_; have HO470 := n4_; have HO473 := n5_; have HO478 := n6_; have HO482 := n7_; have HO485 := n8_; have HB := n9_; clear n0_ n1_ n2_ n3_ n4_ n5_ n6_ n7_ n8_ n9_; (try clear hb); (try clear hb2); (try clear hk); (try clear hi)) | (go_at_call 26; (with_reducible refine (spec_TrainPeriod.calls kj45 _ _ t483 t488 t489 _ ?side1 ?side2 A63.out).mono ?_); (case side1 => repeat (first | exact (Kd.V_reads' HO485.out).2.2 | (with_reducible refine Kd.C_alloc ?_ _) | (with_reducible refine Kd.C_drewN ?_ _) | (with_reducible refine Kd.C_drew ?_))); (case side2 => exact (Kd.V_reads' HO485.out).2.1); rintro e w' ⟨rfl, ⟨nd, rfl⟩⟩; (try first | exact ⟨rfl, _, World.drewN_drewN _ _ _⟩ | exact ⟨rfl, _, Eq.trans (World.drewN_drewN _ _ _) (congrArg (World.drewN _) (Nat.add_assoc _ _ _))⟩)) | (go_at_call 27; (with_reducible refine (impl_LeastTurns.calls kj45 _ _ t483 t490 t491 _ ?side1 ?side2 A64.out).mono ?_); (case side1 => repeat (first | exact (Kd.V_reads' HO485.out).2.2 | (with_reducible refine Kd.C_alloc ?_ _) | (with_reducible refine Kd.C_drewN ?_ _) | (with_reducible refine Kd.C_drew ?_))); (case side2 => exact (Kd.V_reads' HO485.out).2.1); rintro e w96 ⟨rfl, hb⟩; have n0_ := Aside0.mk (Kd.V_below (by (with_reducible repeat (first | apply Kd.V_alloc | apply Kd.V_drewN | apply Kd.V_drew)); exact HO455.out) hb); have n1_ := Aside0.mk (Kd.R_below (by (with_reducible repeat (first | apply Kd.R_alloc | apply Kd.R_drewN | apply Kd.R_drew)); exact HO461.out) hb); have n2_ := Aside0.mk (Kd.R_below (by (with_reducible repeat (first | apply Kd.R_alloc | apply Kd.R_drewN | apply Kd.R_drew)); exact HO463.out) hb); have n3_ := Aside0.mk (Kd.R_below (by (with_reducible repeat (first | apply Kd.R_alloc | apply Kd.R_drewN | apply Kd.R_drew)); exact HO468.out) hb); have n4_ := Aside0.mk (Kd.R_below (by (with_reducible repeat (first | apply Kd.R_alloc | apply Kd.R_drewN | apply Kd.R_drew)); exact HO470.out) hb); have n5_ := Aside0.mk (Kd.V_below (by (with_reducible repeat (first | apply Kd.V_alloc | apply Kd.V_drewN | apply Kd.V_drew)); exact HO473.out) hb); have n6_ := Aside0.mk (Kd.R_below (by (with_reducible repeat (first | apply Kd.R_alloc | apply Kd.R_drewN | apply Kd.R_drew)); exact HO478.out) hb); have n7_ := Aside0.mk (Kd.R_below (by (with_reducible repeat (first | apply Kd.R_alloc | apply Kd.R_drewN | apply Kd.R_drew)); exact HO482.out) hb); have n8_ := Aside0.mk (Kd.V_below (by (with_reducible repeat (first | apply Kd.V_alloc | apply Kd.V_drewN | apply Kd.V_drew)); exact HO485.out) hb); have n9_ := Aside0.mk (below_step (by repeat (first | (with_reducible first | apply below_alloc | apply pw_below_drewN | apply below_drew1) | exact HB.out)) hb); clear HO455; clear HO461; clear HO463; clear HO468; clear HO470; clear HO473; clear HO478; clear HO482; clear HO485; clear HB; have HO455 := n0_; have HO461 := n1_; have HO463 := n2_; have HO468 := n3_; have HO470 := n4_; have HO473 := n5_; have HO478 := n6_; have HO482 := n7_; have HO485 := n8_; have HB := n9_; clear n0_ n1_ n2_ n3_ n4_ n5_ n6_ n7_ n8_ n9_; (try clear hb); (try clear hb2); (try clear hk); (try clear hi)) | (go_at_call 28; (with_reducible refine (spec_LeastTurns.calls kj45 _ _ t483 t492 t493 _ ?side1 ?side2 A65.out).mono ?_); (case side1 => repeat (first | exact (Kd.V_reads' HO485.out).2.2 | (with_reducible refine Kd.C_alloc ?_ _) | (with_reducible refine Kd.C_drewN ?_ _) | (with_reducible refine Kd.C_drew ?_))); (case side2 => exact (Kd.V_reads' HO485.out).2.1); rintro e w' ⟨rfl, ⟨nd, rfl⟩⟩; (try first | exact ⟨rfl, _, World.drewN_drewN _ _ _⟩ | exact ⟨rfl, _, Eq.trans (World.drewN_drewN _ _ _) (congrArg (World.drewN _) (Nat.add_assoc _ _ _))⟩)) | (go_at_call 29; (with_reducible refine (spec_DrawAreInGear.calls kj45 _ _ l1 t494 t497 _ ?side1 ?side2 A66.out).mono ?_); (case side1 => repeat (first | exact (Kd.C_below HR1.out (by repeat (first | (with_reducible first | apply below_alloc | apply pw_below_drewN | apply below_drew1) | exact HB.out))) | (with_reducible refine Kd.C_alloc ?_ _) | (with_reducible refine Kd.C_drewN ?_ _) | (with_reducible refine Kd.C_drew ?_))); (case side2 => exact HC1.out); rintro e w97 ⟨v495, v498, rfl, ho0, ho1, hb⟩; have n0_ := Aside0.mk (Kd.V_elder' (by (with_reducible repeat (first | apply Kd.V_alloc | apply Kd.V_drewN | apply Kd.V_drew)); exact HO455.out) (Kd.R_base ho1) hb); have n1_ := Aside0.mk (Kd.R_elder' (by (with_reducible repeat (first | apply Kd.R_alloc | apply Kd.R_drewN | apply Kd.R_drew)); exact HO461.out) (Kd.R_base ho1) hb); have n2_ := Aside0.mk (Kd.R_elder' (by (with_reducible repeat (first | apply Kd.R_alloc | apply Kd.R_drewN | apply Kd.R_drew)); exact HO463.out) (Kd.R_base ho1) hb); have n3_ := Aside0.mk (Kd.R_elder' (by (with_reducible repeat (first | apply Kd.R_alloc | apply Kd.R_drewN | apply Kd.R_drew)); exact HO468.out) (Kd.R_base ho1) hb); have n4_ := Aside0.mk (Kd.R_elder' (by (with_reducible repeat (first | apply Kd.R_alloc | apply Kd.R_drewN | apply Kd.R_drew)); exact HO470.out) (Kd.R_base ho1) hb); have n5_ := Aside0.mk (Kd.V_elder' (by (with_reducible repeat (first | apply Kd.V_alloc | apply Kd.V_drewN | apply Kd.V_drew)); exact HO473.out) (Kd.R_base ho1) hb); have n6_ := Aside0.mk (Kd.R_elder' (by (with_reducible repeat (first | apply Kd.R_alloc | apply Kd.R_drewN | apply Kd.R_drew)); exact HO478.out) (Kd.R_base ho1) hb); have n7_ := Aside0.mk (Kd.R_elder' (by (with_reducible repeat (first | apply Kd.R_alloc | apply Kd.R_drewN | apply Kd.R_drew)); exact HO482.out) (Kd.R_base ho1) hb); have n8_ := Aside0.mk (Kd.V_elder' (by (with_reducible repeat (first | apply Kd.V_alloc | apply Kd.V_drewN | apply Kd.V_drew)); exact HO485.out) (Kd.R_base ho1) hb); have n9_ := Aside0.mk (Kd.V_lower (Kd.V_mono (ok' := fun k_ => some k_ ≠ (v498 : Value).ownBlock ∧ some k_ ≠ (v460 : Value).ownBlock ∧ some k_ ≠ (v462 : Value).ownBlock ∧ some k_ ≠ (v467 : Value).ownBlock ∧ some k_ ≠ (v469 : Value).ownBlock ∧ some k_ ≠ (v477 : Value).ownBlock ∧ some k_ ≠ (v481 : Value).ownBlock) ho0 (fun k_ hk_ => ⟨hk_.2, (Kd.fresh' (Kd.R_lt (by (with_reducible repeat (first | apply Kd.R_alloc | apply Kd.R_drewN | apply Kd.R_drew)); exact HO461.out)) k_ hk_.1), (Kd.fresh' (Kd.R_lt (by (with_reducible repeat (first | apply Kd.R_alloc | apply Kd.R_drewN | apply Kd.R_drew)); exact HO463.out)) k_ hk_.1), (Kd.fresh' (Kd.R_lt (by (with_reducible repeat (first | apply Kd.R_alloc | apply Kd.R_drewN | apply Kd.R_drew)); exact HO468.out)) k_ hk_.1), (Kd.fresh' (Kd.R_lt (by (with_reducible repeat (first | apply Kd.R_alloc | apply Kd.R_drewN | apply Kd.R_drew)); exact HO470.out)) k_ hk_.1), (Kd.fresh' (Kd.R_lt (by (with_reducible repeat (first | apply Kd.R_alloc | apply Kd.R_drewN | apply Kd.R_drew)); exact HO478.out)) k_ hk_.1), (Kd.fresh' (Kd.R_lt (by (with_reducible repeat (first | apply Kd.R_alloc | apply Kd.R_drewN | apply Kd.R_drew)); exact HO482.out)) k_ hk_.1)⟩)) (below_size (by repeat (first | (with_reducible first | apply below_alloc | apply pw_below_drewN | apply below_drew1) | exact HB.out)))); have n10_ := Aside0.mk (Kd.R_lower (Kd.R_new' (Kd.R_new' (Kd.R_new' (Kd.R_new' (Kd.R_new' (Kd.R_new' (Kd.R_mono (ok' := fun k_ => True) ho1 (fun _ hk_ => trivial)) (Kd.R_lt (by (with_reducible repeat (first | apply Kd.R_alloc | apply Kd.R_drewN | apply Kd.R_drew)); exact HO461.out))) (Kd.R_lt (by (with_reducible repeat (first | apply Kd.R_alloc | apply Kd.R_drewN | apply Kd.R_drew)); exact HO463.out))) (Kd.R_lt (by (with_reducible repeat (first | apply Kd.R_alloc | apply Kd.R_drewN | apply Kd.R_drew)); exact HO468.out))) (Kd.R_lt (by (with_reducible repeat (first | apply Kd.R_alloc | apply Kd.R_drewN | apply Kd.R_drew)); exact HO470.out))) (Kd.R_lt (by (with_reducible repeat (first | apply Kd.R_alloc | apply Kd.R_drewN | apply Kd.R_drew)); exact HO478.out))) (Kd.R_lt (by (with_reducible repeat (first | apply Kd.R_alloc | apply Kd.R_drewN | apply Kd.R_drew)); exact HO482.out))) (below_size (by repeat (first | (with_reducible first | apply below_alloc | apply pw_below_drewN | apply below_drew1) | exact HB.out)))); have n11_ := Aside0.mk (below_step (by repeat (first | (with_reducible first | apply below_alloc | apply pw_below_drewN | apply below_drew1) | exact HB.out)) hb); clear HO455; clear HO461; clear HO463; clear HO468; clear HO470; clear HO473; clear HO478; clear HO482; clear HO485; clear HB; have HO455 := n0_; have HO461 := n1_; have HO463 := n2_; have HO468 := n3_; have HO470 := n4_; have HO473 := n5_; have HO478 := n6_; have HO482 := n7_; have HO485 := n8_; have HO496 := n9_; have HO499 := n10_; have HB := n11_; clear n0_ n1_ n2_ n3_ n4_ n5_ n6_ n7_ n8_ n9_ n10_ n11_; (try clear hb); (try clear hb2); (try clear hk); (try clear hi); (try clear ho0); (try clear ho1); obtain ⟨Ao98, co98, eo98⟩ := Kd.V_slice HO496.out; subst eo98; obtain ⟨Ao99, co99, eo99⟩ := Kd.R_slice HO499.out; subst eo99) | (go_at_call 30; (with_reducible refine (impl_AreInGear.calls kj45 _ _ t494 _ _ t497 t500 t501 _ ?side1 ?side2 ?side3 ?side4 A67.out).mono ?_); (case side1 => repeat (first | exact (Kd.V_reads' HO496.out).2.2 | (with_reducible refine Kd.C_alloc ?_ _) | (with_reducible refine Kd.C_drewN ?_ _) | (with_reducible refine Kd.C_drew ?_))); (case side2 => exact (Kd.V_reads' HO496.out).2.1); (case side3 => repeat (first | exact (Kd.R_reads' HO499.out).2.2 | (with_reducible refine Kd.C_alloc ?_ _) | (with_reducible refine Kd.C_drewN ?_ _) | (with_reducible refine Kd.C_drew ?_))); (case side4 => exact (Kd.R_reads' HO499.out).2.1); rintro e w100 ⟨rfl, hb⟩; have n0_ := Aside0.mk (Kd.V_below (by (with_reducible repeat (first | apply Kd.V_alloc | apply Kd.V_drewN | apply Kd.V_drew)); exact HO455.out) hb); have n1_ := Aside0.mk (Kd.R_below (by (with_reducible repeat (first | apply Kd.R_alloc | apply Kd.R_drewN | apply Kd.R_drew)); exact HO461.out) hb); have n2_ := Aside0.mk (Kd.R_below (by (with_reducible repeat (first | apply Kd.R_alloc | apply Kd.R_drewN | apply Kd.R_drew)); exact HO463.out) hb); have n3_ := Aside0.mk (Kd.R_below (by (with_reducible repeat (first | apply Kd.R_alloc | apply Kd.R_drewN | apply Kd.R_drew)); exact HO468.out) hb); have n4_ := Aside0.mk (Kd.R_below (by (with_reducible repeat (first | apply Kd.R_alloc | apply Kd.R_drewN | apply Kd.R_drew)); exact HO470.out) hb); have n5_ := Aside0.mk (Kd.V_below (by (with_reducible repeat (first | apply Kd.V_alloc | apply Kd.V_drewN | apply Kd.V_drew)); exact HO473.out) hb); have n6_ := Aside0.mk (Kd.R_below (by (with_reducible repeat (first | apply Kd.R_alloc | apply Kd.R_drewN | apply Kd.R_drew)); exact HO478.out) hb); have n7_ := Aside0.mk (Kd.R_below (by (with_reducible repeat (first | apply Kd.R_alloc | apply Kd.R_drewN | apply Kd.R_drew)); exact HO482.out) hb); have n8_ := Aside0.mk (Kd.V_below (by (with_reducible repeat (first | apply Kd.V_alloc | apply Kd.V_drewN | apply Kd.V_drew)); exact HO485.out) hb); have n9_ := Aside0.mk (Kd.V_below (by (with_reducible repeat (first | apply Kd.V_alloc | apply Kd.V_drewN | apply Kd.V_drew)); exact HO496.out) hb); have n10_ := Aside0.mk (Kd.R_below (by (with_reducible repeat (first | apply Kd.R_alloc | apply Kd.R_drewN | apply Kd.R_drew)); exact HO499.out) hb); have n11_ := Aside0.mk (below_step (by repeat (first | (with_reducible first | apply below_alloc | apply pw_below_drewN | apply below_drew1) | exact HB.out)) hb); clear HO455; clear HO461; clear HO463; clear HO468; clear HO470; clear HO473; clear HO478; clear HO482; clear HO485; clear HO496; clear HO499; clear HB; have HO455 := n0_; have HO461 := n1_; have HO463 := n2_; have HO468 := n3_; have HO470 := n4_; have HO473 := n5_; have HO478 := n6_; have HO482 := n7_; have HO485 := n8_; have HO496 := n9_; have HO499 := n10_; have HB := n11_; clear n0_ n1_ n2_ n3_ n4_ n5_ n6_ n7_ n8_ n9_ n10_ n11_; (try clear hb); (try clear hb2); (try clear hk); (try clear hi)) | (go_at_call 31; (with_reducible refine (spec_AreInGear.calls kj45 _ _ t494 _ _ t497 t502 t503 _ ?side1 ?side2 ?side3 ?side4 A68.out).mono ?_); (case side1 => repeat (first | exact (Kd.V_reads' HO496.out).2.2 | (with_reducible refine Kd.C_alloc ?_ _) | (with_reducible refine Kd.C_drewN ?_ _) | (with_reducible refine Kd.C_drew ?_))); (case side2 => exact (Kd.V_reads' HO496.out).2.1); (case side3 => repeat (first | exact (Kd.R_reads' HO499.out).2.2 | (with_reducible refine Kd.C_alloc ?_ _) | (with_reducible refine Kd.C_drewN ?_ _) | (with_reducible refine Kd.C_drew ?_))); (case side4 => exact (Kd.R_reads' HO499.out).2.1); rintro e w' ⟨rfl, ⟨nd, rfl⟩⟩; (try first | exact ⟨rfl, _, World.drewN_drewN _ _ _⟩ | exact ⟨rfl, _, Eq.trans (World.drewN_drewN _ _ _) (congrArg (World.drewN _) (Nat.add_assoc _ _ _))⟩); obtain ⟨Ao101, co101, eo101⟩ := Kd.R_slice HO461.out; subst eo101; obtain ⟨Ao102, co102, eo102⟩ := Kd.R_slice HO468.out; subst eo102) | (go_at_call 12; (with_reducible refine (laws_uSame.calls kj45 _ _ t457 _ _ t464 true _ ?side1 ?side2 ?side3 ?side4 A70.out).mono ?_); (case side1 => repeat (first | exact (Kd.R_reads' HO461.out).2.2 | (with_reducible refine Kd.C_alloc ?_ _) | (with_reducible refine Kd.C_drewN ?_ _) | (with_reducible refine Kd.C_drew ?_))); (case side2 => exact (Kd.R_reads' HO461.out).2.1); (case side3 => repeat (first | exact (Kd.R_reads' HO468.out).2.2 | (with_reducible refine Kd.C_alloc ?_ _) | (with_reducible refine Kd.C_drewN ?_ _) | (with_reducible refine Kd.C_drew ?_))); (case side4 => exact (Kd.R_reads' HO468.out).2.1); rintro e w' ⟨rfl, ⟨nd, rfl⟩⟩; (try first | exact ⟨rfl, _, World.drewN_drewN _ _ _⟩ | exact ⟨rfl, _, Eq.trans (World.drewN_drewN _ _ _) (congrArg (World.drewN _) (Nat.add_assoc _ _ _))⟩); obtain ⟨Ao103, co103, eo103⟩ := Kd.R_slice HO463.out; subst eo103; obtain ⟨Ao104, co104, eo104⟩ := Kd.R_slice HO470.out; subst eo104) | (go_at_call 12; (with_reducible refine (laws_uSame.calls kj45 _ _ t458 _ _ t465 true _ ?side1 ?side2 ?side3 ?side4 A72.out).mono ?_); (case side1 => repeat (first | exact (Kd.R_reads' HO463.out).2.2 | (with_reducible refine Kd.C_alloc ?_ _) | (with_reducible refine Kd.C_drewN ?_ _) | (with_reducible refine Kd.C_drew ?_))); (case side2 => exact (Kd.R_reads' HO463.out).2.1); (case side3 => repeat (first | exact (Kd.R_reads' HO470.out).2.2 | (with_reducible refine Kd.C_alloc ?_ _) | (with_reducible refine Kd.C_drewN ?_ _) | (with_reducible refine Kd.C_drew ?_))); (case side4 => exact (Kd.R_reads' HO470.out).2.1); rintro e w' ⟨rfl, ⟨nd, rfl⟩⟩; (try first | exact ⟨rfl, _, World.drewN_drewN _ _ _⟩ | exact ⟨rfl, _, Eq.trans (World.drewN_drewN _ _ _) (congrArg (World.drewN _) (Nat.add_assoc _ _ _))⟩); obtain ⟨Ao105, co105, eo105⟩ := Kd.R_slice HO478.out; subst eo105; obtain ⟨Ao106, co106, eo106⟩ := Kd.R_slice HO482.out; subst eo106) | (go_at_call 12; (with_reducible refine (laws_uSame.calls kj45 _ _ t475 _ _ t479 true _ ?side1 ?side2 ?side3 ?side4 A75.out).mono ?_); (case side1 => repeat (first | exact (Kd.R_reads' HO478.out).2.2 | (with_reducible refine Kd.C_alloc ?_ _) | (with_reducible refine Kd.C_drewN ?_ _) | (with_reducible refine Kd.C_drew ?_))); (case side2 => exact (Kd.R_reads' HO478.out).2.1); (case side3 => repeat (first | exact (Kd.R_reads' HO482.out).2.2 | (with_reducible refine Kd.C_alloc ?_ _) | (with_reducible refine Kd.C_drewN ?_ _) | (with_reducible refine Kd.C_drew ?_))); (case side4 => exact (Kd.R_reads' HO482.out).2.1); rintro e w' ⟨rfl, ⟨nd, rfl⟩⟩; (try first | exact ⟨rfl, _, World.drewN_drewN _ _ _⟩ | exact ⟨rfl, _, Eq.trans (World.drewN_drewN _ _ _) (congrArg (World.drewN _) (Nat.add_assoc _ _ _))⟩))); go_upto_if 376 with (first | (go_at_call 18; (with_reducible refine (spec_DrawTrainTurns.calls kj45 _ _ l1 t453 t456 _ ?side1 ?side2 A55.out).mono ?_); (case side1 => repeat (first | exact (Kd.C_below HR1.out HB.out) | (with_reducible refine Kd.C_alloc ?_ _) | (with_reducible refine Kd.C_drewN ?_ _) | (with_reducible refine Kd.C_drew ?_))); (case side2 => exact HC1.out); rintro e w85 ⟨v454, rfl, ho0, hb⟩; have n0_ := Aside0.mk (Kd.V_lower (Kd.V_mono (ok' := fun k_ => True) ho0 (fun k_ hk_ => trivial)) (below_size (by repeat (first | (with_reducible first | apply below_alloc | apply pw_below_drewN | apply below_drew1) | exact HB.out)))); have n1_ := Aside0.mk (below_step (by repeat (first | (with_reducible first | apply below_alloc | apply pw_below_drewN | apply below_drew1) | exact HB.out)) hb); clear HB; have HO455 := n0_; have HB := n1_; clear n0_ n1_; (try clear hb); (try clear hb2); (try clear hk); (try clear hi); (try clear ho0); obtain ⟨Ao86, co86, eo86⟩ := Kd.V_slice HO455.out; subst eo86) | (go_at_call 19; (with_reducible refine (impl_TrainTurns.calls kj45 _ _ t453 t456 t457 t458 t459 _ ?side1 ?side2 A56.out).mono ?_); (case side1 => repeat (first | exact (Kd.V_reads' HO455.out).2.2 | (with_reducible refine Kd.C_alloc ?_ _) | (with_reducible refine Kd.C_drewN ?_ _) | (with_reducible refine Kd.C_drew ?_))); (case side2 => exact (Kd.V_reads' HO455.out).2.1); rintro e w87 ⟨v460, v462, rfl, ho0, ho1, hb⟩; have n0_ := Aside0.mk (Kd.V_mono (Kd.V_told (Kd.V_told (Kd.V_old (by (with_reducible repeat (first | apply Kd.V_alloc | apply Kd.V_drewN | apply Kd.V_drew)); exact HO455.out) hb) (Kd.R_base ho0)) (Kd.R_base ho1)) (fun _ h_ => by first | exact h_.1 | exact ⟨trivial, h_.1⟩)); have n1_ := Aside0.mk (Kd.R_lower ho0 (below_size (by repeat (first | (with_reducible first | apply below_alloc | apply pw_below_drewN | apply below_drew1) | exact HB.out)))); have n2_ := Aside0.mk (Kd.R_lower ho1 (below_size (by repeat (first | (with_reducible first | apply below_alloc | apply pw_below_drewN | apply below_drew1) | exact HB.out)))); have n3_ := Aside0.mk (below_step (by repeat (first | (with_reducible first | apply below_alloc | apply pw_below_drewN | apply below_drew1) | exact HB.out)) hb); clear HO455; clear HB; have HO455 := n0_; have HO461 := n1_; have HO463 := n2_; have HB := n3_; clear n0_ n1_ n2_ n3_; (try clear hb); (try clear hb2); (try clear hk); (try clear hi); (try clear ho0); (try clear ho1)) | (go_at_call 20; (with_reducible refine (spec_TrainTurns.calls kj45 _ _ t453 t456 t464 t465 t466 _ ?side1 ?side2 A57.out).mono ?_); (case side1 => repeat (first | exact (Kd.V_reads' HO455.out).2.2 | (with_reducible refine Kd.C_alloc ?_ _) | (with_reducible refine Kd.C_drewN ?_ _) | (with_reducible refine Kd.C_drew ?_))); (case side2 => exact (Kd.V_reads' HO455.out).2.1); rintro e w88 ⟨v467, v469, rfl, ho0, ho1, hb⟩; have n0_ := Aside0.mk (Kd.V_mono (Kd.V_told (Kd.V_told (Kd.V_old (by (with_reducible repeat (first | apply Kd.V_alloc | apply Kd.V_drewN | apply Kd.V_drew)); exact HO455.out) hb) (Kd.R_base ho0)) (Kd.R_base ho1)) (fun _ h_ => by first | exact h_.1 | exact ⟨trivial, h_.1⟩)); have n1_ := Aside0.mk (Kd.R_mono (Kd.R_told (Kd.R_told (Kd.R_old (by (with_reducible repeat (first | apply Kd.R_alloc | apply Kd.R_drewN | apply Kd.R_drew)); exact HO461.out) hb) (Kd.R_base ho0)) (Kd.R_base ho1)) (fun _ h_ => by first | exact h_.1 | exact ⟨trivial, h_.1⟩)); have n2_ := Aside0.mk (Kd.R_mono (Kd.R_told (Kd.R_told (Kd.R_old (by (with_reducible repeat (first | apply Kd.R_alloc | apply Kd.R_drewN | apply Kd.R_drew)); exact HO463.out) hb) (Kd.R_base ho0)) (Kd.R_base ho1)) (fun _ h_ => by first | exact h_.1 | exact ⟨trivial, h_.1⟩)); have n3_ := Aside0.mk (Kd.R_lower (Kd.R_new' (Kd.R_new' ho0 (Kd.R_lt (by (with_reducible repeat (first | apply Kd.R_alloc | apply Kd.R_drewN | apply Kd.R_drew)); exact HO461.out))) (Kd.R_lt (by (with_reducible repeat (first | apply Kd.R_alloc | apply Kd.R_drewN | apply Kd.R_drew)); exact HO463.out))) (below_size (by repeat (first | (with_reducible first | apply below_alloc | apply pw_below_drewN | apply below_drew1) | exact HB.out)))); have n4_ := Aside0.mk (Kd.R_lower (Kd.R_new' (Kd.R_new' ho1 (Kd.R_lt (by (with_reducible repeat (first | apply Kd.R_alloc | apply Kd.R_drewN | apply Kd.R_drew)); exact HO461.out))) (Kd.R_lt (by (with_reducible repeat (first | apply Kd.R_alloc | apply Kd.R_drewN | apply Kd.R_drew)); exact HO463.out))) (below_size (by repeat (first | (with_reducible first | apply below_alloc | apply pw_below_drewN | apply below_drew1) | exact HB.out)))); have n5_ := Aside0.mk (below_step (by repeat (first | (with_reducible first | apply below_alloc | apply pw_below_drewN | apply below_drew1) | exact HB.out)) hb); clear HO455; clear HO461; clear HO463; clear HB; have HO455 := n0_; have HO461 := n1_; have HO463 := n2_; have HO468 := n3_; have HO470 := n4_; have HB := n5_; clear n0_ n1_ n2_ n3_ n4_ n5_; (try clear hb); (try clear hb2); (try clear hk); (try clear hi); (try clear ho0); (try clear ho1)) | (go_at_call 21; (with_reducible refine (spec_DrawTrainTeeth.calls kj45 _ _ l1 t471 t474 _ ?side1 ?side2 A58.out).mono ?_); (case side1 => repeat (first | exact (Kd.C_below HR1.out HB.out) | (with_reducible refine Kd.C_alloc ?_ _) | (with_reducible refine Kd.C_drewN ?_ _) | (with_reducible refine Kd.C_drew ?_))); (case side2 => exact HC1.out); rintro e w89 ⟨v472, rfl, ho0, hb⟩; have n0_ := Aside0.mk (Kd.V_below (by (with_reducible repeat (first | apply Kd.V_alloc | apply Kd.V_drewN | apply Kd.V_drew)); exact HO455.out) hb); have n1_ := Aside0.mk (Kd.R_below (by (with_reducible repeat (first | apply Kd.R_alloc | apply Kd.R_drewN | apply Kd.R_drew)); exact HO461.out) hb); have n2_ := Aside0.mk (Kd.R_below (by (with_reducible repeat (first | apply Kd.R_alloc | apply Kd.R_drewN | apply Kd.R_drew)); exact HO463.out) hb); have n3_ := Aside0.mk (Kd.R_below (by (with_reducible repeat (first | apply Kd.R_alloc | apply Kd.R_drewN | apply Kd.R_drew)); exact HO468.out) hb); have n4_ := Aside0.mk (Kd.R_below (by (with_reducible repeat (first | apply Kd.R_alloc | apply Kd.R_drewN | apply Kd.R_drew)); exact HO470.out) hb); have n5_ := Aside0.mk (Kd.V_lower (Kd.V_mono (ok' := fun k_ => some k_ ≠ (v460 : Value).ownBlock ∧ some k_ ≠ (v462 : Value).ownBlock ∧ some k_ ≠ (v467 : Value).ownBlock ∧ some k_ ≠ (v469 : Value).ownBlock) ho0 (fun k_ hk_ => ⟨(Kd.fresh' (Kd.R_lt (by (with_reducible repeat (first | apply Kd.R_alloc | apply Kd.R_drewN | apply Kd.R_drew)); exact HO461.out)) k_ hk_), (Kd.fresh' (Kd.R_lt (by (with_reducible repeat (first | apply Kd.R_alloc | apply Kd.R_drewN | apply Kd.R_drew)); exact HO463.out)) k_ hk_), (Kd.fresh' (Kd.R_lt (by (with_reducible repeat (first | apply Kd.R_alloc | apply Kd.R_drewN | apply Kd.R_drew)); exact HO468.out)) k_ hk_), (Kd.fresh' (Kd.R_lt (by (with_reducible repeat (first | apply Kd.R_alloc | apply Kd.R_drewN | apply Kd.R_drew)); exact HO470.out)) k_ hk_)⟩)) (below_size (by repeat (first | (with_reducible first | apply below_alloc | apply pw_below_drewN | apply below_drew1) | exact HB.out)))); have n6_ := Aside0.mk (below_step (by repeat (first | (with_reducible first | apply below_alloc | apply pw_below_drewN | apply below_drew1) | exact HB.out)) hb); clear HO455; clear HO461; clear HO463; clear HO468; clear HO470; clear HB; have HO455 := n0_; have HO461 := n1_; have HO463 := n2_; have HO468 := n3_; have HO470 := n4_; have HO473 := n5_; have HB := n6_; clear n0_ n1_ n2_ n3_ n4_ n5_ n6_; (try clear hb); (try clear hb2); (try clear hk); (try clear hi); (try clear ho0); obtain ⟨Ao90, co90, eo90⟩ := Kd.V_slice HO473.out; subst eo90) | (go_at_call 22; (with_reducible refine (impl_TrainTeeth.calls kj45 _ _ t471 t474 t475 t476 _ ?side1 ?side2 A59.out).mono ?_); (case side1 => repeat (first | exact (Kd.V_reads' HO473.out).2.2 | (with_reducible refine Kd.C_alloc ?_ _) | (with_reducible refine Kd.C_drewN ?_ _) | (with_reducible refine Kd.C_drew ?_))); (case side2 => exact (Kd.V_reads' HO473.out).2.1); rintro e w91 ⟨v477, rfl, ho0, hb⟩; have n0_ := Aside0.mk (Kd.V_elder' (by (with_reducible repeat (first | apply Kd.V_alloc | apply Kd.V_drewN | apply Kd.V_drew)); exact HO455.out) (Kd.R_base ho0) hb); have n1_ := Aside0.mk (Kd.R_elder' (by (with_reducible repeat (first | apply Kd.R_alloc | apply Kd.R_drewN | apply Kd.R_drew)); exact HO461.out) (Kd.R_base ho0) hb); have n2_ := Aside0.mk (Kd.R_elder' (by (with_reducible repeat (first | apply Kd.R_alloc | apply Kd.R_drewN | apply Kd.R_drew)); exact HO463.out) (Kd.R_base ho0) hb); have n3_ := Aside0.mk (Kd.R_elder' (by (with_reducible repeat (first | apply Kd.R_alloc | apply Kd.R_drewN | apply Kd.R_drew)); exact HO468.out) (Kd.R_base ho0) hb); have n4_ := Aside0.mk (Kd.R_elder' (by (with_reducible repeat (first | apply Kd.R_alloc | apply Kd.R_drewN | apply Kd.R_drew)); exact HO470.out) (Kd.R_base ho0) hb); have n5_ := Aside0.mk (Kd.V_elder' (by (with_reducible repeat (first | apply Kd.V_alloc | apply Kd.V_drewN | apply Kd.V_drew)); exact HO473.out) (Kd.R_base ho0) hb); have n6_ := Aside0.mk (Kd.R_lower (Kd.R_new' (Kd.R_new' (Kd.R_new' (Kd.R_new' ho0 (Kd.R_lt (by (with_reducible repeat (first | apply Kd.R_alloc | apply Kd.R_drewN | apply Kd.R_drew)); exact HO461.out))) (Kd.R_lt (by (with_reducible repeat (first | apply Kd.R_alloc | apply Kd.R_drewN | apply Kd.R_drew)); exact HO463.out))) (Kd.R_lt (by (with_reducible repeat (first | apply Kd.R_alloc | apply Kd.R_drewN | apply Kd.R_drew)); exact HO468.out))) (Kd.R_lt (by (with_reducible repeat (first | apply Kd.R_alloc | apply Kd.R_drewN | apply Kd.R_drew)); exact HO470.out))) (below_size (by repeat (first | (with_reducible first | apply below_alloc | apply pw_below_drewN | apply below_drew1) | exact HB.out)))); have n7_ := Aside0.mk (below_step (by repeat (first | (with_reducible first | apply below_alloc | apply pw_below_drewN | apply below_drew1) | exact HB.out)) hb); clear HO455; clear HO461; clear HO463; clear HO468; clear HO470; clear HO473; clear HB; have HO455 := n0_; have HO461 := n1_; have HO463 := n2_; have HO468 := n3_; have HO470 := n4_; have HO473 := n5_; have HO478 := n6_; have HB := n7_; clear n0_ n1_ n2_ n3_ n4_ n5_ n6_ n7_; (try clear hb); (try clear hb2); (try clear hk); (try clear hi); (try clear ho0)) | (go_at_call 23; (with_reducible refine (spec_TrainTeeth.calls kj45 _ _ t471 t474 t479 t480 _ ?side1 ?side2 A60.out).mono ?_); (case side1 => repeat (first | exact (Kd.V_reads' HO473.out).2.2 | (with_reducible refine Kd.C_alloc ?_ _) | (with_reducible refine Kd.C_drewN ?_ _) | (with_reducible refine Kd.C_drew ?_))); (case side2 => exact (Kd.V_reads' HO473.out).2.1); rintro e w92 ⟨v481, rfl, ho0, hb⟩; have n0_ := Aside0.mk (Kd.V_elder' (by (with_reducible repeat (first | apply Kd.V_alloc | apply Kd.V_drewN | apply Kd.V_drew)); exact HO455.out) (Kd.R_base ho0) hb); have n1_ := Aside0.mk (Kd.R_elder' (by (with_reducible repeat (first | apply Kd.R_alloc | apply Kd.R_drewN | apply Kd.R_drew)); exact HO461.out) (Kd.R_base ho0) hb); have n2_ := Aside0.mk (Kd.R_elder' (by (with_reducible repeat (first | apply Kd.R_alloc | apply Kd.R_drewN | apply Kd.R_drew)); exact HO463.out) (Kd.R_base ho0) hb); have n3_ := Aside0.mk (Kd.R_elder' (by (with_reducible repeat (first | apply Kd.R_alloc | apply Kd.R_drewN | apply Kd.R_drew)); exact HO468.out) (Kd.R_base ho0) hb); have n4_ := Aside0.mk (Kd.R_elder' (by (with_reducible repeat (first | apply Kd.R_alloc | apply Kd.R_drewN | apply Kd.R_drew)); exact HO470.out) (Kd.R_base ho0) hb); have n5_ := Aside0.mk (Kd.V_elder' (by (with_reducible repeat (first | apply Kd.V_alloc | apply Kd.V_drewN | apply Kd.V_drew)); exact HO473.out) (Kd.R_base ho0) hb); have n6_ := Aside0.mk (Kd.R_elder' (by (with_reducible repeat (first | apply Kd.R_alloc | apply Kd.R_drewN | apply Kd.R_drew)); exact HO478.out) (Kd.R_base ho0) hb); have n7_ := Aside0.mk (Kd.R_lower (Kd.R_new' (Kd.R_new' (Kd.R_new' (Kd.R_new' (Kd.R_new' ho0 (Kd.R_lt (by (with_reducible repeat (first | apply Kd.R_alloc | apply Kd.R_drewN | apply Kd.R_drew)); exact HO461.out))) (Kd.R_lt (by (with_reducible repeat (first | apply Kd.R_alloc | apply Kd.R_drewN | apply Kd.R_drew)); exact HO463.out))) (Kd.R_lt (by (with_reducible repeat (first | apply Kd.R_alloc | apply Kd.R_drewN | apply Kd.R_drew)); exact HO468.out))) (Kd.R_lt (by (with_reducible repeat (first | apply Kd.R_alloc | apply Kd.R_drewN | apply Kd.R_drew)); exact HO470.out))) (Kd.R_lt (by (with_reducible repeat (first | apply Kd.R_alloc | apply Kd.R_drewN | apply Kd.R_drew)); exact HO478.out))) (below_size (by repeat (first | (with_reducible first | apply below_alloc | apply pw_below_drewN | apply below_drew1) | exact HB.out)))); have n8_ := Aside0.mk (below_step (by repeat (first | (with_reducible first | apply below_alloc | apply pw_below_drewN | apply below_drew1) | exact HB.out)) hb); clear HO455; clear HO461; clear HO463; clear HO468; clear HO470; clear HO473; clear HO478; clear HB; have HO455 := n0_; have HO461 := n1_; have HO463 := n2_; have HO468 := n3_; have HO470 := n4_; have HO473 := n5_; have HO478 := n6_; have HO482 := n7_; have HB := n8_; clear n0_ n1_ n2_ n3_ n4_ n5_ n6_ n7_ n8_; (try clear hb); (try clear hb2); (try clear hk); (try clear hi); (try clear ho0)) | (go_at_call 24; (with_reducible refine (spec_DrawTrainPeriod.calls kj45 _ _ l1 t483 _ ?side1 ?side2 A61.out).mono ?_); (case side1 => repeat (first | exact (Kd.C_below HR1.out HB.out) | (with_reducible refine Kd.C_alloc ?_ _) | (with_reducible refine Kd.C_drewN ?_ _) | (with_reducible refine Kd.C_drew ?_))); (case side2 => exact HC1.out); rintro e w93 ⟨v484, rfl, ho0, hb⟩; have n0_ := Aside0.mk (Kd.V_below (by (with_reducible repeat (first | apply Kd.V_alloc | apply Kd.V_drewN | apply Kd.V_drew)); exact HO455.out) hb); have n1_ := Aside0.mk (Kd.R_below (by (with_reducible repeat (first | apply Kd.R_alloc | apply Kd.R_drewN | apply Kd.R_drew)); exact HO461.out) hb); have n2_ := Aside0.mk (Kd.R_below (by (with_reducible repeat (first | apply Kd.R_alloc | apply Kd.R_drewN | apply Kd.R_drew)); exact HO463.out) hb); have n3_ := Aside0.mk (Kd.R_below (by (with_reducible repeat (first | apply Kd.R_alloc | apply Kd.R_drewN | apply Kd.R_drew)); exact HO468.out) hb); have n4_ := Aside0.mk (Kd.R_below (by (with_reducible repeat (first | apply Kd.R_alloc | apply Kd.R_drewN | apply Kd.R_drew)); exact HO470.out) hb); have n5_ := Aside0.mk (Kd.V_below (by (with_reducible repeat (first | apply Kd.V_alloc | apply Kd.V_drewN | apply Kd.V_drew)); exact HO473.out) hb); have n6_ := Aside0.mk (Kd.R_below (by (with_reducible repeat (first | apply Kd.R_alloc | apply Kd.R_drewN | apply Kd.R_drew)); exact HO478.out) hb); have n7_ := Aside0.mk (Kd.R_below (by (with_reducible repeat (first | apply Kd.R_alloc | apply Kd.R_drewN | apply Kd.R_drew)); exact HO482.out) hb); have n8_ := Aside0.mk (Kd.V_lower (Kd.V_mono (ok' := fun k_ => some k_ ≠ (v460 : Value).ownBlock ∧ some k_ ≠ (v462 : Value).ownBlock ∧ some k_ ≠ (v467 : Value).ownBlock ∧ some k_ ≠ (v469 : Value).ownBlock ∧ some k_ ≠ (v477 : Value).ownBlock ∧ some k_ ≠ (v481 : Value).ownBlock) ho0 (fun k_ hk_ => ⟨(Kd.fresh' (Kd.R_lt (by (with_reducible repeat (first | apply Kd.R_alloc | apply Kd.R_drewN | apply Kd.R_drew)); exact HO461.out)) k_ hk_), (Kd.fresh' (Kd.R_lt (by (with_reducible repeat (first | apply Kd.R_alloc | apply Kd.R_drewN | apply Kd.R_drew)); exact HO463.out)) k_ hk_), (Kd.fresh' (Kd.R_lt (by (with_reducible repeat (first | apply Kd.R_alloc | apply Kd.R_drewN | apply Kd.R_drew)); exact HO468.out)) k_ hk_), (Kd.fresh' (Kd.R_lt (by (with_reducible repeat (first | apply Kd.R_alloc | apply Kd.R_drewN | apply Kd.R_drew)); exact HO470.out)) k_ hk_), (Kd.fresh' (Kd.R_lt (by (with_reducible repeat (first | apply Kd.R_alloc | apply Kd.R_drewN | apply Kd.R_drew)); exact HO478.out)) k_ hk_), (Kd.fresh' (Kd.R_lt (by (with_reducible repeat (first | apply Kd.R_alloc | apply Kd.R_drewN | apply Kd.R_drew)); exact HO482.out)) k_ hk_)⟩)) (below_size (by repeat (first | (with_reducible first | apply below_alloc | apply pw_below_drewN | apply below_drew1) | exact HB.out)))); have n9_ := Aside0.mk (below_step (by repeat (first | (with_reducible first | apply below_alloc | apply pw_below_drewN | apply below_drew1) | exact HB.out)) hb); clear HO455; clear HO461; clear HO463; clear HO468; clear HO470; clear HO473; clear HO478; clear HO482; clear HB; have HO455 := n0_; have HO461 := n1_; have HO463 := n2_; have HO468 := n3_; have HO470 := n4_; have HO473 := n5_; have HO478 := n6_; have HO482 := n7_; have HO485 := n8_; have HB := n9_; clear n0_ n1_ n2_ n3_ n4_ n5_ n6_ n7_ n8_ n9_; (try clear hb); (try clear hb2); (try clear hk); (try clear hi); (try clear ho0); obtain ⟨Ao94, co94, eo94⟩ := Kd.V_slice HO485.out; subst eo94) | (go_at_call 25; (with_reducible refine (impl_TrainPeriod.calls kj45 _ _ t483 t486 t487 _ ?side1 ?side2 A62.out).mono ?_); (case side1 => repeat (first | exact (Kd.V_reads' HO485.out).2.2 | (with_reducible refine Kd.C_alloc ?_ _) | (with_reducible refine Kd.C_drewN ?_ _) | (with_reducible refine Kd.C_drew ?_))); (case side2 => exact (Kd.V_reads' HO485.out).2.1); rintro e w95 ⟨rfl, hb⟩; have n0_ := Aside0.mk (Kd.V_below (by (with_reducible repeat (first | apply Kd.V_alloc | apply Kd.V_drewN | apply Kd.V_drew)); exact HO455.out) hb); have n1_ := Aside0.mk (Kd.R_below (by (with_reducible repeat (first | apply Kd.R_alloc | apply Kd.R_drewN | apply Kd.R_drew)); exact HO461.out) hb); have n2_ := Aside0.mk (Kd.R_below (by (with_reducible repeat (first | apply Kd.R_alloc | apply Kd.R_drewN | apply Kd.R_drew)); exact HO463.out) hb); have n3_ := Aside0.mk (Kd.R_below (by (with_reducible repeat (first | apply Kd.R_alloc | apply Kd.R_drewN | apply Kd.R_drew)); exact HO468.out) hb); have n4_ := Aside0.mk (Kd.R_below (by (with_reducible repeat (first | apply Kd.R_alloc | apply Kd.R_drewN | apply Kd.R_drew)); exact HO470.out) hb); have n5_ := Aside0.mk (Kd.V_below (by (with_reducible repeat (first | apply Kd.V_alloc | apply Kd.V_drewN | apply Kd.V_drew)); exact HO473.out) hb); have n6_ := Aside0.mk (Kd.R_below (by (with_reducible repeat (first | apply Kd.R_alloc | apply Kd.R_drewN | apply Kd.R_drew)); exact HO478.out) hb); have n7_ := Aside0.mk (Kd.R_below (by (with_reducible repeat (first | apply Kd.R_alloc | apply Kd.R_drewN | apply Kd.R_drew)); exact HO482.out) hb); have n8_ := Aside0.mk (Kd.V_below (by (with_reducible repeat (first | apply Kd.V_alloc | apply Kd.V_drewN | apply Kd.V_drew)); exact HO485.out) hb); have n9_ := Aside0.mk (below_step (by repeat (first | (with_reducible first | apply below_alloc | apply pw_below_drewN | apply below_drew1) | exact HB.out)) hb); clear HO455; clear HO461; clear HO463; clear HO468; clear HO470; clear HO473; clear HO478; clear HO482; clear HO485; clear HB; have HO455 := n0_; have HO461 := n1_; have HO463 := n2_; have HO468 := n3_; have HO470 := n4_; have HO473 := n5_; have HO478 := n6_; have HO482 := n7_; have HO485 := n8_; have HB := n9_; clear n0_ n1_ n2_ n3_ n4_ n5_ n6_ n7_ n8_ n9_; (try clear hb); (try clear hb2); (try clear hk); (try clear hi)) | (go_at_call 26; (with_reducible refine (spec_TrainPeriod.calls kj45 _ _ t483 t488 t489 _ ?side1 ?side2 A63.out).mono ?_); (case side1 => repeat (first | exact (Kd.V_reads' HO485.out).2.2 | (with_reducible refine Kd.C_alloc ?_ _) | (with_reducible refine Kd.C_drewN ?_ _) | (with_reducible refine Kd.C_drew ?_))); (case side2 => exact (Kd.V_reads' HO485.out).2.1); rintro e w' ⟨rfl, ⟨nd, rfl⟩⟩; (try first | exact ⟨rfl, _, World.drewN_drewN _ _ _⟩ | exact ⟨rfl, _, Eq.trans (World.drewN_drewN _ _ _) (congrArg (World.drewN _) (Nat.add_assoc _ _ _))⟩)) | (go_at_call 27; (with_reducible refine (impl_LeastTurns.calls kj45 _ _ t483 t490 t491 _ ?side1 ?side2 A64.out).mono ?_); (case side1 => repeat (first | exact (Kd.V_reads' HO485.out).2.2 | (with_reducible refine Kd.C_alloc ?_ _) | (with_reducible refine Kd.C_drewN ?_ _) | (with_reducible refine Kd.C_drew ?_))); (case side2 => exact (Kd.V_reads' HO485.out).2.1); rintro e w96 ⟨rfl, hb⟩; have n0_ := Aside0.mk (Kd.V_below (by (with_reducible repeat (first | apply Kd.V_alloc | apply Kd.V_drewN | apply Kd.V_drew)); exact HO455.out) hb); have n1_ := Aside0.mk (Kd.R_below (by (with_reducible repeat (first | apply Kd.R_alloc | apply Kd.R_drewN | apply Kd.R_drew)); exact HO461.out) hb); have n2_ := Aside0.mk (Kd.R_below (by (with_reducible repeat (first | apply Kd.R_alloc | apply Kd.R_drewN | apply Kd.R_drew)); exact HO463.out) hb); have n3_ := Aside0.mk (Kd.R_below (by (with_reducible repeat (first | apply Kd.R_alloc | apply Kd.R_drewN | apply Kd.R_drew)); exact HO468.out) hb); have n4_ := Aside0.mk (Kd.R_below (by (with_reducible repeat (first | apply Kd.R_alloc | apply Kd.R_drewN | apply Kd.R_drew)); exact HO470.out) hb); have n5_ := Aside0.mk (Kd.V_below (by (with_reducible repeat (first | apply Kd.V_alloc | apply Kd.V_drewN | apply Kd.V_drew)); exact HO473.out) hb); have n6_ := Aside0.mk (Kd.R_below (by (with_reducible repeat (first | apply Kd.R_alloc | apply Kd.R_drewN | apply Kd.R_drew)); exact HO478.out) hb); have n7_ := Aside0.mk (Kd.R_below (by (with_reducible repeat (first | apply Kd.R_alloc | apply Kd.R_drewN | apply Kd.R_drew)); exact HO482.out) hb); have n8_ := Aside0.mk (Kd.V_below (by (with_reducible repeat (first | apply Kd.V_alloc | apply Kd.V_drewN | apply Kd.V_drew)); exact HO485.out) hb); have n9_ := Aside0.mk (below_step (by repeat (first | (with_reducible first | apply below_alloc | apply pw_below_drewN | apply below_drew1) | exact HB.out)) hb); clear HO455; clear HO461; clear HO463; clear HO468; clear HO470; clear HO473; clear HO478; clear HO482; clear HO485; clear HB; have HO455 := n0_; have HO461 := n1_; have HO463 := n2_; have HO468 := n3_; have HO470 := n4_; have HO473 := n5_; have HO478 := n6_; have HO482 := n7_; have HO485 := n8_; have HB := n9_; clear n0_ n1_ n2_ n3_ n4_ n5_ n6_ n7_ n8_ n9_; (try clear hb); (try clear hb2); (try clear hk); (try clear hi)) | (go_at_call 28; (with_reducible refine (spec_LeastTurns.calls kj45 _ _ t483 t492 t493 _ ?side1 ?side2 A65.out).mono ?_); (case side1 => repeat (first | exact (Kd.V_reads' HO485.out).2.2 | (with_reducible refine Kd.C_alloc ?_ _) | (with_reducible refine Kd.C_drewN ?_ _) | (with_reducible refine Kd.C_drew ?_))); (case side2 => exact (Kd.V_reads' HO485.out).2.1); rintro e w' ⟨rfl, ⟨nd, rfl⟩⟩; (try first | exact ⟨rfl, _, World.drewN_drewN _ _ _⟩ | exact ⟨rfl, _, Eq.trans (World.drewN_drewN _ _ _) (congrArg (World.drewN _) (Nat.add_assoc _ _ _))⟩)) | (go_at_call 29; (with_reducible refine (spec_DrawAreInGear.calls kj45 _ _ l1 t494 t497 _ ?side1 ?side2 A66.out).mono ?_); (case side1 => repeat (first | exact (Kd.C_below HR1.out (by repeat (first | (with_reducible first | apply below_alloc | apply pw_below_drewN | apply below_drew1) | exact HB.out))) | (with_reducible refine Kd.C_alloc ?_ _) | (with_reducible refine Kd.C_drewN ?_ _) | (with_reducible refine Kd.C_drew ?_))); (case side2 => exact HC1.out); rintro e w97 ⟨v495, v498, rfl, ho0, ho1, hb⟩; have n0_ := Aside0.mk (Kd.V_elder' (by (with_reducible repeat (first | apply Kd.V_alloc | apply Kd.V_drewN | apply Kd.V_drew)); exact HO455.out) (Kd.R_base ho1) hb); have n1_ := Aside0.mk (Kd.R_elder' (by (with_reducible repeat (first | apply Kd.R_alloc | apply Kd.R_drewN | apply Kd.R_drew)); exact HO461.out) (Kd.R_base ho1) hb); have n2_ := Aside0.mk (Kd.R_elder' (by (with_reducible repeat (first | apply Kd.R_alloc | apply Kd.R_drewN | apply Kd.R_drew)); exact HO463.out) (Kd.R_base ho1) hb); have n3_ := Aside0.mk (Kd.R_elder' (by (with_reducible repeat (first | apply Kd.R_alloc | apply Kd.R_drewN | apply Kd.R_drew)); exact HO468.out) (Kd.R_base ho1) hb); have n4_ := Aside0.mk (Kd.R_elder' (by (with_reducible repeat (first | apply Kd.R_alloc | apply Kd.R_drewN | apply Kd.R_drew)); exact HO470.out) (Kd.R_base ho1) hb); have n5_ := Aside0.mk (Kd.V_elder' (by (with_reducible repeat (first | apply Kd.V_alloc | apply Kd.V_drewN | apply Kd.V_drew)); exact HO473.out) (Kd.R_base ho1) hb); have n6_ := Aside0.mk (Kd.R_elder' (by (with_reducible repeat (first | apply Kd.R_alloc | apply Kd.R_drewN | apply Kd.R_drew)); exact HO478.out) (Kd.R_base ho1) hb); have n7_ := Aside0.mk (Kd.R_elder' (by (with_reducible repeat (first | apply Kd.R_alloc | apply Kd.R_drewN | apply Kd.R_drew)); exact HO482.out) (Kd.R_base ho1) hb); have n8_ := Aside0.mk (Kd.V_elder' (by (with_reducible repeat (first | apply Kd.V_alloc | apply Kd.V_drewN | apply Kd.V_drew)); exact HO485.out) (Kd.R_base ho1) hb); have n9_ := Aside0.mk (Kd.V_lower (Kd.V_mono (ok' := fun k_ => some k_ ≠ (v498 : Value).ownBlock ∧ some k_ ≠ (v460 : Value).ownBlock ∧ some k_ ≠ (v462 : Value).ownBlock ∧ some k_ ≠ (v467 : Value).ownBlock ∧ some k_ ≠ (v469 : Value).ownBlock ∧ some k_ ≠ (v477 : Value).ownBlock ∧ some k_ ≠ (v481 : Value).ownBlock) ho0 (fun k_ hk_ => ⟨hk_.2, (Kd.fresh' (Kd.R_lt (by (with_reducible repeat (first | apply Kd.R_alloc | apply Kd.R_drewN | apply Kd.R_drew)); exact HO461.out)) k_ hk_.1), (Kd.fresh' (Kd.R_lt (by (with_reducible repeat (first | apply Kd.R_alloc | apply Kd.R_drewN | apply Kd.R_drew)); exact HO463.out)) k_ hk_.1), (Kd.fresh' (Kd.R_lt (by (with_reducible repeat (first | apply Kd.R_alloc | apply Kd.R_drewN | apply Kd.R_drew)); exact HO468.out)) k_ hk_.1), (Kd.fresh' (Kd.R_lt (by (with_reducible repeat (first | apply Kd.R_alloc | apply Kd.R_drewN | apply Kd.R_drew)); exact HO470.out)) k_ hk_.1), (Kd.fresh' (Kd.R_lt (by (with_reducible repeat (first | apply Kd.R_alloc | apply Kd.R_drewN | apply Kd.R_drew)); exact HO478.out)) k_ hk_.1), (Kd.fresh' (Kd.R_lt (by (with_reducible repeat (first | apply Kd.R_alloc | apply Kd.R_drewN | apply Kd.R_drew)); exact HO482.out)) k_ hk_.1)⟩)) (below_size (by repeat (first | (with_reducible first | apply below_alloc | apply pw_below_drewN | apply below_drew1) | exact HB.out)))); have n10_ := Aside0.mk (Kd.R_lower (Kd.R_new' (Kd.R_new' (Kd.R_new' (Kd.R_new' (Kd.R_new' (Kd.R_new' (Kd.R_mono (ok' := fun k_ => True) ho1 (fun _ hk_ => trivial)) (Kd.R_lt (by (with_reducible repeat (first | apply Kd.R_alloc | apply Kd.R_drewN | apply Kd.R_drew)); exact HO461.out))) (Kd.R_lt (by (with_reducible repeat (first | apply Kd.R_alloc | apply Kd.R_drewN | apply Kd.R_drew)); exact HO463.out))) (Kd.R_lt (by (with_reducible repeat (first | apply Kd.R_alloc | apply Kd.R_drewN | apply Kd.R_drew)); exact HO468.out))) (Kd.R_lt (by (with_reducible repeat (first | apply Kd.R_alloc | apply Kd.R_drewN | apply Kd.R_drew)); exact HO470.out))) (Kd.R_lt (by (with_reducible repeat (first | apply Kd.R_alloc | apply Kd.R_drewN | apply Kd.R_drew)); exact HO478.out))) (Kd.R_lt (by (with_reducible repeat (first | apply Kd.R_alloc | apply Kd.R_drewN | apply Kd.R_drew)); exact HO482.out))) (below_size (by repeat (first | (with_reducible first | apply below_alloc | apply pw_below_drewN | apply below_drew1) | exact HB.out)))); have n11_ := Aside0.mk (below_step (by repeat (first | (with_reducible first | apply below_alloc | apply pw_below_drewN | apply below_drew1) | exact HB.out)) hb); clear HO455; clear HO461; clear HO463; clear HO468; clear HO470; clear HO473; clear HO478; clear HO482; clear HO485; clear HB; have HO455 := n0_; have HO461 := n1_; have HO463 := n2_; have HO468 := n3_; have HO470 := n4_; have HO473 := n5_; have HO478 := n6_; have HO482 := n7_; have HO485 := n8_; have HO496 := n9_; have HO499 := n10_; have HB := n11_; clear n0_ n1_ n2_ n3_ n4_ n5_ n6_ n7_ n8_ n9_ n10_ n11_; (try clear hb); (try clear hb2); (try clear hk); (try clear hi); (try clear ho0); (try clear ho1); obtain ⟨Ao98, co98, eo98⟩ := Kd.V_slice HO496.out; subst eo98; obtain ⟨Ao99, co99, eo99⟩ := Kd.R_slice HO499.out; subst eo99) | (go_at_call 30; (with_reducible refine (impl_AreInGear.calls kj45 _ _ t494 _ _ t497 t500 t501 _ ?side1 ?side2 ?side3 ?side4 A67.out).mono ?_); (case side1 => repeat (first | exact (Kd.V_reads' HO496.out).2.2 | (with_reducible refine Kd.C_alloc ?_ _) | (with_reducible refine Kd.C_drewN ?_ _) | (with_reducible refine Kd.C_drew ?_))); (case side2 => exact (Kd.V_reads' HO496.out).2.1); (case side3 => repeat (first | exact (Kd.R_reads' HO499.out).2.2 | (with_reducible refine Kd.C_alloc ?_ _) | (with_reducible refine Kd.C_drewN ?_ _) | (with_reducible refine Kd.C_drew ?_))); (case side4 => exact (Kd.R_reads' HO499.out).2.1); rintro e w100 ⟨rfl, hb⟩; have n0_ := Aside0.mk (Kd.V_below (by (with_reducible repeat (first | apply Kd.V_alloc | apply Kd.V_drewN | apply Kd.V_drew)); exact HO455.out) hb); have n1_ := Aside0.mk (Kd.R_below (by (with_reducible repeat (first | apply Kd.R_alloc | apply Kd.R_drewN | apply Kd.R_drew)); exact HO461.out) hb); have n2_ := Aside0.mk (Kd.R_below (by (with_reducible repeat (first | apply Kd.R_alloc | apply Kd.R_drewN | apply Kd.R_drew)); exact HO463.out) hb); have n3_ := Aside0.mk (Kd.R_below (by (with_reducible repeat (first | apply Kd.R_alloc | apply Kd.R_drewN | apply Kd.R_drew)); exact HO468.out) hb); have n4_ := Aside0.mk (Kd.R_below (by (with_reducible repeat (first | apply Kd.R_alloc | apply Kd.R_drewN | apply Kd.R_drew)); exact HO470.out) hb); have n5_ := Aside0.mk (Kd.V_below (by (with_reducible repeat (first | apply Kd.V_alloc | apply Kd.V_drewN | apply Kd.V_drew)); exact HO473.out) hb); have n6_ := Aside0.mk (Kd.R_below (by (with_reducible repeat (first | apply Kd.R_alloc | apply Kd.R_drewN | apply Kd.R_drew)); exact HO478.out) hb); have n7_ := Aside0.mk (Kd.R_below (by (with_reducible repeat (first | apply Kd.R_alloc | apply Kd.R_drewN | apply Kd.R_drew)); exact HO482.out) hb); have n8_ := Aside0.mk (Kd.V_below (by (with_reducible repeat (first | apply Kd.V_alloc | apply Kd.V_drewN | apply Kd.V_drew)); exact HO485.out) hb); have n9_ := Aside0.mk (Kd.V_below (by (with_reducible repeat (first | apply Kd.V_alloc | apply Kd.V_drewN | apply Kd.V_drew)); exact HO496.out) hb); have n10_ := Aside0.mk (Kd.R_below (by (with_reducible repeat (first | apply Kd.R_alloc | apply Kd.R_drewN | apply Kd.R_drew)); exact HO499.out) hb); have n11_ := Aside0.mk (below_step (by repeat (first | (with_reducible first | apply below_alloc | apply pw_below_drewN | apply below_drew1) | exact HB.out)) hb); clear HO455; clear HO461; clear HO463; clear HO468; clear HO470; clear HO473; clear HO478; clear HO482; clear HO485; clear HO496; clear HO499; clear HB; have HO455 := n0_; have HO461 := n1_; have HO463 := n2_; have HO468 := n3_; have HO470 := n4_; have HO473 := n5_; have HO478 := n6_; have HO482 := n7_; have HO485 := n8_; have HO496 := n9_; have HO499 := n10_; have HB := n11_; clear n0_ n1_ n2_ n3_ n4_ n5_ n6_ n7_ n8_ n9_ n10_ n11_; (try clear hb); (try clear hb2); (try clear hk); (try clear hi)) | (go_at_call 31; (with_reducible refine (spec_AreInGear.calls kj45 _ _ t494 _ _ t497 t502 t503 _ ?side1 ?side2 ?side3 ?side4 A68.out).mono ?_); (case side1 => repeat (first | exact (Kd.V_reads' HO496.out).2.2 | (with_reducible refine Kd.C_alloc ?_ _) | (with_reducible refine Kd.C_drewN ?_ _) | (with_reducible refine Kd.C_drew ?_))); (case side2 => exact (Kd.V_reads' HO496.out).2.1); (case side3 => repeat (first | exact (Kd.R_reads' HO499.out).2.2 | (with_reducible refine Kd.C_alloc ?_ _) | (with_reducible refine Kd.C_drewN ?_ _) | (with_reducible refine Kd.C_drew ?_))); (case side4 => exact (Kd.R_reads' HO499.out).2.1); rintro e w' ⟨rfl, ⟨nd, rfl⟩⟩; (try first | exact ⟨rfl, _, World.drewN_drewN _ _ _⟩ | exact ⟨rfl, _, Eq.trans (World.drewN_drewN _ _ _) (congrArg (World.drewN _) (Nat.add_assoc _ _ _))⟩); obtain ⟨Ao101, co101, eo101⟩ := Kd.R_slice HO461.out; subst eo101; obtain ⟨Ao102, co102, eo102⟩ := Kd.R_slice HO468.out; subst eo102) | (go_at_call 12; (with_reducible refine (laws_uSame.calls kj45 _ _ t457 _ _ t464 true _ ?side1 ?side2 ?side3 ?side4 A70.out).mono ?_); (case side1 => repeat (first | exact (Kd.R_reads' HO461.out).2.2 | (with_reducible refine Kd.C_alloc ?_ _) | (with_reducible refine Kd.C_drewN ?_ _) | (with_reducible refine Kd.C_drew ?_))); (case side2 => exact (Kd.R_reads' HO461.out).2.1); (case side3 => repeat (first | exact (Kd.R_reads' HO468.out).2.2 | (with_reducible refine Kd.C_alloc ?_ _) | (with_reducible refine Kd.C_drewN ?_ _) | (with_reducible refine Kd.C_drew ?_))); (case side4 => exact (Kd.R_reads' HO468.out).2.1); rintro e w' ⟨rfl, ⟨nd, rfl⟩⟩; (try first | exact ⟨rfl, _, World.drewN_drewN _ _ _⟩ | exact ⟨rfl, _, Eq.trans (World.drewN_drewN _ _ _) (congrArg (World.drewN _) (Nat.add_assoc _ _ _))⟩); obtain ⟨Ao103, co103, eo103⟩ := Kd.R_slice HO463.out; subst eo103; obtain ⟨Ao104, co104, eo104⟩ := Kd.R_slice HO470.out; subst eo104) | (go_at_call 12; (with_reducible refine (laws_uSame.calls kj45 _ _ t458 _ _ t465 true _ ?side1 ?side2 ?side3 ?side4 A72.out).mono ?_); (case side1 => repeat (first | exact (Kd.R_reads' HO463.out).2.2 | (with_reducible refine Kd.C_alloc ?_ _) | (with_reducible refine Kd.C_drewN ?_ _) | (with_reducible refine Kd.C_drew ?_))); (case side2 => exact (Kd.R_reads' HO463.out).2.1); (case side3 => repeat (first | exact (Kd.R_reads' HO470.out).2.2 | (with_reducible refine Kd.C_alloc ?_ _) | (with_reducible refine Kd.C_drewN ?_ _) | (with_reducible refine Kd.C_drew ?_))); (case side4 => exact (Kd.R_reads' HO470.out).2.1); rintro e w' ⟨rfl, ⟨nd, rfl⟩⟩; (try first | exact ⟨rfl, _, World.drewN_drewN _ _ _⟩ | exact ⟨rfl, _, Eq.trans (World.drewN_drewN _ _ _) (congrArg (World.drewN _) (Nat.add_assoc _ _ _))⟩); obtain ⟨Ao105, co105, eo105⟩ := Kd.R_slice HO478.out; subst eo105; obtain ⟨Ao106, co106, eo106⟩ := Kd.R_slice HO482.out; subst eo106) | (go_at_call 12; (with_reducible refine (laws_uSame.calls kj45 _ _ t475 _ _ t479 true _ ?side1 ?side2 ?side3 ?side4 A75.out).mono ?_); (case side1 => repeat (first | exact (Kd.R_reads' HO478.out).2.2 | (with_reducible refine Kd.C_alloc ?_ _) | (with_reducible refine Kd.C_drewN ?_ _) | (with_reducible refine Kd.C_drew ?_))); (case side2 => exact (Kd.R_reads' HO478.out).2.1); (case side3 => repeat (first | exact (Kd.R_reads' HO482.out).2.2 | (with_reducible refine Kd.C_alloc ?_ _) | (with_reducible refine Kd.C_drewN ?_ _) | (with_reducible refine Kd.C_drew ?_))); (case side4 => exact (Kd.R_reads' HO482.out).2.1); rintro e w' ⟨rfl, ⟨nd, rfl⟩⟩; (try first | exact ⟨rfl, _, World.drewN_drewN _ _ _⟩ | exact ⟨rfl, _, Eq.trans (World.drewN_drewN _ _ _) (congrArg (World.drewN _) (Nat.add_assoc _ _ _))⟩))))
                     (try simp only [Act.put, List.setIfInBounds_toArray, List.set_cons_zero, List.set_cons_succ])
                     go_cut [] (fun wc => ∃ (kq : Nat), Aside0 (laws_FnGearsMeet.j4 kq t471 t475 t476 t483 t486 t487 t490 = some r) ∧ Aside0 (kq ≤ kj45) ∧ Aside0 (Kd.V (Kd.int .i64) 3 wc w.heap.size (fun k_ => some k_ ≠ ((.slice Ao105 t475.length co105) : Value).ownBlock) (.slice Ao90 t471.length co90) t471) ∧ Aside0 (Kd.R (Kd.int .i64) 3 wc w.heap.size (fun _ => True) (.slice Ao105 t475.length co105) t475) ∧ Aside0 (Kd.V (Kd.int .i64) 3 wc w.heap.size (fun k_ => some k_ ≠ ((.slice Ao105 t475.length co105) : Value).ownBlock) (.slice Ao94 t483.length co94) t483) ∧ Aside0 (Below w.heap.size w wc))
                     case first =>
                      as_aux_lemma =>
                      have H := HC84.out
                      clear HC84
                      by_cases c107 : t459 = true
                      ·as_aux_lemma =>
                       subst c107
                       rw [if_pos rfl] at H
                       have H' := Aside0.mk H
                       clear H
                       go_wp2
                       repeat (go_quiet (fail); try go_wp2)
                       go_loopg [57, 379] kj45 (fun kq v57 v379 w' => ∃ (x57_4 : Int) (x379_4 : Int), v57 = .int .i64 x57_4 ∧ v379 = .int .i64 x379_4 ∧ Aside0 (laws_FnGearsMeet.l0 kq t453 t456 t458 t471 t475 t476 t483 t486 t487 t490 x57_4 t457 (t457.length : Int) x379_4 = some r) ∧ Aside0 (kq ≤ kj45) ∧ Aside0 (Kd.V (Kd.int .i64) 3 w' w.heap.size (fun k_ => some k_ ≠ ((.slice Ao103 t458.length co103) : Value).ownBlock ∧ some k_ ≠ ((.slice Ao105 t475.length co105) : Value).ownBlock ∧ some k_ ≠ ((.slice Ao101 t457.length co101) : Value).ownBlock) (.slice Ao86 t453.length co86) t453) ∧ Aside0 (Kd.R (Kd.int .i64) 3 w' w.heap.size (fun k_ => some k_ ≠ ((.slice Ao105 t475.length co105) : Value).ownBlock ∧ some k_ ≠ ((.slice Ao101 t457.length co101) : Value).ownBlock) (.slice Ao103 t458.length co103) t458) ∧ Aside0 (Kd.V (Kd.int .i64) 3 w' w.heap.size (fun k_ => some k_ ≠ ((.slice Ao103 t458.length co103) : Value).ownBlock ∧ some k_ ≠ ((.slice Ao105 t475.length co105) : Value).ownBlock ∧ some k_ ≠ ((.slice Ao101 t457.length co101) : Value).ownBlock) (.slice Ao90 t471.length co90) t471) ∧ Aside0 (Kd.R (Kd.int .i64) 3 w' w.heap.size (fun k_ => some k_ ≠ ((.slice Ao103 t458.length co103) : Value).ownBlock ∧ some k_ ≠ ((.slice Ao101 t457.length co101) : Value).ownBlock) (.slice Ao105 t475.length co105) t475) ∧ Aside0 (Kd.V (Kd.int .i64) 3 w' w.heap.size (fun k_ => some k_ ≠ ((.slice Ao103 t458.length co103) : Value).ownBlock ∧ some k_ ≠ ((.slice Ao105 t475.length co105) : Value).ownBlock ∧ some k_ ≠ ((.slice Ao101 t457.length co101) : Value).ownBlock) (.slice Ao94 t483.length co94) t483) ∧ Aside0 (Kd.R (Kd.int .i64) 3 w' w.heap.size (fun k_ => some k_ ≠ ((.slice Ao103 t458.length co103) : Value).ownBlock ∧ some k_ ≠ ((.slice Ao105 t475.length co105) : Value).ownBlock) (.slice Ao101 t457.length co101) t457) ∧ Aside0 (Below w.heap.size w w'))
                       case atStart => exact ⟨(1), (0), (by first | rfl | (simp; done) | (simp [*]; done)), (by first | rfl | (simp; done) | (simp [*]; done)), H', ⟨Nat.le_refl _⟩, ⟨by (with_reducible repeat (first | apply Kd.V_alloc | apply Kd.V_drewN | apply Kd.V_drew)); exact Kd.V_mono HO455.out (fun _ hk => ⟨hk.1.1.1.1.1.2, ⟨hk.1.1.2, hk.1.1.1.1.1.1.2⟩⟩)⟩, ⟨by (with_reducible repeat (first | apply Kd.R_alloc | apply Kd.R_drewN | apply Kd.R_drew)); exact Kd.R_mono HO463.out (fun _ hk => ⟨hk.1.1.2, hk.1.1.1.1.1⟩)⟩, ⟨by (with_reducible repeat (first | apply Kd.V_alloc | apply Kd.V_drewN | apply Kd.V_drew)); exact Kd.V_mono HO473.out (fun _ hk => ⟨hk.1.1.1.2.1, ⟨hk.1.1.2, hk.1.1.1.1⟩⟩)⟩, ⟨by (with_reducible repeat (first | apply Kd.R_alloc | apply Kd.R_drewN | apply Kd.R_drew)); exact Kd.R_mono HO478.out (fun _ hk => ⟨hk.1.1.1.1.2, hk.1.1.1.1.1.2⟩)⟩, ⟨by (with_reducible repeat (first | apply Kd.V_alloc | apply Kd.V_drewN | apply Kd.V_drew)); exact Kd.V_mono HO485.out (fun _ hk => ⟨hk.1.2.1, ⟨hk.1.2.2.2.2.1, hk.1.1⟩⟩)⟩, ⟨by (with_reducible repeat (first | apply Kd.R_alloc | apply Kd.R_drewN | apply Kd.R_drew)); exact Kd.R_mono HO461.out (fun _ hk => ⟨hk.1.1.1.1.1, hk.1.1.2⟩)⟩, ⟨by repeat (first | (with_reducible first | apply below_alloc | apply pw_below_drewN | apply below_drew1) | exact HB.out)⟩⟩
                       case round =>
                        as_aux_lemma =>
                        clear H'
                        try clear c1
                        try clear c2
                        try clear p2
                        try clear c3
                        try clear c4
                        try clear c5
                        try clear c6
                        try clear p6
                        try clear c7
                        try clear c8
                        try clear c10
                        try clear c18
                        try clear c18b0
                        try clear c18b1
                        try clear c18b2
                        try clear c19
                        try clear c19b0
                        try clear c19b1
                        try clear c20
                        try clear c20b0
                        try clear c20b1
                        try clear c20b2
                        try clear c21
                        try clear c21b0
                        try clear c21b1
                        try clear c21b2
                        try clear c22
                        try clear c22b0
                        try clear c22b1
                        try clear c22b2
                        try clear c24
                        try clear c25
                        try clear c26
                        try clear c26b0
                        try clear c26b1
                        try clear c26b2
                        try clear c27
                        try clear c31
                        try clear c31b0
                        try clear c31b1
                        try clear c31b2
                        try clear c34
                        try clear c36
                        try clear c39
                        try clear c40
                        try clear c40b0
                        try clear c40b1
                        try clear c41
                        try clear c41b0
                        try clear c41b1
                        try clear c42
                        try clear c43
                        try clear c43b0
                        try clear c47
                        try clear c49
                        try clear c51
                        try clear c52
                        try clear c52b0
                        try clear c52b1
                        try clear p64
                        try clear c69
                        try clear c69b0
                        try clear c69b1
                        try clear c69b2
                        try clear c71
                        try clear c73
                        try clear c74
                        try clear c74b0
                        try clear c74b1
                        try clear c74b2
                        try clear c76
                        try clear c77
                        try clear c77b0
                        try clear c77b1
                        try clear c77b2
                        try clear c78
                        try clear c78b0
                        try clear c78b1
                        try clear c79
                        try clear c79b0
                        try clear c79b1
                        try clear c79b2
                        try clear c80
                        try clear c80b0
                        try clear c80b1
                        try clear c81
                        try clear c81b0
                        try clear c81b1
                        try clear c81b2
                        try clear c82
                        try clear c82b0
                        try clear c82b1
                        try clear c82b2
                        try clear c83
                        try clear c83b0
                        try clear c83b1
                        try clear c83b2
                        try clear c107
                        try clear p2
                        try clear p6
                        obtain ⟨x57_4, x379_4, rfl, rfl, HA, HK4, HO_28, HO_31, HO_36, HO_38, HO_42, HO_377, HB⟩ := hrel
                        cases gk with
                        | zero => exact absurd HA.out (by simp [laws_FnGearsMeet.l0])
                        | succ k4 =>
                         have H := HA.out
                         clear HA
                         simp only [laws_FnGearsMeet.l0] at H
                         by_cases c108 : x379_4 < (t457.length : Int)
                         ·rw [if_pos c108] at H
                          have c108b0 : decide (x379_4 < (t457.length : Int)) = true := decide_eq_true c108
                          clear c108
                          (first | rw [c108b0] | (simp only [i64_w, i32_w]; rw [c108b0]) | skip)
                          by_cases c109 : 0 ≤ x379_4
                          ·rw [if_pos c109] at H
                           have c109b0 : decide (0 ≤ x379_4) = true := decide_eq_true c109
                           clear c109
                           by_cases c110 : x379_4 < (t457.length : Int)
                           ·rw [if_pos c110] at H
                            have c110b0 : decide (x379_4 < (t457.length : Int)) = true := decide_eq_true c110
                            clear c110
                            by_cases c111 : x379_4 < (t458.length : Int)
                            ·rw [if_pos c111] at H
                             have c111b0 : decide (x379_4 < (t458.length : Int)) = true := decide_eq_true c111
                             clear c111
                             by_cases c112 : (rd t458 x379_4) < 1
                             ·rw [if_pos c112] at H
                              exact absurd H (by simp)
                             ·rw [if_neg c112] at H
                              have c112b0 : decide ((rd t458 x379_4) < 1) = false := decide_eq_false c112
                              clear c112
                              by_cases c113 : x379_4 < (t453.length : Int)
                              ·rw [if_pos c113] at H
                               have c113b0 : decide (x379_4 < (t453.length : Int)) = true := decide_eq_true c113
                               clear c113
                               by_cases c114 : 0 < (t453.length : Int)
                               ·rw [if_pos c114] at H
                                have c114b0 : decide (0 < (t453.length : Int)) = true := decide_eq_true c114
                                have c114b1 : decide (0 < t453.length) = true := decide_eq_true (by omega)
                                clear c114
                                by_cases c115 : (wrap64 ((rd t457 x379_4) * (rd t453 x379_4))) = (wrap64 ((wrap64 ((wrap64 (x57_4 * t456)) * (rd t453 0))) * (rd t458 x379_4)))
                                ·as_aux_lemma =>
                                 rw [if_pos c115] at H
                                 have c115b0 : ((wrap64 ((rd t457 x379_4) * (rd t453 x379_4))) == (wrap64 ((wrap64 ((wrap64 (x57_4 * t456)) * (rd t453 0))) * (rd t458 x379_4)))) = true := beq_iff_eq.mpr c115
                                 have c115b1 : ((wrap64 ((rd t457 x379_4) * (rd t453 x379_4))) != (wrap64 ((wrap64 ((wrap64 (x57_4 * t456)) * (rd t453 0))) * (rd t458 x379_4)))) = false := bne_eq_false_iff_eq.mpr c115
                                 clear c115
                                 have H' := Aside0.mk H
                                 clear H
                                 have p507 : 0 ≤ (x379_4 : Int) := of_decide_eq_true (by assumption)
                                 have q507 : x379_4 < (t457.length : Int) := of_decide_eq_true (by assumption)
                                 obtain ⟨ad507, e507, hx507_0⟩ := Kd.at_int (Kd.R_reads' HO_377.out).2.2 x379_4 p507 q507
                                 cases e507
                                 replace p507 := eq_true p507
                                 replace q507 := eq_true q507
                                 have p508 : 0 ≤ (x379_4 : Int) := of_decide_eq_true (by assumption)
                                 have q508 : x379_4 < (t458.length : Int) := of_decide_eq_true (by assumption)
                                 obtain ⟨ad508, e508, hx508_0⟩ := Kd.at_int (Kd.R_reads' HO_31.out).2.2 x379_4 p508 q508
                                 cases e508
                                 replace p508 := eq_true p508
                                 replace q508 := eq_true q508
                                 have p509 : 0 ≤ (x379_4 : Int) := of_decide_eq_true (by assumption)
                                 have q509 : x379_4 < (t453.length : Int) := of_decide_eq_true (by assumption)
                                 obtain ⟨ad509, e509, hx509_0⟩ := Kd.at_int (Kd.V_reads' HO_28.out).2.2 x379_4 p509 q509
                                 cases e509
                                 replace p509 := eq_true p509
                                 replace q509 := eq_true q509
                                 have p510 : 0 ≤ (0 : Int) := (by omega)
                                 have q510 : 0 < (t453.length : Int) := of_decide_eq_true (by assumption)
                                 obtain ⟨ad510, e510, hx510_0⟩ := Kd.at_int (Kd.V_reads' HO_28.out).2.2 0 p510 q510
                                 obtain rfl : ad509 = ad510 := (by injection e510)
                                 have qi510 : (0 < t453.length) = True := eq_true (by omega)
                                 (try rw [show ((0 : Int)).toNat = 0 from rfl] at hx510_0)
                                 (try rw [Addr.add_zero'] at hx510_0)
                                 replace p510 := eq_true p510
                                 replace q510 := eq_true q510
                                 have p511 : 0 ≤ (x379_4 : Int) := of_decide_eq_true (by assumption)
                                 have q511 : x379_4 < (t458.length : Int) := of_decide_eq_true (by assumption)
                                 obtain ⟨ad511, e511, hx511_0⟩ := Kd.at_int (Kd.R_reads' HO_31.out).2.2 x379_4 p511 q511
                                 obtain rfl : ad508 = ad511 := (by injection e511)
                                 replace p511 := eq_true p511
                                 replace q511 := eq_true q511
                                 go_wp2
                                 repeat (go_quiet (fail); try go_wp2)
                                 go_roundg k4
                                 case measure => have := HJ11.out; have := HJ34.out; have := HJ45.out; have := HK4.out; omega
                                 case rel => exact ⟨(wrap64 (-x57_4)), (wrap64 (x379_4 + 1)), (by first | rfl | (simp; done) | (simp [*]; done)), (by first | rfl | (simp; done) | (simp [*]; done)), H', ⟨by have := HJ11.out; have := HJ34.out; have := HJ45.out; have := HK4.out; omega⟩, ⟨by (with_reducible repeat (first | apply Kd.V_alloc | apply Kd.V_drewN | apply Kd.V_drew)); exact HO_28.out⟩, ⟨by (with_reducible repeat (first | apply Kd.R_alloc | apply Kd.R_drewN | apply Kd.R_drew)); exact HO_31.out⟩, ⟨by (with_reducible repeat (first | apply Kd.V_alloc | apply Kd.V_drewN | apply Kd.V_drew)); exact HO_36.out⟩, ⟨by (with_reducible repeat (first | apply Kd.R_alloc | apply Kd.R_drewN | apply Kd.R_drew)); exact HO_38.out⟩, ⟨by (with_reducible repeat (first | apply Kd.V_alloc | apply Kd.V_drewN | apply Kd.V_drew)); exact HO_42.out⟩, ⟨by (with_reducible repeat (first | apply Kd.R_alloc | apply Kd.R_drewN | apply Kd.R_drew)); exact HO_377.out⟩, ⟨by repeat (first | (with_reducible first | apply below_alloc | apply pw_below_drewN | apply below_drew1) | exact HB.out)⟩⟩
                                ·rw [if_neg c115] at H
                                 exact absurd H (by simp)
                               ·rw [if_neg c114] at H
                                exact absurd H (by simp)
                              ·rw [if_neg c113] at H
                               exact absurd H (by simp)
                            ·rw [if_neg c111] at H
                             exact absurd H (by simp)
                           ·rw [if_neg c110] at H
                            exact absurd H (by simp)
                          ·rw [if_neg c109] at H
                           exact absurd H (by simp)
                         ·as_aux_lemma =>
                          rw [if_neg c108] at H
                          have c108b0 : decide (x379_4 < (t457.length : Int)) = false := decide_eq_false c108
                          clear c108
                          (first | rw [c108b0] | (simp only [i64_w, i32_w]; rw [c108b0]) | skip)
                          have H' := Aside0.mk H
                          clear H
                          go_wp2
                          repeat (go_quiet (fail); try go_wp2)
                          go_meet
                          case rel => exact ⟨_, H', ⟨by have := HJ11.out; have := HJ34.out; have := HJ45.out; have := HK4.out; first | omega | exact Nat.le_refl _⟩, ⟨by (with_reducible repeat (first | apply Kd.V_alloc | apply Kd.V_drewN | apply Kd.V_drew)); exact Kd.V_mono HO_36.out (fun _ hk => hk.2.1)⟩, ⟨by (with_reducible repeat (first | apply Kd.R_alloc | apply Kd.R_drewN | apply Kd.R_drew)); exact Kd.R_mono HO_38.out (fun _ hk => trivial)⟩, ⟨by (with_reducible repeat (first | apply Kd.V_alloc | apply Kd.V_drewN | apply Kd.V_drew)); exact Kd.V_mono HO_42.out (fun _ hk => hk.2.1)⟩, ⟨by repeat (first | (with_reducible first | apply below_alloc | apply pw_below_drewN | apply below_drew1) | exact HB.out)⟩⟩
                      ·as_aux_lemma =>
                       replace c107 := Bool.eq_false_iff.mpr c107
                       subst c107
                       rw [if_neg (show ¬ (false = true) by decide)] at H
                       have H' := Aside0.mk H
                       clear H
                       go_wp2
                       repeat (go_quiet (fail); try go_wp2)
                       go_meet
                       case rel => exact ⟨_, H', ⟨by have := HJ11.out; have := HJ34.out; have := HJ45.out; first | omega | exact Nat.le_refl _⟩, ⟨by (with_reducible repeat (first | apply Kd.V_alloc | apply Kd.V_drewN | apply Kd.V_drew)); exact Kd.V_mono HO473.out (fun _ hk => hk.1.1.2)⟩, ⟨by (with_reducible repeat (first | apply Kd.R_alloc | apply Kd.R_drewN | apply Kd.R_drew)); exact Kd.R_mono HO478.out (fun _ hk => trivial)⟩, ⟨by (with_reducible repeat (first | apply Kd.V_alloc | apply Kd.V_drewN | apply Kd.V_drew)); exact Kd.V_mono HO485.out (fun _ hk => hk.1.2.2.2.2.1)⟩, ⟨by repeat (first | (with_reducible first | apply below_alloc | apply pw_below_drewN | apply below_drew1) | exact HB.out)⟩⟩
                     case rest =>
                      as_aux_lemma =>
                      clear HC84
                      try clear c1
                      try clear c2
                      try clear p2
                      try clear c3
                      try clear c4
                      try clear c5
                      try clear p5
                      try clear q5
                      try clear hx5
                      try clear qi5
                      try clear c6
                      try clear p6
                      try clear c7
                      try clear c8
                      try clear c10
                      try clear c11
                      try clear c18
                      try clear c18b0
                      try clear c18b1
                      try clear c18b2
                      try clear c19
                      try clear c19b0
                      try clear c19b1
                      try clear c20
                      try clear c20b0
                      try clear c20b1
                      try clear c20b2
                      try clear c21
                      try clear c21b0
                      try clear c21b1
                      try clear c21b2
                      try clear c22
                      try clear c22b0
                      try clear c22b1
                      try clear c22b2
                      try clear c24
                      try clear c25
                      try clear c26
                      try clear c26b0
                      try clear c26b1
                      try clear c26b2
                      try clear c27
                      try clear c31
                      try clear c31b0
                      try clear c31b1
                      try clear c31b2
                      try clear c34
                      try clear c36
                      try clear c39
                      try clear c40
                      try clear c40b0
                      try clear c40b1
                      try clear c41
                      try clear c41b0
                      try clear c41b1
                      try clear c42
                      try clear c43
                      try clear c43b0
                      try clear c47
                      try clear c49
                      try clear p50
                      try clear q50
                      try clear hx50
                      try clear c51
                      try clear p51
                      try clear q51
                      try clear hx51
                      try clear qi51
                      try clear c52
                      try clear c52b0
                      try clear c52b1
                      try clear p64
                      try clear c69
                      try clear c69b0
                      try clear c69b1
                      try clear c69b2
                      try clear c71
                      try clear c73
                      try clear c74
                      try clear c74b0
                      try clear c74b1
                      try clear c74b2
                      try clear c76
                      try clear c77
                      try clear c77b0
                      try clear c77b1
                      try clear c77b2
                      try clear c78
                      try clear c78b0
                      try clear c78b1
                      try clear c79
                      try clear c79b0
                      try clear c79b1
                      try clear c79b2
                      try clear c80
                      try clear c80b0
                      try clear c80b1
                      try clear c81
                      try clear c81b0
                      try clear c81b1
                      try clear c81b2
                      try clear c82
                      try clear c82b0
                      try clear c82b1
                      try clear c82b2
                      try clear c83
                      try clear c83b0
                      try clear c83b1
                      try clear c83b2
                      try clear c107
                      try clear c108
                      try clear c108b0
                      try clear c109
                      try clear c109b0
                      try clear c110
                      try clear c110b0
                      try clear c111
                      try clear c111b0
                      try clear c112
                      try clear c112b0
                      try clear c113
                      try clear c113b0
                      try clear c114
                      try clear c114b0
                      try clear c114b1
                      try clear c115
                      try clear c115b0
                      try clear c115b1
                      try clear hx507_0
                      try clear hx508_0
                      try clear hx509_0
                      try clear hx510_0
                      try clear hx511_0
                      try clear p2
                      try clear p507
                      try clear p508
                      try clear p509
                      try clear p510
                      try clear p511
                      try clear p6
                      try clear p64
                      try clear q507
                      try clear q508
                      try clear q509
                      try clear q510
                      try clear q511
                      obtain ⟨kq, HA, HJ83, HO_36, HO_38, HO_42, HB⟩ := hcut
                      cases kq with
                      | zero => exact absurd HA.out (by simp [laws_FnGearsMeet.j4])
                      | succ kj83 =>
                       have H := HA.out
                       clear HA
                       simp only [laws_FnGearsMeet.j4] at H
                       have HC116 := Aside0.mk H
                       clear H
                       go_upto_if 413 with (fail)
                       repeat (go_quiet (fail); go_upto_if 413 with (fail))
                       go_cut [] (fun wc => ∃ (kq : Nat), Aside0 (laws_FnGearsMeet.j5 kq t483 t486 t487 t490 = some r) ∧ Aside0 (kq ≤ kj83) ∧ Aside0 (Kd.V (Kd.int .i64) 3 wc w.heap.size (fun _ => True) (.slice Ao94 t483.length co94) t483) ∧ Aside0 (Below w.heap.size w wc))
                       case first =>
                        as_aux_lemma =>
                        have H := HC116.out
                        clear HC116
                        by_cases c117 : t476 = true
                        ·subst c117
                         rw [if_pos rfl] at H
                         replace H := Option.bind_eq_some_iff.mp H
                         obtain ⟨⟨t512, t513⟩, A1180, H⟩ := H
                         (try dsimp only at H)
                         have A118 := Aside0.mk A1180
                         clear A1180
                         by_cases c119 : t513 = true
                         ·subst c119
                          rw [if_pos rfl] at H
                          by_cases c120 : t512 = true
                          ·subst c120
                           rw [if_pos rfl] at H
                           by_cases c121 : (t475.length : Int) = (t471.length : Int)
                           ·as_aux_lemma =>
                            rw [if_pos c121] at H
                            have c121b0 : ((t475.length : Int) == (t471.length : Int)) = true := beq_iff_eq.mpr c121
                            have c121b1 : ((t475.length : Int) != (t471.length : Int)) = false := bne_eq_false_iff_eq.mpr c121
                            have c121b2 : (t475.length == t471.length) = true := by first | simpa using c121 | (simp at c121 ⊢; omega)
                            clear c121
                            (first | rw [c121b0] | (simp only [i64_w, i32_w]; rw [c121b0]) | skip)
                            have H' := Aside0.mk H
                            clear H
                            go_wp2_with (first | (go_at_call 30; (with_reducible refine (impl_AreInGear.calls kj83 _ _ t471 _ _ t475 true true _ ?side1 ?side2 ?side3 ?side4 A118.out).mono ?_); (case side1 => repeat (first | exact (Kd.V_reads' HO_36.out).2.2 | (with_reducible refine Kd.C_alloc ?_ _) | (with_reducible refine Kd.C_drewN ?_ _) | (with_reducible refine Kd.C_drew ?_))); (case side2 => exact (Kd.V_reads' HO_36.out).2.1); (case side3 => repeat (first | exact (Kd.R_reads' HO_38.out).2.2 | (with_reducible refine Kd.C_alloc ?_ _) | (with_reducible refine Kd.C_drewN ?_ _) | (with_reducible refine Kd.C_drew ?_))); (case side4 => exact (Kd.R_reads' HO_38.out).2.1); rintro e w122 ⟨rfl, hb⟩; have n0_ := Aside0.mk (Kd.V_below (by (with_reducible repeat (first | apply Kd.V_alloc | apply Kd.V_drewN | apply Kd.V_drew)); exact HO_36.out) hb); have n1_ := Aside0.mk (Kd.R_below (by (with_reducible repeat (first | apply Kd.R_alloc | apply Kd.R_drewN | apply Kd.R_drew)); exact HO_38.out) hb); have n2_ := Aside0.mk (Kd.V_below (by (with_reducible repeat (first | apply Kd.V_alloc | apply Kd.V_drewN | apply Kd.V_drew)); exact HO_42.out) hb); have n3_ := Aside0.mk (below_step (by repeat (first | (with_reducible first | apply below_alloc | apply pw_below_drewN | apply below_drew1) | exact HB.out)) hb); clear HO_36; clear HO_38; clear HO_42; clear HB; have HO_36 := n0_; have HO_38 := n1_; have HO_42 := n2_; have HB := n3_; clear n0_ n1_ n2_ n3_; (try clear hb); (try clear hb2); (try clear hk); (try clear hi)))
                            repeat (go_quiet (first | (go_at_call 30; (with_reducible refine (impl_AreInGear.calls kj83 _ _ t471 _ _ t475 true true _ ?side1 ?side2 ?side3 ?side4 A118.out).mono ?_); (case side1 => repeat (first | exact (Kd.V_reads' HO_36.out).2.2 | (with_reducible refine Kd.C_alloc ?_ _) | (with_reducible refine Kd.C_drewN ?_ _) | (with_reducible refine Kd.C_drew ?_))); (case side2 => exact (Kd.V_reads' HO_36.out).2.1); (case side3 => repeat (first | exact (Kd.R_reads' HO_38.out).2.2 | (with_reducible refine Kd.C_alloc ?_ _) | (with_reducible refine Kd.C_drewN ?_ _) | (with_reducible refine Kd.C_drew ?_))); (case side4 => exact (Kd.R_reads' HO_38.out).2.1); rintro e w122 ⟨rfl, hb⟩; have n0_ := Aside0.mk (Kd.V_below (by (with_reducible repeat (first | apply Kd.V_alloc | apply Kd.V_drewN | apply Kd.V_drew)); exact HO_36.out) hb); have n1_ := Aside0.mk (Kd.R_below (by (with_reducible repeat (first | apply Kd.R_alloc | apply Kd.R_drewN | apply Kd.R_drew)); exact HO_38.out) hb); have n2_ := Aside0.mk (Kd.V_below (by (with_reducible repeat (first | apply Kd.V_alloc | apply Kd.V_drewN | apply Kd.V_drew)); exact HO_42.out) hb); have n3_ := Aside0.mk (below_step (by repeat (first | (with_reducible first | apply below_alloc | apply pw_below_drewN | apply below_drew1) | exact HB.out)) hb); clear HO_36; clear HO_38; clear HO_42; clear HB; have HO_36 := n0_; have HO_38 := n1_; have HO_42 := n2_; have HB := n3_; clear n0_ n1_ n2_ n3_; (try clear hb); (try clear hb2); (try clear hk); (try clear hi))); try go_wp2_with (first | (go_at_call 30; (with_reducible refine (impl_AreInGear.calls kj83 _ _ t471 _ _ t475 true true _ ?side1 ?side2 ?side3 ?side4 A118.out).mono ?_); (case side1 => repeat (first | exact (Kd.V_reads' HO_36.out).2.2 | (with_reducible refine Kd.C_alloc ?_ _) | (with_reducible refine Kd.C_drewN ?_ _) | (with_reducible refine Kd.C_drew ?_))); (case side2 => exact (Kd.V_reads' HO_36.out).2.1); (case side3 => repeat (first | exact (Kd.R_reads' HO_38.out).2.2 | (with_reducible refine Kd.C_alloc ?_ _) | (with_reducible refine Kd.C_drewN ?_ _) | (with_reducible refine Kd.C_drew ?_))); (case side4 => exact (Kd.R_reads' HO_38.out).2.1); rintro e w122 ⟨rfl, hb⟩; have n0_ := Aside0.mk (Kd.V_below (by (with_reducible repeat (first | apply Kd.V_alloc | apply Kd.V_drewN | apply Kd.V_drew)); exact HO_36.out) hb); have n1_ := Aside0.mk (Kd.R_below (by (with_reducible repeat (first | apply Kd.R_alloc | apply Kd.R_drewN | apply Kd.R_drew)); exact HO_38.out) hb); have n2_ := Aside0.mk (Kd.V_below (by (with_reducible repeat (first | apply Kd.V_alloc | apply Kd.V_drewN | apply Kd.V_drew)); exact HO_42.out) hb); have n3_ := Aside0.mk (below_step (by repeat (first | (with_reducible first | apply below_alloc | apply pw_below_drewN | apply below_drew1) | exact HB.out)) hb); clear HO_36; clear HO_38; clear HO_42; clear HB; have HO_36 := n0_; have HO_38 := n1_; have HO_42 := n2_; have HB := n3_; clear n0_ n1_ n2_ n3_; (try clear hb); (try clear hb2); (try clear hk); (try clear hi))))
                            go_meet
                            case rel => exact ⟨_, H', ⟨by have := HJ11.out; have := HJ34.out; have := HJ45.out; have := HJ83.out; first | omega | exact Nat.le_refl _⟩, ⟨by (with_reducible repeat (first | apply Kd.V_alloc | apply Kd.V_drewN | apply Kd.V_drew)); exact Kd.V_mono HO_42.out (fun _ hk => trivial)⟩, ⟨by repeat (first | (with_reducible first | apply below_alloc | apply pw_below_drewN | apply below_drew1) | exact HB.out)⟩⟩
                           ·rw [if_neg c121] at H
                            exact absurd H (by simp)
                          ·replace c120 := Bool.eq_false_iff.mpr c120
                           subst c120
                           rw [if_neg (show ¬ (false = true) by decide)] at H
                           exact absurd H (by simp)
                         ·replace c119 := Bool.eq_false_iff.mpr c119
                          subst c119
                          rw [if_neg (show ¬ (false = true) by decide)] at H
                          exact absurd H (by simp)
                        ·as_aux_lemma =>
                         replace c117 := Bool.eq_false_iff.mpr c117
                         subst c117
                         rw [if_neg (show ¬ (false = true) by decide)] at H
                         have H' := Aside0.mk H
                         clear H
                         go_wp2
                         repeat (go_quiet (fail); try go_wp2)
                         go_meet
                         case rel => exact ⟨_, H', ⟨by have := HJ11.out; have := HJ34.out; have := HJ45.out; have := HJ83.out; first | omega | exact Nat.le_refl _⟩, ⟨by (with_reducible repeat (first | apply Kd.V_alloc | apply Kd.V_drewN | apply Kd.V_drew)); exact Kd.V_mono HO_42.out (fun _ hk => trivial)⟩, ⟨by repeat (first | (with_reducible first | apply below_alloc | apply pw_below_drewN | apply below_drew1) | exact HB.out)⟩⟩
                       case rest =>
                        as_aux_lemma =>
                        clear HC116
                        try clear c1
                        try clear c2
                        try clear p2
                        try clear c3
                        try clear c4
                        try clear c5
                        try clear p5
                        try clear q5
                        try clear hx5
                        try clear qi5
                        try clear c6
                        try clear p6
                        try clear c7
                        try clear c8
                        try clear c10
                        try clear c11
                        try clear c12
                        try clear c18
                        try clear c18b0
                        try clear c18b1
                        try clear c18b2
                        try clear c19
                        try clear c19b0
                        try clear c19b1
                        try clear c20
                        try clear c20b0
                        try clear c20b1
                        try clear c20b2
                        try clear c21
                        try clear c21b0
                        try clear c21b1
                        try clear c21b2
                        try clear c22
                        try clear c22b0
                        try clear c22b1
                        try clear c22b2
                        try clear c24
                        try clear c25
                        try clear c26
                        try clear c26b0
                        try clear c26b1
                        try clear c26b2
                        try clear c27
                        try clear c31
                        try clear c31b0
                        try clear c31b1
                        try clear c31b2
                        try clear c34
                        try clear c36
                        try clear c39
                        try clear c40
                        try clear c40b0
                        try clear c40b1
                        try clear c41
                        try clear c41b0
                        try clear c41b1
                        try clear c42
                        try clear c43
                        try clear c43b0
                        try clear c47
                        try clear c49
                        try clear p50
                        try clear q50
                        try clear hx50
                        try clear c51
                        try clear p51
                        try clear q51
                        try clear hx51
                        try clear qi51
                        try clear c52
                        try clear c52b0
                        try clear c52b1
                        try clear p64
                        try clear c69
                        try clear c69b0
                        try clear c69b1
                        try clear c69b2
                        try clear c71
                        try clear c73
                        try clear c74
                        try clear c74b0
                        try clear c74b1
                        try clear c74b2
                        try clear c76
                        try clear c77
                        try clear c77b0
                        try clear c77b1
                        try clear c77b2
                        try clear c78
                        try clear c78b0
                        try clear c78b1
                        try clear c79
                        try clear c79b0
                        try clear c79b1
                        try clear c79b2
                        try clear c80
                        try clear c80b0
                        try clear c80b1
                        try clear c81
                        try clear c81b0
                        try clear c81b1
                        try clear c81b2
                        try clear c82
                        try clear c82b0
                        try clear c82b1
                        try clear c82b2
                        try clear c83
                        try clear c83b0
                        try clear c83b1
                        try clear c83b2
                        try clear c107
                        try clear c108
                        try clear c108b0
                        try clear c109
                        try clear c109b0
                        try clear c110
                        try clear c110b0
                        try clear c111
                        try clear c111b0
                        try clear c112
                        try clear c112b0
                        try clear c113
                        try clear c113b0
                        try clear c114
                        try clear c114b0
                        try clear c114b1
                        try clear c115
                        try clear c115b0
                        try clear c115b1
                        try clear c117
                        try clear c119
                        try clear c120
                        try clear c121
                        try clear c121b0
                        try clear c121b1
                        try clear c121b2
                        try clear hx507_0
                        try clear hx508_0
                        try clear hx509_0
                        try clear hx510_0
                        try clear hx511_0
                        try clear p2
                        try clear p5
                        try clear p50
                        try clear p507
                        try clear p508
                        try clear p509
                        try clear p51
                        try clear p510
                        try clear p511
                        try clear p6
                        try clear p64
                        try clear q5
                        try clear q50
                        try clear q507
                        try clear q508
                        try clear q509
                        try clear q51
                        try clear q510
                        try clear q511
                        obtain ⟨kq, HA, HJ115, HO_42, HB⟩ := hcut
                        cases kq with
                        | zero => exact absurd HA.out (by simp [laws_FnGearsMeet.j5])
                        | succ kj115 =>
                         have H := HA.out
                         clear HA
                         simp only [laws_FnGearsMeet.j5] at H
                         by_cases c123 : t487 = true
                         ·subst c123
                          rw [if_pos rfl] at H
                          by_cases c124 : t486 < 1
                          ·rw [if_pos c124] at H
                           exact absurd H (by simp)
                          ·rw [if_neg c124] at H
                           have c124b0 : decide (t486 < 1) = false := decide_eq_false c124
                           clear c124
                           by_cases c125 : 0 < (t483.length : Int)
                           ·rw [if_pos c125] at H
                            have c125b0 : decide (0 < (t483.length : Int)) = true := decide_eq_true c125
                            have c125b1 : decide (0 < t483.length) = true := decide_eq_true (by omega)
                            clear c125
                            by_cases c126 : (wrap64 (t490 * (rd t483 0))) = t486
                            ·as_aux_lemma =>
                             rw [if_pos c126] at H
                             have c126b0 : ((wrap64 (t490 * (rd t483 0))) == t486) = true := beq_iff_eq.mpr c126
                             have c126b1 : ((wrap64 (t490 * (rd t483 0))) != t486) = false := bne_eq_false_iff_eq.mpr c126
                             clear c126
                             have H' := Aside0.mk H
                             clear H
                             have p514 : 0 ≤ (0 : Int) := (by omega)
                             have q514 : 0 < (t483.length : Int) := of_decide_eq_true (by assumption)
                             obtain ⟨ad514, e514, hx514_0⟩ := Kd.at_int (Kd.V_reads' HO_42.out).2.2 0 p514 q514
                             cases e514
                             have qi514 : (0 < t483.length) = True := eq_true (by omega)
                             (try rw [show ((0 : Int)).toNat = 0 from rfl] at hx514_0)
                             (try rw [Addr.add_zero'] at hx514_0)
                             replace p514 := eq_true p514
                             replace q514 := eq_true q514
                             go_wp2
                             repeat (go_quiet (fail); try go_wp2)
                             go_loopg [447] kj115 (fun kq v447 w' => ∃ (x447_6 : Int), v447 = .int .i64 x447_6 ∧ Aside0 (laws_FnGearsMeet.l1 kq t483 t486 t483 (t483.length : Int) x447_6 = some r) ∧ Aside0 (kq ≤ kj115) ∧ Aside0 (Kd.V (Kd.int .i64) 3 w' w.heap.size (fun _ => True) (.slice (some ad514) t483.length co94) t483) ∧ Aside0 (Kd.V (Kd.int .i64) 3 w' w.heap.size (fun _ => True) (.slice (some ad514) t483.length co94) t483) ∧ Aside0 (Below w.heap.size w w'))
                             case atStart => exact ⟨(0), (by first | rfl | (simp; done) | (simp [*]; done)), H', ⟨Nat.le_refl _⟩, ⟨by (with_reducible repeat (first | apply Kd.V_alloc | apply Kd.V_drewN | apply Kd.V_drew)); exact HO_42.out⟩, ⟨by (with_reducible repeat (first | apply Kd.V_alloc | apply Kd.V_drewN | apply Kd.V_drew)); exact HO_42.out⟩, ⟨by repeat (first | (with_reducible first | apply below_alloc | apply pw_below_drewN | apply below_drew1) | exact HB.out)⟩⟩
                             case round =>
                              as_aux_lemma =>
                              clear H'
                              try clear c1
                              try clear c2
                              try clear p2
                              try clear c3
                              try clear c4
                              try clear c5
                              try clear p5
                              try clear q5
                              try clear hx5
                              try clear qi5
                              try clear c6
                              try clear p6
                              try clear c7
                              try clear c8
                              try clear c10
                              try clear c11
                              try clear c12
                              try clear c18
                              try clear c18b0
                              try clear c18b1
                              try clear c18b2
                              try clear c19
                              try clear c19b0
                              try clear c19b1
                              try clear c20
                              try clear c20b0
                              try clear c20b1
                              try clear c20b2
                              try clear c21
                              try clear c21b0
                              try clear c21b1
                              try clear c21b2
                              try clear c22
                              try clear c22b0
                              try clear c22b1
                              try clear c22b2
                              try clear c24
                              try clear c25
                              try clear c26
                              try clear c26b0
                              try clear c26b1
                              try clear c26b2
                              try clear c27
                              try clear c31
                              try clear c31b0
                              try clear c31b1
                              try clear c31b2
                              try clear c34
                              try clear c36
                              try clear c39
                              try clear c40
                              try clear c40b0
                              try clear c40b1
                              try clear c41
                              try clear c41b0
                              try clear c41b1
                              try clear c42
                              try clear c43
                              try clear c43b0
                              try clear c47
                              try clear c49
                              try clear p50
                              try clear q50
                              try clear hx50
                              try clear c51
                              try clear p51
                              try clear q51
                              try clear hx51
                              try clear qi51
                              try clear c52
                              try clear c52b0
                              try clear c52b1
                              try clear p64
                              try clear c69
                              try clear c69b0
                              try clear c69b1
                              try clear c69b2
                              try clear c71
                              try clear c73
                              try clear c74
                              try clear c74b0
                              try clear c74b1
                              try clear c74b2
                              try clear c76
                              try clear c77
                              try clear c77b0
                              try clear c77b1
                              try clear c77b2
                              try clear c78
                              try clear c78b0
                              try clear c78b1
                              try clear c79
                              try clear c79b0
                              try clear c79b1
                              try clear c79b2
                              try clear c80
                              try clear c80b0
                              try clear c80b1
                              try clear c81
                              try clear c81b0
                              try clear c81b1
                              try clear c81b2
                              try clear c82
                              try clear c82b0
                              try clear c82b1
                              try clear c82b2
                              try clear c83
                              try clear c83b0
                              try clear c83b1
                              try clear c83b2
                              try clear c107
                              try clear c108
                              try clear c108b0
                              try clear c109
                              try clear c109b0
                              try clear c110
                              try clear c110b0
                              try clear c111
                              try clear c111b0
                              try clear c112
                              try clear c112b0
                              try clear c113
                              try clear c113b0
                              try clear c114
                              try clear c114b0
                              try clear c114b1
                              try clear c115
                              try clear c115b0
                              try clear c115b1
                              try clear c117
                              try clear c119
                              try clear c120
                              try clear c121
                              try clear c121b0
                              try clear c121b1
                              try clear c121b2
                              try clear c123
                              try clear c124
                              try clear c124b0
                              try clear c125
                              try clear c125b0
                              try clear c125b1
                              try clear c126
                              try clear c126b0
                              try clear c126b1
                              try clear hx507_0
                              try clear hx508_0
                              try clear hx509_0
                              try clear hx510_0
                              try clear hx511_0
                              try clear hx514_0
                              try clear p2
                              try clear p5
                              try clear p50
                              try clear p507
                              try clear p508
                              try clear p509
                              try clear p51
                              try clear p510
                              try clear p511
                              try clear p514
                              try clear p6
                              try clear p64
                              try clear q5
                              try clear q50
                              try clear q507
                              try clear q508
                              try clear q509
                              try clear q51
                              try clear q510
                              try clear q511
                              try clear q514
                              obtain ⟨x447_6, rfl, HA, HK6, HO_42, HO_445, HB⟩ := hrel
                              cases gk with
                              | zero => exact absurd HA.out (by simp [laws_FnGearsMeet.l1])
                              | succ k6 =>
                               have H := HA.out
                               clear HA
                               simp only [laws_FnGearsMeet.l1] at H
                               by_cases c127 : x447_6 < (t483.length : Int)
                               ·rw [if_pos c127] at H
                                have c127b0 : decide (x447_6 < (t483.length : Int)) = true := decide_eq_true c127
                                clear c127
                                by_cases c128 : 0 ≤ x447_6
                                ·rw [if_pos c128] at H
                                 have c128b0 : decide (0 ≤ x447_6) = true := decide_eq_true c128
                                 clear c128
                                 by_cases c129 : x447_6 < (t483.length : Int)
                                 ·rw [if_pos c129] at H
                                  have c129b0 : decide (x447_6 < (t483.length : Int)) = true := decide_eq_true c129
                                  clear c129
                                  by_cases c130 : (rd t483 x447_6) = 0
                                  ·rw [if_pos c130] at H
                                   exact absurd H (by simp)
                                  ·rw [if_neg c130] at H
                                   have c130b0 : ((rd t483 x447_6) == 0) = false := beq_eq_false_iff_ne.mpr c130
                                   have c130b1 : ((rd t483 x447_6) != 0) = true := bne_iff_ne.mpr c130
                                   by_cases c131 : (Int.tmod t486 (rd t483 x447_6)) = 0
                                   ·as_aux_lemma =>
                                    rw [if_pos c131] at H
                                    have c131b0 : ((Int.tmod t486 (rd t483 x447_6)) == 0) = true := beq_iff_eq.mpr c131
                                    have c131b1 : ((Int.tmod t486 (rd t483 x447_6)) != 0) = false := bne_eq_false_iff_eq.mpr c131
                                    clear c131
                                    have H' := Aside0.mk H
                                    clear H
                                    have p515 : 0 ≤ (x447_6 : Int) := of_decide_eq_true (by assumption)
                                    have q515 : x447_6 < (t483.length : Int) := of_decide_eq_true (by assumption)
                                    obtain ⟨ad515, e515, hx515_0⟩ := Kd.at_int (Kd.V_reads' HO_445.out).2.2 x447_6 p515 q515
                                    obtain rfl : ad514 = ad515 := (by injection e515)
                                    replace p515 := eq_true p515
                                    replace q515 := eq_true q515
                                    go_wp2
                                    repeat (go_quiet (fail); try go_wp2)
                                    go_roundg k6
                                    case measure => have := HJ11.out; have := HJ34.out; have := HJ45.out; have := HJ83.out; have := HJ115.out; have := HK6.out; omega
                                    case rel => exact ⟨(wrap64 (x447_6 + 1)), (by first | rfl | (simp; done) | (simp [*]; done)), H', ⟨by have := HJ11.out; have := HJ34.out; have := HJ45.out; have := HJ83.out; have := HJ115.out; have := HK6.out; omega⟩, ⟨by (with_reducible repeat (first | apply Kd.V_alloc | apply Kd.V_drewN | apply Kd.V_drew)); exact HO_42.out⟩, ⟨by (with_reducible repeat (first | apply Kd.V_alloc | apply Kd.V_drewN | apply Kd.V_drew)); exact HO_445.out⟩, ⟨by repeat (first | (with_reducible first | apply below_alloc | apply pw_below_drewN | apply below_drew1) | exact HB.out)⟩⟩
                                   ·rw [if_neg c131] at H
                                    exact absurd H (by simp)
                                 ·rw [if_neg c129] at H
                                  exact absurd H (by simp)
                                ·rw [if_neg c128] at H
                                 exact absurd H (by simp)
                               ·rw [if_neg c127] at H
                                have c127b0 : decide (x447_6 < (t483.length : Int)) = false := decide_eq_false c127
                                clear c127
                                by_cases c132 : t486 ≤ 1000000
                                ·rw [if_pos c132] at H
                                 have c132b0 : decide (t486 ≤ 1000000) = true := decide_eq_true c132
                                 clear c132
                                 replace H := Option.bind_eq_some_iff.mp H
                                 obtain ⟨⟨t516, t517⟩, A1330, H⟩ := H
                                 (try dsimp only at H)
                                 have A133 := Aside0.mk A1330
                                 clear A1330
                                 by_cases c134 : t517 = true
                                 ·as_aux_lemma =>
                                  subst c134
                                  rw [if_pos rfl] at H
                                  have H' := Aside0.mk H
                                  clear H
                                  go_wp2_with (first | (go_at_call 22; (with_reducible refine (impl_TrainTeeth.calls k6 _ _ t483 t486 t516 true _ ?side1 ?side2 A133.out).mono ?_); (case side1 => repeat (first | exact (Kd.V_reads' HO_42.out).2.2 | (with_reducible refine Kd.C_alloc ?_ _) | (with_reducible refine Kd.C_drewN ?_ _) | (with_reducible refine Kd.C_drew ?_))); (case side2 => exact (Kd.V_reads' HO_42.out).2.1); rintro e w135 ⟨v518, rfl, ho0, hb⟩; have n0_ := Aside0.mk (Kd.V_elder' (by (with_reducible repeat (first | apply Kd.V_alloc | apply Kd.V_drewN | apply Kd.V_drew)); exact HO_42.out) (Kd.R_base ho0) hb); have n1_ := Aside0.mk (Kd.V_elder' (by (with_reducible repeat (first | apply Kd.V_alloc | apply Kd.V_drewN | apply Kd.V_drew)); exact HO_445.out) (Kd.R_base ho0) hb); have n2_ := Aside0.mk (Kd.R_lower ho0 (below_size (by repeat (first | (with_reducible first | apply below_alloc | apply pw_below_drewN | apply below_drew1) | exact HB.out)))); have n3_ := Aside0.mk (below_step (by repeat (first | (with_reducible first | apply below_alloc | apply pw_below_drewN | apply below_drew1) | exact HB.out)) hb); clear HO_42; clear HO_445; clear HB; have HO_42 := n0_; have HO_445 := n1_; have HO519 := n2_; have HB := n3_; clear n0_ n1_ n2_ n3_; (try clear hb); (try clear hb2); (try clear hk); (try clear hi); (try clear ho0); obtain ⟨Ao136, co136, eo136⟩ := Kd.R_slice HO519.out; subst eo136))
                                  repeat (go_quiet (first | (go_at_call 22; (with_reducible refine (impl_TrainTeeth.calls k6 _ _ t483 t486 t516 true _ ?side1 ?side2 A133.out).mono ?_); (case side1 => repeat (first | exact (Kd.V_reads' HO_42.out).2.2 | (with_reducible refine Kd.C_alloc ?_ _) | (with_reducible refine Kd.C_drewN ?_ _) | (with_reducible refine Kd.C_drew ?_))); (case side2 => exact (Kd.V_reads' HO_42.out).2.1); rintro e w135 ⟨v518, rfl, ho0, hb⟩; have n0_ := Aside0.mk (Kd.V_elder' (by (with_reducible repeat (first | apply Kd.V_alloc | apply Kd.V_drewN | apply Kd.V_drew)); exact HO_42.out) (Kd.R_base ho0) hb); have n1_ := Aside0.mk (Kd.V_elder' (by (with_reducible repeat (first | apply Kd.V_alloc | apply Kd.V_drewN | apply Kd.V_drew)); exact HO_445.out) (Kd.R_base ho0) hb); have n2_ := Aside0.mk (Kd.R_lower ho0 (below_size (by repeat (first | (with_reducible first | apply below_alloc | apply pw_below_drewN | apply below_drew1) | exact HB.out)))); have n3_ := Aside0.mk (below_step (by repeat (first | (with_reducible first | apply below_alloc | apply pw_below_drewN | apply below_drew1) | exact HB.out)) hb); clear HO_42; clear HO_445; clear HB; have HO_42 := n0_; have HO_445 := n1_; have HO519 := n2_; have HB := n3_; clear n0_ n1_ n2_ n3_; (try clear hb); (try clear hb2); (try clear hk); (try clear hi); (try clear ho0); obtain ⟨Ao136, co136, eo136⟩ := Kd.R_slice HO519.out; subst eo136)); try go_wp2_with (first | (go_at_call 22; (with_reducible refine (impl_TrainTeeth.calls k6 _ _ t483 t486 t516 true _ ?side1 ?side2 A133.out).mono ?_); (case side1 => repeat (first | exact (Kd.V_reads' HO_42.out).2.2 | (with_reducible refine Kd.C_alloc ?_ _) | (with_reducible refine Kd.C_drewN ?_ _) | (with_reducible refine Kd.C_drew ?_))); (case side2 => exact (Kd.V_reads' HO_42.out).2.1); rintro e w135 ⟨v518, rfl, ho0, hb⟩; have n0_ := Aside0.mk (Kd.V_elder' (by (with_reducible repeat (first | apply Kd.V_alloc | apply Kd.V_drewN | apply Kd.V_drew)); exact HO_42.out) (Kd.R_base ho0) hb); have n1_ := Aside0.mk (Kd.V_elder' (by (with_reducible repeat (first | apply Kd.V_alloc | apply Kd.V_drewN | apply Kd.V_drew)); exact HO_445.out) (Kd.R_base ho0) hb); have n2_ := Aside0.mk (Kd.R_lower ho0 (below_size (by repeat (first | (with_reducible first | apply below_alloc | apply pw_below_drewN | apply below_drew1) | exact HB.out)))); have n3_ := Aside0.mk (below_step (by repeat (first | (with_reducible first | apply below_alloc | apply pw_below_drewN | apply below_drew1) | exact HB.out)) hb); clear HO_42; clear HO_445; clear HB; have HO_42 := n0_; have HO_445 := n1_; have HO519 := n2_; have HB := n3_; clear n0_ n1_ n2_ n3_; (try clear hb); (try clear hb2); (try clear hk); (try clear hi); (try clear ho0); obtain ⟨Ao136, co136, eo136⟩ := Kd.R_slice HO519.out; subst eo136)))
                                  go_loopg [468] k6 (fun kq v468 w' => ∃ (x468_7 : Int), v468 = .int .i64 x468_7 ∧ Aside0 (laws_FnGearsMeet.l2 kq t516 (t516.length : Int) x468_7 = some r) ∧ Aside0 (kq ≤ k6) ∧ Aside0 (Kd.R (Kd.int .i64) 3 w' w.heap.size (fun _ => True) (.slice Ao136 t516.length co136) t516) ∧ Aside0 (Below w.heap.size w w'))
                                  case atStart => exact ⟨(0), (by first | rfl | (simp; done) | (simp [*]; done)), H', ⟨Nat.le_refl _⟩, ⟨by (with_reducible repeat (first | apply Kd.R_alloc | apply Kd.R_drewN | apply Kd.R_drew)); exact HO519.out⟩, ⟨by repeat (first | (with_reducible first | apply below_alloc | apply pw_below_drewN | apply below_drew1) | exact HB.out)⟩⟩
                                  case round =>
                                   as_aux_lemma =>
                                   clear H'
                                   try clear c1
                                   try clear c2
                                   try clear p2
                                   try clear c3
                                   try clear c4
                                   try clear c5
                                   try clear p5
                                   try clear q5
                                   try clear hx5
                                   try clear qi5
                                   try clear c6
                                   try clear p6
                                   try clear c7
                                   try clear c8
                                   try clear c10
                                   try clear c11
                                   try clear c12
                                   try clear c13
                                   try clear c18
                                   try clear c18b0
                                   try clear c18b1
                                   try clear c18b2
                                   try clear c19
                                   try clear c19b0
                                   try clear c19b1
                                   try clear c20
                                   try clear c20b0
                                   try clear c20b1
                                   try clear c20b2
                                   try clear c21
                                   try clear c21b0
                                   try clear c21b1
                                   try clear c21b2
                                   try clear c22
                                   try clear c22b0
                                   try clear c22b1
                                   try clear c22b2
                                   try clear c24
                                   try clear c25
                                   try clear c26
                                   try clear c26b0
                                   try clear c26b1
                                   try clear c26b2
                                   try clear c27
                                   try clear c31
                                   try clear c31b0
                                   try clear c31b1
                                   try clear c31b2
                                   try clear c34
                                   try clear c36
                                   try clear c39
                                   try clear c40
                                   try clear c40b0
                                   try clear c40b1
                                   try clear c41
                                   try clear c41b0
                                   try clear c41b1
                                   try clear c42
                                   try clear c43
                                   try clear c43b0
                                   try clear c47
                                   try clear c49
                                   try clear p50
                                   try clear q50
                                   try clear hx50
                                   try clear c51
                                   try clear p51
                                   try clear q51
                                   try clear hx51
                                   try clear qi51
                                   try clear c52
                                   try clear c52b0
                                   try clear c52b1
                                   try clear p64
                                   try clear c69
                                   try clear c69b0
                                   try clear c69b1
                                   try clear c69b2
                                   try clear c71
                                   try clear c73
                                   try clear c74
                                   try clear c74b0
                                   try clear c74b1
                                   try clear c74b2
                                   try clear c76
                                   try clear c77
                                   try clear c77b0
                                   try clear c77b1
                                   try clear c77b2
                                   try clear c78
                                   try clear c78b0
                                   try clear c78b1
                                   try clear c79
                                   try clear c79b0
                                   try clear c79b1
                                   try clear c79b2
                                   try clear c80
                                   try clear c80b0
                                   try clear c80b1
                                   try clear c81
                                   try clear c81b0
                                   try clear c81b1
                                   try clear c81b2
                                   try clear c82
                                   try clear c82b0
                                   try clear c82b1
                                   try clear c82b2
                                   try clear c83
                                   try clear c83b0
                                   try clear c83b1
                                   try clear c83b2
                                   try clear c107
                                   try clear c108
                                   try clear c108b0
                                   try clear c109
                                   try clear c109b0
                                   try clear c110
                                   try clear c110b0
                                   try clear c111
                                   try clear c111b0
                                   try clear c112
                                   try clear c112b0
                                   try clear c113
                                   try clear c113b0
                                   try clear c114
                                   try clear c114b0
                                   try clear c114b1
                                   try clear c115
                                   try clear c115b0
                                   try clear c115b1
                                   try clear c117
                                   try clear c119
                                   try clear c120
                                   try clear c121
                                   try clear c121b0
                                   try clear c121b1
                                   try clear c121b2
                                   try clear c123
                                   try clear c124
                                   try clear c124b0
                                   try clear c125
                                   try clear c125b0
                                   try clear c125b1
                                   try clear c126
                                   try clear c126b0
                                   try clear c126b1
                                   try clear c127
                                   try clear c127b0
                                   try clear c128
                                   try clear c128b0
                                   try clear c129
                                   try clear c129b0
                                   try clear c130
                                   try clear c130b0
                                   try clear c130b1
                                   try clear c131
                                   try clear c131b0
                                   try clear c131b1
                                   try clear c132
                                   try clear c132b0
                                   try clear c134
                                   try clear hx507_0
                                   try clear hx508_0
                                   try clear hx509_0
                                   try clear hx510_0
                                   try clear hx511_0
                                   try clear hx514_0
                                   try clear hx515_0
                                   try clear p2
                                   try clear p5
                                   try clear p50
                                   try clear p507
                                   try clear p508
                                   try clear p509
                                   try clear p51
                                   try clear p510
                                   try clear p511
                                   try clear p514
                                   try clear p515
                                   try clear p6
                                   try clear p64
                                   try clear q5
                                   try clear q50
                                   try clear q507
                                   try clear q508
                                   try clear q509
                                   try clear q51
                                   try clear q510
                                   try clear q511
                                   try clear q514
                                   try clear q515
                                   obtain ⟨x468_7, rfl, HA, HK7, HO_466, HB⟩ := hrel
                                   cases gk with
                                   | zero => exact absurd HA.out (by simp [laws_FnGearsMeet.l2])
                                   | succ k7 =>
                                    have H := HA.out
                                    clear HA
                                    simp only [laws_FnGearsMeet.l2] at H
                                    by_cases c137 : x468_7 < (t516.length : Int)
                                    ·rw [if_pos c137] at H
                                     have c137b0 : decide (x468_7 < (t516.length : Int)) = true := decide_eq_true c137
                                     clear c137
                                     by_cases c138 : 0 ≤ x468_7
                                     ·rw [if_pos c138] at H
                                      have c138b0 : decide (0 ≤ x468_7) = true := decide_eq_true c138
                                      clear c138
                                      by_cases c139 : x468_7 < (t516.length : Int)
                                      ·rw [if_pos c139] at H
                                       have c139b0 : decide (x468_7 < (t516.length : Int)) = true := decide_eq_true c139
                                       clear c139
                                       by_cases c140 : (rd t516 x468_7) = 0
                                       ·as_aux_lemma =>
                                        rw [if_pos c140] at H
                                        have c140b0 : ((rd t516 x468_7) == 0) = true := beq_iff_eq.mpr c140
                                        have c140b1 : ((rd t516 x468_7) != 0) = false := bne_eq_false_iff_eq.mpr c140
                                        clear c140
                                        have H' := Aside0.mk H
                                        clear H
                                        have p520 : 0 ≤ (x468_7 : Int) := of_decide_eq_true (by assumption)
                                        have q520 : x468_7 < (t516.length : Int) := of_decide_eq_true (by assumption)
                                        obtain ⟨ad520, e520, hx520_0⟩ := Kd.at_int (Kd.R_reads' HO_466.out).2.2 x468_7 p520 q520
                                        cases e520
                                        replace p520 := eq_true p520
                                        replace q520 := eq_true q520
                                        go_wp2
                                        repeat (go_quiet (fail); try go_wp2)
                                        go_roundg k7
                                        case measure => have := HJ11.out; have := HJ34.out; have := HJ45.out; have := HJ83.out; have := HJ115.out; have := HK6.out; have := HK7.out; omega
                                        case rel => exact ⟨(wrap64 (x468_7 + 1)), (by first | rfl | (simp; done) | (simp [*]; done)), H', ⟨by have := HJ11.out; have := HJ34.out; have := HJ45.out; have := HJ83.out; have := HJ115.out; have := HK6.out; have := HK7.out; omega⟩, ⟨by (with_reducible repeat (first | apply Kd.R_alloc | apply Kd.R_drewN | apply Kd.R_drew)); exact HO_466.out⟩, ⟨by repeat (first | (with_reducible first | apply below_alloc | apply pw_below_drewN | apply below_drew1) | exact HB.out)⟩⟩
                                       ·rw [if_neg c140] at H
                                        exact absurd H (by simp)
                                      ·rw [if_neg c139] at H
                                       exact absurd H (by simp)
                                     ·rw [if_neg c138] at H
                                      exact absurd H (by simp)
                                    ·as_aux_lemma =>
                                     rw [if_neg c137] at H
                                     have c137b0 : decide (x468_7 < (t516.length : Int)) = false := decide_eq_false c137
                                     clear c137
                                     obtain rfl := Option.some.inj H
                                     go_wp2
                                     repeat (go_quiet (fail); try go_wp2)
                                     go_ret
                                     exact ⟨by first | rfl | (simp [errW_none, errW_some] <;> rfl) | (simp [*, errW_none, errW_some] <;> rfl), by repeat (first | (with_reducible first | apply below_alloc | apply pw_below_drewN | apply below_drew1) | exact HB.out)⟩
                                 ·replace c134 := Bool.eq_false_iff.mpr c134
                                  subst c134
                                  rw [if_neg (show ¬ (false = true) by decide)] at H
                                  exact absurd H (by simp)
                                ·as_aux_lemma =>
                                 rw [if_neg c132] at H
                                 have c132b0 : decide (t486 ≤ 1000000) = false := decide_eq_false c132
                                 clear c132
                                 obtain rfl := Option.some.inj H
                                 go_wp2
                                 repeat (go_quiet (fail); try go_wp2)
                                 go_ret
                                 exact ⟨by first | rfl | (simp [errW_none, errW_some] <;> rfl) | (simp [*, errW_none, errW_some] <;> rfl), by repeat (first | (with_reducible first | apply below_alloc | apply pw_below_drewN | apply below_drew1) | exact HB.out)⟩
                            ·rw [if_neg c126] at H
                             exact absurd H (by simp)
                           ·rw [if_neg c125] at H
                            exact absurd H (by simp)
                         ·as_aux_lemma =>
                          replace c123 := Bool.eq_false_iff.mpr c123
                          subst c123
                          rw [if_neg (show ¬ (false = true) by decide)] at H
                          obtain rfl := Option.some.inj H
                          go_wp2
                          repeat (go_quiet (fail); try go_wp2)
                          go_ret
                          exact ⟨by first | rfl | (simp [errW_none, errW_some] <;> rfl) | (simp [*, errW_none, errW_some] <;> rfl), by repeat (first | (with_reducible first | apply below_alloc | apply pw_below_drewN | apply below_drew1) | exact HB.out)⟩
                 ·rw [if_neg c80] at H
                  exact absurd H (by simp)
               ·rw [if_neg c78] at H
                exact absurd H (by simp)
             ·replace c76 := Bool.eq_false_iff.mpr c76
              subst c76
              rw [if_neg (show ¬ (false = true) by decide)] at H
              exact absurd H (by simp)
           ·replace c73 := Bool.eq_false_iff.mpr c73
            subst c73
            rw [if_neg (show ¬ (false = true) by decide)] at H
            exact absurd H (by simp)
          ·replace c71 := Bool.eq_false_iff.mpr c71
           subst c71
           rw [if_neg (show ¬ (false = true) by decide)] at H
           exact absurd H (by simp)

/-- THE ONE PURE STATEMENT of laws_FnGearsMeet: yours. -/
def laws_FnGearsMeet.Pure : Prop := ∀ (l0 : List Int) (l1 : List Int), l0.length ≤ maxLen → l0.length * 1 ≤ 140737488351232 → (∀ x ∈ l0, (Lit.int .u8 x).wf = true) → l1.length ≤ maxLen → l1.length * 1 ≤ 140737488351232 → (∀ x ∈ l1, (Lit.int .u8 x).wf = true) → ∃ k, laws_FnGearsMeet.f k l0 l1 = some true
theorem laws_FnGearsMeet.walk (P : laws_FnGearsMeet.Pure) (a0 : Option Addr) (len0 cap0 : Nat) (z0 : List Int) (a1 : Option Addr) (len1 cap1 : Nat) (z1 : List Int) (w : World) (w0 : (a0 = none ∧ len0 = 0 ∧ cap0 = 0 ∧ z0 = []) ∨ ∃ x, a0 = some x ∧ len0 ≤ cap0 ∧ cap0 ≤ maxLen ∧ z0.length = cap0 ∧ (∀ i, i < z0.length → w.cell? (x.add i) = some (.int .u8 (z0.getD i 0))) ∧ ∀ n ∈ z0, (Lit.int .u8 n).wf = true) (y0 : len0 * 1 ≤ 140737488351232) (w1 : (a1 = none ∧ len1 = 0 ∧ cap1 = 0 ∧ z1 = []) ∨ ∃ x, a1 = some x ∧ len1 ≤ cap1 ∧ cap1 ≤ maxLen ∧ z1.length = cap1 ∧ (∀ i, i < z1.length → w.cell? (x.add i) = some (.int .u8 (z1.getD i 0))) ∧ ∀ n ∈ z1, (Lit.int .u8 n).wf = true) (y1 : len1 * 1 ≤ 140737488351232) :
  Calls Try.prog 3 #[.slice a0 len0 cap0, .slice a1 len1 cap1] w fun e w' => e = .returned (.bool true) ∧ Below w.heap.size w w' := by
 obtain ⟨l0, rfl, hr0, hm0, hw0, hc0⟩ := ReadsInt.ofRowC w0
 obtain ⟨l1, rfl, hr1, hm1, hw1, hc1⟩ := ReadsInt.ofRowC w1
 obtain ⟨k, h⟩ := P l0 l1 hm0 y0 hw0 hm1 y1 hw1
 refine (laws_FnGearsMeet.calls k _ _ l0 _ _ l1 true w (Kd.C_of_reads (d := (0 : Int)) (h1 := fun _ => rfl) hr0) hc0 (Kd.C_of_reads (d := (0 : Int)) (h1 := fun _ => rfl) hr1) hc1 h).mono ?_
 rintro e w' ⟨rfl, hd⟩
 exact ⟨rfl, hd⟩

end Go.Proofs.Ytafjmkjljhiigaa.P
