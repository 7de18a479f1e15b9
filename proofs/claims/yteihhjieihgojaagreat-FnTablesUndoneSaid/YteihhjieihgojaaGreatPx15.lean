/- A part of this seat's proofs: contracts of the translated functions, written by the session's own program (gp.py) out of the kit's print.py and the session's own contracts; no conditions of its own. -/
import Derived.Test.YteihhjieihgojaaGreatPx0
import Derived.Test.YteihhjieihgojaaGreatPx2
import Derived.Test.YteihhjieihgojaaGreatPx3
import Derived.Test.YteihhjieihgojaaGreatPx4
import Derived.Test.YteihhjieihgojaaGreatPx5
import Derived.Test.YteihhjieihgojaaGreatPx7
import Derived.Test.YteihhjieihgojaaGreatPx8
import Derived.Test.YteihhjieihgojaaGreatPx9
import Derived.Test.YteihhjieihgojaaGreatPx10
import Derived.Test.YteihhjieihgojaaGreatPx11
import Derived.Test.YteihhjieihgojaaGreatPx13
import Derived.Test.YteihhjieihgojaaGreatPx14
namespace Go.Proofs.YteihhjieihgojaaGreat.P
open Go.RowKit Go.Proofs.YteihhjieihgojaaGreatW.PrintWords Go.Proofs.YteihhjieihgojaaGreatW.PrintLast Go.Proofs.YteihhjieihgojaaGreatW.PrintMore
attribute [local go_sem] max2_int min2_int max_two min_two max_three min_three max_four min_four   -- for this text's walks alone
set_option linter.unusedVariables false
set_option linter.unusedSimpArgs false

/-! ### laws_FnTablesUndone: function 3 -/
mutual
def laws_FnTablesUndone.j0 : Nat → List Int → Int → Int → Int → Bool → Bool → Bool → Int → List (S41) → Int → Int → List Int → Int → Bool → Option (Bool)
 | 0, _, _, _, _, _, _, _, _, _, _, _, _, _, _ => none
 | k + 1, x1, x5, x6, x7, x8, x11, x12, x15, x19, x23, x27, x31, x32, x267 => if x267 = true then (none) else (if x12 = true then ((impl_TimesRow.f k x5 x6).bind fun bt438 => ((impl_DepthOfTable.f k x5 x6).bind fun bt442 => (if bt438.2 = true then (if (x19.length : Int) > x5 then (none) else (if x27 < 0 then (none) else (if x23 < 1 then (none) else (if x23 > x5 then (none) else (if x23 = 0 then (none) else (if (Int.tmod x5 x23) = 0 then (if bt442.2 = true then (if (x11 != (bt442.1 == 0)) = true then (none) else (laws_FnTablesUndone.l0 k x1 x5 x6 x7 x8 x15 x19 x23 x27 x31 x32 bt438.1 x19 (x19.length : Int) 0)) else (none)) else (none))))))) else (none)))) else (laws_FnTablesUndone.j2 k x1 x5 x6 x7 x8 x15 x31 x32))
def laws_FnTablesUndone.j2 : Nat → List Int → Int → Int → Int → Bool → Int → List Int → Int → Option (Bool)
 | 0, _, _, _, _, _, _, _, _ => none
 | k + 1, x1, x5, x6, x7, x8, x15, x31, x32 => if x8 = true then (if x7 < 1 then (none) else (if x7 ≥ x5 then (none) else (if x15 < 1 then (none) else (if x15 > x32 then (none) else (laws_FnTablesUndone.l1 k x1 x5 x6 x7 x15 x31 x32 0))))) else (laws_FnTablesUndone.j4 k x1)
def laws_FnTablesUndone.j4 : Nat → List Int → Option (Bool)
 | 0, _ => none
 | k + 1, x1 => (spec_DrawFactorsWith.f x1).bind fun bt465 => ((impl_FactorsWith.f bt465.1 bt465.2).bind fun bt467 => ((spec_FactorsWith.f k bt465.1 bt465.2).bind fun bt471 => (if (bt467.2 != bt471.2) = true then (none) else ((laws_gSame.f k bt467.1 bt471.1).bind fun t475 => (if t475 = true then (if bt467.2 = true then ((laws_gRises.f k bt467.1).bind fun t476 => (if t476 = true then (if bt465.2 = bt465.1 then (if (bt467.1.length : Int) = 1 then (if 0 < (bt467.1.length : Int) then (if (rd bt467.1 0) = 1 then (if bt465.2 = 0 then (laws_FnTablesUndone.j5 k bt465.1 bt465.2 bt467.1 ((bt467.1.length : Int) != 0)) else (if (Int.tmod bt465.1 bt465.2) = 0 then (laws_FnTablesUndone.j5 k bt465.1 bt465.2 bt467.1 false) else (laws_FnTablesUndone.j5 k bt465.1 bt465.2 bt467.1 ((bt467.1.length : Int) != 0)))) else (none)) else (none)) else (none)) else (if bt465.2 = 0 then (laws_FnTablesUndone.j5 k bt465.1 bt465.2 bt467.1 ((bt467.1.length : Int) != 0)) else (if (Int.tmod bt465.1 bt465.2) = 0 then (laws_FnTablesUndone.j5 k bt465.1 bt465.2 bt467.1 false) else (laws_FnTablesUndone.j5 k bt465.1 bt465.2 bt467.1 ((bt467.1.length : Int) != 0))))) else (none))) else (some true)) else (none))))))
def laws_FnTablesUndone.j5 : Nat → Int → Int → List Int → Bool → Option (Bool)
 | 0, _, _, _, _ => none
 | k + 1, x56, x57, x58, x536 => if x536 = true then (none) else (laws_FnTablesUndone.l2 k x56 x57 x58 (x58.length : Int) 0)
def laws_FnTablesUndone.l2 : Nat → Int → Int → List Int → Int → Int → Option (Bool)
 | 0, _, _, _, _, _ => none
 | k + 1, x56, x57, x537, x538, x539 => if x539 < x538 then (if 0 ≤ x539 then (if x539 < (x537.length : Int) then ((impl_FixedPoints.f x56 (rd x537 x539)).bind fun bt479 => (if bt479.2 = true then (if (bt479.1.length : Int) = x57 then (laws_FnTablesUndone.l2 k x56 x57 x537 x538 (wrap64 (x539 + 1))) else (none)) else (none))) else (none)) else (none)) else (some true)
def laws_FnTablesUndone.l1 : Nat → List Int → Int → Int → Int → Int → List Int → Int → Int → Option (Bool)
 | 0, _, _, _, _, _, _, _, _ => none
 | k + 1, x1, x5, x6, x7, x15, x31, x32, x47 => if x47 < x5 then ((impl_TimesPoint.f k x5 x6 x47).bind fun bt455 => ((impl_TimesPoint.f k x5 x7 bt455.1).bind fun bt457 => ((impl_TimesAfter.f k x5 x6 x47 x15).bind fun bt459 => (if bt455.2 = true then (if bt457.2 = true then (if bt457.1 = x47 then (if bt459.2 = true then (if bt459.1 = x47 then (laws_FnTablesUndone.l1 k x1 x5 x6 x7 x15 x31 x32 (wrap64 (x47 + 1))) else (none)) else (none)) else (none)) else (none)) else (none))))) else ((impl_TimesAfter.f k x5 x6 1 (wrap64 (x15 - 1))).bind fun bt461 => (if bt461.2 = true then (if x15 > 1 then (if bt461.1 = 1 then (none) else ((laws_gHas.f k x31 x6).bind fun t463 => (if (t463 != (x15 == x32)) = true then (none) else (laws_FnTablesUndone.j4 k x1)))) else ((laws_gHas.f k x31 x6).bind fun t464 => (if (t464 != (x15 == x32)) = true then (none) else (laws_FnTablesUndone.j4 k x1)))) else (none)))
def laws_FnTablesUndone.l0 : Nat → List Int → Int → Int → Int → Bool → Int → List (S41) → Int → Int → List Int → Int → List Int → List (S41) → Int → Int → Option (Bool)
 | 0, _, _, _, _, _, _, _, _, _, _, _, _, _, _, _ => none
 | k + 1, x1, x5, x6, x7, x8, x15, x19, x23, x27, x31, x32, x37, x318, x319, x320 => if x320 < x319 then (if 0 ≤ x320 then (if x320 < (x318.length : Int) then (if ((rd_T41 x318 x320).f0) ≥ ((rd_T41 x318 x320).f1) then (none) else (if 0 ≤ ((rd_T41 x318 x320).f0) then (if ((rd_T41 x318 x320).f0) < (x37.length : Int) then (if (rd x37 ((rd_T41 x318 x320).f0)) = ((rd_T41 x318 x320).f1) then (laws_FnTablesUndone.l0 k x1 x5 x6 x7 x8 x15 x19 x23 x27 x31 x32 x37 x318 x319 (wrap64 (x320 + 1))) else (if 0 ≤ ((rd_T41 x318 x320).f1) then (if ((rd_T41 x318 x320).f1) < (x37.length : Int) then (if (rd x37 ((rd_T41 x318 x320).f1)) = ((rd_T41 x318 x320).f0) then (laws_FnTablesUndone.l0 k x1 x5 x6 x7 x8 x15 x19 x23 x27 x31 x32 x37 x318 x319 (wrap64 (x320 + 1))) else (none)) else (none)) else (none))) else (none)) else (none))) else (none)) else (none)) else (if (x19.length : Int) ≤ 40 then (if x5 = 0 then (none) else ((impl_TurnChords.f k x5 x19 (Int.tmod x23 x5)).bind fun bt448 => ((impl_CountPairsCrossing.f k x5 x19).bind fun bt452 => (if bt448.2 = true then ((laws_gChords.f k bt448.1 x19).bind fun t454 => (if t454 = true then (if bt452.2 = true then (if bt452.1 = x27 then (laws_FnTablesUndone.j2 k x1 x5 x6 x7 x8 x15 x31 x32) else (none)) else (none)) else (none))) else (none))))) else (laws_FnTablesUndone.j2 k x1 x5 x6 x7 x8 x15 x31 x32))
end
def laws_FnTablesUndone.f (k : Nat) (l0 : List Int) (l1 : List Int) : Option (Bool) := (laws_big.f l0 l1).bind fun t395 => (if t395 = true then (some true) else ((spec_DrawUndoFactor.f l0).bind fun bt396 => ((impl_UndoFactor.f k bt396.1 bt396.2).bind fun bt398 => ((spec_UndoFactor.f k bt396.1 bt396.2).bind fun bt400 => ((impl_CanBeUndone.f bt396.1 bt396.2).bind fun bt402 => ((spec_CanBeUndone.f bt396.1 bt396.2).bind fun bt404 => ((impl_OrderOfFactor.f k bt396.1 bt396.2).bind fun bt406 => ((spec_OrderOfFactor.f k bt396.1 bt396.2).bind fun bt408 => ((impl_TimesChords.f k bt396.1 bt396.2).bind fun bt410 => ((spec_TimesChords.f k bt396.1 bt396.2).bind fun bt414 => ((impl_LeastTurnOfTable.f k bt396.1 bt396.2).bind fun bt418 => ((spec_LeastTurnOfTable.f k bt396.1 bt396.2).bind fun bt420 => ((impl_TableCrossings.f k bt396.1 bt396.2).bind fun bt422 => ((spec_TableCrossings.f k bt396.1 bt396.2).bind fun bt424 => ((impl_LongFactors.f k bt396.1).bind fun bt426 => ((spec_LongFactors.f k bt396.1).bind fun bt431 => (if (bt398.2 != bt400.2) = true then (none) else (if bt398.1 = bt400.1 then (if (bt402.2 != bt404.2) = true then (none) else (if (bt402.1 != bt404.1) = true then (none) else (if (bt406.2 != bt408.2) = true then (none) else (if bt406.1 = bt408.1 then (if (bt410.2 != bt414.2) = true then (none) else ((laws_gChords.f k bt410.1 bt414.1).bind fun t436 => (if t436 = true then (if (bt418.2 != bt420.2) = true then (none) else (if bt418.1 = bt420.1 then (if (bt422.2 != bt424.2) = true then (none) else (if bt422.1 = bt424.1 then (if (bt426.2.2 != bt431.2.2) = true then (none) else ((laws_gSame.f k bt426.1 bt431.1).bind fun t437 => (if t437 = true then (if bt426.2.1 = bt431.2.1 then (if bt402.2 = true then (if (bt398.2 != bt402.1) = true then (none) else (if (bt406.2 != bt398.2) = true then (none) else (if (bt410.2 != bt402.2) = true then (none) else (if (bt418.2 != bt402.2) = true then (none) else (if (bt422.2 != bt402.2) = true then (none) else (laws_FnTablesUndone.j0 k l1 bt396.1 bt396.2 bt398.1 bt398.2 bt402.1 bt402.2 bt406.1 bt410.1 bt418.1 bt422.1 bt426.1 bt426.2.1 (!bt426.2.2))))))) else (if (bt398.2 != false) = true then (none) else (if (bt406.2 != bt398.2) = true then (none) else (if (bt410.2 != bt402.2) = true then (none) else (if (bt418.2 != bt402.2) = true then (none) else (if (bt422.2 != bt402.2) = true then (none) else (laws_FnTablesUndone.j0 k l1 bt396.1 bt396.2 bt398.1 bt398.2 bt402.1 bt402.2 bt406.1 bt410.1 bt418.1 bt422.1 bt426.1 bt426.2.1 false))))))) else (none)) else (none)))) else (none))) else (none))) else (none)))) else (none))))) else (none)))))))))))))))))))
theorem laws_FnTablesUndone.mono_l : ∀ k, (∀ y0 y1 y2 y3 y4 y5 y6 y7 y8 y9 y10 y11 y12 y13, LeO (laws_FnTablesUndone.j0 k y0 y1 y2 y3 y4 y5 y6 y7 y8 y9 y10 y11 y12 y13) (laws_FnTablesUndone.j0 (k + 1) y0 y1 y2 y3 y4 y5 y6 y7 y8 y9 y10 y11 y12 y13)) ∧ (∀ y0 y1 y2 y3 y4 y5 y6 y7, LeO (laws_FnTablesUndone.j2 k y0 y1 y2 y3 y4 y5 y6 y7) (laws_FnTablesUndone.j2 (k + 1) y0 y1 y2 y3 y4 y5 y6 y7)) ∧ (∀ y0, LeO (laws_FnTablesUndone.j4 k y0) (laws_FnTablesUndone.j4 (k + 1) y0)) ∧ (∀ y0 y1 y2 y3, LeO (laws_FnTablesUndone.j5 k y0 y1 y2 y3) (laws_FnTablesUndone.j5 (k + 1) y0 y1 y2 y3)) ∧ (∀ y0 y1 y2 y3 y4, LeO (laws_FnTablesUndone.l2 k y0 y1 y2 y3 y4) (laws_FnTablesUndone.l2 (k + 1) y0 y1 y2 y3 y4)) ∧ (∀ y0 y1 y2 y3 y4 y5 y6 y7, LeO (laws_FnTablesUndone.l1 k y0 y1 y2 y3 y4 y5 y6 y7) (laws_FnTablesUndone.l1 (k + 1) y0 y1 y2 y3 y4 y5 y6 y7)) ∧ (∀ y0 y1 y2 y3 y4 y5 y6 y7 y8 y9 y10 y11 y12 y13 y14, LeO (laws_FnTablesUndone.l0 k y0 y1 y2 y3 y4 y5 y6 y7 y8 y9 y10 y11 y12 y13 y14) (laws_FnTablesUndone.l0 (k + 1) y0 y1 y2 y3 y4 y5 y6 y7 y8 y9 y10 y11 y12 y13 y14))
 | 0 => ⟨fun _ _ _ _ _ _ _ _ _ _ _ _ _ _ r h => by simp [laws_FnTablesUndone.j0] at h, fun _ _ _ _ _ _ _ _ r h => by simp [laws_FnTablesUndone.j2] at h, fun _ r h => by simp [laws_FnTablesUndone.j4] at h, fun _ _ _ _ r h => by simp [laws_FnTablesUndone.j5] at h, fun _ _ _ _ _ r h => by simp [laws_FnTablesUndone.l2] at h, fun _ _ _ _ _ _ _ _ r h => by simp [laws_FnTablesUndone.l1] at h, fun _ _ _ _ _ _ _ _ _ _ _ _ _ _ _ r h => by simp [laws_FnTablesUndone.l0] at h⟩
 | k + 1 => by
  obtain ⟨ih0, ih1, ih2, ih3, ih4, ih5, ih6⟩ := laws_FnTablesUndone.mono_l k
  refine ⟨?_, ?_, ?_, ?_, ?_, ?_, ?_⟩
  all_goals (intros; first | unfold laws_FnTablesUndone.j0 | unfold laws_FnTablesUndone.j2 | unfold laws_FnTablesUndone.j4 | unfold laws_FnTablesUndone.j5 | unfold laws_FnTablesUndone.l2 | unfold laws_FnTablesUndone.l1 | unfold laws_FnTablesUndone.l0)
  all_goals repeat' with_reducible first | apply ih0 | apply ih1 | apply ih2 | apply ih3 | apply ih4 | apply ih5 | apply ih6 | apply impl_CountPairsCrossing.mono | apply impl_DepthOfTable.mono | apply impl_LeastTurnOfTable.mono | apply impl_LongFactors.mono | apply impl_OrderOfFactor.mono | apply impl_TableCrossings.mono | apply impl_TimesAfter.mono | apply impl_TimesChords.mono | apply impl_TimesPoint.mono | apply impl_TimesRow.mono | apply impl_TurnChords.mono | apply impl_UndoFactor.mono | apply laws_gChords.mono | apply laws_gHas.mono | apply laws_gRises.mono | apply laws_gSame.mono | apply spec_FactorsWith.mono | apply spec_LeastTurnOfTable.mono | apply spec_LongFactors.mono | apply spec_OrderOfFactor.mono | apply spec_TableCrossings.mono | apply spec_TimesChords.mono | apply spec_UndoFactor.mono | exact LeO.refl _ | exact LeO.none _ | refine LeO.ite ?_ ?_ | refine LeO.bind ?_ (fun _ => ?_)
theorem laws_FnTablesUndone.mono : ∀ a0 a1 k, LeO (laws_FnTablesUndone.f k a0 a1) (laws_FnTablesUndone.f (k + 1) a0 a1) := by
 intro a0 a1 k
 obtain ⟨ih0, ih1, ih2, ih3, ih4, ih5, ih6⟩ := laws_FnTablesUndone.mono_l k
 unfold laws_FnTablesUndone.f
 repeat' with_reducible first | apply ih0 | apply ih1 | apply ih2 | apply ih3 | apply ih4 | apply ih5 | apply ih6 | apply impl_CountPairsCrossing.mono | apply impl_DepthOfTable.mono | apply impl_LeastTurnOfTable.mono | apply impl_LongFactors.mono | apply impl_OrderOfFactor.mono | apply impl_TableCrossings.mono | apply impl_TimesAfter.mono | apply impl_TimesChords.mono | apply impl_TimesPoint.mono | apply impl_TimesRow.mono | apply impl_TurnChords.mono | apply impl_UndoFactor.mono | apply laws_gChords.mono | apply laws_gHas.mono | apply laws_gRises.mono | apply laws_gSame.mono | apply spec_FactorsWith.mono | apply spec_LeastTurnOfTable.mono | apply spec_LongFactors.mono | apply spec_OrderOfFactor.mono | apply spec_TableCrossings.mono | apply spec_TimesChords.mono | apply spec_UndoFactor.mono | exact LeO.refl _ | exact LeO.none _ | refine LeO.ite ?_ ?_ | refine LeO.bind ?_ (fun _ => ?_)
set_option maxHeartbeats 80000000 in
set_option maxRecDepth 100000 in
theorem laws_FnTablesUndone.calls (k : Nat) (A0 : Option Addr) (c0 : Nat) (l0 : List Int) (A1 : Option Addr) (c1 : Nat) (l1 : List Int) (r : Bool) (w : World) (hr0 : Kd.C (Kd.int .u8) w A0 l0.length l0) (hc0 : l0.length ≤ c0) (hr1 : Kd.C (Kd.int .u8) w A1 l1.length l1) (hc1 : l1.length ≤ c1) (h : laws_FnTablesUndone.f k l0 l1 = some r) :
  Calls Tryz.prog 3 #[.slice A0 l0.length c0, .slice A1 l1.length c1] w fun e w' => e = .returned (.bool r) ∧ Below w.heap.size w w' := by
 have hu41 := Tryz.underlying41
 have HR0 := Aside0.mk hr0
 have HC0 := Aside0.mk hc0
 clear hr0 hc0
 have HR1 := Aside0.mk hr1
 have HC1 := Aside0.mk hc1
 clear hr1 hc1
 have HB := Aside0.mk (Below.refl w.heap.size w)
 have H : ((laws_big.f l0 l1).bind fun t395 => (if t395 = true then (some true) else ((spec_DrawUndoFactor.f l0).bind fun bt396 => ((impl_UndoFactor.f k bt396.1 bt396.2).bind fun bt398 => ((spec_UndoFactor.f k bt396.1 bt396.2).bind fun bt400 => ((impl_CanBeUndone.f bt396.1 bt396.2).bind fun bt402 => ((spec_CanBeUndone.f bt396.1 bt396.2).bind fun bt404 => ((impl_OrderOfFactor.f k bt396.1 bt396.2).bind fun bt406 => ((spec_OrderOfFactor.f k bt396.1 bt396.2).bind fun bt408 => ((impl_TimesChords.f k bt396.1 bt396.2).bind fun bt410 => ((spec_TimesChords.f k bt396.1 bt396.2).bind fun bt414 => ((impl_LeastTurnOfTable.f k bt396.1 bt396.2).bind fun bt418 => ((spec_LeastTurnOfTable.f k bt396.1 bt396.2).bind fun bt420 => ((impl_TableCrossings.f k bt396.1 bt396.2).bind fun bt422 => ((spec_TableCrossings.f k bt396.1 bt396.2).bind fun bt424 => ((impl_LongFactors.f k bt396.1).bind fun bt426 => ((spec_LongFactors.f k bt396.1).bind fun bt431 => (if (bt398.2 != bt400.2) = true then (none) else (if bt398.1 = bt400.1 then (if (bt402.2 != bt404.2) = true then (none) else (if (bt402.1 != bt404.1) = true then (none) else (if (bt406.2 != bt408.2) = true then (none) else (if bt406.1 = bt408.1 then (if (bt410.2 != bt414.2) = true then (none) else ((laws_gChords.f k bt410.1 bt414.1).bind fun t436 => (if t436 = true then (if (bt418.2 != bt420.2) = true then (none) else (if bt418.1 = bt420.1 then (if (bt422.2 != bt424.2) = true then (none) else (if bt422.1 = bt424.1 then (if (bt426.2.2 != bt431.2.2) = true then (none) else ((laws_gSame.f k bt426.1 bt431.1).bind fun t437 => (if t437 = true then (if bt426.2.1 = bt431.2.1 then (if bt402.2 = true then (if (bt398.2 != bt402.1) = true then (none) else (if (bt406.2 != bt398.2) = true then (none) else (if (bt410.2 != bt402.2) = true then (none) else (if (bt418.2 != bt402.2) = true then (none) else (if (bt422.2 != bt402.2) = true then (none) else (laws_FnTablesUndone.j0 k l1 bt396.1 bt396.2 bt398.1 bt398.2 bt402.1 bt402.2 bt406.1 bt410.1 bt418.1 bt422.1 bt426.1 bt426.2.1 (!bt426.2.2))))))) else (if (bt398.2 != false) = true then (none) else (if (bt406.2 != bt398.2) = true then (none) else (if (bt410.2 != bt402.2) = true then (none) else (if (bt418.2 != bt402.2) = true then (none) else (if (bt422.2 != bt402.2) = true then (none) else (laws_FnTablesUndone.j0 k l1 bt396.1 bt396.2 bt398.1 bt398.2 bt402.1 bt402.2 bt406.1 bt410.1 bt418.1 bt422.1 bt426.1 bt426.2.1 false))))))) else (none)) else (none)))) else (none))) else (none))) else (none)))) else (none))))) else (none)))))))))))))))))))) = some r := h
 clear h
 replace H := Option.bind_eq_some_iff.mp H
 obtain ⟨t395, A30, H⟩ := H
 (try dsimp only at H)
 have A3 := Aside0.mk A30
 clear A30
 by_cases c4 : t395 = true
 ·as_aux_lemma =>
  subst c4
  rw [if_pos rfl] at H
  obtain rfl := Option.some.inj H
  go_enter Tryz.func3, Tryz.ntmps3
  go_wp2_with (first | (go_at_call 4; (with_reducible refine (laws_big.calls _ _ l0 _ _ l1 true _ ?side1 ?side2 ?side3 ?side4 A3.out).mono ?_); (case side1 => exact cu_ HR0.out); (case side2 => exact HC0.out); (case side3 => exact cu_ HR1.out); (case side4 => exact HC1.out); rintro e w' ⟨rfl, ⟨nd, rfl⟩⟩; (try first | exact ⟨rfl, _, dn_⟩ | exact ⟨rfl, _, dm_⟩)))
  go_ret
  exact ⟨by first | rfl | (simp [errW_none, errW_some] <;> rfl) | (simp [*, errW_none, errW_some] <;> rfl), bb_⟩
 ·as_aux_lemma =>
  replace c4 := Bool.eq_false_iff.mpr c4
  subst c4
  rw [if_neg (show ¬ (false = true) by decide)] at H
  replace H := Option.bind_eq_some_iff.mp H
  obtain ⟨⟨t396, t397⟩, A50, H⟩ := H
  (try dsimp only at H)
  have A5 := Aside0.mk A50
  clear A50
  replace H := Option.bind_eq_some_iff.mp H
  obtain ⟨⟨t398, t399⟩, A60, H⟩ := H
  (try dsimp only at H)
  have A6 := Aside0.mk A60
  clear A60
  replace H := Option.bind_eq_some_iff.mp H
  obtain ⟨⟨t400, t401⟩, A70, H⟩ := H
  (try dsimp only at H)
  have A7 := Aside0.mk A70
  clear A70
  replace H := Option.bind_eq_some_iff.mp H
  obtain ⟨⟨t402, t403⟩, A80, H⟩ := H
  (try dsimp only at H)
  have A8 := Aside0.mk A80
  clear A80
  replace H := Option.bind_eq_some_iff.mp H
  obtain ⟨⟨t404, t405⟩, A90, H⟩ := H
  (try dsimp only at H)
  have A9 := Aside0.mk A90
  clear A90
  replace H := Option.bind_eq_some_iff.mp H
  obtain ⟨⟨t406, t407⟩, A100, H⟩ := H
  (try dsimp only at H)
  have A10 := Aside0.mk A100
  clear A100
  replace H := Option.bind_eq_some_iff.mp H
  obtain ⟨⟨t408, t409⟩, A110, H⟩ := H
  (try dsimp only at H)
  have A11 := Aside0.mk A110
  clear A110
  replace H := Option.bind_eq_some_iff.mp H
  obtain ⟨⟨t410, t411⟩, A120, H⟩ := H
  (try dsimp only at H)
  have A12 := Aside0.mk A120
  clear A120
  replace H := Option.bind_eq_some_iff.mp H
  obtain ⟨⟨t414, t415⟩, A130, H⟩ := H
  (try dsimp only at H)
  have A13 := Aside0.mk A130
  clear A130
  replace H := Option.bind_eq_some_iff.mp H
  obtain ⟨⟨t418, t419⟩, A140, H⟩ := H
  (try dsimp only at H)
  have A14 := Aside0.mk A140
  clear A140
  replace H := Option.bind_eq_some_iff.mp H
  obtain ⟨⟨t420, t421⟩, A150, H⟩ := H
  (try dsimp only at H)
  have A15 := Aside0.mk A150
  clear A150
  replace H := Option.bind_eq_some_iff.mp H
  obtain ⟨⟨t422, t423⟩, A160, H⟩ := H
  (try dsimp only at H)
  have A16 := Aside0.mk A160
  clear A160
  replace H := Option.bind_eq_some_iff.mp H
  obtain ⟨⟨t424, t425⟩, A170, H⟩ := H
  (try dsimp only at H)
  have A17 := Aside0.mk A170
  clear A170
  replace H := Option.bind_eq_some_iff.mp H
  obtain ⟨⟨t426, t427, t428⟩, A180, H⟩ := H
  (try dsimp only at H)
  have A18 := Aside0.mk A180
  clear A180
  replace H := Option.bind_eq_some_iff.mp H
  obtain ⟨⟨t431, t432, t433⟩, A190, H⟩ := H
  (try dsimp only at H)
  have A19 := Aside0.mk A190
  clear A190
  have HC20 := Aside0.mk H
  clear H
  go_enter Tryz.func3, Tryz.ntmps3
  go_upto_region 18 with (first | (go_at_call 4; (with_reducible refine (laws_big.calls _ _ l0 _ _ l1 false _ ?side1 ?side2 ?side3 ?side4 A3.out).mono ?_); (case side1 => exact cu_ HR0.out); (case side2 => exact HC0.out); (case side3 => exact cu_ HR1.out); (case side4 => exact HC1.out); rintro e w' ⟨rfl, ⟨nd, rfl⟩⟩; (try first | exact ⟨rfl, _, dn_⟩ | exact ⟨rfl, _, dm_⟩)) | (go_at_call 5; (with_reducible refine (spec_DrawUndoFactor.calls _ _ l0 t396 t397 _ ?side1 ?side2 A5.out).mono ?_); (case side1 => exact cu_ HR0.out); (case side2 => exact HC0.out); rintro e w21 ⟨rfl, hb⟩; have n0_ := Aside0.mk (bs_ hb); clear HB; have HB := n0_; clear n0_; (try clear hb)) | (go_at_call 6; (with_reducible refine (impl_UndoFactor.calls k t396 t397 t398 t399 _ A6.out).mono ?_); rintro e w22 ⟨rfl, hb⟩; have n0_ := Aside0.mk (bs_ hb); clear HB; have HB := n0_; clear n0_; (try clear hb)) | (go_at_call 7; (with_reducible refine (spec_UndoFactor.calls k t396 t397 t400 t401 _ A7.out).mono ?_); rintro e w' ⟨rfl, ⟨nd, rfl⟩⟩; (try first | exact ⟨rfl, _, dn_⟩ | exact ⟨rfl, _, dm_⟩)) | (go_at_call 8; (with_reducible refine (impl_CanBeUndone.calls t396 t397 t402 t403 _ A8.out).mono ?_); rintro e w23 ⟨rfl, hb⟩; have n0_ := Aside0.mk (bs_ hb); clear HB; have HB := n0_; clear n0_; (try clear hb)) | (go_at_call 9; (with_reducible refine (spec_CanBeUndone.calls t396 t397 t404 t405 _ A9.out).mono ?_); rintro e w' ⟨rfl, ⟨nd, rfl⟩⟩; (try first | exact ⟨rfl, _, dn_⟩ | exact ⟨rfl, _, dm_⟩)) | (go_at_call 10; (with_reducible refine (impl_OrderOfFactor.calls k t396 t397 t406 t407 _ A10.out).mono ?_); rintro e w24 ⟨rfl, hb⟩; have n0_ := Aside0.mk (bs_ hb); clear HB; have HB := n0_; clear n0_; (try clear hb)) | (go_at_call 11; (with_reducible refine (spec_OrderOfFactor.calls k t396 t397 t408 t409 _ A11.out).mono ?_); rintro e w' ⟨rfl, ⟨nd, rfl⟩⟩; (try first | exact ⟨rfl, _, dn_⟩ | exact ⟨rfl, _, dm_⟩)) | (go_at_call 12; (with_reducible refine (impl_TimesChords.calls k t396 t397 t410 t411 _ A12.out).mono ?_); rintro e w25 ⟨v412, rfl, ho0, hb⟩; have n0_ := Aside0.mk (Kd.R_lower ho0 bz_); have n1_ := Aside0.mk (bs_ hb); clear HB; have HO413 := n0_; have HB := n1_; clear n0_ n1_; (try clear hb); (try clear ho0)) | (go_at_call 13; (with_reducible refine (spec_TimesChords.calls k t396 t397 t414 t415 _ A13.out).mono ?_); rintro e w26 ⟨v416, rfl, ho0, hb⟩; have n0_ := Aside0.mk (Kd.R_elder' (ru_ HO413.out) (Kd.R_base ho0) hb); have n1_ := Aside0.mk (Kd.R_lower (Kd.R_new' ho0 (Kd.R_lt (ru_ HO413.out))) bz_); have n2_ := Aside0.mk (bs_ hb); clear HO413; clear HB; have HO413 := n0_; have HO417 := n1_; have HB := n2_; clear n0_ n1_ n2_; (try clear hb); (try clear ho0)) | (go_at_call 14; (with_reducible refine (impl_LeastTurnOfTable.calls k t396 t397 t418 t419 _ A14.out).mono ?_); rintro e w27 ⟨rfl, hb⟩; have n0_ := Aside0.mk (Kd.R_below (ru_ HO413.out) hb); have n1_ := Aside0.mk (Kd.R_below (ru_ HO417.out) hb); have n2_ := Aside0.mk (bs_ hb); clear HO413; clear HO417; clear HB; have HO413 := n0_; have HO417 := n1_; have HB := n2_; clear n0_ n1_ n2_; (try clear hb)) | (go_at_call 15; (with_reducible refine (spec_LeastTurnOfTable.calls k t396 t397 t420 t421 _ A15.out).mono ?_); rintro e w28 ⟨rfl, hb⟩; have n0_ := Aside0.mk (Kd.R_below (ru_ HO413.out) hb); have n1_ := Aside0.mk (Kd.R_below (ru_ HO417.out) hb); have n2_ := Aside0.mk (bs_ hb); clear HO413; clear HO417; clear HB; have HO413 := n0_; have HO417 := n1_; have HB := n2_; clear n0_ n1_ n2_; (try clear hb)) | (go_at_call 16; (with_reducible refine (impl_TableCrossings.calls k t396 t397 t422 t423 _ A16.out).mono ?_); rintro e w29 ⟨rfl, hb⟩; have n0_ := Aside0.mk (Kd.R_below (ru_ HO413.out) hb); have n1_ := Aside0.mk (Kd.R_below (ru_ HO417.out) hb); have n2_ := Aside0.mk (bs_ hb); clear HO413; clear HO417; clear HB; have HO413 := n0_; have HO417 := n1_; have HB := n2_; clear n0_ n1_ n2_; (try clear hb)) | (go_at_call 17; (with_reducible refine (spec_TableCrossings.calls k t396 t397 t424 t425 _ A17.out).mono ?_); rintro e w30 ⟨rfl, hb⟩; have n0_ := Aside0.mk (Kd.R_below (ru_ HO413.out) hb); have n1_ := Aside0.mk (Kd.R_below (ru_ HO417.out) hb); have n2_ := Aside0.mk (bs_ hb); clear HO413; clear HO417; clear HB; have HO413 := n0_; have HO417 := n1_; have HB := n2_; clear n0_ n1_ n2_; (try clear hb)) | (go_at_call 18; (with_reducible refine (impl_LongFactors.calls k t396 t426 t427 t428 _ A18.out).mono ?_); rintro e w31 ⟨v429, rfl, ho0, hb⟩; have n0_ := Aside0.mk (Kd.R_below (ru_ HO413.out) hb); have n1_ := Aside0.mk (Kd.R_below (ru_ HO417.out) hb); have n2_ := Aside0.mk (Kd.R_lower ho0 bz_); have n3_ := Aside0.mk (bs_ hb); clear HO413; clear HO417; clear HB; have HO413 := n0_; have HO417 := n1_; have HO430 := n2_; have HB := n3_; clear n0_ n1_ n2_ n3_; (try clear hb); (try clear ho0)) | (go_at_call 19; (with_reducible refine (spec_LongFactors.calls k t396 t431 t432 t433 _ A19.out).mono ?_); rintro e w32 ⟨v434, rfl, ho0, hb⟩; have n0_ := Aside0.mk (Kd.R_below (ru_ HO413.out) hb); have n1_ := Aside0.mk (Kd.R_below (ru_ HO417.out) hb); have n2_ := Aside0.mk (Kd.R_elder' (ru_ HO430.out) (Kd.R_base ho0) hb); have n3_ := Aside0.mk (Kd.R_lower (Kd.R_new' ho0 (Kd.R_lt (ru_ HO430.out))) bz_); have n4_ := Aside0.mk (bs_ hb); clear HO413; clear HO417; clear HO430; clear HB; have HO413 := n0_; have HO417 := n1_; have HO430 := n2_; have HO435 := n3_; have HB := n4_; clear n0_ n1_ n2_ n3_ n4_; (try clear hb); (try clear ho0)))
  (try simp only [Act.put, sa_, sb_, sc_])
  go_cut [267] from 100000 to 100000 (fun v267 wc => ∃ (kq : Nat) (x267_19 : Bool), v267 = .bool x267_19 ∧ Aside0 (laws_FnTablesUndone.j0 kq l1 t396 t397 t398 t399 t402 t403 t406 t410 t418 t422 t426 t427 x267_19 = some r) ∧ Aside0 (kq ≤ k) ∧ Aside0 (Kd.R k41 41 wc w.heap.size (fun _ => True) v412 t410) ∧ Aside0 (Kd.R (Kd.int .i64) 3 wc w.heap.size (fun _ => True) v429 t426) ∧ Aside0 (Below w.heap.size w wc))
  case first =>
   as_aux_lemma =>
   have H := HC20.out
   clear HC20
   by_cases c33 : (t399 != t401) = true
   ·rw [if_pos c33] at H
    exact absurd H (by simp)
   ·rw [if_neg c33] at H
    have c33b0 : (t399 != t401) = false := by simpa using c33
    (try (have c33b1 : decide (t399 = t401) = true := by simpa using c33))
    (try (have c33b2 : (t399 == t401) = true := by simpa using c33))
    clear c33
    (first | rw [c33b0] | (simp only [i64_w, i32_w]; rw [c33b0]) | skip)
    by_cases c34 : t398 = t400
    ·rw [if_pos c34] at H
     have c34b0 : (t398 == t400) = true := beq_iff_eq.mpr c34
     have c34b1 : (t398 != t400) = false := bne_eq_false_iff_eq.mpr c34
     clear c34
     by_cases c35 : (t403 != t405) = true
     ·rw [if_pos c35] at H
      exact absurd H (by simp)
     ·rw [if_neg c35] at H
      have c35b0 : (t403 != t405) = false := by simpa using c35
      (try (have c35b1 : decide (t403 = t405) = true := by simpa using c35))
      (try (have c35b2 : (t403 == t405) = true := by simpa using c35))
      clear c35
      by_cases c36 : (t402 != t404) = true
      ·rw [if_pos c36] at H
       exact absurd H (by simp)
      ·rw [if_neg c36] at H
       have c36b0 : (t402 != t404) = false := by simpa using c36
       (try (have c36b1 : decide (t402 = t404) = true := by simpa using c36))
       (try (have c36b2 : (t402 == t404) = true := by simpa using c36))
       clear c36
       by_cases c37 : (t407 != t409) = true
       ·rw [if_pos c37] at H
        exact absurd H (by simp)
       ·rw [if_neg c37] at H
        have c37b0 : (t407 != t409) = false := by simpa using c37
        (try (have c37b1 : decide (t407 = t409) = true := by simpa using c37))
        (try (have c37b2 : (t407 == t409) = true := by simpa using c37))
        clear c37
        by_cases c38 : t406 = t408
        ·rw [if_pos c38] at H
         have c38b0 : (t406 == t408) = true := beq_iff_eq.mpr c38
         have c38b1 : (t406 != t408) = false := bne_eq_false_iff_eq.mpr c38
         clear c38
         by_cases c39 : (t411 != t415) = true
         ·rw [if_pos c39] at H
          exact absurd H (by simp)
         ·rw [if_neg c39] at H
          have c39b0 : (t411 != t415) = false := by simpa using c39
          (try (have c39b1 : decide (t411 = t415) = true := by simpa using c39))
          (try (have c39b2 : (t411 == t415) = true := by simpa using c39))
          clear c39
          replace H := Option.bind_eq_some_iff.mp H
          obtain ⟨t436, A400, H⟩ := H
          (try dsimp only at H)
          have A40 := Aside0.mk A400
          clear A400
          by_cases c41 : t436 = true
          ·subst c41
           rw [if_pos rfl] at H
           by_cases c42 : (t419 != t421) = true
           ·rw [if_pos c42] at H
            exact absurd H (by simp)
           ·rw [if_neg c42] at H
            have c42b0 : (t419 != t421) = false := by simpa using c42
            (try (have c42b1 : decide (t419 = t421) = true := by simpa using c42))
            (try (have c42b2 : (t419 == t421) = true := by simpa using c42))
            clear c42
            by_cases c43 : t418 = t420
            ·rw [if_pos c43] at H
             have c43b0 : (t418 == t420) = true := beq_iff_eq.mpr c43
             have c43b1 : (t418 != t420) = false := bne_eq_false_iff_eq.mpr c43
             clear c43
             by_cases c44 : (t423 != t425) = true
             ·rw [if_pos c44] at H
              exact absurd H (by simp)
             ·rw [if_neg c44] at H
              have c44b0 : (t423 != t425) = false := by simpa using c44
              (try (have c44b1 : decide (t423 = t425) = true := by simpa using c44))
              (try (have c44b2 : (t423 == t425) = true := by simpa using c44))
              clear c44
              by_cases c45 : t422 = t424
              ·rw [if_pos c45] at H
               have c45b0 : (t422 == t424) = true := beq_iff_eq.mpr c45
               have c45b1 : (t422 != t424) = false := bne_eq_false_iff_eq.mpr c45
               clear c45
               by_cases c46 : (t428 != t433) = true
               ·rw [if_pos c46] at H
                exact absurd H (by simp)
               ·rw [if_neg c46] at H
                have c46b0 : (t428 != t433) = false := by simpa using c46
                (try (have c46b1 : decide (t428 = t433) = true := by simpa using c46))
                (try (have c46b2 : (t428 == t433) = true := by simpa using c46))
                clear c46
                replace H := Option.bind_eq_some_iff.mp H
                obtain ⟨t437, A470, H⟩ := H
                (try dsimp only at H)
                have A47 := Aside0.mk A470
                clear A470
                by_cases c48 : t437 = true
                ·subst c48
                 rw [if_pos rfl] at H
                 by_cases c49 : t427 = t432
                 ·rw [if_pos c49] at H
                  have c49b0 : (t427 == t432) = true := beq_iff_eq.mpr c49
                  have c49b1 : (t427 != t432) = false := bne_eq_false_iff_eq.mpr c49
                  clear c49
                  by_cases c50 : t403 = true
                  ·subst c50
                   rw [if_pos rfl] at H
                   by_cases c51 : (t399 != t402) = true
                   ·rw [if_pos c51] at H
                    exact absurd H (by simp)
                   ·rw [if_neg c51] at H
                    have c51b0 : (t399 != t402) = false := by simpa using c51
                    (try (have c51b1 : decide (t399 = t402) = true := by simpa using c51))
                    (try (have c51b2 : (t399 == t402) = true := by simpa using c51))
                    clear c51
                    by_cases c52 : (t407 != t399) = true
                    ·rw [if_pos c52] at H
                     exact absurd H (by simp)
                    ·rw [if_neg c52] at H
                     have c52b0 : (t407 != t399) = false := by simpa using c52
                     (try (have c52b1 : decide (t407 = t399) = true := by simpa using c52))
                     (try (have c52b2 : (t407 == t399) = true := by simpa using c52))
                     clear c52
                     by_cases c53 : (t411 != true) = true
                     ·rw [if_pos c53] at H
                      exact absurd H (by simp)
                     ·rw [if_neg c53] at H
                      have c53b0 : (t411 != true) = false := by simpa using c53
                      (try (have c53b1 : decide (t411 = true) = true := by simpa using c53))
                      (try (have c53b2 : (t411 == true) = true := by simpa using c53))
                      clear c53
                      by_cases c54 : (t419 != true) = true
                      ·rw [if_pos c54] at H
                       exact absurd H (by simp)
                      ·rw [if_neg c54] at H
                       have c54b0 : (t419 != true) = false := by simpa using c54
                       (try (have c54b1 : decide (t419 = true) = true := by simpa using c54))
                       (try (have c54b2 : (t419 == true) = true := by simpa using c54))
                       clear c54
                       by_cases c55 : (t423 != true) = true
                       ·rw [if_pos c55] at H
                        exact absurd H (by simp)
                       ·as_aux_lemma =>
                        rw [if_neg c55] at H
                        have c55b0 : (t423 != true) = false := by simpa using c55
                        (try (have c55b1 : decide (t423 = true) = true := by simpa using c55))
                        (try (have c55b2 : (t423 == true) = true := by simpa using c55))
                        clear c55
                        have H' := Aside0.mk H
                        clear H
                        obtain ⟨Ao56, co56, eo56⟩ := Kd.R_slice HO413.out
                        subst eo56
                        obtain ⟨Ao57, co57, eo57⟩ := Kd.R_slice HO417.out
                        subst eo57
                        go_wp2_with (first | (go_at_call 20; (with_reducible refine (laws_gChords.calls k _ _ t410 _ _ t414 true _ ?side1 ?side2 ?side3 ?side4 A40.out).mono ?_); (case side1 => exact cu_ (Kd.R_reads' HO413.out).2.2); (case side2 => exact (Kd.R_reads' HO413.out).2.1); (case side3 => exact cu_ (Kd.R_reads' HO417.out).2.2); (case side4 => exact (Kd.R_reads' HO417.out).2.1); rintro e w' ⟨rfl, ⟨nd, rfl⟩⟩; (try first | exact ⟨rfl, _, dn_⟩ | exact ⟨rfl, _, dm_⟩); obtain ⟨Ao58, co58, eo58⟩ := Kd.R_slice HO430.out; subst eo58; obtain ⟨Ao59, co59, eo59⟩ := Kd.R_slice HO435.out; subst eo59) | (go_at_call 21; (with_reducible refine (laws_gSame.calls k _ _ t426 _ _ t431 true _ ?side1 ?side2 ?side3 ?side4 A47.out).mono ?_); (case side1 => exact cu_ (Kd.R_reads' HO430.out).2.2); (case side2 => exact (Kd.R_reads' HO430.out).2.1); (case side3 => exact cu_ (Kd.R_reads' HO435.out).2.2); (case side4 => exact (Kd.R_reads' HO435.out).2.1); rintro e w' ⟨rfl, ⟨nd, rfl⟩⟩; (try first | exact ⟨rfl, _, dn_⟩ | exact ⟨rfl, _, dm_⟩)))
                        go_meet
                        case rel => exact ⟨_, (!t428), (by first | rfl | (simp; done) | (simp [*]; done)), H', ⟨by first | omega | exact Nat.le_refl _⟩, ⟨by (with_reducible repeat (first | apply Kd.R_alloc | apply Kd.R_drewN | apply Kd.R_drew)); exact Kd.R_mono HO413.out (fun _ hk => trivial)⟩, ⟨by (with_reducible repeat (first | apply Kd.R_alloc | apply Kd.R_drewN | apply Kd.R_drew)); exact Kd.R_mono HO430.out (fun _ hk => trivial)⟩, ⟨bb_⟩⟩
                  ·replace c50 := Bool.eq_false_iff.mpr c50
                   subst c50
                   rw [if_neg (show ¬ (false = true) by decide)] at H
                   by_cases c60 : (t399 != false) = true
                   ·rw [if_pos c60] at H
                    exact absurd H (by simp)
                   ·rw [if_neg c60] at H
                    have c60b0 : (t399 != false) = false := by simpa using c60
                    (try (have c60b1 : decide (t399 = false) = true := by simpa using c60))
                    (try (have c60b2 : (t399 == false) = true := by simpa using c60))
                    clear c60
                    by_cases c61 : (t407 != t399) = true
                    ·rw [if_pos c61] at H
                     exact absurd H (by simp)
                    ·rw [if_neg c61] at H
                     have c61b0 : (t407 != t399) = false := by simpa using c61
                     (try (have c61b1 : decide (t407 = t399) = true := by simpa using c61))
                     (try (have c61b2 : (t407 == t399) = true := by simpa using c61))
                     clear c61
                     by_cases c62 : (t411 != false) = true
                     ·rw [if_pos c62] at H
                      exact absurd H (by simp)
                     ·rw [if_neg c62] at H
                      have c62b0 : (t411 != false) = false := by simpa using c62
                      (try (have c62b1 : decide (t411 = false) = true := by simpa using c62))
                      (try (have c62b2 : (t411 == false) = true := by simpa using c62))
                      clear c62
                      by_cases c63 : (t419 != false) = true
                      ·rw [if_pos c63] at H
                       exact absurd H (by simp)
                      ·rw [if_neg c63] at H
                       have c63b0 : (t419 != false) = false := by simpa using c63
                       (try (have c63b1 : decide (t419 = false) = true := by simpa using c63))
                       (try (have c63b2 : (t419 == false) = true := by simpa using c63))
                       clear c63
                       by_cases c64 : (t423 != false) = true
                       ·rw [if_pos c64] at H
                        exact absurd H (by simp)
                       ·as_aux_lemma =>
                        rw [if_neg c64] at H
                        have c64b0 : (t423 != false) = false := by simpa using c64
                        (try (have c64b1 : decide (t423 = false) = true := by simpa using c64))
                        (try (have c64b2 : (t423 == false) = true := by simpa using c64))
                        clear c64
                        have H' := Aside0.mk H
                        clear H
                        obtain ⟨Ao65, co65, eo65⟩ := Kd.R_slice HO413.out
                        subst eo65
                        obtain ⟨Ao66, co66, eo66⟩ := Kd.R_slice HO417.out
                        subst eo66
                        go_wp2_with (first | (go_at_call 20; (with_reducible refine (laws_gChords.calls k _ _ t410 _ _ t414 true _ ?side1 ?side2 ?side3 ?side4 A40.out).mono ?_); (case side1 => exact cu_ (Kd.R_reads' HO413.out).2.2); (case side2 => exact (Kd.R_reads' HO413.out).2.1); (case side3 => exact cu_ (Kd.R_reads' HO417.out).2.2); (case side4 => exact (Kd.R_reads' HO417.out).2.1); rintro e w' ⟨rfl, ⟨nd, rfl⟩⟩; (try first | exact ⟨rfl, _, dn_⟩ | exact ⟨rfl, _, dm_⟩); obtain ⟨Ao67, co67, eo67⟩ := Kd.R_slice HO430.out; subst eo67; obtain ⟨Ao68, co68, eo68⟩ := Kd.R_slice HO435.out; subst eo68) | (go_at_call 21; (with_reducible refine (laws_gSame.calls k _ _ t426 _ _ t431 true _ ?side1 ?side2 ?side3 ?side4 A47.out).mono ?_); (case side1 => exact cu_ (Kd.R_reads' HO430.out).2.2); (case side2 => exact (Kd.R_reads' HO430.out).2.1); (case side3 => exact cu_ (Kd.R_reads' HO435.out).2.2); (case side4 => exact (Kd.R_reads' HO435.out).2.1); rintro e w' ⟨rfl, ⟨nd, rfl⟩⟩; (try first | exact ⟨rfl, _, dn_⟩ | exact ⟨rfl, _, dm_⟩)))
                        go_meet
                        case rel => exact ⟨_, (false), (by first | rfl | (simp; done) | (simp [*]; done)), H', ⟨by first | omega | exact Nat.le_refl _⟩, ⟨by (with_reducible repeat (first | apply Kd.R_alloc | apply Kd.R_drewN | apply Kd.R_drew)); exact Kd.R_mono HO413.out (fun _ hk => trivial)⟩, ⟨by (with_reducible repeat (first | apply Kd.R_alloc | apply Kd.R_drewN | apply Kd.R_drew)); exact Kd.R_mono HO430.out (fun _ hk => trivial)⟩, ⟨bb_⟩⟩
                 ·rw [if_neg c49] at H
                  exact absurd H (by simp)
                ·replace c48 := Bool.eq_false_iff.mpr c48
                 subst c48
                 rw [if_neg (show ¬ (false = true) by decide)] at H
                 exact absurd H (by simp)
              ·rw [if_neg c45] at H
               exact absurd H (by simp)
            ·rw [if_neg c43] at H
             exact absurd H (by simp)
          ·replace c41 := Bool.eq_false_iff.mpr c41
           subst c41
           rw [if_neg (show ¬ (false = true) by decide)] at H
           exact absurd H (by simp)
        ·rw [if_neg c38] at H
         exact absurd H (by simp)
    ·rw [if_neg c34] at H
     exact absurd H (by simp)
  case rest =>
   as_aux_lemma =>
   clear HC20
   (try clear c1); (try clear p2); (try clear c3); (try clear c4); (try clear c5); (try clear c6); (try clear c33); (try clear c33b0); (try clear c33b1); (try clear c33b2); (try clear c34); (try clear c34b0); (try clear c34b1); (try clear c35); (try clear c35b0); (try clear c35b1); (try clear c35b2); (try clear c36); (try clear c36b0); (try clear c36b1); (try clear c36b2); (try clear c37); (try clear c37b0); (try clear c37b1); (try clear c37b2); (try clear c38); (try clear c38b0); (try clear c38b1); (try clear c39); (try clear c39b0); (try clear c39b1); (try clear c39b2); (try clear c41); (try clear c42); (try clear c42b0); (try clear c42b1); (try clear c42b2); (try clear c43); (try clear c43b0); (try clear c43b1); (try clear c44); (try clear c44b0); (try clear c44b1); (try clear c44b2); (try clear c45); (try clear c45b0); (try clear c45b1); (try clear c46); (try clear c46b0); (try clear c46b1); (try clear c46b2); (try clear c48); (try clear c49); (try clear c49b0); (try clear c49b1); (try clear c50); (try clear c51); (try clear c51b0); (try clear c51b1); (try clear c51b2); (try clear c52); (try clear c52b0); (try clear c52b1); (try clear c52b2); (try clear c53); (try clear c53b0); (try clear c53b1); (try clear c53b2); (try clear c54); (try clear c54b0); (try clear c54b1); (try clear c54b2); (try clear c55); (try clear c55b0); (try clear c55b1); (try clear c55b2); (try clear c60); (try clear c60b0); (try clear c60b1); (try clear c60b2); (try clear c61); (try clear c61b0); (try clear c61b1); (try clear c61b2); (try clear c62); (try clear c62b0); (try clear c62b1); (try clear c62b2); (try clear c63); (try clear c63b0); (try clear c63b1); (try clear c63b2); (try clear c64); (try clear c64b0); (try clear c64b1); (try clear c64b2)
   obtain ⟨kq, x267_19, rfl, HA, HJ19, HO_19, HO_31, HB⟩ := hcut
   cases kq with
   | zero => exact absurd HA.out (by simp [laws_FnTablesUndone.j0])
   | succ kj19 =>
    have H := HA.out
    clear HA
    simp only [laws_FnTablesUndone.j0] at H
    by_cases c69 : x267_19 = true
    ·subst c69
     rw [if_pos rfl] at H
     exact absurd H (by simp)
    as_aux_lemma =>
    replace c69 := Bool.eq_false_iff.mpr c69
    subst c69
    rw [if_neg (show ¬ (false = true) by decide)] at H
    have HC70 := Aside0.mk H
    clear H
    go_upto_if 268 with (fail)
    repeat (go_quiet (fail); go_upto_if 268 with (fail))
    go_cut [] from 100000 to 100000 (fun wc => ∃ (kq : Nat), Aside0 (laws_FnTablesUndone.j2 kq l1 t396 t397 t398 t399 t406 t426 t427 = some r) ∧ Aside0 (kq ≤ kj19) ∧ Aside0 (Kd.R (Kd.int .i64) 3 wc w.heap.size (fun _ => True) v429 t426) ∧ Aside0 (Below w.heap.size w wc))
    case first =>
     as_aux_lemma =>
     have H := HC70.out
     clear HC70
     by_cases c71 : t403 = true
     ·subst c71
      rw [if_pos rfl] at H
      replace H := Option.bind_eq_some_iff.mp H
      obtain ⟨⟨t438, t439⟩, A720, H⟩ := H
      (try dsimp only at H)
      have A72 := Aside0.mk A720
      clear A720
      replace H := Option.bind_eq_some_iff.mp H
      obtain ⟨⟨t442, t443⟩, A730, H⟩ := H
      (try dsimp only at H)
      have A73 := Aside0.mk A730
      clear A730
      by_cases c74 : t439 = true
      ·subst c74
       rw [if_pos rfl] at H
       by_cases c75 : (t410.length : Int) > t396
       ·rw [if_pos c75] at H
        exact absurd H (by simp)
       ·rw [if_neg c75] at H
        have c75b0 : decide (t396 < (t410.length : Int)) = false := decide_eq_false c75
        clear c75
        (first | rw [c75b0] | (simp only [i64_w, i32_w]; rw [c75b0]) | skip)
        by_cases c76 : t422 < 0
        ·rw [if_pos c76] at H
         exact absurd H (by simp)
        ·rw [if_neg c76] at H
         have c76b0 : decide (t422 < 0) = false := decide_eq_false c76
         clear c76
         by_cases c77 : t418 < 1
         ·rw [if_pos c77] at H
          exact absurd H (by simp)
         ·rw [if_neg c77] at H
          have c77b0 : decide (t418 < 1) = false := decide_eq_false c77
          clear c77
          by_cases c78 : t418 > t396
          ·rw [if_pos c78] at H
           exact absurd H (by simp)
          ·rw [if_neg c78] at H
           have c78b0 : decide (t396 < t418) = false := decide_eq_false c78
           clear c78
           by_cases c79 : t418 = 0
           ·rw [if_pos c79] at H
            exact absurd H (by simp)
           ·rw [if_neg c79] at H
            have c79b0 : (t418 == 0) = false := beq_eq_false_iff_ne.mpr c79
            have c79b1 : (t418 != 0) = true := bne_iff_ne.mpr c79
            by_cases c80 : (Int.tmod t396 t418) = 0
            ·rw [if_pos c80] at H
             have c80b0 : ((Int.tmod t396 t418) == 0) = true := beq_iff_eq.mpr c80
             have c80b1 : ((Int.tmod t396 t418) != 0) = false := bne_eq_false_iff_eq.mpr c80
             clear c80
             by_cases c81 : t443 = true
             ·subst c81
              rw [if_pos rfl] at H
              by_cases c82 : (t402 != (t442 == 0)) = true
              ·rw [if_pos c82] at H
               exact absurd H (by simp)
              ·as_aux_lemma =>
               rw [if_neg c82] at H
               have c82b0 : (t402 != (t442 == 0)) = false := by simpa using c82
               (try (have c82b1 : decide (t402 = (t442 == 0)) = true := by simpa using c82))
               (try (have c82b2 : (t402 == (t442 == 0)) = true := by simpa using c82))
               clear c82
               have H' := Aside0.mk H
               clear H
               go_wp2_with (first | (go_at_call 22; (with_reducible refine (impl_TimesRow.calls kj19 t396 t397 t438 true _ A72.out).mono ?_); rintro e w83 ⟨v440, rfl, ho0, hb⟩; have n0_ := Aside0.mk (Kd.R_below (ru_ HO_19.out) hb); have n1_ := Aside0.mk (Kd.R_elder' (ru_ HO_31.out) (Kd.R_base ho0) hb); have n2_ := Aside0.mk (Kd.R_lower (Kd.R_new' ho0 (Kd.R_lt (ru_ HO_31.out))) bz_); have n3_ := Aside0.mk (bs_ hb); clear HO_19; clear HO_31; clear HB; have HO_19 := n0_; have HO_31 := n1_; have HO441 := n2_; have HB := n3_; clear n0_ n1_ n2_ n3_; (try clear hb); (try clear ho0)) | (go_at_call 23; (with_reducible refine (impl_DepthOfTable.calls kj19 t396 t397 t442 true _ A73.out).mono ?_); rintro e w84 ⟨rfl, hb⟩; have n0_ := Aside0.mk (Kd.R_below (ru_ HO_19.out) hb); have n1_ := Aside0.mk (Kd.R_below (ru_ HO_31.out) hb); have n2_ := Aside0.mk (Kd.R_below (ru_ HO441.out) hb); have n3_ := Aside0.mk (bs_ hb); clear HO_19; clear HO_31; clear HO441; clear HB; have HO_19 := n0_; have HO_31 := n1_; have HO441 := n2_; have HB := n3_; clear n0_ n1_ n2_ n3_; (try clear hb); obtain ⟨Ao85, co85, eo85⟩ := Kd.R_slice HO_19.out; subst eo85))
               go_loopg [320] kj19 (fun kq v320 w' => ∃ (x320_2 : Int), v320 = .int .i64 x320_2 ∧ Aside0 (laws_FnTablesUndone.l0 kq l1 t396 t397 t398 t399 t406 t410 t418 t422 t426 t427 t438 t410 (t410.length : Int) x320_2 = some r) ∧ Aside0 (kq ≤ kj19) ∧ Aside0 (Kd.R k41 41 w' w.heap.size (fun _ => True) (.slice Ao85 t410.length co85) t410) ∧ Aside0 (Kd.R (Kd.int .i64) 3 w' w.heap.size (fun k_ => some k_ ≠ (v440 : Value).ownBlock) v429 t426) ∧ Aside0 (Kd.R (Kd.int .i64) 3 w' w.heap.size (fun k_ => some k_ ≠ (v429 : Value).ownBlock) v440 t438) ∧ Aside0 (Kd.R k41 41 w' w.heap.size (fun _ => True) (.slice Ao85 t410.length co85) t410) ∧ Aside0 (Below w.heap.size w w'))
               case atStart => exact ⟨(0), (by first | rfl | (simp; done) | (simp [*]; done)), H', ⟨Nat.le_refl _⟩, ⟨by (with_reducible repeat (first | apply Kd.R_alloc | apply Kd.R_drewN | apply Kd.R_drew)); exact HO_19.out⟩, ⟨by (with_reducible repeat (first | apply Kd.R_alloc | apply Kd.R_drewN | apply Kd.R_drew)); exact Kd.R_mono HO_31.out (fun _ hk => hk.2)⟩, ⟨by (with_reducible repeat (first | apply Kd.R_alloc | apply Kd.R_drewN | apply Kd.R_drew)); exact Kd.R_mono HO441.out (fun _ hk => hk.2)⟩, ⟨by (with_reducible repeat (first | apply Kd.R_alloc | apply Kd.R_drewN | apply Kd.R_drew)); exact HO_19.out⟩, ⟨bb_⟩⟩
               case round =>
                as_aux_lemma =>
                clear H'
                (try clear c1); (try clear p2); (try clear c3); (try clear c4); (try clear c5); (try clear c6); (try clear c7); (try clear c8); (try clear c33); (try clear c33b0); (try clear c33b1); (try clear c33b2); (try clear c34); (try clear c34b0); (try clear c34b1); (try clear c35); (try clear c35b0); (try clear c35b1); (try clear c35b2); (try clear c36); (try clear c36b0); (try clear c36b1); (try clear c36b2); (try clear c37); (try clear c37b0); (try clear c37b1); (try clear c37b2); (try clear c38); (try clear c38b0); (try clear c38b1); (try clear c39); (try clear c39b0); (try clear c39b1); (try clear c39b2); (try clear c41); (try clear c42); (try clear c42b0); (try clear c42b1); (try clear c42b2); (try clear c43); (try clear c43b0); (try clear c43b1); (try clear c44); (try clear c44b0); (try clear c44b1); (try clear c44b2); (try clear c45); (try clear c45b0); (try clear c45b1); (try clear c46); (try clear c46b0); (try clear c46b1); (try clear c46b2); (try clear c48); (try clear c49); (try clear c49b0); (try clear c49b1); (try clear c50); (try clear c51); (try clear c51b0); (try clear c51b1); (try clear c51b2); (try clear c52); (try clear c52b0); (try clear c52b1); (try clear c52b2); (try clear c53); (try clear c53b0); (try clear c53b1); (try clear c53b2); (try clear c54); (try clear c54b0); (try clear c54b1); (try clear c54b2); (try clear c55); (try clear c55b0); (try clear c55b1); (try clear c55b2); (try clear c60); (try clear c60b0); (try clear c60b1); (try clear c60b2); (try clear c61); (try clear c61b0); (try clear c61b1); (try clear c61b2); (try clear c62); (try clear c62b0); (try clear c62b1); (try clear c62b2); (try clear c63); (try clear c63b0); (try clear c63b1); (try clear c63b2); (try clear c64); (try clear c64b0); (try clear c64b1); (try clear c64b2); (try clear c69); (try clear c71); (try clear c74); (try clear c75); (try clear c75b0); (try clear c76); (try clear c76b0); (try clear c77); (try clear c77b0); (try clear c78); (try clear c78b0); (try clear c79); (try clear c79b0); (try clear c79b1); (try clear c80); (try clear c80b0); (try clear c80b1); (try clear c81); (try clear c82); (try clear c82b0); (try clear c82b1); (try clear c82b2); (try clear p2)
                obtain ⟨x320_2, rfl, HA, HK2, HO_19, HO_31, HO_37, HO_318, HB⟩ := hrel
                cases gk with
                | zero => exact absurd HA.out (by simp [laws_FnTablesUndone.l0])
                | succ k2 =>
                 have H := HA.out
                 clear HA
                 simp only [laws_FnTablesUndone.l0] at H
                 by_cases c86 : x320_2 < (t410.length : Int)
                 ·rw [if_pos c86] at H
                  have c86b0 : decide (x320_2 < (t410.length : Int)) = true := decide_eq_true c86
                  clear c86
                  by_cases c87 : 0 ≤ x320_2
                  ·rw [if_pos c87] at H
                   have c87b0 : decide (0 ≤ x320_2) = true := decide_eq_true c87
                   clear c87
                   by_cases c88 : x320_2 < (t410.length : Int)
                   ·rw [if_pos c88] at H
                    have c88b0 : decide (x320_2 < (t410.length : Int)) = true := decide_eq_true c88
                    clear c88
                    by_cases c89 : ((rd_T41 t410 x320_2).f0) ≥ ((rd_T41 t410 x320_2).f1)
                    ·rw [if_pos c89] at H
                     exact absurd H (by simp)
                    ·rw [if_neg c89] at H
                     have c89b0 : decide (((rd_T41 t410 x320_2).f1) ≤ ((rd_T41 t410 x320_2).f0)) = false := decide_eq_false c89
                     clear c89
                     by_cases c90 : 0 ≤ ((rd_T41 t410 x320_2).f0)
                     ·rw [if_pos c90] at H
                      have c90b0 : decide (0 ≤ ((rd_T41 t410 x320_2).f0)) = true := decide_eq_true c90
                      clear c90
                      by_cases c91 : ((rd_T41 t410 x320_2).f0) < (t438.length : Int)
                      ·rw [if_pos c91] at H
                       have c91b0 : decide (((rd_T41 t410 x320_2).f0) < (t438.length : Int)) = true := decide_eq_true c91
                       clear c91
                       by_cases c92 : (rd t438 ((rd_T41 t410 x320_2).f0)) = ((rd_T41 t410 x320_2).f1)
                       ·as_aux_lemma =>
                        rw [if_pos c92] at H
                        have c92b0 : ((rd t438 ((rd_T41 t410 x320_2).f0)) == ((rd_T41 t410 x320_2).f1)) = true := beq_iff_eq.mpr c92
                        have c92b1 : ((rd t438 ((rd_T41 t410 x320_2).f0)) != ((rd_T41 t410 x320_2).f1)) = false := bne_eq_false_iff_eq.mpr c92
                        clear c92
                        have H' := Aside0.mk H
                        clear H
                        have p444 : 0 ≤ (x320_2 : Int) := of_decide_eq_true (by assumption)
                        have q444 : x320_2 < (t410.length : Int) := of_decide_eq_true (by assumption)
                        obtain ⟨ad444, e444, hx444_0, hx444_1⟩ := at_T41 (Kd.R_reads' HO_318.out).2.2 x320_2 p444 q444
                        cases e444
                        replace p444 := eq_true p444
                        replace q444 := eq_true q444
                        go_wp2_with (first | ((with_reducible refine gate_dst (N := 42) rfl ?_); (try (refine gate_guard (by rfl) ?_; dsimp only)); refine box_event ?hg (N := 42) ?hd (cs := #[.int .i64 0, .int .i64 0]) (t := 41) ?hr ?_; (case hd => rfl); (case hg => rfl); (case hr => first | (go_simp; done) | (go_simp; rfl)); intro gb445 hg w93 hbox hb; have n0_ := Aside0.mk (Kd.R_below (Kd.R_elderB (ru_ HO_19.out) gb445 (Nat.le_of_eq hg.symm)) hb); have n1_ := Aside0.mk (Kd.R_below (ru_ HO_31.out) hb); have n2_ := Aside0.mk (Kd.R_below (ru_ HO_37.out) hb); have n3_ := Aside0.mk (Kd.R_below (Kd.R_elderB (ru_ HO_318.out) gb445 (Nat.le_of_eq hg.symm)) hb); have n4_ := Aside0.mk (bs_ hb); have n5_ := Aside0.mk (hbox); have n6_ := Aside0.mk ((by rw [hg]; exact bz_ : w.heap.size ≤ gb445)); have n7_ := Aside0.mk ((by rw [hg]; exact bz_ : w.heap.size ≤ gb445)); clear HO_19; clear HO_31; clear HO_37; clear HO_318; clear HB; have HO_19 := n0_; have HO_31 := n1_; have HO_37 := n2_; have HO_318 := n3_; have HB := n4_; have BK445 := n5_; have GW445 := n6_; have GE445 := n7_; clear n0_ n1_ n2_ n3_ n4_ n5_ n6_ n7_; clear hb hbox hg; have hcz94_0 : w93.cell? ⟨gb445, 0, none⟩ = some (.int .i64 0) := (blk_cell BK445.out 0).trans rfl; have hcz94_1 : w93.cell? ⟨gb445, 1, none⟩ = some (.int .i64 0) := (blk_cell BK445.out 1).trans rfl; have hfz94_0 := blk_frozen BK445.out 0; have hfz94_1 := blk_frozen BK445.out 1; obtain ⟨Ao95, co95, eo95⟩ := Kd.R_slice HO_37.out; subst eo95; have p446 : 0 ≤ (((rd_T41 t410 x320_2).f0) : Int) := of_decide_eq_true (by assumption); have q446 : ((rd_T41 t410 x320_2).f0) < (t438.length : Int) := of_decide_eq_true (by assumption); obtain ⟨ad446, e446, hx446_0⟩ := Kd.at_int (Kd.R_reads' HO_37.out).2.2 ((rd_T41 t410 x320_2).f0) p446 q446; cases e446; have hn446_0 : ad446.block ≠ gb445 := Kd.own_blk (Kd.R_ne HO_37.out BK445.out (by decide)); have hn446_1 : ad446.block ≠ gb445 := Kd.own_blk (Kd.R_ne HO_37.out BK445.out (by decide)); replace hx446_0 := (cell_far (p := ⟨gb445, 0, none⟩) (by first | (rw [add_block]; exact hn446_0) | (show (Addr.add _ _).block ≠ _; rw [add_block]; exact hn446_0) | exact hn446_0) (.int .i64 ((rd_T41 t410 x320_2).f0))).trans hx446_0; replace hx446_0 := (cell_far (p := ⟨gb445, 1, none⟩) (by first | (rw [add_block]; exact hn446_1) | (show (Addr.add _ _).block ≠ _; rw [add_block]; exact hn446_1) | exact hn446_1) (.int .i64 ((rd_T41 t410 x320_2).f1))).trans hx446_0; (try have hy446_0 := fun (n_ : Nat) => (show ((((w93.drewN n_).setCell ⟨gb445, 0, none⟩ (.int .i64 ((rd_T41 t410 x320_2).f0))).setCell ⟨gb445, 1, none⟩ (.int .i64 ((rd_T41 t410 x320_2).f1)))).cell? _ = some _ from hx446_0)); clear hn446_0; clear hn446_1; replace p446 := eq_true p446; replace q446 := eq_true q446))
                        repeat (go_quiet (first | ((with_reducible refine gate_dst (N := 42) rfl ?_); (try (refine gate_guard (by rfl) ?_; dsimp only)); refine box_event ?hg (N := 42) ?hd (cs := #[.int .i64 0, .int .i64 0]) (t := 41) ?hr ?_; (case hd => rfl); (case hg => rfl); (case hr => first | (go_simp; done) | (go_simp; rfl)); intro gb445 hg w93 hbox hb; have n0_ := Aside0.mk (Kd.R_below (Kd.R_elderB (ru_ HO_19.out) gb445 (Nat.le_of_eq hg.symm)) hb); have n1_ := Aside0.mk (Kd.R_below (ru_ HO_31.out) hb); have n2_ := Aside0.mk (Kd.R_below (ru_ HO_37.out) hb); have n3_ := Aside0.mk (Kd.R_below (Kd.R_elderB (ru_ HO_318.out) gb445 (Nat.le_of_eq hg.symm)) hb); have n4_ := Aside0.mk (bs_ hb); have n5_ := Aside0.mk (hbox); have n6_ := Aside0.mk ((by rw [hg]; exact bz_ : w.heap.size ≤ gb445)); have n7_ := Aside0.mk ((by rw [hg]; exact bz_ : w.heap.size ≤ gb445)); clear HO_19; clear HO_31; clear HO_37; clear HO_318; clear HB; have HO_19 := n0_; have HO_31 := n1_; have HO_37 := n2_; have HO_318 := n3_; have HB := n4_; have BK445 := n5_; have GW445 := n6_; have GE445 := n7_; clear n0_ n1_ n2_ n3_ n4_ n5_ n6_ n7_; clear hb hbox hg; have hcz94_0 : w93.cell? ⟨gb445, 0, none⟩ = some (.int .i64 0) := (blk_cell BK445.out 0).trans rfl; have hcz94_1 : w93.cell? ⟨gb445, 1, none⟩ = some (.int .i64 0) := (blk_cell BK445.out 1).trans rfl; have hfz94_0 := blk_frozen BK445.out 0; have hfz94_1 := blk_frozen BK445.out 1; obtain ⟨Ao95, co95, eo95⟩ := Kd.R_slice HO_37.out; subst eo95; have p446 : 0 ≤ (((rd_T41 t410 x320_2).f0) : Int) := of_decide_eq_true (by assumption); have q446 : ((rd_T41 t410 x320_2).f0) < (t438.length : Int) := of_decide_eq_true (by assumption); obtain ⟨ad446, e446, hx446_0⟩ := Kd.at_int (Kd.R_reads' HO_37.out).2.2 ((rd_T41 t410 x320_2).f0) p446 q446; cases e446; have hn446_0 : ad446.block ≠ gb445 := Kd.own_blk (Kd.R_ne HO_37.out BK445.out (by decide)); have hn446_1 : ad446.block ≠ gb445 := Kd.own_blk (Kd.R_ne HO_37.out BK445.out (by decide)); replace hx446_0 := (cell_far (p := ⟨gb445, 0, none⟩) (by first | (rw [add_block]; exact hn446_0) | (show (Addr.add _ _).block ≠ _; rw [add_block]; exact hn446_0) | exact hn446_0) (.int .i64 ((rd_T41 t410 x320_2).f0))).trans hx446_0; replace hx446_0 := (cell_far (p := ⟨gb445, 1, none⟩) (by first | (rw [add_block]; exact hn446_1) | (show (Addr.add _ _).block ≠ _; rw [add_block]; exact hn446_1) | exact hn446_1) (.int .i64 ((rd_T41 t410 x320_2).f1))).trans hx446_0; (try have hy446_0 := fun (n_ : Nat) => (show ((((w93.drewN n_).setCell ⟨gb445, 0, none⟩ (.int .i64 ((rd_T41 t410 x320_2).f0))).setCell ⟨gb445, 1, none⟩ (.int .i64 ((rd_T41 t410 x320_2).f1)))).cell? _ = some _ from hx446_0)); clear hn446_0; clear hn446_1; replace p446 := eq_true p446; replace q446 := eq_true q446)); try go_wp2_with (first | ((with_reducible refine gate_dst (N := 42) rfl ?_); (try (refine gate_guard (by rfl) ?_; dsimp only)); refine box_event ?hg (N := 42) ?hd (cs := #[.int .i64 0, .int .i64 0]) (t := 41) ?hr ?_; (case hd => rfl); (case hg => rfl); (case hr => first | (go_simp; done) | (go_simp; rfl)); intro gb445 hg w93 hbox hb; have n0_ := Aside0.mk (Kd.R_below (Kd.R_elderB (ru_ HO_19.out) gb445 (Nat.le_of_eq hg.symm)) hb); have n1_ := Aside0.mk (Kd.R_below (ru_ HO_31.out) hb); have n2_ := Aside0.mk (Kd.R_below (ru_ HO_37.out) hb); have n3_ := Aside0.mk (Kd.R_below (Kd.R_elderB (ru_ HO_318.out) gb445 (Nat.le_of_eq hg.symm)) hb); have n4_ := Aside0.mk (bs_ hb); have n5_ := Aside0.mk (hbox); have n6_ := Aside0.mk ((by rw [hg]; exact bz_ : w.heap.size ≤ gb445)); have n7_ := Aside0.mk ((by rw [hg]; exact bz_ : w.heap.size ≤ gb445)); clear HO_19; clear HO_31; clear HO_37; clear HO_318; clear HB; have HO_19 := n0_; have HO_31 := n1_; have HO_37 := n2_; have HO_318 := n3_; have HB := n4_; have BK445 := n5_; have GW445 := n6_; have GE445 := n7_; clear n0_ n1_ n2_ n3_ n4_ n5_ n6_ n7_; clear hb hbox hg; have hcz94_0 : w93.cell? ⟨gb445, 0, none⟩ = some (.int .i64 0) := (blk_cell BK445.out 0).trans rfl; have hcz94_1 : w93.cell? ⟨gb445, 1, none⟩ = some (.int .i64 0) := (blk_cell BK445.out 1).trans rfl; have hfz94_0 := blk_frozen BK445.out 0; have hfz94_1 := blk_frozen BK445.out 1; obtain ⟨Ao95, co95, eo95⟩ := Kd.R_slice HO_37.out; subst eo95; have p446 : 0 ≤ (((rd_T41 t410 x320_2).f0) : Int) := of_decide_eq_true (by assumption); have q446 : ((rd_T41 t410 x320_2).f0) < (t438.length : Int) := of_decide_eq_true (by assumption); obtain ⟨ad446, e446, hx446_0⟩ := Kd.at_int (Kd.R_reads' HO_37.out).2.2 ((rd_T41 t410 x320_2).f0) p446 q446; cases e446; have hn446_0 : ad446.block ≠ gb445 := Kd.own_blk (Kd.R_ne HO_37.out BK445.out (by decide)); have hn446_1 : ad446.block ≠ gb445 := Kd.own_blk (Kd.R_ne HO_37.out BK445.out (by decide)); replace hx446_0 := (cell_far (p := ⟨gb445, 0, none⟩) (by first | (rw [add_block]; exact hn446_0) | (show (Addr.add _ _).block ≠ _; rw [add_block]; exact hn446_0) | exact hn446_0) (.int .i64 ((rd_T41 t410 x320_2).f0))).trans hx446_0; replace hx446_0 := (cell_far (p := ⟨gb445, 1, none⟩) (by first | (rw [add_block]; exact hn446_1) | (show (Addr.add _ _).block ≠ _; rw [add_block]; exact hn446_1) | exact hn446_1) (.int .i64 ((rd_T41 t410 x320_2).f1))).trans hx446_0; (try have hy446_0 := fun (n_ : Nat) => (show ((((w93.drewN n_).setCell ⟨gb445, 0, none⟩ (.int .i64 ((rd_T41 t410 x320_2).f0))).setCell ⟨gb445, 1, none⟩ (.int .i64 ((rd_T41 t410 x320_2).f1)))).cell? _ = some _ from hx446_0)); clear hn446_0; clear hn446_1; replace p446 := eq_true p446; replace q446 := eq_true q446)))
                        go_roundg k2
                        case measure => have := HJ19.out; have := HK2.out; omega
                        case rel => exact ⟨(wrap64 (x320_2 + 1)), (by first | rfl | (simp; done) | (simp [*]; done)), H', ⟨by have := HJ19.out; have := HK2.out; omega⟩, ⟨by (with_reducible repeat (first | apply Kd.R_alloc | apply Kd.R_drewN | apply Kd.R_drew)); exact Kd.R_mono (Kd.R_far (p := ⟨gb445, 1, none⟩) (Kd.R_far (p := ⟨gb445, 0, none⟩) (Kd.R_mono HO_19.out (fun k_ hk => (⟨hk, hk.2⟩ : _ ∧ k_ ≠ gb445))) (fun _ hk => hk.2) (.int .i64 ((rd_T41 t410 x320_2).f0))) (fun _ hk => hk.2) (.int .i64 ((rd_T41 t410 x320_2).f1))) (fun _ hk => trivial)⟩, ⟨by (with_reducible repeat (first | apply Kd.R_alloc | apply Kd.R_drewN | apply Kd.R_drew)); exact Kd.R_mono (Kd.R_far (p := ⟨gb445, 1, none⟩) (Kd.R_far (p := ⟨gb445, 0, none⟩) (Kd.R_types HO_31.out BK445.out (by decide)) (fun _ hk => hk.2) (.int .i64 ((rd_T41 t410 x320_2).f0))) (fun _ hk => hk.2) (.int .i64 ((rd_T41 t410 x320_2).f1))) (fun _ hk => hk.1)⟩, ⟨by (with_reducible repeat (first | apply Kd.R_alloc | apply Kd.R_drewN | apply Kd.R_drew)); exact Kd.R_mono (Kd.R_far (p := ⟨gb445, 1, none⟩) (Kd.R_far (p := ⟨gb445, 0, none⟩) (Kd.R_types HO_37.out BK445.out (by decide)) (fun _ hk => hk.2) (.int .i64 ((rd_T41 t410 x320_2).f0))) (fun _ hk => hk.2) (.int .i64 ((rd_T41 t410 x320_2).f1))) (fun _ hk => hk.1)⟩, ⟨by (with_reducible repeat (first | apply Kd.R_alloc | apply Kd.R_drewN | apply Kd.R_drew)); exact Kd.R_mono (Kd.R_far (p := ⟨gb445, 1, none⟩) (Kd.R_far (p := ⟨gb445, 0, none⟩) (Kd.R_mono HO_318.out (fun k_ hk => (⟨hk, hk.2⟩ : _ ∧ k_ ≠ gb445))) (fun _ hk => hk.2) (.int .i64 ((rd_T41 t410 x320_2).f0))) (fun _ hk => hk.2) (.int .i64 ((rd_T41 t410 x320_2).f1))) (fun _ hk => trivial)⟩, ⟨by repeat (first | (with_reducible first | apply below_alloc | apply pw_below_drewN | apply below_drew1 | refine below_set ?_ GE445.out) | exact HB.out)⟩⟩
                       ·rw [if_neg c92] at H
                        have c92b0 : ((rd t438 ((rd_T41 t410 x320_2).f0)) == ((rd_T41 t410 x320_2).f1)) = false := beq_eq_false_iff_ne.mpr c92
                        have c92b1 : ((rd t438 ((rd_T41 t410 x320_2).f0)) != ((rd_T41 t410 x320_2).f1)) = true := bne_iff_ne.mpr c92
                        by_cases c96 : 0 ≤ ((rd_T41 t410 x320_2).f1)
                        ·rw [if_pos c96] at H
                         have c96b0 : decide (0 ≤ ((rd_T41 t410 x320_2).f1)) = true := decide_eq_true c96
                         clear c96
                         by_cases c97 : ((rd_T41 t410 x320_2).f1) < (t438.length : Int)
                         ·rw [if_pos c97] at H
                          have c97b0 : decide (((rd_T41 t410 x320_2).f1) < (t438.length : Int)) = true := decide_eq_true c97
                          clear c97
                          by_cases c98 : (rd t438 ((rd_T41 t410 x320_2).f1)) = ((rd_T41 t410 x320_2).f0)
                          ·as_aux_lemma =>
                           rw [if_pos c98] at H
                           have c98b0 : ((rd t438 ((rd_T41 t410 x320_2).f1)) == ((rd_T41 t410 x320_2).f0)) = true := beq_iff_eq.mpr c98
                           have c98b1 : ((rd t438 ((rd_T41 t410 x320_2).f1)) != ((rd_T41 t410 x320_2).f0)) = false := bne_eq_false_iff_eq.mpr c98
                           clear c98
                           have H' := Aside0.mk H
                           clear H
                           have p444 : 0 ≤ (x320_2 : Int) := of_decide_eq_true (by assumption)
                           have q444 : x320_2 < (t410.length : Int) := of_decide_eq_true (by assumption)
                           obtain ⟨ad444, e444, hx444_0, hx444_1⟩ := at_T41 (Kd.R_reads' HO_318.out).2.2 x320_2 p444 q444
                           cases e444
                           replace p444 := eq_true p444
                           replace q444 := eq_true q444
                           go_wp2_with (first | ((with_reducible refine gate_dst (N := 42) rfl ?_); (try (refine gate_guard (by rfl) ?_; dsimp only)); refine box_event ?hg (N := 42) ?hd (cs := #[.int .i64 0, .int .i64 0]) (t := 41) ?hr ?_; (case hd => rfl); (case hg => rfl); (case hr => first | (go_simp; done) | (go_simp; rfl)); intro gb445 hg w99 hbox hb; have n0_ := Aside0.mk (Kd.R_below (Kd.R_elderB (ru_ HO_19.out) gb445 (Nat.le_of_eq hg.symm)) hb); have n1_ := Aside0.mk (Kd.R_below (ru_ HO_31.out) hb); have n2_ := Aside0.mk (Kd.R_below (ru_ HO_37.out) hb); have n3_ := Aside0.mk (Kd.R_below (Kd.R_elderB (ru_ HO_318.out) gb445 (Nat.le_of_eq hg.symm)) hb); have n4_ := Aside0.mk (bs_ hb); have n5_ := Aside0.mk (hbox); have n6_ := Aside0.mk ((by rw [hg]; exact bz_ : w.heap.size ≤ gb445)); have n7_ := Aside0.mk ((by rw [hg]; exact bz_ : w.heap.size ≤ gb445)); clear HO_19; clear HO_31; clear HO_37; clear HO_318; clear HB; have HO_19 := n0_; have HO_31 := n1_; have HO_37 := n2_; have HO_318 := n3_; have HB := n4_; have BK445 := n5_; have GW445 := n6_; have GE445 := n7_; clear n0_ n1_ n2_ n3_ n4_ n5_ n6_ n7_; clear hb hbox hg; have hcz100_0 : w99.cell? ⟨gb445, 0, none⟩ = some (.int .i64 0) := (blk_cell BK445.out 0).trans rfl; have hcz100_1 : w99.cell? ⟨gb445, 1, none⟩ = some (.int .i64 0) := (blk_cell BK445.out 1).trans rfl; have hfz100_0 := blk_frozen BK445.out 0; have hfz100_1 := blk_frozen BK445.out 1; obtain ⟨Ao101, co101, eo101⟩ := Kd.R_slice HO_37.out; subst eo101; have p446 : 0 ≤ (((rd_T41 t410 x320_2).f0) : Int) := of_decide_eq_true (by assumption); have q446 : ((rd_T41 t410 x320_2).f0) < (t438.length : Int) := of_decide_eq_true (by assumption); obtain ⟨ad446, e446, hx446_0⟩ := Kd.at_int (Kd.R_reads' HO_37.out).2.2 ((rd_T41 t410 x320_2).f0) p446 q446; cases e446; have hn446_0 : ad446.block ≠ gb445 := Kd.own_blk (Kd.R_ne HO_37.out BK445.out (by decide)); have hn446_1 : ad446.block ≠ gb445 := Kd.own_blk (Kd.R_ne HO_37.out BK445.out (by decide)); replace hx446_0 := (cell_far (p := ⟨gb445, 0, none⟩) (by first | (rw [add_block]; exact hn446_0) | (show (Addr.add _ _).block ≠ _; rw [add_block]; exact hn446_0) | exact hn446_0) (.int .i64 ((rd_T41 t410 x320_2).f0))).trans hx446_0; replace hx446_0 := (cell_far (p := ⟨gb445, 1, none⟩) (by first | (rw [add_block]; exact hn446_1) | (show (Addr.add _ _).block ≠ _; rw [add_block]; exact hn446_1) | exact hn446_1) (.int .i64 ((rd_T41 t410 x320_2).f1))).trans hx446_0; (try have hy446_0 := fun (n_ : Nat) => (show ((((w99.drewN n_).setCell ⟨gb445, 0, none⟩ (.int .i64 ((rd_T41 t410 x320_2).f0))).setCell ⟨gb445, 1, none⟩ (.int .i64 ((rd_T41 t410 x320_2).f1)))).cell? _ = some _ from hx446_0)); clear hn446_0; clear hn446_1; replace p446 := eq_true p446; replace q446 := eq_true q446; have p447 : 0 ≤ (((rd_T41 t410 x320_2).f1) : Int) := of_decide_eq_true (by assumption); have q447 : ((rd_T41 t410 x320_2).f1) < (t438.length : Int) := of_decide_eq_true (by assumption); obtain ⟨ad447, e447, hx447_0⟩ := Kd.at_int (Kd.R_reads' HO_37.out).2.2 ((rd_T41 t410 x320_2).f1) p447 q447; obtain rfl : ad446 = ad447 := (by injection e447); have hn447_0 : ad446.block ≠ gb445 := Kd.own_blk (Kd.R_ne HO_37.out BK445.out (by decide)); have hn447_1 : ad446.block ≠ gb445 := Kd.own_blk (Kd.R_ne HO_37.out BK445.out (by decide)); replace hx447_0 := (cell_far (p := ⟨gb445, 0, none⟩) (by first | (rw [add_block]; exact hn447_0) | (show (Addr.add _ _).block ≠ _; rw [add_block]; exact hn447_0) | exact hn447_0) (.int .i64 ((rd_T41 t410 x320_2).f0))).trans hx447_0; replace hx447_0 := (cell_far (p := ⟨gb445, 1, none⟩) (by first | (rw [add_block]; exact hn447_1) | (show (Addr.add _ _).block ≠ _; rw [add_block]; exact hn447_1) | exact hn447_1) (.int .i64 ((rd_T41 t410 x320_2).f1))).trans hx447_0; (try have hy447_0 := fun (n_ : Nat) => (show ((((w99.drewN n_).setCell ⟨gb445, 0, none⟩ (.int .i64 ((rd_T41 t410 x320_2).f0))).setCell ⟨gb445, 1, none⟩ (.int .i64 ((rd_T41 t410 x320_2).f1)))).cell? _ = some _ from hx447_0)); clear hn447_0; clear hn447_1; replace p447 := eq_true p447; replace q447 := eq_true q447))
                           repeat (go_quiet (first | ((with_reducible refine gate_dst (N := 42) rfl ?_); (try (refine gate_guard (by rfl) ?_; dsimp only)); refine box_event ?hg (N := 42) ?hd (cs := #[.int .i64 0, .int .i64 0]) (t := 41) ?hr ?_; (case hd => rfl); (case hg => rfl); (case hr => first | (go_simp; done) | (go_simp; rfl)); intro gb445 hg w99 hbox hb; have n0_ := Aside0.mk (Kd.R_below (Kd.R_elderB (ru_ HO_19.out) gb445 (Nat.le_of_eq hg.symm)) hb); have n1_ := Aside0.mk (Kd.R_below (ru_ HO_31.out) hb); have n2_ := Aside0.mk (Kd.R_below (ru_ HO_37.out) hb); have n3_ := Aside0.mk (Kd.R_below (Kd.R_elderB (ru_ HO_318.out) gb445 (Nat.le_of_eq hg.symm)) hb); have n4_ := Aside0.mk (bs_ hb); have n5_ := Aside0.mk (hbox); have n6_ := Aside0.mk ((by rw [hg]; exact bz_ : w.heap.size ≤ gb445)); have n7_ := Aside0.mk ((by rw [hg]; exact bz_ : w.heap.size ≤ gb445)); clear HO_19; clear HO_31; clear HO_37; clear HO_318; clear HB; have HO_19 := n0_; have HO_31 := n1_; have HO_37 := n2_; have HO_318 := n3_; have HB := n4_; have BK445 := n5_; have GW445 := n6_; have GE445 := n7_; clear n0_ n1_ n2_ n3_ n4_ n5_ n6_ n7_; clear hb hbox hg; have hcz100_0 : w99.cell? ⟨gb445, 0, none⟩ = some (.int .i64 0) := (blk_cell BK445.out 0).trans rfl; have hcz100_1 : w99.cell? ⟨gb445, 1, none⟩ = some (.int .i64 0) := (blk_cell BK445.out 1).trans rfl; have hfz100_0 := blk_frozen BK445.out 0; have hfz100_1 := blk_frozen BK445.out 1; obtain ⟨Ao101, co101, eo101⟩ := Kd.R_slice HO_37.out; subst eo101; have p446 : 0 ≤ (((rd_T41 t410 x320_2).f0) : Int) := of_decide_eq_true (by assumption); have q446 : ((rd_T41 t410 x320_2).f0) < (t438.length : Int) := of_decide_eq_true (by assumption); obtain ⟨ad446, e446, hx446_0⟩ := Kd.at_int (Kd.R_reads' HO_37.out).2.2 ((rd_T41 t410 x320_2).f0) p446 q446; cases e446; have hn446_0 : ad446.block ≠ gb445 := Kd.own_blk (Kd.R_ne HO_37.out BK445.out (by decide)); have hn446_1 : ad446.block ≠ gb445 := Kd.own_blk (Kd.R_ne HO_37.out BK445.out (by decide)); replace hx446_0 := (cell_far (p := ⟨gb445, 0, none⟩) (by first | (rw [add_block]; exact hn446_0) | (show (Addr.add _ _).block ≠ _; rw [add_block]; exact hn446_0) | exact hn446_0) (.int .i64 ((rd_T41 t410 x320_2).f0))).trans hx446_0; replace hx446_0 := (cell_far (p := ⟨gb445, 1, none⟩) (by first | (rw [add_block]; exact hn446_1) | (show (Addr.add _ _).block ≠ _; rw [add_block]; exact hn446_1) | exact hn446_1) (.int .i64 ((rd_T41 t410 x320_2).f1))).trans hx446_0; (try have hy446_0 := fun (n_ : Nat) => (show ((((w99.drewN n_).setCell ⟨gb445, 0, none⟩ (.int .i64 ((rd_T41 t410 x320_2).f0))).setCell ⟨gb445, 1, none⟩ (.int .i64 ((rd_T41 t410 x320_2).f1)))).cell? _ = some _ from hx446_0)); clear hn446_0; clear hn446_1; replace p446 := eq_true p446; replace q446 := eq_true q446; have p447 : 0 ≤ (((rd_T41 t410 x320_2).f1) : Int) := of_decide_eq_true (by assumption); have q447 : ((rd_T41 t410 x320_2).f1) < (t438.length : Int) := of_decide_eq_true (by assumption); obtain ⟨ad447, e447, hx447_0⟩ := Kd.at_int (Kd.R_reads' HO_37.out).2.2 ((rd_T41 t410 x320_2).f1) p447 q447; obtain rfl : ad446 = ad447 := (by injection e447); have hn447_0 : ad446.block ≠ gb445 := Kd.own_blk (Kd.R_ne HO_37.out BK445.out (by decide)); have hn447_1 : ad446.block ≠ gb445 := Kd.own_blk (Kd.R_ne HO_37.out BK445.out (by decide)); replace hx447_0 := (cell_far (p := ⟨gb445, 0, none⟩) (by first | (rw [add_block]; exact hn447_0) | (show (Addr.add _ _).block ≠ _; rw [add_block]; exact hn447_0) | exact hn447_0) (.int .i64 ((rd_T41 t410 x320_2).f0))).trans hx447_0; replace hx447_0 := (cell_far (p := ⟨gb445, 1, none⟩) (by first | (rw [add_block]; exact hn447_1) | (show (Addr.add _ _).block ≠ _; rw [add_block]; exact hn447_1) | exact hn447_1) (.int .i64 ((rd_T41 t410 x320_2).f1))).trans hx447_0; (try have hy447_0 := fun (n_ : Nat) => (show ((((w99.drewN n_).setCell ⟨gb445, 0, none⟩ (.int .i64 ((rd_T41 t410 x320_2).f0))).setCell ⟨gb445, 1, none⟩ (.int .i64 ((rd_T41 t410 x320_2).f1)))).cell? _ = some _ from hx447_0)); clear hn447_0; clear hn447_1; replace p447 := eq_true p447; replace q447 := eq_true q447)); try go_wp2_with (first | ((with_reducible refine gate_dst (N := 42) rfl ?_); (try (refine gate_guard (by rfl) ?_; dsimp only)); refine box_event ?hg (N := 42) ?hd (cs := #[.int .i64 0, .int .i64 0]) (t := 41) ?hr ?_; (case hd => rfl); (case hg => rfl); (case hr => first | (go_simp; done) | (go_simp; rfl)); intro gb445 hg w99 hbox hb; have n0_ := Aside0.mk (Kd.R_below (Kd.R_elderB (ru_ HO_19.out) gb445 (Nat.le_of_eq hg.symm)) hb); have n1_ := Aside0.mk (Kd.R_below (ru_ HO_31.out) hb); have n2_ := Aside0.mk (Kd.R_below (ru_ HO_37.out) hb); have n3_ := Aside0.mk (Kd.R_below (Kd.R_elderB (ru_ HO_318.out) gb445 (Nat.le_of_eq hg.symm)) hb); have n4_ := Aside0.mk (bs_ hb); have n5_ := Aside0.mk (hbox); have n6_ := Aside0.mk ((by rw [hg]; exact bz_ : w.heap.size ≤ gb445)); have n7_ := Aside0.mk ((by rw [hg]; exact bz_ : w.heap.size ≤ gb445)); clear HO_19; clear HO_31; clear HO_37; clear HO_318; clear HB; have HO_19 := n0_; have HO_31 := n1_; have HO_37 := n2_; have HO_318 := n3_; have HB := n4_; have BK445 := n5_; have GW445 := n6_; have GE445 := n7_; clear n0_ n1_ n2_ n3_ n4_ n5_ n6_ n7_; clear hb hbox hg; have hcz100_0 : w99.cell? ⟨gb445, 0, none⟩ = some (.int .i64 0) := (blk_cell BK445.out 0).trans rfl; have hcz100_1 : w99.cell? ⟨gb445, 1, none⟩ = some (.int .i64 0) := (blk_cell BK445.out 1).trans rfl; have hfz100_0 := blk_frozen BK445.out 0; have hfz100_1 := blk_frozen BK445.out 1; obtain ⟨Ao101, co101, eo101⟩ := Kd.R_slice HO_37.out; subst eo101; have p446 : 0 ≤ (((rd_T41 t410 x320_2).f0) : Int) := of_decide_eq_true (by assumption); have q446 : ((rd_T41 t410 x320_2).f0) < (t438.length : Int) := of_decide_eq_true (by assumption); obtain ⟨ad446, e446, hx446_0⟩ := Kd.at_int (Kd.R_reads' HO_37.out).2.2 ((rd_T41 t410 x320_2).f0) p446 q446; cases e446; have hn446_0 : ad446.block ≠ gb445 := Kd.own_blk (Kd.R_ne HO_37.out BK445.out (by decide)); have hn446_1 : ad446.block ≠ gb445 := Kd.own_blk (Kd.R_ne HO_37.out BK445.out (by decide)); replace hx446_0 := (cell_far (p := ⟨gb445, 0, none⟩) (by first | (rw [add_block]; exact hn446_0) | (show (Addr.add _ _).block ≠ _; rw [add_block]; exact hn446_0) | exact hn446_0) (.int .i64 ((rd_T41 t410 x320_2).f0))).trans hx446_0; replace hx446_0 := (cell_far (p := ⟨gb445, 1, none⟩) (by first | (rw [add_block]; exact hn446_1) | (show (Addr.add _ _).block ≠ _; rw [add_block]; exact hn446_1) | exact hn446_1) (.int .i64 ((rd_T41 t410 x320_2).f1))).trans hx446_0; (try have hy446_0 := fun (n_ : Nat) => (show ((((w99.drewN n_).setCell ⟨gb445, 0, none⟩ (.int .i64 ((rd_T41 t410 x320_2).f0))).setCell ⟨gb445, 1, none⟩ (.int .i64 ((rd_T41 t410 x320_2).f1)))).cell? _ = some _ from hx446_0)); clear hn446_0; clear hn446_1; replace p446 := eq_true p446; replace q446 := eq_true q446; have p447 : 0 ≤ (((rd_T41 t410 x320_2).f1) : Int) := of_decide_eq_true (by assumption); have q447 : ((rd_T41 t410 x320_2).f1) < (t438.length : Int) := of_decide_eq_true (by assumption); obtain ⟨ad447, e447, hx447_0⟩ := Kd.at_int (Kd.R_reads' HO_37.out).2.2 ((rd_T41 t410 x320_2).f1) p447 q447; obtain rfl : ad446 = ad447 := (by injection e447); have hn447_0 : ad446.block ≠ gb445 := Kd.own_blk (Kd.R_ne HO_37.out BK445.out (by decide)); have hn447_1 : ad446.block ≠ gb445 := Kd.own_blk (Kd.R_ne HO_37.out BK445.out (by decide)); replace hx447_0 := (cell_far (p := ⟨gb445, 0, none⟩) (by first | (rw [add_block]; exact hn447_0) | (show (Addr.add _ _).block ≠ _; rw [add_block]; exact hn447_0) | exact hn447_0) (.int .i64 ((rd_T41 t410 x320_2).f0))).trans hx447_0; replace hx447_0 := (cell_far (p := ⟨gb445, 1, none⟩) (by first | (rw [add_block]; exact hn447_1) | (show (Addr.add _ _).block ≠ _; rw [add_block]; exact hn447_1) | exact hn447_1) (.int .i64 ((rd_T41 t410 x320_2).f1))).trans hx447_0; (try have hy447_0 := fun (n_ : Nat) => (show ((((w99.drewN n_).setCell ⟨gb445, 0, none⟩ (.int .i64 ((rd_T41 t410 x320_2).f0))).setCell ⟨gb445, 1, none⟩ (.int .i64 ((rd_T41 t410 x320_2).f1)))).cell? _ = some _ from hx447_0)); clear hn447_0; clear hn447_1; replace p447 := eq_true p447; replace q447 := eq_true q447)))
                           go_roundg k2
                           case measure => have := HJ19.out; have := HK2.out; omega
                           case rel => exact ⟨(wrap64 (x320_2 + 1)), (by first | rfl | (simp; done) | (simp [*]; done)), H', ⟨by have := HJ19.out; have := HK2.out; omega⟩, ⟨by (with_reducible repeat (first | apply Kd.R_alloc | apply Kd.R_drewN | apply Kd.R_drew)); exact Kd.R_mono (Kd.R_far (p := ⟨gb445, 1, none⟩) (Kd.R_far (p := ⟨gb445, 0, none⟩) (Kd.R_mono HO_19.out (fun k_ hk => (⟨hk, hk.2⟩ : _ ∧ k_ ≠ gb445))) (fun _ hk => hk.2) (.int .i64 ((rd_T41 t410 x320_2).f0))) (fun _ hk => hk.2) (.int .i64 ((rd_T41 t410 x320_2).f1))) (fun _ hk => trivial)⟩, ⟨by (with_reducible repeat (first | apply Kd.R_alloc | apply Kd.R_drewN | apply Kd.R_drew)); exact Kd.R_mono (Kd.R_far (p := ⟨gb445, 1, none⟩) (Kd.R_far (p := ⟨gb445, 0, none⟩) (Kd.R_types HO_31.out BK445.out (by decide)) (fun _ hk => hk.2) (.int .i64 ((rd_T41 t410 x320_2).f0))) (fun _ hk => hk.2) (.int .i64 ((rd_T41 t410 x320_2).f1))) (fun _ hk => hk.1)⟩, ⟨by (with_reducible repeat (first | apply Kd.R_alloc | apply Kd.R_drewN | apply Kd.R_drew)); exact Kd.R_mono (Kd.R_far (p := ⟨gb445, 1, none⟩) (Kd.R_far (p := ⟨gb445, 0, none⟩) (Kd.R_types HO_37.out BK445.out (by decide)) (fun _ hk => hk.2) (.int .i64 ((rd_T41 t410 x320_2).f0))) (fun _ hk => hk.2) (.int .i64 ((rd_T41 t410 x320_2).f1))) (fun _ hk => hk.1)⟩, ⟨by (with_reducible repeat (first | apply Kd.R_alloc | apply Kd.R_drewN | apply Kd.R_drew)); exact Kd.R_mono (Kd.R_far (p := ⟨gb445, 1, none⟩) (Kd.R_far (p := ⟨gb445, 0, none⟩) (Kd.R_mono HO_318.out (fun k_ hk => (⟨hk, hk.2⟩ : _ ∧ k_ ≠ gb445))) (fun _ hk => hk.2) (.int .i64 ((rd_T41 t410 x320_2).f0))) (fun _ hk => hk.2) (.int .i64 ((rd_T41 t410 x320_2).f1))) (fun _ hk => trivial)⟩, ⟨by repeat (first | (with_reducible first | apply below_alloc | apply pw_below_drewN | apply below_drew1 | refine below_set ?_ GE445.out) | exact HB.out)⟩⟩
                          ·rw [if_neg c98] at H
                           exact absurd H (by simp)
                         ·rw [if_neg c97] at H
                          exact absurd H (by simp)
                        ·rw [if_neg c96] at H
                         exact absurd H (by simp)
                      ·rw [if_neg c91] at H
                       exact absurd H (by simp)
                     ·rw [if_neg c90] at H
                      exact absurd H (by simp)
                   ·rw [if_neg c88] at H
                    exact absurd H (by simp)
                  ·rw [if_neg c87] at H
                   exact absurd H (by simp)
                 ·rw [if_neg c86] at H
                  have c86b0 : decide (x320_2 < (t410.length : Int)) = false := decide_eq_false c86
                  clear c86
                  by_cases c102 : (t410.length : Int) ≤ 40
                  ·rw [if_pos c102] at H
                   have c102b0 : decide ((t410.length : Int) ≤ 40) = true := decide_eq_true c102
                   have c102b1 : decide (t410.length ≤ 40) = true := decide_eq_true (by omega)
                   clear c102
                   by_cases c103 : t396 = 0
                   ·rw [if_pos c103] at H
                    exact absurd H (by simp)
                   ·rw [if_neg c103] at H
                    have c103b0 : (t396 == 0) = false := beq_eq_false_iff_ne.mpr c103
                    have c103b1 : (t396 != 0) = true := bne_iff_ne.mpr c103
                    replace H := Option.bind_eq_some_iff.mp H
                    obtain ⟨⟨t448, t449⟩, A1040, H⟩ := H
                    (try dsimp only at H)
                    have A104 := Aside0.mk A1040
                    clear A1040
                    replace H := Option.bind_eq_some_iff.mp H
                    obtain ⟨⟨t452, t453⟩, A1050, H⟩ := H
                    (try dsimp only at H)
                    have A105 := Aside0.mk A1050
                    clear A1050
                    by_cases c106 : t449 = true
                    ·subst c106
                     rw [if_pos rfl] at H
                     replace H := Option.bind_eq_some_iff.mp H
                     obtain ⟨t454, A1070, H⟩ := H
                     (try dsimp only at H)
                     have A107 := Aside0.mk A1070
                     clear A1070
                     by_cases c108 : t454 = true
                     ·subst c108
                      rw [if_pos rfl] at H
                      by_cases c109 : t453 = true
                      ·subst c109
                       rw [if_pos rfl] at H
                       by_cases c110 : t452 = t422
                       ·as_aux_lemma =>
                        rw [if_pos c110] at H
                        have c110b0 : (t452 == t422) = true := beq_iff_eq.mpr c110
                        have c110b1 : (t452 != t422) = false := bne_eq_false_iff_eq.mpr c110
                        clear c110
                        have H' := Aside0.mk H
                        clear H
                        go_wp2_with (first | (go_at_call 24; (with_reducible refine (impl_TurnChords.calls k2 t396 _ _ t410 (Int.tmod t418 t396) t448 true _ ?side1 ?side2 A104.out).mono ?_); (case side1 => exact cu_ (Kd.R_reads' HO_19.out).2.2); (case side2 => exact (Kd.R_reads' HO_19.out).2.1); rintro e w111 ⟨v450, rfl, ho0, hb⟩; have n0_ := Aside0.mk (Kd.R_elder' (ru_ HO_19.out) (Kd.R_base ho0) hb); have n1_ := Aside0.mk (Kd.R_below (ru_ HO_31.out) hb); have n2_ := Aside0.mk (Kd.R_below (ru_ HO_37.out) hb); have n3_ := Aside0.mk (Kd.R_elder' (ru_ HO_318.out) (Kd.R_base ho0) hb); have n4_ := Aside0.mk (Kd.R_lower (Kd.R_new' (Kd.R_new' ho0 (Kd.R_lt (ru_ HO_19.out))) (Kd.R_lt (ru_ HO_318.out))) bz_); have n5_ := Aside0.mk (bs_ hb); clear HO_19; clear HO_31; clear HO_37; clear HO_318; clear HB; have HO_19 := n0_; have HO_31 := n1_; have HO_37 := n2_; have HO_318 := n3_; have HO451 := n4_; have HB := n5_; clear n0_ n1_ n2_ n3_ n4_ n5_; (try clear hb); (try clear ho0)) | (go_at_call 25; (with_reducible refine (impl_CountPairsCrossing.calls k2 t396 _ _ t410 t452 true _ ?side1 ?side2 A105.out).mono ?_); (case side1 => exact cu_ (Kd.R_reads' HO_19.out).2.2); (case side2 => exact (Kd.R_reads' HO_19.out).2.1); rintro e w112 ⟨rfl, hb⟩; have n0_ := Aside0.mk (Kd.R_below (ru_ HO_19.out) hb); have n1_ := Aside0.mk (Kd.R_below (ru_ HO_31.out) hb); have n2_ := Aside0.mk (Kd.R_below (ru_ HO_37.out) hb); have n3_ := Aside0.mk (Kd.R_below (ru_ HO_318.out) hb); have n4_ := Aside0.mk (Kd.R_below (ru_ HO451.out) hb); have n5_ := Aside0.mk (bs_ hb); clear HO_19; clear HO_31; clear HO_37; clear HO_318; clear HO451; clear HB; have HO_19 := n0_; have HO_31 := n1_; have HO_37 := n2_; have HO_318 := n3_; have HO451 := n4_; have HB := n5_; clear n0_ n1_ n2_ n3_ n4_ n5_; (try clear hb); obtain ⟨Ao113, co113, eo113⟩ := Kd.R_slice HO451.out; subst eo113) | (go_at_call 20; (with_reducible refine (laws_gChords.calls k2 _ _ t448 _ _ t410 true _ ?side1 ?side2 ?side3 ?side4 A107.out).mono ?_); (case side1 => exact cu_ (Kd.R_reads' HO451.out).2.2); (case side2 => exact (Kd.R_reads' HO451.out).2.1); (case side3 => exact cu_ (Kd.R_reads' HO_19.out).2.2); (case side4 => exact (Kd.R_reads' HO_19.out).2.1); rintro e w' ⟨rfl, ⟨nd, rfl⟩⟩; (try first | exact ⟨rfl, _, dn_⟩ | exact ⟨rfl, _, dm_⟩)))
                        go_meet
                        case rel => exact ⟨_, H', ⟨by have := HJ19.out; have := HK2.out; first | omega | exact Nat.le_refl _⟩, ⟨by (with_reducible repeat (first | apply Kd.R_alloc | apply Kd.R_drewN | apply Kd.R_drew)); exact Kd.R_mono HO_31.out (fun _ hk => trivial)⟩, ⟨bb_⟩⟩
                       ·rw [if_neg c110] at H
                        exact absurd H (by simp)
                      ·replace c109 := Bool.eq_false_iff.mpr c109
                       subst c109
                       rw [if_neg (show ¬ (false = true) by decide)] at H
                       exact absurd H (by simp)
                     ·replace c108 := Bool.eq_false_iff.mpr c108
                      subst c108
                      rw [if_neg (show ¬ (false = true) by decide)] at H
                      exact absurd H (by simp)
                    ·replace c106 := Bool.eq_false_iff.mpr c106
                     subst c106
                     rw [if_neg (show ¬ (false = true) by decide)] at H
                     exact absurd H (by simp)
                  ·as_aux_lemma =>
                   rw [if_neg c102] at H
                   have c102b0 : decide ((t410.length : Int) ≤ 40) = false := decide_eq_false c102
                   have c102b1 : decide (t410.length ≤ 40) = false := decide_eq_false (by omega)
                   clear c102
                   have H' := Aside0.mk H
                   clear H
                   go_wp2
                   repeat (go_quiet (fail); try go_wp2)
                   go_meet
                   case rel => exact ⟨_, H', ⟨by have := HJ19.out; have := HK2.out; first | omega | exact Nat.le_refl _⟩, ⟨by (with_reducible repeat (first | apply Kd.R_alloc | apply Kd.R_drewN | apply Kd.R_drew)); exact Kd.R_mono HO_31.out (fun _ hk => trivial)⟩, ⟨bb_⟩⟩
             ·replace c81 := Bool.eq_false_iff.mpr c81
              subst c81
              rw [if_neg (show ¬ (false = true) by decide)] at H
              exact absurd H (by simp)
            ·rw [if_neg c80] at H
             exact absurd H (by simp)
      ·replace c74 := Bool.eq_false_iff.mpr c74
       subst c74
       rw [if_neg (show ¬ (false = true) by decide)] at H
       exact absurd H (by simp)
     ·as_aux_lemma =>
      replace c71 := Bool.eq_false_iff.mpr c71
      subst c71
      rw [if_neg (show ¬ (false = true) by decide)] at H
      have H' := Aside0.mk H
      clear H
      go_wp2
      repeat (go_quiet (fail); try go_wp2)
      go_meet
      case rel => exact ⟨_, H', ⟨by have := HJ19.out; first | omega | exact Nat.le_refl _⟩, ⟨by (with_reducible repeat (first | apply Kd.R_alloc | apply Kd.R_drewN | apply Kd.R_drew)); exact HO_31.out⟩, ⟨bb_⟩⟩
    case rest =>
     as_aux_lemma =>
     clear HC70
     (try clear c1); (try clear p2); (try clear c3); (try clear c4); (try clear p4); (try clear q4); (try clear hx4); (try clear c5); (try clear c6); (try clear p6); (try clear c7); (try clear c8); (try clear c9); (try clear c10); (try clear c11); (try clear c33); (try clear c33b0); (try clear c33b1); (try clear c33b2); (try clear c34); (try clear c34b0); (try clear c34b1); (try clear c35); (try clear c35b0); (try clear c35b1); (try clear c35b2); (try clear c36); (try clear c36b0); (try clear c36b1); (try clear c36b2); (try clear c37); (try clear c37b0); (try clear c37b1); (try clear c37b2); (try clear c38); (try clear c38b0); (try clear c38b1); (try clear c39); (try clear c39b0); (try clear c39b1); (try clear c39b2); (try clear c41); (try clear c42); (try clear c42b0); (try clear c42b1); (try clear c42b2); (try clear c43); (try clear c43b0); (try clear c43b1); (try clear c44); (try clear c44b0); (try clear c44b1); (try clear c44b2); (try clear p44); (try clear q44); (try clear hx44); (try clear c45); (try clear c45b0); (try clear c45b1); (try clear c46); (try clear c46b0); (try clear c46b1); (try clear c46b2); (try clear c48); (try clear c49); (try clear c49b0); (try clear c49b1); (try clear c50); (try clear c51); (try clear c51b0); (try clear c51b1); (try clear c51b2); (try clear c52); (try clear c52b0); (try clear c52b1); (try clear c52b2); (try clear c53); (try clear c53b0); (try clear c53b1); (try clear c53b2); (try clear c54); (try clear c54b0); (try clear c54b1); (try clear c54b2); (try clear c55); (try clear c55b0); (try clear c55b1); (try clear c55b2); (try clear c60); (try clear c60b0); (try clear c60b1); (try clear c60b2); (try clear c61); (try clear c61b0); (try clear c61b1); (try clear c61b2); (try clear c62); (try clear c62b0); (try clear c62b1); (try clear c62b2); (try clear c63); (try clear c63b0); (try clear c63b1); (try clear c63b2); (try clear c64); (try clear c64b0); (try clear c64b1); (try clear c64b2); (try clear p64); (try clear c69); (try clear c71); (try clear c74); (try clear c75); (try clear c75b0); (try clear c76); (try clear c76b0); (try clear c77); (try clear c77b0); (try clear c78); (try clear c78b0); (try clear c79); (try clear c79b0); (try clear c79b1); (try clear c80); (try clear c80b0); (try clear c80b1); (try clear c81); (try clear c82); (try clear c82b0); (try clear c82b1); (try clear c82b2); (try clear c86); (try clear c86b0); (try clear c87); (try clear c87b0); (try clear c88); (try clear c88b0); (try clear c89); (try clear c89b0); (try clear c90); (try clear c90b0); (try clear c91); (try clear c91b0); (try clear c92); (try clear c92b0); (try clear c92b1); (try clear c96); (try clear c96b0); (try clear c97); (try clear c97b0); (try clear c98); (try clear c98b0); (try clear c98b1); (try clear c102); (try clear c102b0); (try clear c102b1); (try clear c103); (try clear c103b0); (try clear c103b1); (try clear c106); (try clear c108); (try clear c109); (try clear c110); (try clear c110b0); (try clear c110b1); (try clear hcz100_0); (try clear hcz100_1); (try clear hcz94_0); (try clear hcz94_1); (try clear hfz100_0); (try clear hfz100_1); (try clear hfz94_0); (try clear hfz94_1); (try clear hx444_0); (try clear hx444_1); (try clear hx446_0); (try clear hx447_0); (try clear p2); (try clear p444); (try clear p446); (try clear p447); (try clear q444); (try clear q446); (try clear q447)
     obtain ⟨kq, HA, HJ69, HO_31, HB⟩ := hcut
     cases kq with
     | zero => exact absurd HA.out (by simp [laws_FnTablesUndone.j2])
     | succ kj69 =>
      have H := HA.out
      clear HA
      simp only [laws_FnTablesUndone.j2] at H
      have HC114 := Aside0.mk H
      clear H
      go_upto_if 385 with (fail)
      repeat (go_quiet (fail); go_upto_if 385 with (fail))
      go_cut [] from 100000 to 100000 (fun wc => ∃ (kq : Nat), Aside0 (laws_FnTablesUndone.j4 kq l1 = some r) ∧ Aside0 (kq ≤ kj69) ∧ Aside0 (Below w.heap.size w wc))
      case first =>
       as_aux_lemma =>
       have H := HC114.out
       clear HC114
       by_cases c115 : t399 = true
       ·subst c115
        rw [if_pos rfl] at H
        by_cases c116 : t398 < 1
        ·rw [if_pos c116] at H
         exact absurd H (by simp)
        ·rw [if_neg c116] at H
         have c116b0 : decide (t398 < 1) = false := decide_eq_false c116
         clear c116
         (first | rw [c116b0] | (simp only [i64_w, i32_w]; rw [c116b0]) | skip)
         by_cases c117 : t398 ≥ t396
         ·rw [if_pos c117] at H
          exact absurd H (by simp)
         ·rw [if_neg c117] at H
          have c117b0 : decide (t396 ≤ t398) = false := decide_eq_false c117
          clear c117
          by_cases c118 : t406 < 1
          ·rw [if_pos c118] at H
           exact absurd H (by simp)
          ·rw [if_neg c118] at H
           have c118b0 : decide (t406 < 1) = false := decide_eq_false c118
           clear c118
           by_cases c119 : t406 > t427
           ·rw [if_pos c119] at H
            exact absurd H (by simp)
           ·as_aux_lemma =>
            rw [if_neg c119] at H
            have c119b0 : decide (t427 < t406) = false := decide_eq_false c119
            clear c119
            have H' := Aside0.mk H
            clear H
            go_wp2
            repeat (go_quiet (fail); try go_wp2)
            go_loopg [47] kj69 (fun kq v47 w' => ∃ (x47_3 : Int), v47 = .int .i64 x47_3 ∧ Aside0 (laws_FnTablesUndone.l1 kq l1 t396 t397 t398 t406 t426 t427 x47_3 = some r) ∧ Aside0 (kq ≤ kj69) ∧ Aside0 (Kd.R (Kd.int .i64) 3 w' w.heap.size (fun _ => True) v429 t426) ∧ Aside0 (Below w.heap.size w w'))
            case atStart => exact ⟨(0), (by first | rfl | (simp; done) | (simp [*]; done)), H', ⟨Nat.le_refl _⟩, ⟨by (with_reducible repeat (first | apply Kd.R_alloc | apply Kd.R_drewN | apply Kd.R_drew)); exact HO_31.out⟩, ⟨bb_⟩⟩
            case round =>
             as_aux_lemma =>
             clear H'
             (try clear c1); (try clear p2); (try clear c3); (try clear c4); (try clear p4); (try clear q4); (try clear hx4); (try clear c5); (try clear c6); (try clear p6); (try clear c7); (try clear c8); (try clear c9); (try clear c10); (try clear c11); (try clear c33); (try clear c33b0); (try clear c33b1); (try clear c33b2); (try clear c34); (try clear c34b0); (try clear c34b1); (try clear c35); (try clear c35b0); (try clear c35b1); (try clear c35b2); (try clear c36); (try clear c36b0); (try clear c36b1); (try clear c36b2); (try clear c37); (try clear c37b0); (try clear c37b1); (try clear c37b2); (try clear c38); (try clear c38b0); (try clear c38b1); (try clear c39); (try clear c39b0); (try clear c39b1); (try clear c39b2); (try clear c41); (try clear c42); (try clear c42b0); (try clear c42b1); (try clear c42b2); (try clear c43); (try clear c43b0); (try clear c43b1); (try clear c44); (try clear c44b0); (try clear c44b1); (try clear c44b2); (try clear p44); (try clear q44); (try clear hx44); (try clear c45); (try clear c45b0); (try clear c45b1); (try clear c46); (try clear c46b0); (try clear c46b1); (try clear c46b2); (try clear c48); (try clear c49); (try clear c49b0); (try clear c49b1); (try clear c50); (try clear c51); (try clear c51b0); (try clear c51b1); (try clear c51b2); (try clear c52); (try clear c52b0); (try clear c52b1); (try clear c52b2); (try clear c53); (try clear c53b0); (try clear c53b1); (try clear c53b2); (try clear c54); (try clear c54b0); (try clear c54b1); (try clear c54b2); (try clear c55); (try clear c55b0); (try clear c55b1); (try clear c55b2); (try clear c60); (try clear c60b0); (try clear c60b1); (try clear c60b2); (try clear c61); (try clear c61b0); (try clear c61b1); (try clear c61b2); (try clear c62); (try clear c62b0); (try clear c62b1); (try clear c62b2); (try clear c63); (try clear c63b0); (try clear c63b1); (try clear c63b2); (try clear c64); (try clear c64b0); (try clear c64b1); (try clear c64b2); (try clear p64); (try clear c69); (try clear c71); (try clear c74); (try clear c75); (try clear c75b0); (try clear c76); (try clear c76b0); (try clear c77); (try clear c77b0); (try clear c78); (try clear c78b0); (try clear c79); (try clear c79b0); (try clear c79b1); (try clear c80); (try clear c80b0); (try clear c80b1); (try clear c81); (try clear c82); (try clear c82b0); (try clear c82b1); (try clear c82b2); (try clear c86); (try clear c86b0); (try clear c87); (try clear c87b0); (try clear c88); (try clear c88b0); (try clear c89); (try clear c89b0); (try clear c90); (try clear c90b0); (try clear c91); (try clear c91b0); (try clear c92); (try clear c92b0); (try clear c92b1); (try clear c96); (try clear c96b0); (try clear c97); (try clear c97b0); (try clear c98); (try clear c98b0); (try clear c98b1); (try clear c102); (try clear c102b0); (try clear c102b1); (try clear c103); (try clear c103b0); (try clear c103b1); (try clear c106); (try clear c108); (try clear c109); (try clear c110); (try clear c110b0); (try clear c110b1); (try clear c115); (try clear c116); (try clear c116b0); (try clear c117); (try clear c117b0); (try clear c118); (try clear c118b0); (try clear c119); (try clear c119b0); (try clear hcz100_0); (try clear hcz100_1); (try clear hcz94_0); (try clear hcz94_1); (try clear hfz100_0); (try clear hfz100_1); (try clear hfz94_0); (try clear hfz94_1); (try clear hx444_0); (try clear hx444_1); (try clear hx446_0); (try clear hx447_0); (try clear p2); (try clear p4); (try clear p44); (try clear p444); (try clear p446); (try clear p447); (try clear p6); (try clear p64); (try clear q4); (try clear q44); (try clear q444); (try clear q446); (try clear q447)
             obtain ⟨x47_3, rfl, HA, HK3, HO_31, HB⟩ := hrel
             cases gk with
             | zero => exact absurd HA.out (by simp [laws_FnTablesUndone.l1])
             | succ k3 =>
              have H := HA.out
              clear HA
              simp only [laws_FnTablesUndone.l1] at H
              by_cases c120 : x47_3 < t396
              ·rw [if_pos c120] at H
               have c120b0 : decide (x47_3 < t396) = true := decide_eq_true c120
               clear c120
               replace H := Option.bind_eq_some_iff.mp H
               obtain ⟨⟨t455, t456⟩, A1210, H⟩ := H
               (try dsimp only at H)
               have A121 := Aside0.mk A1210
               clear A1210
               replace H := Option.bind_eq_some_iff.mp H
               obtain ⟨⟨t457, t458⟩, A1220, H⟩ := H
               (try dsimp only at H)
               have A122 := Aside0.mk A1220
               clear A1220
               replace H := Option.bind_eq_some_iff.mp H
               obtain ⟨⟨t459, t460⟩, A1230, H⟩ := H
               (try dsimp only at H)
               have A123 := Aside0.mk A1230
               clear A1230
               by_cases c124 : t456 = true
               ·subst c124
                rw [if_pos rfl] at H
                by_cases c125 : t458 = true
                ·subst c125
                 rw [if_pos rfl] at H
                 by_cases c126 : t457 = x47_3
                 ·rw [if_pos c126] at H
                  have c126b0 : (t457 == x47_3) = true := beq_iff_eq.mpr c126
                  have c126b1 : (t457 != x47_3) = false := bne_eq_false_iff_eq.mpr c126
                  clear c126
                  by_cases c127 : t460 = true
                  ·subst c127
                   rw [if_pos rfl] at H
                   by_cases c128 : t459 = x47_3
                   ·as_aux_lemma =>
                    rw [if_pos c128] at H
                    have c128b0 : (t459 == x47_3) = true := beq_iff_eq.mpr c128
                    have c128b1 : (t459 != x47_3) = false := bne_eq_false_iff_eq.mpr c128
                    clear c128
                    have H' := Aside0.mk H
                    clear H
                    go_wp2_with (first | (go_at_call 26; (with_reducible refine (impl_TimesPoint.calls k3 t396 t397 x47_3 t455 true _ A121.out).mono ?_); rintro e w129 ⟨rfl, hb⟩; have n0_ := Aside0.mk (Kd.R_below (ru_ HO_31.out) hb); have n1_ := Aside0.mk (bs_ hb); clear HO_31; clear HB; have HO_31 := n0_; have HB := n1_; clear n0_ n1_; (try clear hb)) | (go_at_call 26; (with_reducible refine (impl_TimesPoint.calls k3 t396 t398 t455 t457 true _ A122.out).mono ?_); rintro e w130 ⟨rfl, hb⟩; have n0_ := Aside0.mk (Kd.R_below (ru_ HO_31.out) hb); have n1_ := Aside0.mk (bs_ hb); clear HO_31; clear HB; have HO_31 := n0_; have HB := n1_; clear n0_ n1_; (try clear hb)) | (go_at_call 27; (with_reducible refine (impl_TimesAfter.calls k3 t396 t397 x47_3 t406 t459 true _ A123.out).mono ?_); rintro e w131 ⟨rfl, hb⟩; have n0_ := Aside0.mk (Kd.R_below (ru_ HO_31.out) hb); have n1_ := Aside0.mk (bs_ hb); clear HO_31; clear HB; have HO_31 := n0_; have HB := n1_; clear n0_ n1_; (try clear hb)))
                    go_roundg k3
                    case measure => have := HJ19.out; have := HJ69.out; have := HK3.out; omega
                    case rel => exact ⟨(wrap64 (x47_3 + 1)), (by first | rfl | (simp; done) | (simp [*]; done)), H', ⟨by have := HJ19.out; have := HJ69.out; have := HK3.out; omega⟩, ⟨by (with_reducible repeat (first | apply Kd.R_alloc | apply Kd.R_drewN | apply Kd.R_drew)); exact HO_31.out⟩, ⟨bb_⟩⟩
                   ·rw [if_neg c128] at H
                    exact absurd H (by simp)
                  ·replace c127 := Bool.eq_false_iff.mpr c127
                   subst c127
                   rw [if_neg (show ¬ (false = true) by decide)] at H
                   exact absurd H (by simp)
                 ·rw [if_neg c126] at H
                  exact absurd H (by simp)
                ·replace c125 := Bool.eq_false_iff.mpr c125
                 subst c125
                 rw [if_neg (show ¬ (false = true) by decide)] at H
                 exact absurd H (by simp)
               ·replace c124 := Bool.eq_false_iff.mpr c124
                subst c124
                rw [if_neg (show ¬ (false = true) by decide)] at H
                exact absurd H (by simp)
              ·rw [if_neg c120] at H
               have c120b0 : decide (x47_3 < t396) = false := decide_eq_false c120
               clear c120
               replace H := Option.bind_eq_some_iff.mp H
               obtain ⟨⟨t461, t462⟩, A1320, H⟩ := H
               (try dsimp only at H)
               have A132 := Aside0.mk A1320
               clear A1320
               by_cases c133 : t462 = true
               ·subst c133
                rw [if_pos rfl] at H
                by_cases c134 : t406 > 1
                ·rw [if_pos c134] at H
                 have c134b0 : decide (1 < t406) = true := decide_eq_true c134
                 clear c134
                 by_cases c135 : t461 = 1
                 ·rw [if_pos c135] at H
                  exact absurd H (by simp)
                 ·rw [if_neg c135] at H
                  have c135b0 : (t461 == 1) = false := beq_eq_false_iff_ne.mpr c135
                  have c135b1 : (t461 != 1) = true := bne_iff_ne.mpr c135
                  replace H := Option.bind_eq_some_iff.mp H
                  obtain ⟨t463, A1360, H⟩ := H
                  (try dsimp only at H)
                  have A136 := Aside0.mk A1360
                  clear A1360
                  by_cases c137 : (t463 != (t406 == t427)) = true
                  ·rw [if_pos c137] at H
                   exact absurd H (by simp)
                  ·as_aux_lemma =>
                   rw [if_neg c137] at H
                   have c137b0 : (t463 != (t406 == t427)) = false := by simpa using c137
                   (try (have c137b1 : decide (t463 = (t406 == t427)) = true := by simpa using c137))
                   (try (have c137b2 : (t463 == (t406 == t427)) = true := by simpa using c137))
                   clear c137
                   have H' := Aside0.mk H
                   clear H
                   go_wp2_with (first | (go_at_call 27; (with_reducible refine (impl_TimesAfter.calls k3 t396 t397 1 (wrap64 (t406 - 1)) t461 true _ A132.out).mono ?_); rintro e w138 ⟨rfl, hb⟩; have n0_ := Aside0.mk (Kd.R_below (ru_ HO_31.out) hb); have n1_ := Aside0.mk (bs_ hb); clear HO_31; clear HB; have HO_31 := n0_; have HB := n1_; clear n0_ n1_; (try clear hb); obtain ⟨Ao139, co139, eo139⟩ := Kd.R_slice HO_31.out; subst eo139) | (go_at_call 28; (with_reducible refine (laws_gHas.calls k3 _ _ t426 t397 t463 _ ?side1 ?side2 A136.out).mono ?_); (case side1 => exact cu_ (Kd.R_reads' HO_31.out).2.2); (case side2 => exact (Kd.R_reads' HO_31.out).2.1); rintro e w' ⟨rfl, ⟨nd, rfl⟩⟩; (try first | exact ⟨rfl, _, dn_⟩ | exact ⟨rfl, _, dm_⟩)))
                   go_meet
                   case rel => exact ⟨_, H', ⟨by have := HJ19.out; have := HJ69.out; have := HK3.out; first | omega | exact Nat.le_refl _⟩, ⟨bb_⟩⟩
                ·rw [if_neg c134] at H
                 have c134b0 : decide (1 < t406) = false := decide_eq_false c134
                 clear c134
                 replace H := Option.bind_eq_some_iff.mp H
                 obtain ⟨t464, A1400, H⟩ := H
                 (try dsimp only at H)
                 have A140 := Aside0.mk A1400
                 clear A1400
                 by_cases c141 : (t464 != (t406 == t427)) = true
                 ·rw [if_pos c141] at H
                  exact absurd H (by simp)
                 ·as_aux_lemma =>
                  rw [if_neg c141] at H
                  have c141b0 : (t464 != (t406 == t427)) = false := by simpa using c141
                  (try (have c141b1 : decide (t464 = (t406 == t427)) = true := by simpa using c141))
                  (try (have c141b2 : (t464 == (t406 == t427)) = true := by simpa using c141))
                  clear c141
                  have H' := Aside0.mk H
                  clear H
                  go_wp2_with (first | (go_at_call 27; (with_reducible refine (impl_TimesAfter.calls k3 t396 t397 1 (wrap64 (t406 - 1)) t461 true _ A132.out).mono ?_); rintro e w142 ⟨rfl, hb⟩; have n0_ := Aside0.mk (Kd.R_below (ru_ HO_31.out) hb); have n1_ := Aside0.mk (bs_ hb); clear HO_31; clear HB; have HO_31 := n0_; have HB := n1_; clear n0_ n1_; (try clear hb); obtain ⟨Ao143, co143, eo143⟩ := Kd.R_slice HO_31.out; subst eo143) | (go_at_call 28; (with_reducible refine (laws_gHas.calls k3 _ _ t426 t397 t464 _ ?side1 ?side2 A140.out).mono ?_); (case side1 => exact cu_ (Kd.R_reads' HO_31.out).2.2); (case side2 => exact (Kd.R_reads' HO_31.out).2.1); rintro e w' ⟨rfl, ⟨nd, rfl⟩⟩; (try first | exact ⟨rfl, _, dn_⟩ | exact ⟨rfl, _, dm_⟩)))
                  go_meet
                  case rel => exact ⟨_, H', ⟨by have := HJ19.out; have := HJ69.out; have := HK3.out; first | omega | exact Nat.le_refl _⟩, ⟨bb_⟩⟩
               ·replace c133 := Bool.eq_false_iff.mpr c133
                subst c133
                rw [if_neg (show ¬ (false = true) by decide)] at H
                exact absurd H (by simp)
       ·as_aux_lemma =>
        replace c115 := Bool.eq_false_iff.mpr c115
        subst c115
        rw [if_neg (show ¬ (false = true) by decide)] at H
        have H' := Aside0.mk H
        clear H
        go_wp2
        repeat (go_quiet (fail); try go_wp2)
        go_meet
        case rel => exact ⟨_, H', ⟨by have := HJ19.out; have := HJ69.out; first | omega | exact Nat.le_refl _⟩, ⟨bb_⟩⟩
      case rest =>
       as_aux_lemma =>
       clear HC114
       (try clear c1); (try clear p2); (try clear c3); (try clear c4); (try clear p4); (try clear q4); (try clear hx4); (try clear c5); (try clear c6); (try clear p6); (try clear c7); (try clear c8); (try clear c9); (try clear c10); (try clear c11); (try clear c12); (try clear c13); (try clear c14); (try clear c33); (try clear c33b0); (try clear c33b1); (try clear c33b2); (try clear c34); (try clear c34b0); (try clear c34b1); (try clear c35); (try clear c35b0); (try clear c35b1); (try clear c35b2); (try clear c36); (try clear c36b0); (try clear c36b1); (try clear c36b2); (try clear c37); (try clear c37b0); (try clear c37b1); (try clear c37b2); (try clear c38); (try clear c38b0); (try clear c38b1); (try clear c39); (try clear c39b0); (try clear c39b1); (try clear c39b2); (try clear c41); (try clear c42); (try clear c42b0); (try clear c42b1); (try clear c42b2); (try clear c43); (try clear c43b0); (try clear c43b1); (try clear c44); (try clear c44b0); (try clear c44b1); (try clear c44b2); (try clear p44); (try clear q44); (try clear hx44); (try clear c45); (try clear c45b0); (try clear c45b1); (try clear c46); (try clear c46b0); (try clear c46b1); (try clear c46b2); (try clear c48); (try clear c49); (try clear c49b0); (try clear c49b1); (try clear c50); (try clear c51); (try clear c51b0); (try clear c51b1); (try clear c51b2); (try clear c52); (try clear c52b0); (try clear c52b1); (try clear c52b2); (try clear c53); (try clear c53b0); (try clear c53b1); (try clear c53b2); (try clear c54); (try clear c54b0); (try clear c54b1); (try clear c54b2); (try clear c55); (try clear c55b0); (try clear c55b1); (try clear c55b2); (try clear c60); (try clear c60b0); (try clear c60b1); (try clear c60b2); (try clear c61); (try clear c61b0); (try clear c61b1); (try clear c61b2); (try clear c62); (try clear c62b0); (try clear c62b1); (try clear c62b2); (try clear c63); (try clear c63b0); (try clear c63b1); (try clear c63b2); (try clear c64); (try clear c64b0); (try clear c64b1); (try clear c64b2); (try clear p64); (try clear c69); (try clear c71); (try clear c74); (try clear c75); (try clear c75b0); (try clear c76); (try clear c76b0); (try clear c77); (try clear c77b0); (try clear c78); (try clear c78b0); (try clear c79); (try clear c79b0); (try clear c79b1); (try clear c80); (try clear c80b0); (try clear c80b1); (try clear c81); (try clear c82); (try clear c82b0); (try clear c82b1); (try clear c82b2); (try clear c86); (try clear c86b0); (try clear c87); (try clear c87b0); (try clear c88); (try clear c88b0); (try clear c89); (try clear c89b0); (try clear c90); (try clear c90b0); (try clear c91); (try clear c91b0); (try clear c92); (try clear c92b0); (try clear c92b1); (try clear c96); (try clear c96b0); (try clear c97); (try clear c97b0); (try clear c98); (try clear c98b0); (try clear c98b1); (try clear c102); (try clear c102b0); (try clear c102b1); (try clear c103); (try clear c103b0); (try clear c103b1); (try clear c106); (try clear c108); (try clear c109); (try clear c110); (try clear c110b0); (try clear c110b1); (try clear c115); (try clear c116); (try clear c116b0); (try clear c117); (try clear c117b0); (try clear c118); (try clear c118b0); (try clear c119); (try clear c119b0); (try clear c120); (try clear c120b0); (try clear c124); (try clear c125); (try clear c126); (try clear c126b0); (try clear c126b1); (try clear c127); (try clear c128); (try clear c128b0); (try clear c128b1); (try clear c133); (try clear c134); (try clear c134b0); (try clear c135); (try clear c135b0); (try clear c135b1); (try clear c137); (try clear c137b0); (try clear c137b1); (try clear c137b2); (try clear c141); (try clear c141b0); (try clear c141b1); (try clear c141b2); (try clear hcz100_0); (try clear hcz100_1); (try clear hcz94_0); (try clear hcz94_1); (try clear hfz100_0); (try clear hfz100_1); (try clear hfz94_0); (try clear hfz94_1); (try clear hx444_0); (try clear hx444_1); (try clear hx446_0); (try clear hx447_0); (try clear p2); (try clear p4); (try clear p44); (try clear p444); (try clear p446); (try clear p447); (try clear p6); (try clear p64); (try clear q4); (try clear q44); (try clear q444); (try clear q446); (try clear q447)
       obtain ⟨kq, HA, HJ113, HB⟩ := hcut
       cases kq with
       | zero => exact absurd HA.out (by simp [laws_FnTablesUndone.j4])
       | succ kj113 =>
        have H := HA.out
        clear HA
        simp only [laws_FnTablesUndone.j4] at H
        replace H := Option.bind_eq_some_iff.mp H
        obtain ⟨⟨t465, t466⟩, A1440, H⟩ := H
        (try dsimp only at H)
        have A144 := Aside0.mk A1440
        clear A1440
        replace H := Option.bind_eq_some_iff.mp H
        obtain ⟨⟨t467, t468⟩, A1450, H⟩ := H
        (try dsimp only at H)
        have A145 := Aside0.mk A1450
        clear A1450
        replace H := Option.bind_eq_some_iff.mp H
        obtain ⟨⟨t471, t472⟩, A1460, H⟩ := H
        (try dsimp only at H)
        have A146 := Aside0.mk A1460
        clear A1460
        by_cases c147 : (t468 != t472) = true
        ·rw [if_pos c147] at H
         exact absurd H (by simp)
        rw [if_neg c147] at H
        have c147b0 : (t468 != t472) = false := by simpa using c147
        (try (have c147b1 : decide (t468 = t472) = true := by simpa using c147))
        (try (have c147b2 : (t468 == t472) = true := by simpa using c147))
        clear c147
        replace H := Option.bind_eq_some_iff.mp H
        obtain ⟨t475, A1480, H⟩ := H
        (try dsimp only at H)
        have A148 := Aside0.mk A1480
        clear A1480
        by_cases c149 : t475 = true
        rotate_left
        ·replace c149 := Bool.eq_false_iff.mpr c149
         subst c149
         rw [if_neg (show ¬ (false = true) by decide)] at H
         exact absurd H (by simp)

        subst c149
        rw [if_pos rfl] at H
        by_cases c150 : t468 = true
        rotate_left
        ·as_aux_lemma =>
         replace c150 := Bool.eq_false_iff.mpr c150
         subst c150
         rw [if_neg (show ¬ (false = true) by decide)] at H
         obtain rfl := Option.some.inj H
         go_wp2_with (first | (go_at_call 29; (with_reducible refine (spec_DrawFactorsWith.calls _ _ l1 t465 t466 _ ?side1 ?side2 A144.out).mono ?_); (case side1 => repeat (first | exact (Kd.C_below HR1.out HB.out) | (with_reducible refine Kd.C_alloc ?_ _) | (with_reducible refine Kd.C_drewN ?_ _) | (with_reducible refine Kd.C_drew ?_))); (case side2 => exact HC1.out); rintro e w176 ⟨rfl, hb⟩; have n0_ := Aside0.mk (bs_ hb); clear HB; have HB := n0_; clear n0_; (try clear hb)) | (go_at_call 30; (with_reducible refine (impl_FactorsWith.calls t465 t466 t467 false _ A145.out).mono ?_); rintro e w177 ⟨v469, rfl, ho0, hb⟩; have n0_ := Aside0.mk (Kd.R_lower ho0 bz_); have n1_ := Aside0.mk (bs_ hb); clear HB; have HO470 := n0_; have HB := n1_; clear n0_ n1_; (try clear hb); (try clear ho0)) | (go_at_call 31; (with_reducible refine (spec_FactorsWith.calls kj113 t465 t466 t471 t472 _ A146.out).mono ?_); rintro e w178 ⟨v473, rfl, ho0, hb⟩; have n0_ := Aside0.mk (Kd.R_elder' (ru_ HO470.out) (Kd.R_base ho0) hb); have n1_ := Aside0.mk (Kd.R_lower (Kd.R_new' ho0 (Kd.R_lt (ru_ HO470.out))) bz_); have n2_ := Aside0.mk (bs_ hb); clear HO470; clear HB; have HO470 := n0_; have HO474 := n1_; have HB := n2_; clear n0_ n1_ n2_; (try clear hb); (try clear ho0); obtain ⟨Ao179, co179, eo179⟩ := Kd.R_slice HO470.out; subst eo179; obtain ⟨Ao180, co180, eo180⟩ := Kd.R_slice HO474.out; subst eo180) | (go_at_call 21; (with_reducible refine (laws_gSame.calls kj113 _ _ t467 _ _ t471 true _ ?side1 ?side2 ?side3 ?side4 A148.out).mono ?_); (case side1 => exact cu_ (Kd.R_reads' HO470.out).2.2); (case side2 => exact (Kd.R_reads' HO470.out).2.1); (case side3 => exact cu_ (Kd.R_reads' HO474.out).2.2); (case side4 => exact (Kd.R_reads' HO474.out).2.1); rintro e w' ⟨rfl, ⟨nd, rfl⟩⟩; (try first | exact ⟨rfl, _, dn_⟩ | exact ⟨rfl, _, dm_⟩)))
         go_ret
         exact ⟨by first | rfl | (simp [errW_none, errW_some] <;> rfl) | (simp [*, errW_none, errW_some] <;> rfl), bb_⟩
        as_aux_lemma =>
        subst c150
        rw [if_pos rfl] at H
        have HC151 := Aside0.mk H
        clear H
        go_upto_region 56 with (first | (go_at_call 29; (with_reducible refine (spec_DrawFactorsWith.calls _ _ l1 t465 t466 _ ?side1 ?side2 A144.out).mono ?_); (case side1 => repeat (first | exact (Kd.C_below HR1.out HB.out) | (with_reducible refine Kd.C_alloc ?_ _) | (with_reducible refine Kd.C_drewN ?_ _) | (with_reducible refine Kd.C_drew ?_))); (case side2 => exact HC1.out); rintro e w152 ⟨rfl, hb⟩; have n0_ := Aside0.mk (bs_ hb); clear HB; have HB := n0_; clear n0_; (try clear hb)) | (go_at_call 30; (with_reducible refine (impl_FactorsWith.calls t465 t466 t467 true _ A145.out).mono ?_); rintro e w153 ⟨v469, rfl, ho0, hb⟩; have n0_ := Aside0.mk (Kd.R_lower ho0 bz_); have n1_ := Aside0.mk (bs_ hb); clear HB; have HO470 := n0_; have HB := n1_; clear n0_ n1_; (try clear hb); (try clear ho0)) | (go_at_call 31; (with_reducible refine (spec_FactorsWith.calls kj113 t465 t466 t471 t472 _ A146.out).mono ?_); rintro e w154 ⟨v473, rfl, ho0, hb⟩; have n0_ := Aside0.mk (Kd.R_elder' (ru_ HO470.out) (Kd.R_base ho0) hb); have n1_ := Aside0.mk (Kd.R_lower (Kd.R_new' ho0 (Kd.R_lt (ru_ HO470.out))) bz_); have n2_ := Aside0.mk (bs_ hb); clear HO470; clear HB; have HO470 := n0_; have HO474 := n1_; have HB := n2_; clear n0_ n1_ n2_; (try clear hb); (try clear ho0); obtain ⟨Ao155, co155, eo155⟩ := Kd.R_slice HO470.out; subst eo155; obtain ⟨Ao156, co156, eo156⟩ := Kd.R_slice HO474.out; subst eo156) | (go_at_call 21; (with_reducible refine (laws_gSame.calls kj113 _ _ t467 _ _ t471 true _ ?side1 ?side2 ?side3 ?side4 A148.out).mono ?_); (case side1 => exact cu_ (Kd.R_reads' HO470.out).2.2); (case side2 => exact (Kd.R_reads' HO470.out).2.1); (case side3 => exact cu_ (Kd.R_reads' HO474.out).2.2); (case side4 => exact (Kd.R_reads' HO474.out).2.1); rintro e w' ⟨rfl, ⟨nd, rfl⟩⟩; (try first | exact ⟨rfl, _, dn_⟩ | exact ⟨rfl, _, dm_⟩)))
        (try simp only [Act.put, sa_, sb_, sc_])
        go_cut [536] from 100000 to 100000 (fun v536 wc => ∃ (kq : Nat) (x536_150 : Bool), v536 = .bool x536_150 ∧ Aside0 (laws_FnTablesUndone.j5 kq t465 t466 t467 x536_150 = some r) ∧ Aside0 (kq ≤ kj113) ∧ Aside0 (Kd.R (Kd.int .i64) 3 wc w.heap.size (fun _ => True) (.slice Ao155 t467.length co155) t467) ∧ Aside0 (Below w.heap.size w wc))
        case first =>
         as_aux_lemma =>
         have H := HC151.out
         clear HC151
         replace H := Option.bind_eq_some_iff.mp H
         obtain ⟨t476, A1570, H⟩ := H
         (try dsimp only at H)
         have A157 := Aside0.mk A1570
         clear A1570
         by_cases c158 : t476 = true
         ·subst c158
          rw [if_pos rfl] at H
          by_cases c159 : t466 = t465
          ·rw [if_pos c159] at H
           have c159b0 : (t466 == t465) = true := beq_iff_eq.mpr c159
           have c159b1 : (t466 != t465) = false := bne_eq_false_iff_eq.mpr c159
           clear c159
           (first | rw [c159b0] | (simp only [i64_w, i32_w]; rw [c159b0]) | skip)
           by_cases c160 : (t467.length : Int) = 1
           ·rw [if_pos c160] at H
            have c160b0 : ((t467.length : Int) == 1) = true := beq_iff_eq.mpr c160
            have c160b1 : ((t467.length : Int) != 1) = false := bne_eq_false_iff_eq.mpr c160
            clear c160
            by_cases c161 : 0 < (t467.length : Int)
            ·rw [if_pos c161] at H
             have c161b0 : decide (0 < (t467.length : Int)) = true := decide_eq_true c161
             have c161b1 : decide (0 < t467.length) = true := decide_eq_true (by omega)
             clear c161
             by_cases c162 : (rd t467 0) = 1
             ·rw [if_pos c162] at H
              have c162b0 : ((rd t467 0) == 1) = true := beq_iff_eq.mpr c162
              have c162b1 : ((rd t467 0) != 1) = false := bne_eq_false_iff_eq.mpr c162
              clear c162
              by_cases c163 : t466 = 0
              ·as_aux_lemma =>
               rw [if_pos c163] at H
               have c163b0 : (t466 == 0) = true := beq_iff_eq.mpr c163
               have c163b1 : (t466 != 0) = false := bne_eq_false_iff_eq.mpr c163
               clear c163
               have H' := Aside0.mk H
               clear H
               go_wp2_with (first | (go_at_call 32; (with_reducible refine (laws_gRises.calls kj113 _ _ t467 true _ ?side1 ?side2 A157.out).mono ?_); (case side1 => exact cu_ (Kd.R_reads' HO470.out).2.2); (case side2 => exact (Kd.R_reads' HO470.out).2.1); rintro e w' ⟨rfl, ⟨nd, rfl⟩⟩; (try first | exact ⟨rfl, _, dn_⟩ | exact ⟨rfl, _, dm_⟩); have p477 : 0 ≤ (0 : Int) := (by omega); have q477 : 0 < (t467.length : Int) := of_decide_eq_true (by assumption); obtain ⟨ad477, e477, hx477_0⟩ := Kd.at_int (Kd.R_reads' HO470.out).2.2 0 p477 q477; cases e477; have qi477 : (0 < t467.length) = True := eq_true (by omega); (try rw [show ((0 : Int)).toNat = 0 from rfl] at hx477_0); (try rw [Addr.add_zero'] at hx477_0); replace p477 := eq_true p477; replace q477 := eq_true q477))
               go_meet
               case rel => exact ⟨_, (((t467.length : Int) != 0)), (by first | rfl | (simp; done) | (simp [*]; done)), H', ⟨by have := HJ19.out; have := HJ69.out; have := HJ113.out; first | omega | exact Nat.le_refl _⟩, ⟨by (with_reducible repeat (first | apply Kd.R_alloc | apply Kd.R_drewN | apply Kd.R_drew)); exact Kd.R_mono HO470.out (fun _ hk => trivial)⟩, ⟨bb_⟩⟩
              ·rw [if_neg c163] at H
               have c163b0 : (t466 == 0) = false := beq_eq_false_iff_ne.mpr c163
               have c163b1 : (t466 != 0) = true := bne_iff_ne.mpr c163
               by_cases c164 : (Int.tmod t465 t466) = 0
               ·as_aux_lemma =>
                rw [if_pos c164] at H
                have c164b0 : ((Int.tmod t465 t466) == 0) = true := beq_iff_eq.mpr c164
                have c164b1 : ((Int.tmod t465 t466) != 0) = false := bne_eq_false_iff_eq.mpr c164
                clear c164
                have H' := Aside0.mk H
                clear H
                go_wp2_with (first | (go_at_call 32; (with_reducible refine (laws_gRises.calls kj113 _ _ t467 true _ ?side1 ?side2 A157.out).mono ?_); (case side1 => exact cu_ (Kd.R_reads' HO470.out).2.2); (case side2 => exact (Kd.R_reads' HO470.out).2.1); rintro e w' ⟨rfl, ⟨nd, rfl⟩⟩; (try first | exact ⟨rfl, _, dn_⟩ | exact ⟨rfl, _, dm_⟩); have p477 : 0 ≤ (0 : Int) := (by omega); have q477 : 0 < (t467.length : Int) := of_decide_eq_true (by assumption); obtain ⟨ad477, e477, hx477_0⟩ := Kd.at_int (Kd.R_reads' HO470.out).2.2 0 p477 q477; cases e477; have qi477 : (0 < t467.length) = True := eq_true (by omega); (try rw [show ((0 : Int)).toNat = 0 from rfl] at hx477_0); (try rw [Addr.add_zero'] at hx477_0); replace p477 := eq_true p477; replace q477 := eq_true q477))
                go_meet
                case rel => exact ⟨_, (false), (by first | rfl | (simp; done) | (simp [*]; done)), H', ⟨by have := HJ19.out; have := HJ69.out; have := HJ113.out; first | omega | exact Nat.le_refl _⟩, ⟨by (with_reducible repeat (first | apply Kd.R_alloc | apply Kd.R_drewN | apply Kd.R_drew)); exact Kd.R_mono HO470.out (fun _ hk => trivial)⟩, ⟨bb_⟩⟩
               ·as_aux_lemma =>
                rw [if_neg c164] at H
                have c164b0 : ((Int.tmod t465 t466) == 0) = false := beq_eq_false_iff_ne.mpr c164
                have c164b1 : ((Int.tmod t465 t466) != 0) = true := bne_iff_ne.mpr c164
                have H' := Aside0.mk H
                clear H
                go_wp2_with (first | (go_at_call 32; (with_reducible refine (laws_gRises.calls kj113 _ _ t467 true _ ?side1 ?side2 A157.out).mono ?_); (case side1 => exact cu_ (Kd.R_reads' HO470.out).2.2); (case side2 => exact (Kd.R_reads' HO470.out).2.1); rintro e w' ⟨rfl, ⟨nd, rfl⟩⟩; (try first | exact ⟨rfl, _, dn_⟩ | exact ⟨rfl, _, dm_⟩); have p477 : 0 ≤ (0 : Int) := (by omega); have q477 : 0 < (t467.length : Int) := of_decide_eq_true (by assumption); obtain ⟨ad477, e477, hx477_0⟩ := Kd.at_int (Kd.R_reads' HO470.out).2.2 0 p477 q477; cases e477; have qi477 : (0 < t467.length) = True := eq_true (by omega); (try rw [show ((0 : Int)).toNat = 0 from rfl] at hx477_0); (try rw [Addr.add_zero'] at hx477_0); replace p477 := eq_true p477; replace q477 := eq_true q477))
                go_meet
                case rel => exact ⟨_, (((t467.length : Int) != 0)), (by first | rfl | (simp; done) | (simp [*]; done)), H', ⟨by have := HJ19.out; have := HJ69.out; have := HJ113.out; first | omega | exact Nat.le_refl _⟩, ⟨by (with_reducible repeat (first | apply Kd.R_alloc | apply Kd.R_drewN | apply Kd.R_drew)); exact Kd.R_mono HO470.out (fun _ hk => trivial)⟩, ⟨bb_⟩⟩
             ·rw [if_neg c162] at H
              exact absurd H (by simp)
            ·rw [if_neg c161] at H
             exact absurd H (by simp)
           ·rw [if_neg c160] at H
            exact absurd H (by simp)
          ·rw [if_neg c159] at H
           have c159b0 : (t466 == t465) = false := beq_eq_false_iff_ne.mpr c159
           have c159b1 : (t466 != t465) = true := bne_iff_ne.mpr c159
           (first | rw [c159b0] | (simp only [i64_w, i32_w]; rw [c159b0]) | skip)
           by_cases c165 : t466 = 0
           ·as_aux_lemma =>
            rw [if_pos c165] at H
            have c165b0 : (t466 == 0) = true := beq_iff_eq.mpr c165
            have c165b1 : (t466 != 0) = false := bne_eq_false_iff_eq.mpr c165
            clear c165
            have H' := Aside0.mk H
            clear H
            go_wp2_with (first | (go_at_call 32; (with_reducible refine (laws_gRises.calls kj113 _ _ t467 true _ ?side1 ?side2 A157.out).mono ?_); (case side1 => exact cu_ (Kd.R_reads' HO470.out).2.2); (case side2 => exact (Kd.R_reads' HO470.out).2.1); rintro e w' ⟨rfl, ⟨nd, rfl⟩⟩; (try first | exact ⟨rfl, _, dn_⟩ | exact ⟨rfl, _, dm_⟩)))
            go_meet
            case rel => exact ⟨_, (((t467.length : Int) != 0)), (by first | rfl | (simp; done) | (simp [*]; done)), H', ⟨by have := HJ19.out; have := HJ69.out; have := HJ113.out; first | omega | exact Nat.le_refl _⟩, ⟨by (with_reducible repeat (first | apply Kd.R_alloc | apply Kd.R_drewN | apply Kd.R_drew)); exact Kd.R_mono HO470.out (fun _ hk => trivial)⟩, ⟨bb_⟩⟩
           ·rw [if_neg c165] at H
            have c165b0 : (t466 == 0) = false := beq_eq_false_iff_ne.mpr c165
            have c165b1 : (t466 != 0) = true := bne_iff_ne.mpr c165
            by_cases c166 : (Int.tmod t465 t466) = 0
            ·as_aux_lemma =>
             rw [if_pos c166] at H
             have c166b0 : ((Int.tmod t465 t466) == 0) = true := beq_iff_eq.mpr c166
             have c166b1 : ((Int.tmod t465 t466) != 0) = false := bne_eq_false_iff_eq.mpr c166
             clear c166
             have H' := Aside0.mk H
             clear H
             go_wp2_with (first | (go_at_call 32; (with_reducible refine (laws_gRises.calls kj113 _ _ t467 true _ ?side1 ?side2 A157.out).mono ?_); (case side1 => exact cu_ (Kd.R_reads' HO470.out).2.2); (case side2 => exact (Kd.R_reads' HO470.out).2.1); rintro e w' ⟨rfl, ⟨nd, rfl⟩⟩; (try first | exact ⟨rfl, _, dn_⟩ | exact ⟨rfl, _, dm_⟩)))
             go_meet
             case rel => exact ⟨_, (false), (by first | rfl | (simp; done) | (simp [*]; done)), H', ⟨by have := HJ19.out; have := HJ69.out; have := HJ113.out; first | omega | exact Nat.le_refl _⟩, ⟨by (with_reducible repeat (first | apply Kd.R_alloc | apply Kd.R_drewN | apply Kd.R_drew)); exact Kd.R_mono HO470.out (fun _ hk => trivial)⟩, ⟨bb_⟩⟩
            ·as_aux_lemma =>
             rw [if_neg c166] at H
             have c166b0 : ((Int.tmod t465 t466) == 0) = false := beq_eq_false_iff_ne.mpr c166
             have c166b1 : ((Int.tmod t465 t466) != 0) = true := bne_iff_ne.mpr c166
             have H' := Aside0.mk H
             clear H
             go_wp2_with (first | (go_at_call 32; (with_reducible refine (laws_gRises.calls kj113 _ _ t467 true _ ?side1 ?side2 A157.out).mono ?_); (case side1 => exact cu_ (Kd.R_reads' HO470.out).2.2); (case side2 => exact (Kd.R_reads' HO470.out).2.1); rintro e w' ⟨rfl, ⟨nd, rfl⟩⟩; (try first | exact ⟨rfl, _, dn_⟩ | exact ⟨rfl, _, dm_⟩)))
             go_meet
             case rel => exact ⟨_, (((t467.length : Int) != 0)), (by first | rfl | (simp; done) | (simp [*]; done)), H', ⟨by have := HJ19.out; have := HJ69.out; have := HJ113.out; first | omega | exact Nat.le_refl _⟩, ⟨by (with_reducible repeat (first | apply Kd.R_alloc | apply Kd.R_drewN | apply Kd.R_drew)); exact Kd.R_mono HO470.out (fun _ hk => trivial)⟩, ⟨bb_⟩⟩
         ·replace c158 := Bool.eq_false_iff.mpr c158
          subst c158
          rw [if_neg (show ¬ (false = true) by decide)] at H
          exact absurd H (by simp)
        case rest =>
         as_aux_lemma =>
         clear HC151
         (try clear c1); (try clear p2); (try clear c3); (try clear c4); (try clear p4); (try clear q4); (try clear hx4); (try clear qi4); (try clear c5); (try clear c6); (try clear p6); (try clear c7); (try clear c8); (try clear c9); (try clear c10); (try clear c11); (try clear c12); (try clear c13); (try clear c14); (try clear c15); (try clear c16); (try clear c33); (try clear c33b0); (try clear c33b1); (try clear c33b2); (try clear c34); (try clear c34b0); (try clear c34b1); (try clear c35); (try clear c35b0); (try clear c35b1); (try clear c35b2); (try clear c36); (try clear c36b0); (try clear c36b1); (try clear c36b2); (try clear c37); (try clear c37b0); (try clear c37b1); (try clear c37b2); (try clear c38); (try clear c38b0); (try clear c38b1); (try clear c39); (try clear c39b0); (try clear c39b1); (try clear c39b2); (try clear c41); (try clear c42); (try clear c42b0); (try clear c42b1); (try clear c42b2); (try clear c43); (try clear c43b0); (try clear c43b1); (try clear c44); (try clear c44b0); (try clear c44b1); (try clear c44b2); (try clear p44); (try clear q44); (try clear hx44); (try clear c45); (try clear c45b0); (try clear c45b1); (try clear c46); (try clear c46b0); (try clear c46b1); (try clear c46b2); (try clear p47); (try clear q47); (try clear hx47); (try clear qi47); (try clear c48); (try clear c49); (try clear c49b0); (try clear c49b1); (try clear c50); (try clear c51); (try clear c51b0); (try clear c51b1); (try clear c51b2); (try clear c52); (try clear c52b0); (try clear c52b1); (try clear c52b2); (try clear c53); (try clear c53b0); (try clear c53b1); (try clear c53b2); (try clear c54); (try clear c54b0); (try clear c54b1); (try clear c54b2); (try clear c55); (try clear c55b0); (try clear c55b1); (try clear c55b2); (try clear c60); (try clear c60b0); (try clear c60b1); (try clear c60b2); (try clear c61); (try clear c61b0); (try clear c61b1); (try clear c61b2); (try clear c62); (try clear c62b0); (try clear c62b1); (try clear c62b2); (try clear c63); (try clear c63b0); (try clear c63b1); (try clear c63b2); (try clear c64); (try clear c64b0); (try clear c64b1); (try clear c64b2); (try clear p64); (try clear c69); (try clear c71); (try clear c74); (try clear c75); (try clear c75b0); (try clear c76); (try clear c76b0); (try clear c77); (try clear c77b0); (try clear c78); (try clear c78b0); (try clear c79); (try clear c79b0); (try clear c79b1); (try clear c80); (try clear c80b0); (try clear c80b1); (try clear c81); (try clear c82); (try clear c82b0); (try clear c82b1); (try clear c82b2); (try clear c86); (try clear c86b0); (try clear c87); (try clear c87b0); (try clear c88); (try clear c88b0); (try clear c89); (try clear c89b0); (try clear c90); (try clear c90b0); (try clear c91); (try clear c91b0); (try clear c92); (try clear c92b0); (try clear c92b1); (try clear c96); (try clear c96b0); (try clear c97); (try clear c97b0); (try clear c98); (try clear c98b0); (try clear c98b1); (try clear c102); (try clear c102b0); (try clear c102b1); (try clear c103); (try clear c103b0); (try clear c103b1); (try clear c106); (try clear c108); (try clear c109); (try clear c110); (try clear c110b0); (try clear c110b1); (try clear c115); (try clear c116); (try clear c116b0); (try clear c117); (try clear c117b0); (try clear c118); (try clear c118b0); (try clear c119); (try clear c119b0); (try clear c120); (try clear c120b0); (try clear c124); (try clear c125); (try clear c126); (try clear c126b0); (try clear c126b1); (try clear c127); (try clear c128); (try clear c128b0); (try clear c128b1); (try clear c133); (try clear c134); (try clear c134b0); (try clear c135); (try clear c135b0); (try clear c135b1); (try clear c137); (try clear c137b0); (try clear c137b1); (try clear c137b2); (try clear c141); (try clear c141b0); (try clear c141b1); (try clear c141b2); (try clear c147); (try clear c147b0); (try clear c147b1); (try clear c147b2); (try clear c149); (try clear c150); (try clear c158); (try clear c159); (try clear c159b0); (try clear c159b1); (try clear c160); (try clear c160b0); (try clear c160b1); (try clear c161); (try clear c161b0); (try clear c161b1); (try clear c162); (try clear c162b0); (try clear c162b1); (try clear c163); (try clear c163b0); (try clear c163b1); (try clear c164); (try clear c164b0); (try clear c164b1); (try clear c165); (try clear c165b0); (try clear c165b1); (try clear c166); (try clear c166b0); (try clear c166b1); (try clear hcz100_0); (try clear hcz100_1); (try clear hcz94_0); (try clear hcz94_1); (try clear hfz100_0); (try clear hfz100_1); (try clear hfz94_0); (try clear hfz94_1); (try clear hx444_0); (try clear hx444_1); (try clear hx446_0); (try clear hx447_0); (try clear hx477_0); (try clear p2); (try clear p4); (try clear p44); (try clear p444); (try clear p446); (try clear p447); (try clear p477); (try clear p6); (try clear p64); (try clear q4); (try clear q44); (try clear q444); (try clear q446); (try clear q447); (try clear q477)
         obtain ⟨kq, x536_150, rfl, HA, HJ150, HO_58, HB⟩ := hcut
         cases kq with
         | zero => exact absurd HA.out (by simp [laws_FnTablesUndone.j5])
         | succ kj150 =>
          have H := HA.out
          clear HA
          simp only [laws_FnTablesUndone.j5] at H
          by_cases c167 : x536_150 = true
          ·subst c167
           rw [if_pos rfl] at H
           exact absurd H (by simp)
          as_aux_lemma =>
          replace c167 := Bool.eq_false_iff.mpr c167
          subst c167
          rw [if_neg (show ¬ (false = true) by decide)] at H
          have H' := Aside0.mk H
          clear H
          go_wp2
          repeat (go_quiet (fail); try go_wp2)
          go_loopg [539] kj150 (fun kq v539 w' => ∃ (x539_5 : Int), v539 = .int .i64 x539_5 ∧ Aside0 (laws_FnTablesUndone.l2 kq t465 t466 t467 (t467.length : Int) x539_5 = some r) ∧ Aside0 (kq ≤ kj150) ∧ Aside0 (Kd.R (Kd.int .i64) 3 w' w.heap.size (fun _ => True) (.slice Ao155 t467.length co155) t467) ∧ Aside0 (Below w.heap.size w w'))
          case atStart => exact ⟨(0), (by first | rfl | (simp; done) | (simp [*]; done)), H', ⟨Nat.le_refl _⟩, ⟨by (with_reducible repeat (first | apply Kd.R_alloc | apply Kd.R_drewN | apply Kd.R_drew)); exact HO_58.out⟩, ⟨bb_⟩⟩
          case round =>
           as_aux_lemma =>
           clear H'
           (try clear c1); (try clear p2); (try clear c3); (try clear c4); (try clear p4); (try clear q4); (try clear hx4); (try clear qi4); (try clear c5); (try clear c6); (try clear p6); (try clear c7); (try clear c8); (try clear c9); (try clear c10); (try clear c11); (try clear c12); (try clear c13); (try clear c14); (try clear c15); (try clear c16); (try clear c33); (try clear c33b0); (try clear c33b1); (try clear c33b2); (try clear c34); (try clear c34b0); (try clear c34b1); (try clear c35); (try clear c35b0); (try clear c35b1); (try clear c35b2); (try clear c36); (try clear c36b0); (try clear c36b1); (try clear c36b2); (try clear c37); (try clear c37b0); (try clear c37b1); (try clear c37b2); (try clear c38); (try clear c38b0); (try clear c38b1); (try clear c39); (try clear c39b0); (try clear c39b1); (try clear c39b2); (try clear c41); (try clear c42); (try clear c42b0); (try clear c42b1); (try clear c42b2); (try clear c43); (try clear c43b0); (try clear c43b1); (try clear c44); (try clear c44b0); (try clear c44b1); (try clear c44b2); (try clear p44); (try clear q44); (try clear hx44); (try clear c45); (try clear c45b0); (try clear c45b1); (try clear c46); (try clear c46b0); (try clear c46b1); (try clear c46b2); (try clear p47); (try clear q47); (try clear hx47); (try clear qi47); (try clear c48); (try clear c49); (try clear c49b0); (try clear c49b1); (try clear c50); (try clear c51); (try clear c51b0); (try clear c51b1); (try clear c51b2); (try clear c52); (try clear c52b0); (try clear c52b1); (try clear c52b2); (try clear c53); (try clear c53b0); (try clear c53b1); (try clear c53b2); (try clear c54); (try clear c54b0); (try clear c54b1); (try clear c54b2); (try clear c55); (try clear c55b0); (try clear c55b1); (try clear c55b2); (try clear c60); (try clear c60b0); (try clear c60b1); (try clear c60b2); (try clear c61); (try clear c61b0); (try clear c61b1); (try clear c61b2); (try clear c62); (try clear c62b0); (try clear c62b1); (try clear c62b2); (try clear c63); (try clear c63b0); (try clear c63b1); (try clear c63b2); (try clear c64); (try clear c64b0); (try clear c64b1); (try clear c64b2); (try clear p64); (try clear c69); (try clear c71); (try clear c74); (try clear c75); (try clear c75b0); (try clear c76); (try clear c76b0); (try clear c77); (try clear c77b0); (try clear c78); (try clear c78b0); (try clear c79); (try clear c79b0); (try clear c79b1); (try clear c80); (try clear c80b0); (try clear c80b1); (try clear c81); (try clear c82); (try clear c82b0); (try clear c82b1); (try clear c82b2); (try clear c86); (try clear c86b0); (try clear c87); (try clear c87b0); (try clear c88); (try clear c88b0); (try clear c89); (try clear c89b0); (try clear c90); (try clear c90b0); (try clear c91); (try clear c91b0); (try clear c92); (try clear c92b0); (try clear c92b1); (try clear c96); (try clear c96b0); (try clear c97); (try clear c97b0); (try clear c98); (try clear c98b0); (try clear c98b1); (try clear c102); (try clear c102b0); (try clear c102b1); (try clear c103); (try clear c103b0); (try clear c103b1); (try clear c106); (try clear c108); (try clear c109); (try clear c110); (try clear c110b0); (try clear c110b1); (try clear c115); (try clear c116); (try clear c116b0); (try clear c117); (try clear c117b0); (try clear c118); (try clear c118b0); (try clear c119); (try clear c119b0); (try clear c120); (try clear c120b0); (try clear c124); (try clear c125); (try clear c126); (try clear c126b0); (try clear c126b1); (try clear c127); (try clear c128); (try clear c128b0); (try clear c128b1); (try clear c133); (try clear c134); (try clear c134b0); (try clear c135); (try clear c135b0); (try clear c135b1); (try clear c137); (try clear c137b0); (try clear c137b1); (try clear c137b2); (try clear c141); (try clear c141b0); (try clear c141b1); (try clear c141b2); (try clear c147); (try clear c147b0); (try clear c147b1); (try clear c147b2); (try clear c149); (try clear c150); (try clear c158); (try clear c159); (try clear c159b0); (try clear c159b1); (try clear c160); (try clear c160b0); (try clear c160b1); (try clear c161); (try clear c161b0); (try clear c161b1); (try clear c162); (try clear c162b0); (try clear c162b1); (try clear c163); (try clear c163b0); (try clear c163b1); (try clear c164); (try clear c164b0); (try clear c164b1); (try clear c165); (try clear c165b0); (try clear c165b1); (try clear c166); (try clear c166b0); (try clear c166b1); (try clear c167); (try clear hcz100_0); (try clear hcz100_1); (try clear hcz94_0); (try clear hcz94_1); (try clear hfz100_0); (try clear hfz100_1); (try clear hfz94_0); (try clear hfz94_1); (try clear hx444_0); (try clear hx444_1); (try clear hx446_0); (try clear hx447_0); (try clear hx477_0); (try clear p2); (try clear p4); (try clear p44); (try clear p444); (try clear p446); (try clear p447); (try clear p47); (try clear p477); (try clear p6); (try clear p64); (try clear q4); (try clear q44); (try clear q444); (try clear q446); (try clear q447); (try clear q47); (try clear q477)
           obtain ⟨x539_5, rfl, HA, HK5, HO_537, HB⟩ := hrel
           cases gk with
           | zero => exact absurd HA.out (by simp [laws_FnTablesUndone.l2])
           | succ k5 =>
            have H := HA.out
            clear HA
            simp only [laws_FnTablesUndone.l2] at H
            by_cases c168 : x539_5 < (t467.length : Int)
            rotate_left
            ·as_aux_lemma =>
             rw [if_neg c168] at H
             have c168b0 : decide (x539_5 < (t467.length : Int)) = false := decide_eq_false c168
             clear c168
             obtain rfl := Option.some.inj H
             go_wp2
             repeat (go_quiet (fail); try go_wp2)
             go_ret
             exact ⟨by first | rfl | (simp [errW_none, errW_some] <;> rfl) | (simp [*, errW_none, errW_some] <;> rfl), bb_⟩
            rw [if_pos c168] at H
            have c168b0 : decide (x539_5 < (t467.length : Int)) = true := decide_eq_true c168
            clear c168
            by_cases c169 : 0 ≤ x539_5
            rotate_left
            ·rw [if_neg c169] at H
             exact absurd H (by simp)
            rw [if_pos c169] at H
            have c169b0 : decide (0 ≤ x539_5) = true := decide_eq_true c169
            clear c169
            by_cases c170 : x539_5 < (t467.length : Int)
            rotate_left
            ·rw [if_neg c170] at H
             exact absurd H (by simp)
            rw [if_pos c170] at H
            have c170b0 : decide (x539_5 < (t467.length : Int)) = true := decide_eq_true c170
            clear c170
            replace H := Option.bind_eq_some_iff.mp H
            obtain ⟨⟨t479, t480⟩, A1710, H⟩ := H
            (try dsimp only at H)
            have A171 := Aside0.mk A1710
            clear A1710
            by_cases c172 : t480 = true
            rotate_left
            ·replace c172 := Bool.eq_false_iff.mpr c172
             subst c172
             rw [if_neg (show ¬ (false = true) by decide)] at H
             exact absurd H (by simp)
            subst c172
            rw [if_pos rfl] at H
            by_cases c173 : (t479.length : Int) = t466
            rotate_left
            ·rw [if_neg c173] at H
             exact absurd H (by simp)
            as_aux_lemma =>
            rw [if_pos c173] at H
            have c173b0 : ((t479.length : Int) == t466) = true := beq_iff_eq.mpr c173
            have c173b1 : ((t479.length : Int) != t466) = false := bne_eq_false_iff_eq.mpr c173
            clear c173
            have H' := Aside0.mk H
            clear H
            have p478 : 0 ≤ (x539_5 : Int) := of_decide_eq_true (by assumption)
            have q478 : x539_5 < (t467.length : Int) := of_decide_eq_true (by assumption)
            obtain ⟨ad478, e478, hx478_0⟩ := Kd.at_int (Kd.R_reads' HO_537.out).2.2 x539_5 p478 q478
            cases e478
            replace p478 := eq_true p478
            replace q478 := eq_true q478
            go_wp2_with (first | (go_at_call 33; (with_reducible refine (impl_FixedPoints.calls t465 (rd t467 x539_5) t479 true _ A171.out).mono ?_); rintro e w174 ⟨v481, rfl, ho0, hb⟩; have n0_ := Aside0.mk (Kd.R_elder' (ru_ HO_537.out) (Kd.R_base ho0) hb); have n1_ := Aside0.mk (Kd.R_lower (Kd.R_new' ho0 (Kd.R_lt (ru_ HO_537.out))) bz_); have n2_ := Aside0.mk (bs_ hb); clear HO_537; clear HB; have HO_537 := n0_; have HO482 := n1_; have HB := n2_; clear n0_ n1_ n2_; (try clear hb); (try clear ho0); obtain ⟨Ao175, co175, eo175⟩ := Kd.R_slice HO482.out; subst eo175))
            go_roundg k5
            case measure => have := HJ19.out; have := HJ69.out; have := HJ113.out; have := HJ150.out; have := HK5.out; omega
            case rel => exact ⟨(wrap64 (x539_5 + 1)), (by first | rfl | (simp; done) | (simp [*]; done)), H', ⟨by have := HJ19.out; have := HJ69.out; have := HJ113.out; have := HJ150.out; have := HK5.out; omega⟩, ⟨by (with_reducible repeat (first | apply Kd.R_alloc | apply Kd.R_drewN | apply Kd.R_drew)); exact Kd.R_mono HO_537.out (fun _ hk => trivial)⟩, ⟨bb_⟩⟩
/-- THE ONE PURE STATEMENT of laws_FnTablesUndone: yours. -/
def laws_FnTablesUndone.Pure : Prop := ∀ (l0 : List Int) (l1 : List Int), l0.length ≤ maxLen → l0.length * 1 ≤ 140737488351232 → (∀ x ∈ l0, (Lit.int .u8 x).wf = true) → l1.length ≤ maxLen → l1.length * 1 ≤ 140737488351232 → (∀ x ∈ l1, (Lit.int .u8 x).wf = true) → ∃ k, laws_FnTablesUndone.f k l0 l1 = some true
theorem laws_FnTablesUndone.walk (P : laws_FnTablesUndone.Pure) (a0 : Option Addr) (len0 cap0 : Nat) (z0 : List Int) (a1 : Option Addr) (len1 cap1 : Nat) (z1 : List Int) (w : World) (w0 : (a0 = none ∧ len0 = 0 ∧ cap0 = 0 ∧ z0 = []) ∨ ∃ x, a0 = some x ∧ len0 ≤ cap0 ∧ cap0 ≤ maxLen ∧ z0.length = cap0 ∧ (∀ i, i < z0.length → w.cell? (x.add i) = some (.int .u8 (z0.getD i 0))) ∧ ∀ n ∈ z0, (Lit.int .u8 n).wf = true) (y0 : len0 * 1 ≤ 140737488351232) (w1 : (a1 = none ∧ len1 = 0 ∧ cap1 = 0 ∧ z1 = []) ∨ ∃ x, a1 = some x ∧ len1 ≤ cap1 ∧ cap1 ≤ maxLen ∧ z1.length = cap1 ∧ (∀ i, i < z1.length → w.cell? (x.add i) = some (.int .u8 (z1.getD i 0))) ∧ ∀ n ∈ z1, (Lit.int .u8 n).wf = true) (y1 : len1 * 1 ≤ 140737488351232) :
  Calls Tryz.prog 3 #[.slice a0 len0 cap0, .slice a1 len1 cap1] w fun e w' => e = .returned (.bool true) ∧ Below w.heap.size w w' := by
 obtain ⟨l0, rfl, hr0, hm0, hw0, hc0⟩ := ReadsInt.ofRowC w0
 obtain ⟨l1, rfl, hr1, hm1, hw1, hc1⟩ := ReadsInt.ofRowC w1
 obtain ⟨k, h⟩ := P l0 l1 hm0 y0 hw0 hm1 y1 hw1
 refine (laws_FnTablesUndone.calls k _ _ l0 _ _ l1 true w (Kd.C_of_reads (d := (0 : Int)) (h1 := fun _ => rfl) hr0) hc0 (Kd.C_of_reads (d := (0 : Int)) (h1 := fun _ => rfl) hr1) hc1 h).mono ?_
 rintro e w' ⟨rfl, hd⟩
 exact ⟨rfl, hd⟩

end Go.Proofs.YteihhjieihgojaaGreat.P
