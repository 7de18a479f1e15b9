/- A part of this seat's proofs: contracts of the translated functions, written by the session's own program (gp.py) out of the kit's print.py and the session's own contracts; no conditions of its own. -/
import Derived.Test.YtgiiaajincdhnaaPx0
import Derived.Test.YtgiiaajincdhnaaPx1
import Derived.Test.YtgiiaajincdhnaaPx2
import Derived.Test.YtgiiaajincdhnaaPx3
import Derived.Test.YtgiiaajincdhnaaPx4
import Derived.Test.YtgiiaajincdhnaaPx5
import Derived.Test.YtgiiaajincdhnaaPx6
import Derived.Test.YtgiiaajincdhnaaPx7
namespace Go.Proofs.Ytgiiaajincdhnaa.P
open Go.RowKit Go.Proofs.YtgiiaajincdhnaaW.PrintWords Go.Proofs.YtgiiaajincdhnaaW.PrintLast Go.Proofs.YtgiiaajincdhnaaW.PrintMore
attribute [local go_sem] max2_int min2_int max_two min_two max_three min_three max_four min_four   -- for this text's walks alone
set_option linter.unusedVariables false
set_option linter.unusedSimpArgs false

/-! ### laws_FnTablesLead: function 3 -/
mutual
def laws_FnTablesLead.j0 : Nat → List Int → Int → Int → Int → Int → Int → Bool → Option (Bool)
 | 0, _, _, _, _, _, _, _ => none
 | k + 1, x1, x5, x6, x7, x8, x9, x100 => if x100 = true then (laws_FnTablesLead.l0 k x1 x5 x6 x8 x9 x7 0) else (laws_FnTablesLead.j2 k x1)
def laws_FnTablesLead.j2 : Nat → List Int → Option (Bool)
 | 0, _ => none
 | k + 1, x1 => (spec_DrawLeadOfPoint.f x1).bind fun bt313 => ((impl_LeadOfPoint.f k bt313.1 bt313.2.1 bt313.2.2).bind fun bt316 => ((spec_LeadOfPoint.f k bt313.1 bt313.2.1 bt313.2.2).bind fun bt319 => ((impl_LinesTo.f bt313.1 bt313.2.1 bt313.2.2).bind fun bt322 => ((spec_LinesTo.f k bt313.1 bt313.2.1 bt313.2.2).bind fun bt326 => ((impl_TimesRow.f k bt313.1 bt313.2.1).bind fun bt330 => ((spec_TimesRow.f k bt313.1 bt313.2.1).bind fun bt334 => ((impl_FixedPoints.f bt313.1 bt313.2.1).bind fun bt338 => ((spec_FixedPoints.f k bt313.1 bt313.2.1).bind fun bt342 => ((impl_CyclesOfTable.f k bt313.1 bt313.2.1).bind fun bt346 => ((spec_CyclesOfTable.f k bt313.1 bt313.2.1).bind fun bt350 => ((impl_DepthOfTable.f k bt313.1 bt313.2.1).bind fun bt354 => ((spec_DepthOfTable.f k bt313.1 bt313.2.1).bind fun bt356 => ((impl_PointsHit.f k bt313.1 bt313.2.1).bind fun bt358 => ((spec_PointsHit.f k bt313.1 bt313.2.1).bind fun bt362 => (if (bt316.2.2 != bt319.2.2) = true then (none) else (if bt316.1 = bt319.1 then (if bt316.2.1 = bt319.2.1 then (if (bt322.2 != bt326.2) = true then (none) else ((laws_gSame.f k bt322.1 bt326.1).bind fun t366 => (if t366 = true then (if (bt330.2 != bt334.2) = true then (none) else ((laws_gSame.f k bt330.1 bt334.1).bind fun t367 => (if t367 = true then (if (bt338.2 != bt342.2) = true then (none) else ((laws_gSame.f k bt338.1 bt342.1).bind fun t368 => (if t368 = true then (if (bt346.2 != bt350.2) = true then (none) else ((laws_gRows.f k bt346.1 bt350.1).bind fun t369 => (if t369 = true then (if (bt354.2 != bt356.2) = true then (none) else (if bt354.1 = bt356.1 then (if (bt358.2 != bt362.2) = true then (none) else ((laws_gSame.f k bt358.1 bt362.1).bind fun t370 => (if t370 = true then (if (bt322.2 != bt316.2.2) = true then (none) else (if bt316.2.2 = true then (if bt330.2 = true then (if (bt338.2 != bt330.2) = true then (none) else (if (bt346.2 != bt330.2) = true then (none) else (if (bt354.2 != bt330.2) = true then (none) else (laws_FnTablesLead.j3 k bt313.1 bt313.2.1 bt313.2.2 bt316.1 bt316.2.1 bt316.2.2 bt322.1 bt330.1 bt330.2 bt338.1 bt346.1 bt354.1 bt358.1 (bt358.2 != bt330.2))))) else (none)) else (if (bt338.2 != bt330.2) = true then (none) else (if (bt346.2 != bt330.2) = true then (none) else (if (bt354.2 != bt330.2) = true then (none) else (laws_FnTablesLead.j3 k bt313.1 bt313.2.1 bt313.2.2 bt316.1 bt316.2.1 bt316.2.2 bt322.1 bt330.1 bt330.2 bt338.1 bt346.1 bt354.1 bt358.1 (bt358.2 != bt330.2))))))) else (none)))) else (none))) else (none)))) else (none)))) else (none)))) else (none)))) else (none)) else (none)))))))))))))))))
def laws_FnTablesLead.j3 : Nat → Int → Int → Int → Int → Int → Bool → List Int → List Int → Bool → List Int → List (List Int) → Int → List Int → Bool → Option (Bool)
 | 0, _, _, _, _, _, _, _, _, _, _, _, _, _, _ => none
 | k + 1, x17, x18, x19, x20, x21, x22, x26, x30, x31, x34, x38, x42, x46, x325 => if x325 = true then (none) else (if x22 = true then (if x20 < 0 then (none) else (if x21 < 1 then (none) else (if x20 > x42 then (none) else ((laws_gRises.f k x26).bind fun t371 => (if t371 = true then ((impl_TimesAfter.f k x17 x18 x19 x20).bind fun bt372 => ((impl_TimesAfter.f k x17 x18 bt372.1 x21).bind fun bt374 => (if bt372.2 = true then (if bt374.2 = true then (if bt372.1 = bt374.1 then (laws_FnTablesLead.l1 k x17 x19 x20 x21 x26 x30 x31 x34 x38 x42 x46 x26 (x26.length : Int) 0) else (none)) else (none)) else (none)))) else (none)))))) else (laws_FnTablesLead.j5 k x17 x30 x31 x34 x38 x42 x46))
def laws_FnTablesLead.j5 : Nat → Int → List Int → Bool → List Int → List (List Int) → Int → List Int → Option (Bool)
 | 0, _, _, _, _, _, _, _ => none
 | k + 1, x17, x30, x31, x34, x38, x42, x46 => if x31 = true then (if (x30.length : Int) = x17 then ((laws_gRises.f k x34).bind fun t382 => (if t382 = true then ((laws_gRises.f k x46).bind fun t383 => (if t383 = true then (laws_FnTablesLead.l2 k x17 x30 x34 x38 x42 0 0 x38 (x38.length : Int) 0) else (none))) else (none))) else (none)) else (some true)
def laws_FnTablesLead.l2 : Nat → Int → List Int → List Int → List (List Int) → Int → Int → Int → List (List Int) → Int → Int → Option (Bool)
 | 0, _, _, _, _, _, _, _, _, _, _ => none
 | k + 1, x17, x30, x34, x38, x42, x56, x57, x430, x431, x432 => if x432 < x431 then (if 0 ≤ x432 then (if x432 < (x430.length : Int) then (if ((rd_L3 x430 x432).length : Int) = 1 then (if ((rd_L3 x430 x432).length : Int) = 0 then (none) else (if x432 > 0 then (if 0 ≤ (wrap64 (x432 - 1)) then (if (wrap64 (x432 - 1)) < (x38.length : Int) then (if 0 < ((rd_L3 x38 (wrap64 (x432 - 1))).length : Int) then (if 0 < ((rd_L3 x430 x432).length : Int) then (if (rd (rd_L3 x38 (wrap64 (x432 - 1))) 0) ≥ (rd (rd_L3 x430 x432) 0) then (none) else (laws_FnTablesLead.l3 k x17 x30 x34 x38 x42 (wrap64 (x56 + ((rd_L3 x430 x432).length : Int))) (wrap64 (x57 + 1)) (rd_L3 x430 x432) x430 x431 x432 (rd_L3 x430 x432) ((rd_L3 x430 x432).length : Int) 0)) else (none)) else (none)) else (none)) else (none)) else (laws_FnTablesLead.l3 k x17 x30 x34 x38 x42 (wrap64 (x56 + ((rd_L3 x430 x432).length : Int))) (wrap64 (x57 + 1)) (rd_L3 x430 x432) x430 x431 x432 (rd_L3 x430 x432) ((rd_L3 x430 x432).length : Int) 0))) else (if ((rd_L3 x430 x432).length : Int) = 0 then (none) else (if x432 > 0 then (if 0 ≤ (wrap64 (x432 - 1)) then (if (wrap64 (x432 - 1)) < (x38.length : Int) then (if 0 < ((rd_L3 x38 (wrap64 (x432 - 1))).length : Int) then (if 0 < ((rd_L3 x430 x432).length : Int) then (if (rd (rd_L3 x38 (wrap64 (x432 - 1))) 0) ≥ (rd (rd_L3 x430 x432) 0) then (none) else (laws_FnTablesLead.l3 k x17 x30 x34 x38 x42 (wrap64 (x56 + ((rd_L3 x430 x432).length : Int))) x57 (rd_L3 x430 x432) x430 x431 x432 (rd_L3 x430 x432) ((rd_L3 x430 x432).length : Int) 0)) else (none)) else (none)) else (none)) else (none)) else (laws_FnTablesLead.l3 k x17 x30 x34 x38 x42 (wrap64 (x56 + ((rd_L3 x430 x432).length : Int))) x57 (rd_L3 x430 x432) x430 x431 x432 (rd_L3 x430 x432) ((rd_L3 x430 x432).length : Int) 0)))) else (none)) else (none)) else (if x57 = (x34.length : Int) then (if ((x56 == x17) != (x42 == 0)) = true then (none) else (some true)) else (none))
def laws_FnTablesLead.l3 : Nat → Int → List Int → List Int → List (List Int) → Int → Int → Int → List Int → List (List Int) → Int → Int → List Int → Int → Int → Option (Bool)
 | 0, _, _, _, _, _, _, _, _, _, _, _, _, _, _ => none
 | k + 1, x17, x30, x34, x38, x42, x56, x57, x59, x430, x431, x432, x466, x467, x468 => if x468 < x467 then (if 0 ≤ x468 then (if x468 < (x466.length : Int) then (if 0 < (x59.length : Int) then (if (rd x466 x468) < (rd x59 0) then (none) else (if 0 ≤ (rd x466 x468) then (if (rd x466 x468) < (x30.length : Int) then (if (x59.length : Int) = 0 then (none) else (if 0 ≤ (Int.tmod (wrap64 (x468 + 1)) (x59.length : Int)) then (if (Int.tmod (wrap64 (x468 + 1)) (x59.length : Int)) < (x59.length : Int) then (if (rd x30 (rd x466 x468)) = (rd x59 (Int.tmod (wrap64 (x468 + 1)) (x59.length : Int))) then (laws_FnTablesLead.l3 k x17 x30 x34 x38 x42 x56 x57 x59 x430 x431 x432 x466 x467 (wrap64 (x468 + 1))) else (none)) else (none)) else (none))) else (none)) else (none))) else (none)) else (none)) else (none)) else (laws_FnTablesLead.l2 k x17 x30 x34 x38 x42 x56 x57 x430 x431 (wrap64 (x432 + 1)))
def laws_FnTablesLead.l1 : Nat → Int → Int → Int → Int → List Int → List Int → Bool → List Int → List (List Int) → Int → List Int → List Int → Int → Int → Option (Bool)
 | 0, _, _, _, _, _, _, _, _, _, _, _, _, _, _ => none
 | k + 1, x17, x19, x20, x21, x26, x30, x31, x34, x38, x42, x46, x370, x371, x372 => if x372 < x371 then (if 0 ≤ x372 then (if x372 < (x370.length : Int) then (if 0 ≤ (rd x370 x372) then (if (rd x370 x372) < (x30.length : Int) then (if (rd x30 (rd x370 x372)) = x19 then (laws_FnTablesLead.l1 k x17 x19 x20 x21 x26 x30 x31 x34 x38 x42 x46 x370 x371 (wrap64 (x372 + 1))) else (none)) else (none)) else (none)) else (none)) else (none)) else ((laws_gHas.f k x46 x19).bind fun t378 => (if ((decide ((x26.length : Int) > 0)) != t378) = true then (none) else ((laws_gHas.f k x34 x19).bind fun t379 => (if 0 ≤ x19 then (if x19 < (x30.length : Int) then (if (t379 != ((rd x30 x19) == x19)) = true then (none) else ((laws_gHas.f k x34 x19).bind fun t381 => (if t381 = true then (if x20 = 0 then (if x21 = 1 then (laws_FnTablesLead.j5 k x17 x30 x31 x34 x38 x42 x46) else (none)) else (none)) else (laws_FnTablesLead.j5 k x17 x30 x31 x34 x38 x42 x46)))) else (none)) else (none)))))
def laws_FnTablesLead.l0 : Nat → List Int → Int → Int → Int → Int → Int → Int → Option (Bool)
 | 0, _, _, _, _, _, _, _ => none
 | k + 1, x1, x5, x6, x8, x9, x13, x14 => if x14 < x8 then ((impl_TimesPoint.f k x5 x6 x13).bind fun bt311 => (if bt311.2 = true then (laws_FnTablesLead.l0 k x1 x5 x6 x8 x9 bt311.1 (wrap64 (x14 + 1))) else (none))) else (if x13 = x9 then (laws_FnTablesLead.j2 k x1) else (none))
end
def laws_FnTablesLead.f (k : Nat) (l0 : List Int) (l1 : List Int) : Option (Bool) := (laws_big.f l0 l1).bind fun t302 => (if t302 = true then (some true) else ((spec_DrawTimesAfter.f l0).bind fun bt303 => ((impl_TimesAfter.f k bt303.1 bt303.2.1 bt303.2.2.1 bt303.2.2.2).bind fun bt307 => ((spec_TimesAfter.f k bt303.1 bt303.2.1 bt303.2.2.1 bt303.2.2.2).bind fun bt309 => (if (bt307.2 != bt309.2) = true then (none) else (if bt307.1 = bt309.1 then (if bt307.2 = true then (laws_FnTablesLead.j0 k l1 bt303.1 bt303.2.1 bt303.2.2.1 bt303.2.2.2 bt307.1 (decide (bt303.2.2.2 ≤ 100))) else (laws_FnTablesLead.j0 k l1 bt303.1 bt303.2.1 bt303.2.2.1 bt303.2.2.2 bt307.1 false)) else (none)))))))
theorem laws_FnTablesLead.mono_l : ∀ k, (∀ y0 y1 y2 y3 y4 y5 y6, LeO (laws_FnTablesLead.j0 k y0 y1 y2 y3 y4 y5 y6) (laws_FnTablesLead.j0 (k + 1) y0 y1 y2 y3 y4 y5 y6)) ∧ (∀ y0, LeO (laws_FnTablesLead.j2 k y0) (laws_FnTablesLead.j2 (k + 1) y0)) ∧ (∀ y0 y1 y2 y3 y4 y5 y6 y7 y8 y9 y10 y11 y12 y13, LeO (laws_FnTablesLead.j3 k y0 y1 y2 y3 y4 y5 y6 y7 y8 y9 y10 y11 y12 y13) (laws_FnTablesLead.j3 (k + 1) y0 y1 y2 y3 y4 y5 y6 y7 y8 y9 y10 y11 y12 y13)) ∧ (∀ y0 y1 y2 y3 y4 y5 y6, LeO (laws_FnTablesLead.j5 k y0 y1 y2 y3 y4 y5 y6) (laws_FnTablesLead.j5 (k + 1) y0 y1 y2 y3 y4 y5 y6)) ∧ (∀ y0 y1 y2 y3 y4 y5 y6 y7 y8 y9, LeO (laws_FnTablesLead.l2 k y0 y1 y2 y3 y4 y5 y6 y7 y8 y9) (laws_FnTablesLead.l2 (k + 1) y0 y1 y2 y3 y4 y5 y6 y7 y8 y9)) ∧ (∀ y0 y1 y2 y3 y4 y5 y6 y7 y8 y9 y10 y11 y12 y13, LeO (laws_FnTablesLead.l3 k y0 y1 y2 y3 y4 y5 y6 y7 y8 y9 y10 y11 y12 y13) (laws_FnTablesLead.l3 (k + 1) y0 y1 y2 y3 y4 y5 y6 y7 y8 y9 y10 y11 y12 y13)) ∧ (∀ y0 y1 y2 y3 y4 y5 y6 y7 y8 y9 y10 y11 y12 y13, LeO (laws_FnTablesLead.l1 k y0 y1 y2 y3 y4 y5 y6 y7 y8 y9 y10 y11 y12 y13) (laws_FnTablesLead.l1 (k + 1) y0 y1 y2 y3 y4 y5 y6 y7 y8 y9 y10 y11 y12 y13)) ∧ (∀ y0 y1 y2 y3 y4 y5 y6, LeO (laws_FnTablesLead.l0 k y0 y1 y2 y3 y4 y5 y6) (laws_FnTablesLead.l0 (k + 1) y0 y1 y2 y3 y4 y5 y6))
 | 0 => ⟨fun _ _ _ _ _ _ _ r h => by simp [laws_FnTablesLead.j0] at h, fun _ r h => by simp [laws_FnTablesLead.j2] at h, fun _ _ _ _ _ _ _ _ _ _ _ _ _ _ r h => by simp [laws_FnTablesLead.j3] at h, fun _ _ _ _ _ _ _ r h => by simp [laws_FnTablesLead.j5] at h, fun _ _ _ _ _ _ _ _ _ _ r h => by simp [laws_FnTablesLead.l2] at h, fun _ _ _ _ _ _ _ _ _ _ _ _ _ _ r h => by simp [laws_FnTablesLead.l3] at h, fun _ _ _ _ _ _ _ _ _ _ _ _ _ _ r h => by simp [laws_FnTablesLead.l1] at h, fun _ _ _ _ _ _ _ r h => by simp [laws_FnTablesLead.l0] at h⟩
 | k + 1 => by
  obtain ⟨ih0, ih1, ih2, ih3, ih4, ih5, ih6, ih7⟩ := laws_FnTablesLead.mono_l k
  refine ⟨?_, ?_, ?_, ?_, ?_, ?_, ?_, ?_⟩
  all_goals (intros; first | unfold laws_FnTablesLead.j0 | unfold laws_FnTablesLead.j2 | unfold laws_FnTablesLead.j3 | unfold laws_FnTablesLead.j5 | unfold laws_FnTablesLead.l2 | unfold laws_FnTablesLead.l3 | unfold laws_FnTablesLead.l1 | unfold laws_FnTablesLead.l0)
  all_goals repeat' with_reducible first | apply ih0 | apply ih1 | apply ih2 | apply ih3 | apply ih4 | apply ih5 | apply ih6 | apply ih7 | apply impl_CyclesOfTable.mono | apply impl_DepthOfTable.mono | apply impl_LeadOfPoint.mono | apply impl_PointsHit.mono | apply impl_TimesAfter.mono | apply impl_TimesPoint.mono | apply impl_TimesRow.mono | apply laws_gHas.mono | apply laws_gRises.mono | apply laws_gRows.mono | apply laws_gSame.mono | apply spec_CyclesOfTable.mono | apply spec_DepthOfTable.mono | apply spec_FixedPoints.mono | apply spec_LeadOfPoint.mono | apply spec_LinesTo.mono | apply spec_PointsHit.mono | apply spec_TimesAfter.mono | apply spec_TimesRow.mono | exact LeO.refl _ | exact LeO.none _ | refine LeO.ite ?_ ?_ | refine LeO.bind ?_ (fun _ => ?_)
theorem laws_FnTablesLead.mono : ∀ a0 a1 k, LeO (laws_FnTablesLead.f k a0 a1) (laws_FnTablesLead.f (k + 1) a0 a1) := by
 intro a0 a1 k
 obtain ⟨ih0, ih1, ih2, ih3, ih4, ih5, ih6, ih7⟩ := laws_FnTablesLead.mono_l k
 unfold laws_FnTablesLead.f
 repeat' with_reducible first | apply ih0 | apply ih1 | apply ih2 | apply ih3 | apply ih4 | apply ih5 | apply ih6 | apply ih7 | apply impl_CyclesOfTable.mono | apply impl_DepthOfTable.mono | apply impl_LeadOfPoint.mono | apply impl_PointsHit.mono | apply impl_TimesAfter.mono | apply impl_TimesPoint.mono | apply impl_TimesRow.mono | apply laws_gHas.mono | apply laws_gRises.mono | apply laws_gRows.mono | apply laws_gSame.mono | apply spec_CyclesOfTable.mono | apply spec_DepthOfTable.mono | apply spec_FixedPoints.mono | apply spec_LeadOfPoint.mono | apply spec_LinesTo.mono | apply spec_PointsHit.mono | apply spec_TimesAfter.mono | apply spec_TimesRow.mono | exact LeO.refl _ | exact LeO.none _ | refine LeO.ite ?_ ?_ | refine LeO.bind ?_ (fun _ => ?_)
def laws_FnTablesLead.T49 : Bool × List (List Nat × List Nat) := (true, [([], []), ([0], [0]), ([1], [1]), ([], []), ([], []), ([3, 4], [3, 4]), ([2, 5], [2, 5]), ([6, 5], [6]), ([7], [7]), ([7], [7]), ([8, 9, 7, 7], [7, 8, 9]), ([7], [7]), ([7], [7]), ([11, 12, 7], [7, 11, 12]), ([13, 7], [7, 13]), ([7], [7]), ([14, 15, 7], [7, 14, 15]), ([10, 16, 7], [7, 10, 16]), ([7, 17], [7, 17]), ([18, 10], [18]), ([19], [19]), ([19], [19]), ([20, 21, 19, 19], [19, 20, 21]), ([22, 22, 19], [19, 22]), ([23], [23]), ([24, 23], [23, 24]), ([25, 23, 23], [23, 25]), ([26], [26]), ([27, 26], [26, 27]), ([26, 28, 23], [23, 26, 28]), ([23, 29, 19], [19, 23, 29]), ([19, 30], [19, 30])])
def laws_FnTablesLead.B49 : List Nat := [0, 1, 3, 0, 0, 24, 63, 127, 255, 255, 1023, 255, 255, 6399, 14591, 255, 63743, 131071, 262143, 524287, 1048575, 1048575, 4194303, 8388607, 16777215, 33554431, 67108863, 134217727, 268435455, 536870911, 1073741823, 2147483647]
theorem laws_FnTablesLead.tab49 : rtab .any (opsOf Try.f3 49) = laws_FnTablesLead.T49 := by kernel_rfl
theorem laws_FnTablesLead.bits49 : waitsOk laws_FnTablesLead.T49.2 laws_FnTablesLead.B49 = true := by kernel_rfl
def laws_FnTablesLead.T61 : Bool × List (List Nat × List Nat) := (true, [([], []), ([0], [0]), ([1], [1]), ([2], [2]), ([3], [3]), ([4, 3], [3, 4]), ([5, 3, 3], [3, 5]), ([6], [6]), ([6], [6]), ([8, 6], [6, 8]), ([7, 9, 6], [6, 7, 9]), ([10, 6], [6, 10]), ([11, 6], [6, 11]), ([12, 6], [6, 12]), ([6], [6]), ([14, 6], [6, 14]), ([15, 6], [6, 15]), ([13, 16, 6], [6, 13, 16]), ([6, 17, 3], [3, 6, 17]), ([3, 18], [3, 18])])
def laws_FnTablesLead.B61 : List Nat := [0, 1, 3, 7, 15, 31, 63, 127, 127, 383, 1023, 2047, 4095, 8191, 127, 16511, 49279, 131071, 262143, 524287]
theorem laws_FnTablesLead.tab61 : rtab .any (opsOf Try.f3 61) = laws_FnTablesLead.T61 := by kernel_rfl
theorem laws_FnTablesLead.bits61 : waitsOk laws_FnTablesLead.T61.2 laws_FnTablesLead.B61 = true := by kernel_rfl
def laws_FnTablesLead.T66 : Bool × List (List Nat × List Nat) := (true, [([], []), ([], []), ([1], [1]), ([2], [2]), ([0, 3], [0, 3]), ([4], [4]), ([5], [5]), ([5], [5]), ([6, 7, 5], [5, 6, 7]), ([8, 5], [5, 8]), ([5], [5]), ([5], [5]), ([11, 5], [5, 11]), ([5], [5]), ([13, 5], [5, 13]), ([12, 14, 5], [5, 12, 14]), ([10, 15, 5], [5, 10, 15]), ([16, 5], [5, 16]), ([9, 17, 5], [5, 9, 17]), ([5, 18], [5, 18])])
def laws_FnTablesLead.B66 : List Nat := [0, 0, 2, 6, 15, 31, 63, 63, 255, 511, 63, 63, 2111, 63, 8255, 30783, 64575, 130111, 262143, 524287]
theorem laws_FnTablesLead.tab66 : rtab .any (opsOf Try.f3 66) = laws_FnTablesLead.T66 := by kernel_rfl
theorem laws_FnTablesLead.bits66 : waitsOk laws_FnTablesLead.T66.2 laws_FnTablesLead.B66 = true := by kernel_rfl
set_option maxHeartbeats 80000000 in
set_option maxRecDepth 100000 in
theorem laws_FnTablesLead.calls (k : Nat) (A0 : Option Addr) (c0 : Nat) (l0 : List Int) (A1 : Option Addr) (c1 : Nat) (l1 : List Int) (r : Bool) (w : World) (hr0 : Kd.C (Kd.int .u8) w A0 l0.length l0) (hc0 : l0.length ≤ c0) (hr1 : Kd.C (Kd.int .u8) w A1 l1.length l1) (hc1 : l1.length ≤ c1) (h : laws_FnTablesLead.f k l0 l1 = some r) :
  Calls Try.prog 3 #[.slice A0 l0.length c0, .slice A1 l1.length c1] w fun e w' => e = .returned (.bool r) ∧ Below w.heap.size w w' := by
 have HR0 := Aside0.mk hr0
 have HC0 := Aside0.mk hc0
 clear hr0 hc0
 have HR1 := Aside0.mk hr1
 have HC1 := Aside0.mk hc1
 clear hr1 hc1
 have HB := Aside0.mk (Below.refl w.heap.size w)
 have H : ((laws_big.f l0 l1).bind fun t302 => (if t302 = true then (some true) else ((spec_DrawTimesAfter.f l0).bind fun bt303 => ((impl_TimesAfter.f k bt303.1 bt303.2.1 bt303.2.2.1 bt303.2.2.2).bind fun bt307 => ((spec_TimesAfter.f k bt303.1 bt303.2.1 bt303.2.2.1 bt303.2.2.2).bind fun bt309 => (if (bt307.2 != bt309.2) = true then (none) else (if bt307.1 = bt309.1 then (if bt307.2 = true then (laws_FnTablesLead.j0 k l1 bt303.1 bt303.2.1 bt303.2.2.1 bt303.2.2.2 bt307.1 (decide (bt303.2.2.2 ≤ 100))) else (laws_FnTablesLead.j0 k l1 bt303.1 bt303.2.1 bt303.2.2.1 bt303.2.2.2 bt307.1 false)) else (none)))))))) = some r := h
 clear h
 replace H := Option.bind_eq_some_iff.mp H
 obtain ⟨t302, A30, H⟩ := H
 (try dsimp only at H)
 have A3 := Aside0.mk A30
 clear A30
 by_cases c4 : t302 = true
 ·as_aux_lemma =>
  subst c4
  rw [if_pos rfl] at H
  obtain rfl := Option.some.inj H
  go_enter Try.func3, Try.ntmps3
  go_wp2_with (first | ((with_reducible refine gate_callee (f := 4) rfl ?_); refine gl_ (some 64) Try.func4 #[.slice A0 l0.length c0, .slice A1 l1.length c1] ?_; (with_reducible refine (laws_big.calls _ _ l0 _ _ l1 true _ ?side1 ?side2 ?side3 ?side4 A3.out).mono ?_); (case side1 => exact cu_ HR0.out); (case side2 => exact HC0.out); (case side3 => exact cu_ HR1.out); (case side4 => exact HC1.out); rintro e w' ⟨rfl, ⟨nd, rfl⟩⟩; refine ⟨_, rfl, ?_⟩))
  go_ret
  exact ⟨by first | rfl | (simp [errW_none, errW_some] <;> rfl) | (simp [*, errW_none, errW_some] <;> rfl), bb_⟩
 ·replace c4 := Bool.eq_false_iff.mpr c4
  subst c4
  rw [if_neg (show ¬ (false = true) by decide)] at H
  replace H := Option.bind_eq_some_iff.mp H
  obtain ⟨⟨t303, t304, t305, t306⟩, A50, H⟩ := H
  (try dsimp only at H)
  have A5 := Aside0.mk A50
  clear A50
  replace H := Option.bind_eq_some_iff.mp H
  obtain ⟨⟨t307, t308⟩, A60, H⟩ := H
  (try dsimp only at H)
  have A6 := Aside0.mk A60
  clear A60
  replace H := Option.bind_eq_some_iff.mp H
  obtain ⟨⟨t309, t310⟩, A70, H⟩ := H
  (try dsimp only at H)
  have A7 := Aside0.mk A70
  clear A70
  by_cases c8 : (t308 != t310) = true
  ·rw [if_pos c8] at H
   exact absurd H (by simp)
  ·rw [if_neg c8] at H
   have c8b0 : (t308 != t310) = false := by simpa using c8
   (try (have c8b1 : decide (t308 = t310) = true := by simpa using c8))
   (try (have c8b2 : (t308 == t310) = true := by simpa using c8))
   clear c8
   by_cases c9 : t307 = t309
   rotate_left
   ·rw [if_neg c9] at H
    exact absurd H (by simp)

   as_aux_lemma =>
   rw [if_pos c9] at H
   have c9b0 : (t307 == t309) = true := beq_iff_eq.mpr c9
   have c9b1 : (t307 != t309) = false := bne_eq_false_iff_eq.mpr c9
   clear c9
   have HC10 := Aside0.mk H
   clear H
   go_enter Try.func3, Try.ntmps3
   go_upto_region 8 with (first | ((with_reducible refine gate_callee (f := 4) rfl ?_); refine gl_ (some 64) Try.func4 #[.slice A0 l0.length c0, .slice A1 l1.length c1] ?_; (with_reducible refine (laws_big.calls _ _ l0 _ _ l1 false _ ?side1 ?side2 ?side3 ?side4 A3.out).mono ?_); (case side1 => exact cu_ HR0.out); (case side2 => exact HC0.out); (case side3 => exact cu_ HR1.out); (case side4 => exact HC1.out); rintro e w' ⟨rfl, ⟨nd, rfl⟩⟩; refine ⟨_, rfl, ?_⟩) | ((with_reducible refine gate_callee (f := 5) rfl ?_); refine gl_ (some 67) Try.func5 #[.slice A0 l0.length c0] ?_; (with_reducible refine (spec_DrawTimesAfter.calls _ _ l0 t303 t304 t305 t306 _ ?side1 ?side2 A5.out).mono ?_); (case side1 => exact cu_ HR0.out); (case side2 => exact HC0.out); rintro e w11 ⟨rfl, hb⟩; refine ⟨_, rfl, ?_⟩; have n0_ := Aside0.mk (bs_ hb); clear HB; have HB := n0_; clear n0_; (try clear hb)) | ((with_reducible refine gate_callee (f := 6) rfl ?_); refine gl_ (some 77) Try.func6 #[.int .i64 t303, .int .i64 t304, .int .i64 t305, .int .i64 t306] ?_; (with_reducible refine (impl_TimesAfter.calls k t303 t304 t305 t306 t307 t308 _ A6.out).mono ?_); rintro e w12 ⟨rfl, hb⟩; refine ⟨_, rfl, ?_⟩; have n0_ := Aside0.mk (bs_ hb); clear HB; have HB := n0_; clear n0_; (try clear hb)) | ((with_reducible refine gate_callee (f := 7) rfl ?_); refine gl_ (some 85) Try.func7 #[.int .i64 t303, .int .i64 t304, .int .i64 t305, .int .i64 t306] ?_; (with_reducible refine (spec_TimesAfter.calls k t303 t304 t305 t306 t309 t310 _ A7.out).mono ?_); rintro e w' ⟨rfl, ⟨nd, rfl⟩⟩; refine ⟨_, rfl, ?_⟩))
   (try simp only [Act.put, sa_, sb_, sc_])
   go_cut [100] from 100000 to 100000 (fun v100 wc => ∃ (kq : Nat) (x100_9 : Bool), v100 = .bool x100_9 ∧ Aside0 (laws_FnTablesLead.j0 kq l1 t303 t304 t305 t306 t307 x100_9 = some r) ∧ Aside0 (kq ≤ k) ∧ Aside0 (Below w.heap.size w wc))
   case first =>
    as_aux_lemma =>
    have H := HC10.out
    clear HC10
    by_cases c13 : t308 = true
    ·as_aux_lemma =>
     subst c13
     rw [if_pos rfl] at H
     have H' := Aside0.mk H
     clear H
     go_wp2
     go_meet
     case rel => exact ⟨_, (decide (t306 ≤ 100)), (by first | rfl | (simp; done) | (simp [*]; done)), H', ⟨by first | omega | exact Nat.le_refl _⟩, ⟨bb_⟩⟩
    ·as_aux_lemma =>
     replace c13 := Bool.eq_false_iff.mpr c13
     subst c13
     rw [if_neg (show ¬ (false = true) by decide)] at H
     have H' := Aside0.mk H
     clear H
     go_wp2
     go_meet
     case rel => exact ⟨_, (false), (by first | rfl | (simp; done) | (simp [*]; done)), H', ⟨by first | omega | exact Nat.le_refl _⟩, ⟨bb_⟩⟩
   case rest =>
    as_aux_lemma =>
    clear HC10
    (try clear c1); (try clear p2); (try clear c3); (try clear c4); (try clear c5); (try clear c6); (try clear c7); (try clear c8); (try clear c8b0); (try clear c8b1); (try clear c8b2); (try clear c9); (try clear c9b0); (try clear c9b1); (try clear c13)
    obtain ⟨kq, x100_9, rfl, HA, HJ9, HB⟩ := hcut
    cases kq with
    | zero => exact absurd HA.out (by simp [laws_FnTablesLead.j0])
    | succ kj9 =>
     have H := HA.out
     clear HA
     simp only [laws_FnTablesLead.j0] at H
     have HC14 := Aside0.mk H
     clear H
     go_upto_if 100 with (fail)
     go_cut [] from 100000 to 100000 (fun wc => ∃ (kq : Nat), Aside0 (laws_FnTablesLead.j2 kq l1 = some r) ∧ Aside0 (kq ≤ kj9) ∧ Aside0 (Below w.heap.size w wc))
     case first =>
      as_aux_lemma =>
      have H := HC14.out
      clear HC14
      by_cases c15 : x100_9 = true
      ·as_aux_lemma =>
       subst c15
       rw [if_pos rfl] at H
       have H' := Aside0.mk H
       clear H
       go_wp2
       go_loopg [13, 14] kj9 (fun kq v13 v14 w' => ∃ (x13_2 : Int) (x14_2 : Int), v13 = .int .i64 x13_2 ∧ v14 = .int .i64 x14_2 ∧ Aside0 (laws_FnTablesLead.l0 kq l1 t303 t304 t306 t307 x13_2 x14_2 = some r) ∧ Aside0 (kq ≤ kj9) ∧ Aside0 (Below w.heap.size w w'))
       case atStart => exact ⟨(t305), (0), (by first | rfl | (simp; done) | (simp [*]; done)), (by first | rfl | (simp; done) | (simp [*]; done)), H', ⟨Nat.le_refl _⟩, ⟨bb_⟩⟩
       case round =>
        as_aux_lemma =>
        clear H'
        (try clear c1); (try clear p2); (try clear c3); (try clear c4); (try clear c5); (try clear c6); (try clear c7); (try clear c8); (try clear c8b0); (try clear c8b1); (try clear c8b2); (try clear c9); (try clear c9b0); (try clear c9b1); (try clear c13); (try clear c15); (try clear p2)
        obtain ⟨x13_2, x14_2, rfl, rfl, HA, HK2, HB⟩ := hrel
        cases gk with
        | zero => exact absurd HA.out (by simp [laws_FnTablesLead.l0])
        | succ k2 =>
         have H := HA.out
         clear HA
         simp only [laws_FnTablesLead.l0] at H
         by_cases c16 : x14_2 < t306
         ·rw [if_pos c16] at H
          have c16b0 : decide (x14_2 < t306) = true := decide_eq_true c16
          clear c16
          (first | rw [c16b0] | (simp only [i64_w, i32_w]; rw [c16b0]) | skip)
          replace H := Option.bind_eq_some_iff.mp H
          obtain ⟨⟨t311, t312⟩, A170, H⟩ := H
          (try dsimp only at H)
          have A17 := Aside0.mk A170
          clear A170
          by_cases c18 : t312 = true
          ·as_aux_lemma =>
           subst c18
           rw [if_pos rfl] at H
           have H' := Aside0.mk H
           clear H
           go_wp2_with (first | ((with_reducible refine gate_callee (f := 8) rfl ?_); refine gl_ (some 111) Try.func8 #[.int .i64 t303, .int .i64 t304, .int .i64 x13_2] ?_; (with_reducible refine (impl_TimesPoint.calls k2 t303 t304 x13_2 t311 true _ A17.out).mono ?_); rintro e w19 ⟨rfl, hb⟩; refine ⟨_, rfl, ?_⟩; have n0_ := Aside0.mk (bs_ hb); clear HB; have HB := n0_; clear n0_; (try clear hb)))
           go_roundg k2
           case measure => have := HJ9.out; have := HK2.out; omega
           case rel => exact ⟨(t311), (wrap64 (x14_2 + 1)), (by first | rfl | (simp; done) | (simp [*]; done)), (by first | rfl | (simp; done) | (simp [*]; done)), H', ⟨by have := HJ9.out; have := HK2.out; omega⟩, ⟨bb_⟩⟩
          ·replace c18 := Bool.eq_false_iff.mpr c18
           subst c18
           rw [if_neg (show ¬ (false = true) by decide)] at H
           exact absurd H (by simp)
         ·rw [if_neg c16] at H
          have c16b0 : decide (x14_2 < t306) = false := decide_eq_false c16
          clear c16
          (first | rw [c16b0] | (simp only [i64_w, i32_w]; rw [c16b0]) | skip)
          by_cases c20 : x13_2 = t307
          ·as_aux_lemma =>
           rw [if_pos c20] at H
           have c20b0 : (x13_2 == t307) = true := beq_iff_eq.mpr c20
           have c20b1 : (x13_2 != t307) = false := bne_eq_false_iff_eq.mpr c20
           clear c20
           have H' := Aside0.mk H
           clear H
           go_wp2
           go_meet
           case rel => exact ⟨_, H', ⟨by have := HJ9.out; have := HK2.out; first | omega | exact Nat.le_refl _⟩, ⟨bb_⟩⟩
          ·rw [if_neg c20] at H
           exact absurd H (by simp)
      ·as_aux_lemma =>
       replace c15 := Bool.eq_false_iff.mpr c15
       subst c15
       rw [if_neg (show ¬ (false = true) by decide)] at H
       have H' := Aside0.mk H
       clear H
       go_wp2
       go_meet
       case rel => exact ⟨_, H', ⟨by have := HJ9.out; first | omega | exact Nat.le_refl _⟩, ⟨bb_⟩⟩
     case rest =>
      as_aux_lemma =>
      clear HC14
      (try clear c1); (try clear c2); (try clear p2); (try clear c3); (try clear c4); (try clear c5); (try clear c6); (try clear p6); (try clear c7); (try clear c8); (try clear c8b0); (try clear c8b1); (try clear c8b2); (try clear c9); (try clear c9b0); (try clear c9b1); (try clear c13); (try clear c15); (try clear c16); (try clear c16b0); (try clear c18); (try clear c20); (try clear c20b0); (try clear c20b1); (try clear p2)
      obtain ⟨kq, HA, HJ13, HB⟩ := hcut
      cases kq with
      | zero => exact absurd HA.out (by simp [laws_FnTablesLead.j2])
      | succ kj13 =>
       have H := HA.out
       clear HA
       simp only [laws_FnTablesLead.j2] at H
       replace H := Option.bind_eq_some_iff.mp H
       obtain ⟨⟨t313, t314, t315⟩, A210, H⟩ := H
       (try dsimp only at H)
       have A21 := Aside0.mk A210
       clear A210
       replace H := Option.bind_eq_some_iff.mp H
       obtain ⟨⟨t316, t317, t318⟩, A220, H⟩ := H
       (try dsimp only at H)
       have A22 := Aside0.mk A220
       clear A220
       replace H := Option.bind_eq_some_iff.mp H
       obtain ⟨⟨t319, t320, t321⟩, A230, H⟩ := H
       (try dsimp only at H)
       have A23 := Aside0.mk A230
       clear A230
       replace H := Option.bind_eq_some_iff.mp H
       obtain ⟨⟨t322, t323⟩, A240, H⟩ := H
       (try dsimp only at H)
       have A24 := Aside0.mk A240
       clear A240
       replace H := Option.bind_eq_some_iff.mp H
       obtain ⟨⟨t326, t327⟩, A250, H⟩ := H
       (try dsimp only at H)
       have A25 := Aside0.mk A250
       clear A250
       replace H := Option.bind_eq_some_iff.mp H
       obtain ⟨⟨t330, t331⟩, A260, H⟩ := H
       (try dsimp only at H)
       have A26 := Aside0.mk A260
       clear A260
       replace H := Option.bind_eq_some_iff.mp H
       obtain ⟨⟨t334, t335⟩, A270, H⟩ := H
       (try dsimp only at H)
       have A27 := Aside0.mk A270
       clear A270
       replace H := Option.bind_eq_some_iff.mp H
       obtain ⟨⟨t338, t339⟩, A280, H⟩ := H
       (try dsimp only at H)
       have A28 := Aside0.mk A280
       clear A280
       replace H := Option.bind_eq_some_iff.mp H
       obtain ⟨⟨t342, t343⟩, A290, H⟩ := H
       (try dsimp only at H)
       have A29 := Aside0.mk A290
       clear A290
       replace H := Option.bind_eq_some_iff.mp H
       obtain ⟨⟨t346, t347⟩, A300, H⟩ := H
       (try dsimp only at H)
       have A30 := Aside0.mk A300
       clear A300
       replace H := Option.bind_eq_some_iff.mp H
       obtain ⟨⟨t350, t351⟩, A310, H⟩ := H
       (try dsimp only at H)
       have A31 := Aside0.mk A310
       clear A310
       replace H := Option.bind_eq_some_iff.mp H
       obtain ⟨⟨t354, t355⟩, A320, H⟩ := H
       (try dsimp only at H)
       have A32 := Aside0.mk A320
       clear A320
       replace H := Option.bind_eq_some_iff.mp H
       obtain ⟨⟨t356, t357⟩, A330, H⟩ := H
       (try dsimp only at H)
       have A33 := Aside0.mk A330
       clear A330
       replace H := Option.bind_eq_some_iff.mp H
       obtain ⟨⟨t358, t359⟩, A340, H⟩ := H
       (try dsimp only at H)
       have A34 := Aside0.mk A340
       clear A340
       replace H := Option.bind_eq_some_iff.mp H
       obtain ⟨⟨t362, t363⟩, A350, H⟩ := H
       (try dsimp only at H)
       have A35 := Aside0.mk A350
       clear A350
       have HC36 := Aside0.mk H
       clear H
       go_upto_region 34 with (first | ((with_reducible refine gate_callee (f := 9) rfl ?_); refine gl_ (some 122) Try.func9 #[.slice A1 l1.length c1] ?_; (with_reducible refine (spec_DrawLeadOfPoint.calls _ _ l1 t313 t314 t315 _ ?side1 ?side2 A21.out).mono ?_); (case side1 => repeat (first | exact (Kd.C_below HR1.out HB.out) | (with_reducible refine Kd.C_alloc ?_ _) | (with_reducible refine Kd.C_drewN ?_ _) | (with_reducible refine Kd.C_drew ?_))); (case side2 => exact HC1.out); rintro e w37 ⟨rfl, hb⟩; refine ⟨_, rfl, ?_⟩; have n0_ := Aside0.mk (bs_ hb); clear HB; have HB := n0_; clear n0_; (try clear hb)) | ((with_reducible refine gate_callee (f := 10) rfl ?_); refine gl_ (some 130) Try.func10 #[.int .i64 t313, .int .i64 t314, .int .i64 t315] ?_; (with_reducible refine (impl_LeadOfPoint.calls kj13 t313 t314 t315 t316 t317 t318 _ A22.out).mono ?_); rintro e w38 ⟨rfl, hb⟩; refine ⟨_, rfl, ?_⟩; have n0_ := Aside0.mk (bs_ hb); clear HB; have HB := n0_; clear n0_; (try clear hb)) | ((with_reducible refine gate_callee (f := 11) rfl ?_); refine gl_ (some 138) Try.func11 #[.int .i64 t313, .int .i64 t314, .int .i64 t315] ?_; (with_reducible refine (spec_LeadOfPoint.calls kj13 t313 t314 t315 t319 t320 t321 _ A23.out).mono ?_); rintro e w39 ⟨rfl, hb⟩; refine ⟨_, rfl, ?_⟩; have n0_ := Aside0.mk (bs_ hb); clear HB; have HB := n0_; clear n0_; (try clear hb)) | ((with_reducible refine gate_callee (f := 12) rfl ?_); refine gl_ (some 146) Try.func12 #[.int .i64 t313, .int .i64 t314, .int .i64 t315] ?_; (with_reducible refine (impl_LinesTo.calls t313 t314 t315 t322 t323 _ A24.out).mono ?_); rintro e w40 ⟨v324, rfl, ho0, hb⟩; refine ⟨_, rfl, ?_⟩; have n0_ := Aside0.mk (Kd.R_lower ho0 bz_); have n1_ := Aside0.mk (bs_ hb); clear HB; have HO325 := n0_; have HB := n1_; clear n0_ n1_; (try clear hb); (try clear ho0)) | ((with_reducible refine gate_callee (f := 13) rfl ?_); refine gl_ (some 153) Try.func13 #[.int .i64 t313, .int .i64 t314, .int .i64 t315] ?_; (with_reducible refine (spec_LinesTo.calls kj13 t313 t314 t315 t326 t327 _ A25.out).mono ?_); rintro e w41 ⟨v328, rfl, ho0, hb⟩; refine ⟨_, rfl, ?_⟩; have n0_ := Aside0.mk (Kd.R_elder' (ru_ HO325.out) (Kd.R_base ho0) hb); have n1_ := Aside0.mk (Kd.R_lower (Kd.R_new' ho0 (Kd.R_lt (ru_ HO325.out))) bz_); have n2_ := Aside0.mk (bs_ hb); clear HO325; clear HB; have HO325 := n0_; have HO329 := n1_; have HB := n2_; clear n0_ n1_ n2_; (try clear hb); (try clear ho0)) | ((with_reducible refine gate_callee (f := 14) rfl ?_); refine gl_ (some 159) Try.func14 #[.int .i64 t313, .int .i64 t314] ?_; (with_reducible refine (impl_TimesRow.calls kj13 t313 t314 t330 t331 _ A26.out).mono ?_); rintro e w42 ⟨v332, rfl, ho0, hb⟩; refine ⟨_, rfl, ?_⟩; have n0_ := Aside0.mk (Kd.R_elder' (ru_ HO325.out) (Kd.R_base ho0) hb); have n1_ := Aside0.mk (Kd.R_elder' (ru_ HO329.out) (Kd.R_base ho0) hb); have n2_ := Aside0.mk (Kd.R_lower (Kd.R_new' (Kd.R_new' ho0 (Kd.R_lt (ru_ HO325.out))) (Kd.R_lt (ru_ HO329.out))) bz_); have n3_ := Aside0.mk (bs_ hb); clear HO325; clear HO329; clear HB; have HO325 := n0_; have HO329 := n1_; have HO333 := n2_; have HB := n3_; clear n0_ n1_ n2_ n3_; (try clear hb); (try clear ho0)) | ((with_reducible refine gate_callee (f := 15) rfl ?_); refine gl_ (some 165) Try.func15 #[.int .i64 t313, .int .i64 t314] ?_; (with_reducible refine (spec_TimesRow.calls kj13 t313 t314 t334 t335 _ A27.out).mono ?_); rintro e w43 ⟨v336, rfl, ho0, hb⟩; refine ⟨_, rfl, ?_⟩; have n0_ := Aside0.mk (Kd.R_elder' (ru_ HO325.out) (Kd.R_base ho0) hb); have n1_ := Aside0.mk (Kd.R_elder' (ru_ HO329.out) (Kd.R_base ho0) hb); have n2_ := Aside0.mk (Kd.R_elder' (ru_ HO333.out) (Kd.R_base ho0) hb); have n3_ := Aside0.mk (Kd.R_lower (Kd.R_new' (Kd.R_new' (Kd.R_new' ho0 (Kd.R_lt (ru_ HO325.out))) (Kd.R_lt (ru_ HO329.out))) (Kd.R_lt (ru_ HO333.out))) bz_); have n4_ := Aside0.mk (bs_ hb); clear HO325; clear HO329; clear HO333; clear HB; have HO325 := n0_; have HO329 := n1_; have HO333 := n2_; have HO337 := n3_; have HB := n4_; clear n0_ n1_ n2_ n3_ n4_; (try clear hb); (try clear ho0)) | ((with_reducible refine gate_callee (f := 16) rfl ?_); refine gl_ (some 171) Try.func16 #[.int .i64 t313, .int .i64 t314] ?_; (with_reducible refine (impl_FixedPoints.calls t313 t314 t338 t339 _ A28.out).mono ?_); rintro e w44 ⟨v340, rfl, ho0, hb⟩; refine ⟨_, rfl, ?_⟩; have n0_ := Aside0.mk (Kd.R_elder' (ru_ HO325.out) (Kd.R_base ho0) hb); have n1_ := Aside0.mk (Kd.R_elder' (ru_ HO329.out) (Kd.R_base ho0) hb); have n2_ := Aside0.mk (Kd.R_elder' (ru_ HO333.out) (Kd.R_base ho0) hb); have n3_ := Aside0.mk (Kd.R_elder' (ru_ HO337.out) (Kd.R_base ho0) hb); have n4_ := Aside0.mk (Kd.R_lower (Kd.R_new' (Kd.R_new' (Kd.R_new' (Kd.R_new' ho0 (Kd.R_lt (ru_ HO325.out))) (Kd.R_lt (ru_ HO329.out))) (Kd.R_lt (ru_ HO333.out))) (Kd.R_lt (ru_ HO337.out))) bz_); have n5_ := Aside0.mk (bs_ hb); clear HO325; clear HO329; clear HO333; clear HO337; clear HB; have HO325 := n0_; have HO329 := n1_; have HO333 := n2_; have HO337 := n3_; have HO341 := n4_; have HB := n5_; clear n0_ n1_ n2_ n3_ n4_ n5_; (try clear hb); (try clear ho0)) | ((with_reducible refine gate_callee (f := 17) rfl ?_); refine gl_ (some 177) Try.func17 #[.int .i64 t313, .int .i64 t314] ?_; (with_reducible refine (spec_FixedPoints.calls kj13 t313 t314 t342 t343 _ A29.out).mono ?_); rintro e w45 ⟨v344, rfl, ho0, hb⟩; refine ⟨_, rfl, ?_⟩; have n0_ := Aside0.mk (Kd.R_elder' (ru_ HO325.out) (Kd.R_base ho0) hb); have n1_ := Aside0.mk (Kd.R_elder' (ru_ HO329.out) (Kd.R_base ho0) hb); have n2_ := Aside0.mk (Kd.R_elder' (ru_ HO333.out) (Kd.R_base ho0) hb); have n3_ := Aside0.mk (Kd.R_elder' (ru_ HO337.out) (Kd.R_base ho0) hb); have n4_ := Aside0.mk (Kd.R_elder' (ru_ HO341.out) (Kd.R_base ho0) hb); have n5_ := Aside0.mk (Kd.R_lower (Kd.R_new' (Kd.R_new' (Kd.R_new' (Kd.R_new' (Kd.R_new' ho0 (Kd.R_lt (ru_ HO325.out))) (Kd.R_lt (ru_ HO329.out))) (Kd.R_lt (ru_ HO333.out))) (Kd.R_lt (ru_ HO337.out))) (Kd.R_lt (ru_ HO341.out))) bz_); have n6_ := Aside0.mk (bs_ hb); clear HO325; clear HO329; clear HO333; clear HO337; clear HO341; clear HB; have HO325 := n0_; have HO329 := n1_; have HO333 := n2_; have HO337 := n3_; have HO341 := n4_; have HO345 := n5_; have HB := n6_; clear n0_ n1_ n2_ n3_ n4_ n5_ n6_; (try clear hb); (try clear ho0)) | ((with_reducible refine gate_callee (f := 18) rfl ?_); refine gl_ (some 183) Try.func18 #[.int .i64 t313, .int .i64 t314] ?_; (with_reducible refine (impl_CyclesOfTable.calls kj13 t313 t314 t346 t347 _ A30.out).mono ?_); rintro e w46 ⟨v348, rfl, ho0, hb⟩; refine ⟨_, rfl, ?_⟩; have n0_ := Aside0.mk (Kd.R_below (ru_ HO325.out) hb); have n1_ := Aside0.mk (Kd.R_below (ru_ HO329.out) hb); have n2_ := Aside0.mk (Kd.R_below (ru_ HO333.out) hb); have n3_ := Aside0.mk (Kd.R_below (ru_ HO337.out) hb); have n4_ := Aside0.mk (Kd.R_below (ru_ HO341.out) hb); have n5_ := Aside0.mk (Kd.R_below (ru_ HO345.out) hb); have n6_ := Aside0.mk (Kd.S_lower (Kd.S_new' (Kd.S_new' (Kd.S_new' (Kd.S_new' (Kd.S_new' (Kd.S_new' ho0 (Kd.R_lt (ru_ HO325.out))) (Kd.R_lt (ru_ HO329.out))) (Kd.R_lt (ru_ HO333.out))) (Kd.R_lt (ru_ HO337.out))) (Kd.R_lt (ru_ HO341.out))) (Kd.R_lt (ru_ HO345.out))) bz_); have n7_ := Aside0.mk (bs_ hb); clear HO325; clear HO329; clear HO333; clear HO337; clear HO341; clear HO345; clear HB; have HO325 := n0_; have HO329 := n1_; have HO333 := n2_; have HO337 := n3_; have HO341 := n4_; have HO345 := n5_; have HO349 := n6_; have HB := n7_; clear n0_ n1_ n2_ n3_ n4_ n5_ n6_ n7_; (try clear hb); (try clear ho0)) | ((with_reducible refine gate_callee (f := 19) rfl ?_); refine gl_ (some 189) Try.func19 #[.int .i64 t313, .int .i64 t314] ?_; (with_reducible refine (spec_CyclesOfTable.calls kj13 t313 t314 t350 t351 _ A31.out).mono ?_); rintro e w47 ⟨v352, rfl, ho0, hb⟩; refine ⟨_, rfl, ?_⟩; have n0_ := Aside0.mk (Kd.R_below (ru_ HO325.out) hb); have n1_ := Aside0.mk (Kd.R_below (ru_ HO329.out) hb); have n2_ := Aside0.mk (Kd.R_below (ru_ HO333.out) hb); have n3_ := Aside0.mk (Kd.R_below (ru_ HO337.out) hb); have n4_ := Aside0.mk (Kd.R_below (ru_ HO341.out) hb); have n5_ := Aside0.mk (Kd.R_below (ru_ HO345.out) hb); have n6_ := Aside0.mk (Kd.S_elder' (by (with_reducible repeat (first | apply Kd.S_alloc | apply Kd.S_drewN | apply Kd.S_drew)); exact HO349.out) (Kd.S_base ho0) hb); have n7_ := Aside0.mk (Kd.S_lower (Kd.S_new' (Kd.S_new' (Kd.S_new' (Kd.S_new' (Kd.S_new' (Kd.S_new' (Kd.S_new' ho0 (Kd.R_lt (ru_ HO325.out))) (Kd.R_lt (ru_ HO329.out))) (Kd.R_lt (ru_ HO333.out))) (Kd.R_lt (ru_ HO337.out))) (Kd.R_lt (ru_ HO341.out))) (Kd.R_lt (ru_ HO345.out))) (Kd.S_lt (by (with_reducible repeat (first | apply Kd.S_alloc | apply Kd.S_drewN | apply Kd.S_drew)); exact HO349.out))) bz_); have n8_ := Aside0.mk (bs_ hb); clear HO325; clear HO329; clear HO333; clear HO337; clear HO341; clear HO345; clear HO349; clear HB; have HO325 := n0_; have HO329 := n1_; have HO333 := n2_; have HO337 := n3_; have HO341 := n4_; have HO345 := n5_; have HO349 := n6_; have HO353 := n7_; have HB := n8_; clear n0_ n1_ n2_ n3_ n4_ n5_ n6_ n7_ n8_; (try clear hb); (try clear ho0)) | ((with_reducible refine gate_callee (f := 20) rfl ?_); refine gl_ (some 195) Try.func20 #[.int .i64 t313, .int .i64 t314] ?_; (with_reducible refine (impl_DepthOfTable.calls kj13 t313 t314 t354 t355 _ A32.out).mono ?_); rintro e w48 ⟨rfl, hb⟩; refine ⟨_, rfl, ?_⟩; have n0_ := Aside0.mk (Kd.R_below (ru_ HO325.out) hb); have n1_ := Aside0.mk (Kd.R_below (ru_ HO329.out) hb); have n2_ := Aside0.mk (Kd.R_below (ru_ HO333.out) hb); have n3_ := Aside0.mk (Kd.R_below (ru_ HO337.out) hb); have n4_ := Aside0.mk (Kd.R_below (ru_ HO341.out) hb); have n5_ := Aside0.mk (Kd.R_below (ru_ HO345.out) hb); have n6_ := Aside0.mk (Kd.S_below (by (with_reducible repeat (first | apply Kd.S_alloc | apply Kd.S_drewN | apply Kd.S_drew)); exact HO349.out) hb); have n7_ := Aside0.mk (Kd.S_below (by (with_reducible repeat (first | apply Kd.S_alloc | apply Kd.S_drewN | apply Kd.S_drew)); exact HO353.out) hb); have n8_ := Aside0.mk (bs_ hb); clear HO325; clear HO329; clear HO333; clear HO337; clear HO341; clear HO345; clear HO349; clear HO353; clear HB; have HO325 := n0_; have HO329 := n1_; have HO333 := n2_; have HO337 := n3_; have HO341 := n4_; have HO345 := n5_; have HO349 := n6_; have HO353 := n7_; have HB := n8_; clear n0_ n1_ n2_ n3_ n4_ n5_ n6_ n7_ n8_; (try clear hb)) | ((with_reducible refine gate_callee (f := 21) rfl ?_); refine gl_ (some 201) Try.func21 #[.int .i64 t313, .int .i64 t314] ?_; (with_reducible refine (spec_DepthOfTable.calls kj13 t313 t314 t356 t357 _ A33.out).mono ?_); rintro e w49 ⟨rfl, hb⟩; refine ⟨_, rfl, ?_⟩; have n0_ := Aside0.mk (Kd.R_below (ru_ HO325.out) hb); have n1_ := Aside0.mk (Kd.R_below (ru_ HO329.out) hb); have n2_ := Aside0.mk (Kd.R_below (ru_ HO333.out) hb); have n3_ := Aside0.mk (Kd.R_below (ru_ HO337.out) hb); have n4_ := Aside0.mk (Kd.R_below (ru_ HO341.out) hb); have n5_ := Aside0.mk (Kd.R_below (ru_ HO345.out) hb); have n6_ := Aside0.mk (Kd.S_below (by (with_reducible repeat (first | apply Kd.S_alloc | apply Kd.S_drewN | apply Kd.S_drew)); exact HO349.out) hb); have n7_ := Aside0.mk (Kd.S_below (by (with_reducible repeat (first | apply Kd.S_alloc | apply Kd.S_drewN | apply Kd.S_drew)); exact HO353.out) hb); have n8_ := Aside0.mk (bs_ hb); clear HO325; clear HO329; clear HO333; clear HO337; clear HO341; clear HO345; clear HO349; clear HO353; clear HB; have HO325 := n0_; have HO329 := n1_; have HO333 := n2_; have HO337 := n3_; have HO341 := n4_; have HO345 := n5_; have HO349 := n6_; have HO353 := n7_; have HB := n8_; clear n0_ n1_ n2_ n3_ n4_ n5_ n6_ n7_ n8_; (try clear hb)) | ((with_reducible refine gate_callee (f := 22) rfl ?_); refine gl_ (some 207) Try.func22 #[.int .i64 t313, .int .i64 t314] ?_; (with_reducible refine (impl_PointsHit.calls kj13 t313 t314 t358 t359 _ A34.out).mono ?_); rintro e w50 ⟨v360, rfl, ho0, hb⟩; refine ⟨_, rfl, ?_⟩; have n0_ := Aside0.mk (Kd.R_elder' (ru_ HO325.out) (Kd.R_base ho0) hb); have n1_ := Aside0.mk (Kd.R_elder' (ru_ HO329.out) (Kd.R_base ho0) hb); have n2_ := Aside0.mk (Kd.R_elder' (ru_ HO333.out) (Kd.R_base ho0) hb); have n3_ := Aside0.mk (Kd.R_elder' (ru_ HO337.out) (Kd.R_base ho0) hb); have n4_ := Aside0.mk (Kd.R_elder' (ru_ HO341.out) (Kd.R_base ho0) hb); have n5_ := Aside0.mk (Kd.R_elder' (ru_ HO345.out) (Kd.R_base ho0) hb); have n6_ := Aside0.mk (Kd.S_elder' (by (with_reducible repeat (first | apply Kd.S_alloc | apply Kd.S_drewN | apply Kd.S_drew)); exact HO349.out) (Kd.R_base ho0) hb); have n7_ := Aside0.mk (Kd.S_elder' (by (with_reducible repeat (first | apply Kd.S_alloc | apply Kd.S_drewN | apply Kd.S_drew)); exact HO353.out) (Kd.R_base ho0) hb); have n8_ := Aside0.mk (Kd.R_lower (Kd.R_new' (Kd.R_new' (Kd.R_new' (Kd.R_new' (Kd.R_new' (Kd.R_new' ho0 (Kd.R_lt (ru_ HO325.out))) (Kd.R_lt (ru_ HO329.out))) (Kd.R_lt (ru_ HO333.out))) (Kd.R_lt (ru_ HO337.out))) (Kd.R_lt (ru_ HO341.out))) (Kd.R_lt (ru_ HO345.out))) bz_); have n9_ := Aside0.mk (bs_ hb); clear HO325; clear HO329; clear HO333; clear HO337; clear HO341; clear HO345; clear HO349; clear HO353; clear HB; have HO325 := n0_; have HO329 := n1_; have HO333 := n2_; have HO337 := n3_; have HO341 := n4_; have HO345 := n5_; have HO349 := n6_; have HO353 := n7_; have HO361 := n8_; have HB := n9_; clear n0_ n1_ n2_ n3_ n4_ n5_ n6_ n7_ n8_ n9_; (try clear hb); (try clear ho0)) | ((with_reducible refine gate_callee (f := 23) rfl ?_); refine gl_ (some 213) Try.func23 #[.int .i64 t313, .int .i64 t314] ?_; (with_reducible refine (spec_PointsHit.calls kj13 t313 t314 t362 t363 _ A35.out).mono ?_); rintro e w51 ⟨v364, rfl, ho0, hb⟩; refine ⟨_, rfl, ?_⟩; have n0_ := Aside0.mk (Kd.R_elder' (ru_ HO325.out) (Kd.R_base ho0) hb); have n1_ := Aside0.mk (Kd.R_elder' (ru_ HO329.out) (Kd.R_base ho0) hb); have n2_ := Aside0.mk (Kd.R_elder' (ru_ HO333.out) (Kd.R_base ho0) hb); have n3_ := Aside0.mk (Kd.R_elder' (ru_ HO337.out) (Kd.R_base ho0) hb); have n4_ := Aside0.mk (Kd.R_elder' (ru_ HO341.out) (Kd.R_base ho0) hb); have n5_ := Aside0.mk (Kd.R_elder' (ru_ HO345.out) (Kd.R_base ho0) hb); have n6_ := Aside0.mk (Kd.S_elder' (by (with_reducible repeat (first | apply Kd.S_alloc | apply Kd.S_drewN | apply Kd.S_drew)); exact HO349.out) (Kd.R_base ho0) hb); have n7_ := Aside0.mk (Kd.S_elder' (by (with_reducible repeat (first | apply Kd.S_alloc | apply Kd.S_drewN | apply Kd.S_drew)); exact HO353.out) (Kd.R_base ho0) hb); have n8_ := Aside0.mk (Kd.R_elder' (ru_ HO361.out) (Kd.R_base ho0) hb); have n9_ := Aside0.mk (Kd.R_lower (Kd.R_new' (Kd.R_new' (Kd.R_new' (Kd.R_new' (Kd.R_new' (Kd.R_new' (Kd.R_new' ho0 (Kd.R_lt (ru_ HO325.out))) (Kd.R_lt (ru_ HO329.out))) (Kd.R_lt (ru_ HO333.out))) (Kd.R_lt (ru_ HO337.out))) (Kd.R_lt (ru_ HO341.out))) (Kd.R_lt (ru_ HO345.out))) (Kd.R_lt (ru_ HO361.out))) bz_); have n10_ := Aside0.mk (bs_ hb); clear HO325; clear HO329; clear HO333; clear HO337; clear HO341; clear HO345; clear HO349; clear HO353; clear HO361; clear HB; have HO325 := n0_; have HO329 := n1_; have HO333 := n2_; have HO337 := n3_; have HO341 := n4_; have HO345 := n5_; have HO349 := n6_; have HO353 := n7_; have HO361 := n8_; have HO365 := n9_; have HB := n10_; clear n0_ n1_ n2_ n3_ n4_ n5_ n6_ n7_ n8_ n9_ n10_; (try clear hb); (try clear ho0)))
       (try simp only [Act.put, sa_, sb_, sc_])
       go_cut [325] from 100000 to 100000 (fun v325 wc => ∃ (kq : Nat) (x325_35 : Bool), v325 = .bool x325_35 ∧ Aside0 (laws_FnTablesLead.j3 kq t313 t314 t315 t316 t317 t318 t322 t330 t331 t338 t346 t354 t358 x325_35 = some r) ∧ Aside0 (kq ≤ kj13) ∧ Aside0 (Kd.R (Kd.int .i64) 3 wc w.heap.size (fun k_ => some k_ ≠ (v332 : Value).ownBlock ∧ some k_ ≠ (v340 : Value).ownBlock ∧ some k_ ≠ (v360 : Value).ownBlock) v324 t322) ∧ Aside0 (Kd.R (Kd.int .i64) 3 wc w.heap.size (fun k_ => some k_ ≠ (v324 : Value).ownBlock ∧ some k_ ≠ (v340 : Value).ownBlock ∧ some k_ ≠ (v360 : Value).ownBlock) v332 t330) ∧ Aside0 (Kd.R (Kd.int .i64) 3 wc w.heap.size (fun k_ => some k_ ≠ (v324 : Value).ownBlock ∧ some k_ ≠ (v332 : Value).ownBlock ∧ some k_ ≠ (v360 : Value).ownBlock) v340 t338) ∧ Aside0 (Kd.S (Kd.slice 3 (Kd.int .i64)) 33 wc w.heap.size (fun k_ => some k_ ≠ (v324 : Value).ownBlock ∧ some k_ ≠ (v332 : Value).ownBlock ∧ some k_ ≠ (v340 : Value).ownBlock ∧ some k_ ≠ (v360 : Value).ownBlock) v348 t346) ∧ Aside0 (Kd.R (Kd.int .i64) 3 wc w.heap.size (fun k_ => some k_ ≠ (v324 : Value).ownBlock ∧ some k_ ≠ (v332 : Value).ownBlock ∧ some k_ ≠ (v340 : Value).ownBlock) v360 t358) ∧ Aside0 (Below w.heap.size w wc))
       case first =>
        as_aux_lemma =>
        have H := HC36.out
        clear HC36
        by_cases c52 : (t318 != t321) = true
        ·rw [if_pos c52] at H
         exact absurd H (by simp)
        ·rw [if_neg c52] at H
         have c52b0 : (t318 != t321) = false := by simpa using c52
         (try (have c52b1 : decide (t318 = t321) = true := by simpa using c52))
         (try (have c52b2 : (t318 == t321) = true := by simpa using c52))
         clear c52
         (first | rw [c52b0] | (simp only [i64_w, i32_w]; rw [c52b0]) | skip)
         by_cases c53 : t316 = t319
         ·rw [if_pos c53] at H
          have c53b0 : (t316 == t319) = true := beq_iff_eq.mpr c53
          have c53b1 : (t316 != t319) = false := bne_eq_false_iff_eq.mpr c53
          clear c53
          by_cases c54 : t317 = t320
          ·rw [if_pos c54] at H
           have c54b0 : (t317 == t320) = true := beq_iff_eq.mpr c54
           have c54b1 : (t317 != t320) = false := bne_eq_false_iff_eq.mpr c54
           clear c54
           by_cases c55 : (t323 != t327) = true
           ·rw [if_pos c55] at H
            exact absurd H (by simp)
           ·rw [if_neg c55] at H
            have c55b0 : (t323 != t327) = false := by simpa using c55
            (try (have c55b1 : decide (t323 = t327) = true := by simpa using c55))
            (try (have c55b2 : (t323 == t327) = true := by simpa using c55))
            clear c55
            replace H := Option.bind_eq_some_iff.mp H
            obtain ⟨t366, A560, H⟩ := H
            (try dsimp only at H)
            have A56 := Aside0.mk A560
            clear A560
            by_cases c57 : t366 = true
            ·subst c57
             rw [if_pos rfl] at H
             by_cases c58 : (t331 != t335) = true
             ·rw [if_pos c58] at H
              exact absurd H (by simp)
             ·rw [if_neg c58] at H
              have c58b0 : (t331 != t335) = false := by simpa using c58
              (try (have c58b1 : decide (t331 = t335) = true := by simpa using c58))
              (try (have c58b2 : (t331 == t335) = true := by simpa using c58))
              clear c58
              replace H := Option.bind_eq_some_iff.mp H
              obtain ⟨t367, A590, H⟩ := H
              (try dsimp only at H)
              have A59 := Aside0.mk A590
              clear A590
              by_cases c60 : t367 = true
              ·subst c60
               rw [if_pos rfl] at H
               by_cases c61 : (t339 != t343) = true
               ·rw [if_pos c61] at H
                exact absurd H (by simp)
               ·rw [if_neg c61] at H
                have c61b0 : (t339 != t343) = false := by simpa using c61
                (try (have c61b1 : decide (t339 = t343) = true := by simpa using c61))
                (try (have c61b2 : (t339 == t343) = true := by simpa using c61))
                clear c61
                replace H := Option.bind_eq_some_iff.mp H
                obtain ⟨t368, A620, H⟩ := H
                (try dsimp only at H)
                have A62 := Aside0.mk A620
                clear A620
                by_cases c63 : t368 = true
                ·subst c63
                 rw [if_pos rfl] at H
                 by_cases c64 : (t347 != t351) = true
                 ·rw [if_pos c64] at H
                  exact absurd H (by simp)
                 ·rw [if_neg c64] at H
                  have c64b0 : (t347 != t351) = false := by simpa using c64
                  (try (have c64b1 : decide (t347 = t351) = true := by simpa using c64))
                  (try (have c64b2 : (t347 == t351) = true := by simpa using c64))
                  clear c64
                  replace H := Option.bind_eq_some_iff.mp H
                  obtain ⟨t369, A650, H⟩ := H
                  (try dsimp only at H)
                  have A65 := Aside0.mk A650
                  clear A650
                  by_cases c66 : t369 = true
                  ·subst c66
                   rw [if_pos rfl] at H
                   by_cases c67 : (t355 != t357) = true
                   ·rw [if_pos c67] at H
                    exact absurd H (by simp)
                   ·rw [if_neg c67] at H
                    have c67b0 : (t355 != t357) = false := by simpa using c67
                    (try (have c67b1 : decide (t355 = t357) = true := by simpa using c67))
                    (try (have c67b2 : (t355 == t357) = true := by simpa using c67))
                    clear c67
                    by_cases c68 : t354 = t356
                    ·rw [if_pos c68] at H
                     have c68b0 : (t354 == t356) = true := beq_iff_eq.mpr c68
                     have c68b1 : (t354 != t356) = false := bne_eq_false_iff_eq.mpr c68
                     clear c68
                     by_cases c69 : (t359 != t363) = true
                     ·rw [if_pos c69] at H
                      exact absurd H (by simp)
                     ·rw [if_neg c69] at H
                      have c69b0 : (t359 != t363) = false := by simpa using c69
                      (try (have c69b1 : decide (t359 = t363) = true := by simpa using c69))
                      (try (have c69b2 : (t359 == t363) = true := by simpa using c69))
                      clear c69
                      replace H := Option.bind_eq_some_iff.mp H
                      obtain ⟨t370, A700, H⟩ := H
                      (try dsimp only at H)
                      have A70 := Aside0.mk A700
                      clear A700
                      by_cases c71 : t370 = true
                      ·subst c71
                       rw [if_pos rfl] at H
                       by_cases c72 : (t323 != t318) = true
                       ·rw [if_pos c72] at H
                        exact absurd H (by simp)
                       ·rw [if_neg c72] at H
                        have c72b0 : (t323 != t318) = false := by simpa using c72
                        (try (have c72b1 : decide (t323 = t318) = true := by simpa using c72))
                        (try (have c72b2 : (t323 == t318) = true := by simpa using c72))
                        clear c72
                        by_cases c73 : t318 = true
                        ·subst c73
                         rw [if_pos rfl] at H
                         by_cases c74 : t331 = true
                         ·subst c74
                          rw [if_pos rfl] at H
                          by_cases c75 : (t339 != true) = true
                          ·rw [if_pos c75] at H
                           exact absurd H (by simp)
                          ·rw [if_neg c75] at H
                           have c75b0 : (t339 != true) = false := by simpa using c75
                           (try (have c75b1 : decide (t339 = true) = true := by simpa using c75))
                           (try (have c75b2 : (t339 == true) = true := by simpa using c75))
                           clear c75
                           by_cases c76 : (t347 != true) = true
                           ·rw [if_pos c76] at H
                            exact absurd H (by simp)
                           ·rw [if_neg c76] at H
                            have c76b0 : (t347 != true) = false := by simpa using c76
                            (try (have c76b1 : decide (t347 = true) = true := by simpa using c76))
                            (try (have c76b2 : (t347 == true) = true := by simpa using c76))
                            clear c76
                            by_cases c77 : (t355 != true) = true
                            ·rw [if_pos c77] at H
                             exact absurd H (by simp)
                            ·as_aux_lemma =>
                             rw [if_neg c77] at H
                             have c77b0 : (t355 != true) = false := by simpa using c77
                             (try (have c77b1 : decide (t355 = true) = true := by simpa using c77))
                             (try (have c77b2 : (t355 == true) = true := by simpa using c77))
                             clear c77
                             have H' := Aside0.mk H
                             clear H
                             obtain ⟨Ao78, co78, eo78⟩ := Kd.R_slice HO325.out
                             subst eo78
                             obtain ⟨Ao79, co79, eo79⟩ := Kd.R_slice HO329.out
                             subst eo79
                             go_wp2_with (first | (go_at_call 24; (with_reducible refine (laws_gSame.calls kj13 _ _ t322 _ _ t326 true _ ?side1 ?side2 ?side3 ?side4 A56.out).mono ?_); (case side1 => exact cu_ (Kd.R_reads' HO325.out).2.2); (case side2 => exact (Kd.R_reads' HO325.out).2.1); (case side3 => exact cu_ (Kd.R_reads' HO329.out).2.2); (case side4 => exact (Kd.R_reads' HO329.out).2.1); rintro e w' ⟨rfl, ⟨nd, rfl⟩⟩; obtain ⟨Ao80, co80, eo80⟩ := Kd.R_slice HO333.out; subst eo80; obtain ⟨Ao81, co81, eo81⟩ := Kd.R_slice HO337.out; subst eo81) | (go_at_call 24; (with_reducible refine (laws_gSame.calls kj13 _ _ t330 _ _ t334 true _ ?side1 ?side2 ?side3 ?side4 A59.out).mono ?_); (case side1 => exact cu_ (Kd.R_reads' HO333.out).2.2); (case side2 => exact (Kd.R_reads' HO333.out).2.1); (case side3 => exact cu_ (Kd.R_reads' HO337.out).2.2); (case side4 => exact (Kd.R_reads' HO337.out).2.1); rintro e w' ⟨rfl, ⟨nd, rfl⟩⟩; obtain ⟨Ao82, co82, eo82⟩ := Kd.R_slice HO341.out; subst eo82; obtain ⟨Ao83, co83, eo83⟩ := Kd.R_slice HO345.out; subst eo83) | (go_at_call 24; (with_reducible refine (laws_gSame.calls kj13 _ _ t338 _ _ t342 true _ ?side1 ?side2 ?side3 ?side4 A62.out).mono ?_); (case side1 => exact cu_ (Kd.R_reads' HO341.out).2.2); (case side2 => exact (Kd.R_reads' HO341.out).2.1); (case side3 => exact cu_ (Kd.R_reads' HO345.out).2.2); (case side4 => exact (Kd.R_reads' HO345.out).2.1); rintro e w' ⟨rfl, ⟨nd, rfl⟩⟩; obtain ⟨Ao84, co84, eo84⟩ := Kd.S_slice HO349.out; subst eo84; obtain ⟨Ao85, co85, eo85⟩ := Kd.S_slice HO353.out; subst eo85) | (go_at_call 25; (with_reducible refine (laws_gRows.calls kj13 _ _ t346 _ _ t350 true _ ?side1 ?side2 ?side3 ?side4 A65.out).mono ?_); (case side1 => repeat (first | exact (Kd.S_reads' HO349.out).2.2 | (with_reducible refine Kd.C_alloc ?_ _) | (with_reducible refine Kd.C_drewN ?_ _) | (with_reducible refine Kd.C_drew ?_))); (case side2 => exact (Kd.S_reads' HO349.out).2.1); (case side3 => repeat (first | exact (Kd.S_reads' HO353.out).2.2 | (with_reducible refine Kd.C_alloc ?_ _) | (with_reducible refine Kd.C_drewN ?_ _) | (with_reducible refine Kd.C_drew ?_))); (case side4 => exact (Kd.S_reads' HO353.out).2.1); rintro e w' ⟨rfl, ⟨nd, rfl⟩⟩; obtain ⟨Ao86, co86, eo86⟩ := Kd.R_slice HO361.out; subst eo86; obtain ⟨Ao87, co87, eo87⟩ := Kd.R_slice HO365.out; subst eo87) | (go_at_call 24; (with_reducible refine (laws_gSame.calls kj13 _ _ t358 _ _ t362 true _ ?side1 ?side2 ?side3 ?side4 A70.out).mono ?_); (case side1 => exact cu_ (Kd.R_reads' HO361.out).2.2); (case side2 => exact (Kd.R_reads' HO361.out).2.1); (case side3 => exact cu_ (Kd.R_reads' HO365.out).2.2); (case side4 => exact (Kd.R_reads' HO365.out).2.1); rintro e w' ⟨rfl, ⟨nd, rfl⟩⟩))
                             go_meet
                             case rel => exact ⟨_, ((t359 != true)), (by first | rfl | (simp; done) | (simp [*]; done)), H', ⟨by have := HJ9.out; have := HJ13.out; first | omega | exact Nat.le_refl _⟩, ⟨by (with_reducible repeat (first | apply Kd.R_alloc | apply Kd.R_drewN | apply Kd.R_drew)); exact Kd.R_mono HO325.out (fun _ hk => ⟨hk.1.1.1.1.1.2, ⟨hk.1.1.1.2, hk.1.2⟩⟩)⟩, ⟨by (with_reducible repeat (first | apply Kd.R_alloc | apply Kd.R_drewN | apply Kd.R_drew)); exact Kd.R_mono HO333.out (fun _ hk => ⟨hk.1.1.1.1.1.1.2, ⟨hk.1.1.1.2, hk.1.2⟩⟩)⟩, ⟨by (with_reducible repeat (first | apply Kd.R_alloc | apply Kd.R_drewN | apply Kd.R_drew)); exact Kd.R_mono HO341.out (fun _ hk => ⟨hk.1.1.1.1.1.1.2, ⟨hk.1.1.1.1.2, hk.1.2⟩⟩)⟩, ⟨by (with_reducible repeat (first | apply Kd.S_alloc | apply Kd.S_drewN | apply Kd.S_drew)); exact Kd.S_mono HO349.out (fun _ hk => ⟨hk.1.1.1.1.1.1.1.1.2, ⟨hk.1.1.1.1.1.1.2, ⟨hk.1.1.1.1.2, hk.1.2⟩⟩⟩)⟩, ⟨by (with_reducible repeat (first | apply Kd.R_alloc | apply Kd.R_drewN | apply Kd.R_drew)); exact Kd.R_mono HO361.out (fun _ hk => ⟨hk.1.1.1.1.1.1.2, ⟨hk.1.1.1.1.2, hk.1.1.2⟩⟩)⟩, ⟨bb_⟩⟩
                         ·replace c74 := Bool.eq_false_iff.mpr c74
                          subst c74
                          rw [if_neg (show ¬ (false = true) by decide)] at H
                          exact absurd H (by simp)
                        ·replace c73 := Bool.eq_false_iff.mpr c73
                         subst c73
                         rw [if_neg (show ¬ (false = true) by decide)] at H
                         by_cases c88 : (t339 != t331) = true
                         ·rw [if_pos c88] at H
                          exact absurd H (by simp)
                         ·rw [if_neg c88] at H
                          have c88b0 : (t339 != t331) = false := by simpa using c88
                          (try (have c88b1 : decide (t339 = t331) = true := by simpa using c88))
                          (try (have c88b2 : (t339 == t331) = true := by simpa using c88))
                          clear c88
                          by_cases c89 : (t347 != t331) = true
                          ·rw [if_pos c89] at H
                           exact absurd H (by simp)
                          ·rw [if_neg c89] at H
                           have c89b0 : (t347 != t331) = false := by simpa using c89
                           (try (have c89b1 : decide (t347 = t331) = true := by simpa using c89))
                           (try (have c89b2 : (t347 == t331) = true := by simpa using c89))
                           clear c89
                           by_cases c90 : (t355 != t331) = true
                           ·rw [if_pos c90] at H
                            exact absurd H (by simp)
                           ·as_aux_lemma =>
                            rw [if_neg c90] at H
                            have c90b0 : (t355 != t331) = false := by simpa using c90
                            (try (have c90b1 : decide (t355 = t331) = true := by simpa using c90))
                            (try (have c90b2 : (t355 == t331) = true := by simpa using c90))
                            clear c90
                            have H' := Aside0.mk H
                            clear H
                            obtain ⟨Ao91, co91, eo91⟩ := Kd.R_slice HO325.out
                            subst eo91
                            obtain ⟨Ao92, co92, eo92⟩ := Kd.R_slice HO329.out
                            subst eo92
                            go_wp2_with (first | (go_at_call 24; (with_reducible refine (laws_gSame.calls kj13 _ _ t322 _ _ t326 true _ ?side1 ?side2 ?side3 ?side4 A56.out).mono ?_); (case side1 => exact cu_ (Kd.R_reads' HO325.out).2.2); (case side2 => exact (Kd.R_reads' HO325.out).2.1); (case side3 => exact cu_ (Kd.R_reads' HO329.out).2.2); (case side4 => exact (Kd.R_reads' HO329.out).2.1); rintro e w' ⟨rfl, ⟨nd, rfl⟩⟩; obtain ⟨Ao93, co93, eo93⟩ := Kd.R_slice HO333.out; subst eo93; obtain ⟨Ao94, co94, eo94⟩ := Kd.R_slice HO337.out; subst eo94) | (go_at_call 24; (with_reducible refine (laws_gSame.calls kj13 _ _ t330 _ _ t334 true _ ?side1 ?side2 ?side3 ?side4 A59.out).mono ?_); (case side1 => exact cu_ (Kd.R_reads' HO333.out).2.2); (case side2 => exact (Kd.R_reads' HO333.out).2.1); (case side3 => exact cu_ (Kd.R_reads' HO337.out).2.2); (case side4 => exact (Kd.R_reads' HO337.out).2.1); rintro e w' ⟨rfl, ⟨nd, rfl⟩⟩; obtain ⟨Ao95, co95, eo95⟩ := Kd.R_slice HO341.out; subst eo95; obtain ⟨Ao96, co96, eo96⟩ := Kd.R_slice HO345.out; subst eo96) | (go_at_call 24; (with_reducible refine (laws_gSame.calls kj13 _ _ t338 _ _ t342 true _ ?side1 ?side2 ?side3 ?side4 A62.out).mono ?_); (case side1 => exact cu_ (Kd.R_reads' HO341.out).2.2); (case side2 => exact (Kd.R_reads' HO341.out).2.1); (case side3 => exact cu_ (Kd.R_reads' HO345.out).2.2); (case side4 => exact (Kd.R_reads' HO345.out).2.1); rintro e w' ⟨rfl, ⟨nd, rfl⟩⟩; obtain ⟨Ao97, co97, eo97⟩ := Kd.S_slice HO349.out; subst eo97; obtain ⟨Ao98, co98, eo98⟩ := Kd.S_slice HO353.out; subst eo98) | (go_at_call 25; (with_reducible refine (laws_gRows.calls kj13 _ _ t346 _ _ t350 true _ ?side1 ?side2 ?side3 ?side4 A65.out).mono ?_); (case side1 => repeat (first | exact (Kd.S_reads' HO349.out).2.2 | (with_reducible refine Kd.C_alloc ?_ _) | (with_reducible refine Kd.C_drewN ?_ _) | (with_reducible refine Kd.C_drew ?_))); (case side2 => exact (Kd.S_reads' HO349.out).2.1); (case side3 => repeat (first | exact (Kd.S_reads' HO353.out).2.2 | (with_reducible refine Kd.C_alloc ?_ _) | (with_reducible refine Kd.C_drewN ?_ _) | (with_reducible refine Kd.C_drew ?_))); (case side4 => exact (Kd.S_reads' HO353.out).2.1); rintro e w' ⟨rfl, ⟨nd, rfl⟩⟩; obtain ⟨Ao99, co99, eo99⟩ := Kd.R_slice HO361.out; subst eo99; obtain ⟨Ao100, co100, eo100⟩ := Kd.R_slice HO365.out; subst eo100) | (go_at_call 24; (with_reducible refine (laws_gSame.calls kj13 _ _ t358 _ _ t362 true _ ?side1 ?side2 ?side3 ?side4 A70.out).mono ?_); (case side1 => exact cu_ (Kd.R_reads' HO361.out).2.2); (case side2 => exact (Kd.R_reads' HO361.out).2.1); (case side3 => exact cu_ (Kd.R_reads' HO365.out).2.2); (case side4 => exact (Kd.R_reads' HO365.out).2.1); rintro e w' ⟨rfl, ⟨nd, rfl⟩⟩))
                            go_meet
                            case rel => exact ⟨_, ((t359 != t331)), (by first | rfl | (simp; done) | (simp [*]; done)), H', ⟨by have := HJ9.out; have := HJ13.out; first | omega | exact Nat.le_refl _⟩, ⟨by (with_reducible repeat (first | apply Kd.R_alloc | apply Kd.R_drewN | apply Kd.R_drew)); exact Kd.R_mono HO325.out (fun _ hk => ⟨hk.1.1.1.1.1.2, ⟨hk.1.1.1.2, hk.1.2⟩⟩)⟩, ⟨by (with_reducible repeat (first | apply Kd.R_alloc | apply Kd.R_drewN | apply Kd.R_drew)); exact Kd.R_mono HO333.out (fun _ hk => ⟨hk.1.1.1.1.1.1.2, ⟨hk.1.1.1.2, hk.1.2⟩⟩)⟩, ⟨by (with_reducible repeat (first | apply Kd.R_alloc | apply Kd.R_drewN | apply Kd.R_drew)); exact Kd.R_mono HO341.out (fun _ hk => ⟨hk.1.1.1.1.1.1.2, ⟨hk.1.1.1.1.2, hk.1.2⟩⟩)⟩, ⟨by (with_reducible repeat (first | apply Kd.S_alloc | apply Kd.S_drewN | apply Kd.S_drew)); exact Kd.S_mono HO349.out (fun _ hk => ⟨hk.1.1.1.1.1.1.1.1.2, ⟨hk.1.1.1.1.1.1.2, ⟨hk.1.1.1.1.2, hk.1.2⟩⟩⟩)⟩, ⟨by (with_reducible repeat (first | apply Kd.R_alloc | apply Kd.R_drewN | apply Kd.R_drew)); exact Kd.R_mono HO361.out (fun _ hk => ⟨hk.1.1.1.1.1.1.2, ⟨hk.1.1.1.1.2, hk.1.1.2⟩⟩)⟩, ⟨bb_⟩⟩
                      ·replace c71 := Bool.eq_false_iff.mpr c71
                       subst c71
                       rw [if_neg (show ¬ (false = true) by decide)] at H
                       exact absurd H (by simp)
                    ·rw [if_neg c68] at H
                     exact absurd H (by simp)
                  ·replace c66 := Bool.eq_false_iff.mpr c66
                   subst c66
                   rw [if_neg (show ¬ (false = true) by decide)] at H
                   exact absurd H (by simp)
                ·replace c63 := Bool.eq_false_iff.mpr c63
                 subst c63
                 rw [if_neg (show ¬ (false = true) by decide)] at H
                 exact absurd H (by simp)
              ·replace c60 := Bool.eq_false_iff.mpr c60
               subst c60
               rw [if_neg (show ¬ (false = true) by decide)] at H
               exact absurd H (by simp)
            ·replace c57 := Bool.eq_false_iff.mpr c57
             subst c57
             rw [if_neg (show ¬ (false = true) by decide)] at H
             exact absurd H (by simp)
          ·rw [if_neg c54] at H
           exact absurd H (by simp)
         ·rw [if_neg c53] at H
          exact absurd H (by simp)
       case rest =>
        as_aux_lemma =>
        clear HC36
        (try clear c1); (try clear c2); (try clear p2); (try clear c3); (try clear c4); (try clear c5); (try clear c6); (try clear p6); (try clear c7); (try clear c8); (try clear c8b0); (try clear c8b1); (try clear c8b2); (try clear c9); (try clear c9b0); (try clear c9b1); (try clear c10); (try clear c11); (try clear c12); (try clear c13); (try clear c14); (try clear c15); (try clear c16); (try clear c16b0); (try clear c17); (try clear c18); (try clear c19); (try clear c20); (try clear c20b0); (try clear c20b1); (try clear c21); (try clear c22); (try clear c23); (try clear c52); (try clear c52b0); (try clear c52b1); (try clear c52b2); (try clear c53); (try clear c53b0); (try clear c53b1); (try clear c54); (try clear c54b0); (try clear c54b1); (try clear c55); (try clear c55b0); (try clear c55b1); (try clear c55b2); (try clear c57); (try clear c58); (try clear c58b0); (try clear c58b1); (try clear c58b2); (try clear c60); (try clear c61); (try clear c61b0); (try clear c61b1); (try clear c61b2); (try clear c63); (try clear c64); (try clear c64b0); (try clear c64b1); (try clear c64b2); (try clear p64); (try clear c66); (try clear c67); (try clear c67b0); (try clear c67b1); (try clear c67b2); (try clear c68); (try clear c68b0); (try clear c68b1); (try clear c69); (try clear c69b0); (try clear c69b1); (try clear c69b2); (try clear c71); (try clear c72); (try clear c72b0); (try clear c72b1); (try clear c72b2); (try clear c73); (try clear c74); (try clear c75); (try clear c75b0); (try clear c75b1); (try clear c75b2); (try clear c76); (try clear c76b0); (try clear c76b1); (try clear c76b2); (try clear c77); (try clear c77b0); (try clear c77b1); (try clear c77b2); (try clear c88); (try clear c88b0); (try clear c88b1); (try clear c88b2); (try clear c89); (try clear c89b0); (try clear c89b1); (try clear c89b2); (try clear c90); (try clear c90b0); (try clear c90b1); (try clear c90b2); (try clear p2); (try clear p6)
        obtain ⟨kq, x325_35, rfl, HA, HJ35, HO_26, HO_30, HO_34, HO_38, HO_46, HB⟩ := hcut
        cases kq with
        | zero => exact absurd HA.out (by simp [laws_FnTablesLead.j3])
        | succ kj35 =>
         have H := HA.out
         clear HA
         simp only [laws_FnTablesLead.j3] at H
         by_cases c101 : x325_35 = true
         ·subst c101
          rw [if_pos rfl] at H
          exact absurd H (by simp)
         as_aux_lemma =>
         replace c101 := Bool.eq_false_iff.mpr c101
         subst c101
         rw [if_neg (show ¬ (false = true) by decide)] at H
         have HC102 := Aside0.mk H
         clear H
         go_upto_if 326 with (fail)
         go_cut [] from 100000 to 100000 (fun wc => ∃ (kq : Nat), Aside0 (laws_FnTablesLead.j5 kq t313 t330 t331 t338 t346 t354 t358 = some r) ∧ Aside0 (kq ≤ kj35) ∧ Aside0 (Kd.R (Kd.int .i64) 3 wc w.heap.size (fun k_ => some k_ ≠ (v340 : Value).ownBlock ∧ some k_ ≠ (v360 : Value).ownBlock) v332 t330) ∧ Aside0 (Kd.R (Kd.int .i64) 3 wc w.heap.size (fun k_ => some k_ ≠ (v332 : Value).ownBlock ∧ some k_ ≠ (v360 : Value).ownBlock) v340 t338) ∧ Aside0 (Kd.S (Kd.slice 3 (Kd.int .i64)) 33 wc w.heap.size (fun k_ => some k_ ≠ (v332 : Value).ownBlock ∧ some k_ ≠ (v340 : Value).ownBlock ∧ some k_ ≠ (v360 : Value).ownBlock) v348 t346) ∧ Aside0 (Kd.R (Kd.int .i64) 3 wc w.heap.size (fun k_ => some k_ ≠ (v332 : Value).ownBlock ∧ some k_ ≠ (v340 : Value).ownBlock) v360 t358) ∧ Aside0 (Below w.heap.size w wc))
         case first =>
          as_aux_lemma =>
          have H := HC102.out
          clear HC102
          by_cases c103 : t318 = true
          ·subst c103
           rw [if_pos rfl] at H
           by_cases c104 : t316 < 0
           ·rw [if_pos c104] at H
            exact absurd H (by simp)
           ·rw [if_neg c104] at H
            have c104b0 : decide (t316 < 0) = false := decide_eq_false c104
            clear c104
            (first | rw [c104b0] | (simp only [i64_w, i32_w]; rw [c104b0]) | skip)
            by_cases c105 : t317 < 1
            ·rw [if_pos c105] at H
             exact absurd H (by simp)
            ·rw [if_neg c105] at H
             have c105b0 : decide (t317 < 1) = false := decide_eq_false c105
             clear c105
             by_cases c106 : t316 > t354
             ·rw [if_pos c106] at H
              exact absurd H (by simp)
             ·rw [if_neg c106] at H
              have c106b0 : decide (t354 < t316) = false := decide_eq_false c106
              clear c106
              replace H := Option.bind_eq_some_iff.mp H
              obtain ⟨t371, A1070, H⟩ := H
              (try dsimp only at H)
              have A107 := Aside0.mk A1070
              clear A1070
              by_cases c108 : t371 = true
              ·subst c108
               rw [if_pos rfl] at H
               replace H := Option.bind_eq_some_iff.mp H
               obtain ⟨⟨t372, t373⟩, A1090, H⟩ := H
               (try dsimp only at H)
               have A109 := Aside0.mk A1090
               clear A1090
               replace H := Option.bind_eq_some_iff.mp H
               obtain ⟨⟨t374, t375⟩, A1100, H⟩ := H
               (try dsimp only at H)
               have A110 := Aside0.mk A1100
               clear A1100
               by_cases c111 : t373 = true
               ·subst c111
                rw [if_pos rfl] at H
                by_cases c112 : t375 = true
                ·subst c112
                 rw [if_pos rfl] at H
                 by_cases c113 : t372 = t374
                 ·as_aux_lemma =>
                  rw [if_pos c113] at H
                  have c113b0 : (t372 == t374) = true := beq_iff_eq.mpr c113
                  have c113b1 : (t372 != t374) = false := bne_eq_false_iff_eq.mpr c113
                  clear c113
                  have H' := Aside0.mk H
                  clear H
                  obtain ⟨Ao114, co114, eo114⟩ := Kd.R_slice HO_26.out
                  subst eo114
                  go_wp2_with (first | (go_at_call 26; (with_reducible refine (laws_gRises.calls kj35 _ _ t322 true _ ?side1 ?side2 A107.out).mono ?_); (case side1 => exact cu_ (Kd.R_reads' HO_26.out).2.2); (case side2 => exact (Kd.R_reads' HO_26.out).2.1); rintro e w' ⟨rfl, ⟨nd, rfl⟩⟩) | ((with_reducible refine gate_callee (f := 6) rfl ?_); refine gl_ (some 348) Try.func6 #[.int .i64 t313, .int .i64 t314, .int .i64 t315, .int .i64 t316] ?_; (with_reducible refine (impl_TimesAfter.calls kj35 t313 t314 t315 t316 t372 true _ A109.out).mono ?_); rintro e w115 ⟨rfl, hb⟩; refine ⟨_, rfl, ?_⟩; have n0_ := Aside0.mk (Kd.R_below (ru_ HO_26.out) hb); have n1_ := Aside0.mk (Kd.R_below (ru_ HO_30.out) hb); have n2_ := Aside0.mk (Kd.R_below (ru_ HO_34.out) hb); have n3_ := Aside0.mk (Kd.S_below (by (with_reducible repeat (first | apply Kd.S_alloc | apply Kd.S_drewN | apply Kd.S_drew)); exact HO_38.out) hb); have n4_ := Aside0.mk (Kd.R_below (ru_ HO_46.out) hb); have n5_ := Aside0.mk (bs_ hb); clear HO_26; clear HO_30; clear HO_34; clear HO_38; clear HO_46; clear HB; have HO_26 := n0_; have HO_30 := n1_; have HO_34 := n2_; have HO_38 := n3_; have HO_46 := n4_; have HB := n5_; clear n0_ n1_ n2_ n3_ n4_ n5_; (try clear hb)) | ((with_reducible refine gate_callee (f := 6) rfl ?_); refine gl_ (some 356) Try.func6 #[.int .i64 t313, .int .i64 t314, .int .i64 t372, .int .i64 t317] ?_; (with_reducible refine (impl_TimesAfter.calls kj35 t313 t314 t372 t317 t374 true _ A110.out).mono ?_); rintro e w116 ⟨rfl, hb⟩; refine ⟨_, rfl, ?_⟩; have n0_ := Aside0.mk (Kd.R_below (ru_ HO_26.out) hb); have n1_ := Aside0.mk (Kd.R_below (ru_ HO_30.out) hb); have n2_ := Aside0.mk (Kd.R_below (ru_ HO_34.out) hb); have n3_ := Aside0.mk (Kd.S_below (by (with_reducible repeat (first | apply Kd.S_alloc | apply Kd.S_drewN | apply Kd.S_drew)); exact HO_38.out) hb); have n4_ := Aside0.mk (Kd.R_below (ru_ HO_46.out) hb); have n5_ := Aside0.mk (bs_ hb); clear HO_26; clear HO_30; clear HO_34; clear HO_38; clear HO_46; clear HB; have HO_26 := n0_; have HO_30 := n1_; have HO_34 := n2_; have HO_38 := n3_; have HO_46 := n4_; have HB := n5_; clear n0_ n1_ n2_ n3_ n4_ n5_; (try clear hb)))
                  go_loopg [372] kj35 (fun kq v372 w' => ∃ (x372_4 : Int), v372 = .int .i64 x372_4 ∧ Aside0 (laws_FnTablesLead.l1 kq t313 t315 t316 t317 t322 t330 t331 t338 t346 t354 t358 t322 (t322.length : Int) x372_4 = some r) ∧ Aside0 (kq ≤ kj35) ∧ Aside0 (Kd.R (Kd.int .i64) 3 w' w.heap.size (fun k_ => some k_ ≠ (v332 : Value).ownBlock ∧ some k_ ≠ (v340 : Value).ownBlock ∧ some k_ ≠ (v360 : Value).ownBlock) (.slice Ao114 t322.length co114) t322) ∧ Aside0 (Kd.R (Kd.int .i64) 3 w' w.heap.size (fun k_ => some k_ ≠ ((.slice Ao114 t322.length co114) : Value).ownBlock ∧ some k_ ≠ (v340 : Value).ownBlock ∧ some k_ ≠ (v360 : Value).ownBlock ∧ some k_ ≠ ((.slice Ao114 t322.length co114) : Value).ownBlock) v332 t330) ∧ Aside0 (Kd.R (Kd.int .i64) 3 w' w.heap.size (fun k_ => some k_ ≠ ((.slice Ao114 t322.length co114) : Value).ownBlock ∧ some k_ ≠ (v332 : Value).ownBlock ∧ some k_ ≠ (v360 : Value).ownBlock ∧ some k_ ≠ ((.slice Ao114 t322.length co114) : Value).ownBlock) v340 t338) ∧ Aside0 (Kd.S (Kd.slice 3 (Kd.int .i64)) 33 w' w.heap.size (fun k_ => some k_ ≠ ((.slice Ao114 t322.length co114) : Value).ownBlock ∧ some k_ ≠ (v332 : Value).ownBlock ∧ some k_ ≠ (v340 : Value).ownBlock ∧ some k_ ≠ (v360 : Value).ownBlock ∧ some k_ ≠ ((.slice Ao114 t322.length co114) : Value).ownBlock) v348 t346) ∧ Aside0 (Kd.R (Kd.int .i64) 3 w' w.heap.size (fun k_ => some k_ ≠ ((.slice Ao114 t322.length co114) : Value).ownBlock ∧ some k_ ≠ (v332 : Value).ownBlock ∧ some k_ ≠ (v340 : Value).ownBlock ∧ some k_ ≠ ((.slice Ao114 t322.length co114) : Value).ownBlock) v360 t358) ∧ Aside0 (Kd.R (Kd.int .i64) 3 w' w.heap.size (fun k_ => some k_ ≠ (v332 : Value).ownBlock ∧ some k_ ≠ (v340 : Value).ownBlock ∧ some k_ ≠ (v360 : Value).ownBlock) (.slice Ao114 t322.length co114) t322) ∧ Aside0 (Below w.heap.size w w'))
                  case atStart => exact ⟨(0), (by first | rfl | (simp; done) | (simp [*]; done)), H', ⟨Nat.le_refl _⟩, ⟨by (with_reducible repeat (first | apply Kd.R_alloc | apply Kd.R_drewN | apply Kd.R_drew)); exact HO_26.out⟩, ⟨by (with_reducible repeat (first | apply Kd.R_alloc | apply Kd.R_drewN | apply Kd.R_drew)); exact Kd.R_mono HO_30.out (fun _ hk => ⟨hk.1, ⟨hk.2.1, ⟨hk.2.2, hk.1⟩⟩⟩)⟩, ⟨by (with_reducible repeat (first | apply Kd.R_alloc | apply Kd.R_drewN | apply Kd.R_drew)); exact Kd.R_mono HO_34.out (fun _ hk => ⟨hk.1, ⟨hk.2.1, ⟨hk.2.2, hk.1⟩⟩⟩)⟩, ⟨by (with_reducible repeat (first | apply Kd.S_alloc | apply Kd.S_drewN | apply Kd.S_drew)); exact Kd.S_mono HO_38.out (fun _ hk => ⟨hk.1, ⟨hk.2.1, ⟨hk.2.2.1, ⟨hk.2.2.2, hk.1⟩⟩⟩⟩)⟩, ⟨by (with_reducible repeat (first | apply Kd.R_alloc | apply Kd.R_drewN | apply Kd.R_drew)); exact Kd.R_mono HO_46.out (fun _ hk => ⟨hk.1, ⟨hk.2.1, ⟨hk.2.2, hk.1⟩⟩⟩)⟩, ⟨by (with_reducible repeat (first | apply Kd.R_alloc | apply Kd.R_drewN | apply Kd.R_drew)); exact HO_26.out⟩, ⟨bb_⟩⟩
                  case round =>
                   as_aux_lemma =>
                   clear H'
                   (try clear c1); (try clear c2); (try clear p2); (try clear c3); (try clear c4); (try clear c5); (try clear c6); (try clear p6); (try clear c7); (try clear c8); (try clear c8b0); (try clear c8b1); (try clear c8b2); (try clear c9); (try clear c9b0); (try clear c9b1); (try clear c10); (try clear c11); (try clear c12); (try clear c13); (try clear c14); (try clear c15); (try clear c16); (try clear c16b0); (try clear c17); (try clear c18); (try clear c19); (try clear c20); (try clear c20b0); (try clear c20b1); (try clear c21); (try clear c22); (try clear c23); (try clear c52); (try clear c52b0); (try clear c52b1); (try clear c52b2); (try clear c53); (try clear c53b0); (try clear c53b1); (try clear c54); (try clear c54b0); (try clear c54b1); (try clear c55); (try clear c55b0); (try clear c55b1); (try clear c55b2); (try clear c57); (try clear c58); (try clear c58b0); (try clear c58b1); (try clear c58b2); (try clear c60); (try clear c61); (try clear c61b0); (try clear c61b1); (try clear c61b2); (try clear c63); (try clear c64); (try clear c64b0); (try clear c64b1); (try clear c64b2); (try clear p64); (try clear c66); (try clear c67); (try clear c67b0); (try clear c67b1); (try clear c67b2); (try clear c68); (try clear c68b0); (try clear c68b1); (try clear c69); (try clear c69b0); (try clear c69b1); (try clear c69b2); (try clear c71); (try clear c72); (try clear c72b0); (try clear c72b1); (try clear c72b2); (try clear c73); (try clear c74); (try clear c75); (try clear c75b0); (try clear c75b1); (try clear c75b2); (try clear c76); (try clear c76b0); (try clear c76b1); (try clear c76b2); (try clear c77); (try clear c77b0); (try clear c77b1); (try clear c77b2); (try clear c88); (try clear c88b0); (try clear c88b1); (try clear c88b2); (try clear c89); (try clear c89b0); (try clear c89b1); (try clear c89b2); (try clear c90); (try clear c90b0); (try clear c90b1); (try clear c90b2); (try clear c101); (try clear c103); (try clear c104); (try clear c104b0); (try clear c105); (try clear c105b0); (try clear c106); (try clear c106b0); (try clear c108); (try clear c111); (try clear c112); (try clear c113); (try clear c113b0); (try clear c113b1); (try clear p2); (try clear p6); (try clear p64)
                   obtain ⟨x372_4, rfl, HA, HK4, HO_26, HO_30, HO_34, HO_38, HO_46, HO_370, HB⟩ := hrel
                   cases gk with
                   | zero => exact absurd HA.out (by simp [laws_FnTablesLead.l1])
                   | succ k4 =>
                    have H := HA.out
                    clear HA
                    simp only [laws_FnTablesLead.l1] at H
                    by_cases c117 : x372_4 < (t322.length : Int)
                    ·rw [if_pos c117] at H
                     have c117b0 : decide (x372_4 < (t322.length : Int)) = true := decide_eq_true c117
                     clear c117
                     by_cases c118 : 0 ≤ x372_4
                     ·rw [if_pos c118] at H
                      have c118b0 : decide (0 ≤ x372_4) = true := decide_eq_true c118
                      clear c118
                      by_cases c119 : x372_4 < (t322.length : Int)
                      ·rw [if_pos c119] at H
                       have c119b0 : decide (x372_4 < (t322.length : Int)) = true := decide_eq_true c119
                       clear c119
                       by_cases c120 : 0 ≤ (rd t322 x372_4)
                       ·rw [if_pos c120] at H
                        have c120b0 : decide (0 ≤ (rd t322 x372_4)) = true := decide_eq_true c120
                        clear c120
                        by_cases c121 : (rd t322 x372_4) < (t330.length : Int)
                        ·rw [if_pos c121] at H
                         have c121b0 : decide ((rd t322 x372_4) < (t330.length : Int)) = true := decide_eq_true c121
                         clear c121
                         by_cases c122 : (rd t330 (rd t322 x372_4)) = t315
                         ·as_aux_lemma =>
                          rw [if_pos c122] at H
                          have c122b0 : ((rd t330 (rd t322 x372_4)) == t315) = true := beq_iff_eq.mpr c122
                          have c122b1 : ((rd t330 (rd t322 x372_4)) != t315) = false := bne_eq_false_iff_eq.mpr c122
                          clear c122
                          have H' := Aside0.mk H
                          clear H
                          have p376 : 0 ≤ (x372_4 : Int) := of_decide_eq_true (by assumption)
                          have q376 : x372_4 < (t322.length : Int) := of_decide_eq_true (by assumption)
                          obtain ⟨ad376, e376, hx376_0⟩ := Kd.at_int (Kd.R_reads' HO_370.out).2.2 x372_4 p376 q376
                          cases e376
                          replace p376 := eq_true p376
                          replace q376 := eq_true q376
                          obtain ⟨Ao123, co123, eo123⟩ := Kd.R_slice HO_30.out
                          subst eo123
                          have p377 : 0 ≤ ((rd t322 x372_4) : Int) := of_decide_eq_true (by assumption)
                          have q377 : (rd t322 x372_4) < (t330.length : Int) := of_decide_eq_true (by assumption)
                          obtain ⟨ad377, e377, hx377_0⟩ := Kd.at_int (Kd.R_reads' HO_30.out).2.2 (rd t322 x372_4) p377 q377
                          cases e377
                          replace p377 := eq_true p377
                          replace q377 := eq_true q377
                          go_wp2
                          go_roundg k4
                          case measure => have := HJ9.out; have := HJ13.out; have := HJ35.out; have := HK4.out; omega
                          case rel => exact ⟨(wrap64 (x372_4 + 1)), (by first | rfl | (simp; done) | (simp [*]; done)), H', ⟨by have := HJ9.out; have := HJ13.out; have := HJ35.out; have := HK4.out; omega⟩, ⟨by (with_reducible repeat (first | apply Kd.R_alloc | apply Kd.R_drewN | apply Kd.R_drew)); exact HO_26.out⟩, ⟨by (with_reducible repeat (first | apply Kd.R_alloc | apply Kd.R_drewN | apply Kd.R_drew)); exact HO_30.out⟩, ⟨by (with_reducible repeat (first | apply Kd.R_alloc | apply Kd.R_drewN | apply Kd.R_drew)); exact HO_34.out⟩, ⟨by (with_reducible repeat (first | apply Kd.S_alloc | apply Kd.S_drewN | apply Kd.S_drew)); exact HO_38.out⟩, ⟨by (with_reducible repeat (first | apply Kd.R_alloc | apply Kd.R_drewN | apply Kd.R_drew)); exact HO_46.out⟩, ⟨by (with_reducible repeat (first | apply Kd.R_alloc | apply Kd.R_drewN | apply Kd.R_drew)); exact HO_370.out⟩, ⟨bb_⟩⟩
                         ·rw [if_neg c122] at H
                          exact absurd H (by simp)
                        ·rw [if_neg c121] at H
                         exact absurd H (by simp)
                       ·rw [if_neg c120] at H
                        exact absurd H (by simp)
                      ·rw [if_neg c119] at H
                       exact absurd H (by simp)
                     ·rw [if_neg c118] at H
                      exact absurd H (by simp)
                    ·rw [if_neg c117] at H
                     have c117b0 : decide (x372_4 < (t322.length : Int)) = false := decide_eq_false c117
                     clear c117
                     replace H := Option.bind_eq_some_iff.mp H
                     obtain ⟨t378, A1240, H⟩ := H
                     (try dsimp only at H)
                     have A124 := Aside0.mk A1240
                     clear A1240
                     by_cases c125 : ((decide ((t322.length : Int) > 0)) != t378) = true
                     ·rw [if_pos c125] at H
                      have c125b0 : ((decide ((t322.length : Int) > 0)) != t378) = true := c125
                      (try (have c125b1 : decide ((decide ((t322.length : Int) > 0)) = t378) = false := by simpa using c125))
                      (try (have c125b1n : decide ((decide (0 < t322.length)) = t378) = false := by simpa using c125))
                      (try (have c125b2 : ((decide ((t322.length : Int) > 0)) == t378) = false := by simpa using c125))
                      (try (have c125b2n : ((decide (0 < t322.length)) == t378) = false := by simpa using c125))
                      (try (have c125b3 : ¬ ((decide ((t322.length : Int) > 0)) = t378) := by simpa using c125))
                      (try (have c125b3n : ¬ ((decide (0 < t322.length)) = t378) := by simpa using c125))
                      clear c125
                      exact absurd H (by simp)
                     ·rw [if_neg c125] at H
                      have c125b0 : ((decide ((t322.length : Int) > 0)) != t378) = false := by simpa using c125
                      (try (have c125b1 : decide ((decide ((t322.length : Int) > 0)) = t378) = true := by simpa using c125))
                      (try (have c125b1n : decide ((decide (0 < t322.length)) = t378) = true := by simpa using c125))
                      (try (have c125b2 : ((decide ((t322.length : Int) > 0)) == t378) = true := by simpa using c125))
                      (try (have c125b2n : ((decide (0 < t322.length)) == t378) = true := by simpa using c125))
                      clear c125
                      replace H := Option.bind_eq_some_iff.mp H
                      obtain ⟨t379, A1260, H⟩ := H
                      (try dsimp only at H)
                      have A126 := Aside0.mk A1260
                      clear A1260
                      by_cases c127 : 0 ≤ t315
                      ·rw [if_pos c127] at H
                       have c127b0 : decide (0 ≤ t315) = true := decide_eq_true c127
                       clear c127
                       by_cases c128 : t315 < (t330.length : Int)
                       ·rw [if_pos c128] at H
                        have c128b0 : decide (t315 < (t330.length : Int)) = true := decide_eq_true c128
                        clear c128
                        by_cases c129 : (t379 != ((rd t330 t315) == t315)) = true
                        ·rw [if_pos c129] at H
                         have c129b0 : (t379 != ((rd t330 t315) == t315)) = true := c129
                         (try (have c129b1 : decide (t379 = ((rd t330 t315) == t315)) = false := by simpa using c129))
                         (try (have c129b2 : (t379 == ((rd t330 t315) == t315)) = false := by simpa using c129))
                         (try (have c129b3 : ¬ (t379 = ((rd t330 t315) == t315)) := by simpa using c129))
                         clear c129
                         exact absurd H (by simp)
                        ·rw [if_neg c129] at H
                         have c129b0 : (t379 != ((rd t330 t315) == t315)) = false := by simpa using c129
                         (try (have c129b1 : decide (t379 = ((rd t330 t315) == t315)) = true := by simpa using c129))
                         (try (have c129b2 : (t379 == ((rd t330 t315) == t315)) = true := by simpa using c129))
                         clear c129
                         replace H := Option.bind_eq_some_iff.mp H
                         obtain ⟨t381, A1300, H⟩ := H
                         (try dsimp only at H)
                         have A130 := Aside0.mk A1300
                         clear A1300
                         by_cases c131 : t381 = true
                         ·subst c131
                          rw [if_pos rfl] at H
                          by_cases c132 : t316 = 0
                          ·rw [if_pos c132] at H
                           have c132b0 : (t316 == 0) = true := beq_iff_eq.mpr c132
                           have c132b1 : (t316 != 0) = false := bne_eq_false_iff_eq.mpr c132
                           clear c132
                           by_cases c133 : t317 = 1
                           ·rw [if_pos c133] at H
                            have c133b0 : (t317 == 1) = true := beq_iff_eq.mpr c133
                            have c133b1 : (t317 != 1) = false := bne_eq_false_iff_eq.mpr c133
                            clear c133
                            have H' := Aside0.mk H
                            clear H
                            try go_wp2
                            have n0_ := Aside0.mk (Kd.R_drew HO_26.out)
                            have n1_ := Aside0.mk (Kd.R_drew HO_30.out)
                            have n2_ := Aside0.mk (Kd.R_drew HO_34.out)
                            have n3_ := Aside0.mk (Kd.S_drew HO_38.out)
                            have n4_ := Aside0.mk (Kd.R_drew HO_46.out)
                            have n5_ := Aside0.mk (Kd.R_drew HO_370.out)
                            have n6_ := Aside0.mk (below_drew1 HB.out)
                            clear HO_26
                            clear HO_30
                            clear HO_34
                            clear HO_38
                            clear HO_46
                            clear HO_370
                            clear HB
                            have HO_26 := n0_
                            have HO_30 := n1_
                            have HO_34 := n2_
                            have HO_38 := n3_
                            have HO_46 := n4_
                            have HO_370 := n5_
                            have HB := n6_
                            clear n0_ n1_ n2_ n3_ n4_ n5_ n6_
                            obtain ⟨Ao135, co135, eo135⟩ := Kd.R_slice HO_46.out
                            (first | subst eo135 | (injection eo135 with f1_ f2_ f3_; have f4_ := f1_.symm; have f5_ := f3_.symm; clear f1_ f2_ f3_; subst f4_; subst f5_))
                            have p380 : 0 ≤ (t315 : Int) := of_decide_eq_true (by assumption)
                            have q380 : t315 < (t330.length : Int) := of_decide_eq_true (by assumption)
                            (try (obtain ⟨Ao9_, co9_, eo9_⟩ := Kd.R_slice HO_30.out; subst eo9_))
                            obtain ⟨ad380, e380, hx380_0⟩ := Kd.at_int (Kd.R_reads' HO_30.out).2.2 t315 p380 q380
                            cases e380
                            replace p380 := eq_true p380
                            replace q380 := eq_true q380
                            refine start_ (n := 32) (S := fun w' => w'.cell? (ad380.add (t315).toNat) = some (.int .i64 (rd t330 t315))) (ds := []) (bl_ 32 0x0) (by kernel_rfl) rfl rfl (hx380_0) (fun hHeld => ?_); refine with_tabW laws_FnTablesLead.tab49 laws_FnTablesLead.bits49 (fun HT_ HW_ => ?_)
                            generalize wr.drew = w134 at HO_26 HO_30 HO_34 HO_38 HO_46 HO_370 HB hx380_0 hHeld ⊢
                            refine pz_ 0 383 (bl_ 32 0x1) HT_.out ?_
                            refine pz_ 1 384 (bl_ 32 0x3) HT_.out ?_
                            refine pz_ 2 385 (bl_ 32 0x7) HT_.out ?_
                            refine pz_ 3 386 (bl_ 32 0xf) HT_.out ?_
                            refine pz_ 4 387 (bl_ 32 0x1f) HT_.out ?_
                            refine one_ (i := 5) (N := some 388) (bl_ 32 0x3f) rfl rfl (one_of HT_.out (by kernel_rfl)) (by decide) (fun K hK => ?_)
                            refine goes_ Try.func27 (by kernel_rfl) rfl #[.slice Ao135 t358.length co135, .int .i64 t315] (by rfl) rfl rfl (by (try simp only [List.map_toArray, List.map_cons, List.map_nil]); first | done | rfl | (simp only [List.length_drop, List.length_take]; rfl)) ?_
                            with_reducible refine (laws_gHas.calls k4 _ _ t358 t315 t378 _ ?side1 ?side2 A124.out).mono ?_
                            (case side1 => exact cu_ (Kd.R_reads' HO_46.out).2.2)
                            (case side2 => exact (Kd.R_reads' HO_46.out).2.1)
                            rintro e w' ⟨rfl, ⟨nd, rfl⟩⟩
                            refine ⟨_, rfl, ?_⟩
                            obtain ⟨Ao136, co136, eo136⟩ := Kd.R_slice HO_34.out
                            (first | subst eo136 | (injection eo136 with f1_ f2_ f3_; have f4_ := f1_.symm; have f5_ := f3_.symm; clear f1_ f2_ f3_; subst f4_; subst f5_))
                            refine hK.out _ _ (hHeld) (fun hHeld => ?_)
                            clear hK K
                            refine norm_ (a' := ?_) ?_ ?_
                            rotate_left
                            ·show Act.put _ (some 388) _ = _
                             simp only [Act.put, sa_, sb_, sc_, i64_w, i32_w]
                             rfl
                            refine pz_ 6 389 (bl_ 32 0x7f) HT_.out ?_
                            refine pz_ 7 390 (bl_ 32 0xff) HT_.out ?_
                            refine pz_ 8 391 (bl_ 32 0x1ff) HT_.out ?_
                            refine pz_ 9 392 (bl_ 32 0x3ff) HT_.out ?_
                            refine pz_ 11 394 (bl_ 32 0xbff) HT_.out ?_
                            refine pz_ 12 395 (bl_ 32 0x1bff) HT_.out ?_
                            refine pz_ 13 396 (bl_ 32 0x3bff) HT_.out ?_
                            refine pz_ 15 398 (bl_ 32 0xbbff) HT_.out ?_
                            refine take_ (i := 14) (N := some 397) (v := ?_) (a' := ?_) (bl_ 32 0xfbff) rfl rfl (take_ofW HT_.out HW_.out (by kernel_rfl)) (fun _ _ _ h => h) (Or.inl ⟨by rfl, ?_⟩) hHeld ?_ ?_
                            rotate_left
                            ·intro w' s0
                             go_simp
                             with_reducible rfl
                            rotate_left
                            ·simp only [Act.put, sa_, sb_, sc_, i64_w, i32_w]
                             rfl
                            refine pz_ 16 399 (bl_ 32 0x1fbff) HT_.out ?_
                            refine one_ (i := 10) (N := some 393) (bl_ 32 0x1ffff) rfl rfl (one_of HT_.out (by kernel_rfl)) (by decide) (fun K hK => ?_)
                            refine goes_ Try.func27 (by kernel_rfl) rfl #[.slice Ao136 t338.length co136, .int .i64 t315] (by rfl) rfl rfl (by (try simp only [List.map_toArray, List.map_cons, List.map_nil]); first | done | rfl | (simp only [List.length_drop, List.length_take]; rfl)) ?_
                            with_reducible refine (laws_gHas.calls k4 _ _ t338 t315 t379 _ ?side1 ?side2 A126.out).mono ?_
                            (case side1 => exact cu_ (Kd.R_reads' HO_34.out).2.2)
                            (case side2 => exact (Kd.R_reads' HO_34.out).2.1)
                            rintro e w' ⟨rfl, ⟨nd, rfl⟩⟩
                            refine ⟨_, rfl, ?_⟩
                            obtain ⟨Ao137, co137, eo137⟩ := Kd.R_slice HO_30.out
                            (first | subst eo137 | (injection eo137 with f1_ f2_ f3_; have f4_ := f1_.symm; have f5_ := f3_.symm; clear f1_ f2_ f3_; subst f4_; subst f5_))
                            refine hK.out _ _ (hHeld) (fun hHeld => ?_)
                            clear hK K
                            refine norm_ (a' := ?_) ?_ ?_
                            rotate_left
                            ·show Act.put _ (some 393) _ = _
                             simp only [Act.put, sa_, sb_, sc_, i64_w, i32_w]
                             rfl
                            refine pz_ 17 400 (bl_ 32 0x3ffff) HT_.out ?_
                            refine pz_ 18 401 (bl_ 32 0x7ffff) HT_.out ?_
                            refine pz_ 19 402 (bl_ 32 0xfffff) HT_.out ?_
                            refine pz_ 20 403 (bl_ 32 0x1fffff) HT_.out ?_
                            refine pz_ 21 404 (bl_ 32 0x3fffff) HT_.out ?_
                            refine one_ (i := 22) (N := some 405) (bl_ 32 0x7fffff) rfl rfl (one_of HT_.out (by kernel_rfl)) (by decide) (fun K hK => ?_)
                            refine goes_ Try.func27 (by kernel_rfl) rfl #[.slice Ao136 t338.length co136, .int .i64 t315] (by rfl) rfl rfl (by (try simp only [List.map_toArray, List.map_cons, List.map_nil]); first | done | rfl | (simp only [List.length_drop, List.length_take]; rfl)) ?_
                            with_reducible refine (laws_gHas.calls k4 _ _ t338 t315 true _ ?side1 ?side2 A130.out).mono ?_
                            (case side1 => exact cu_ (Kd.R_reads' HO_34.out).2.2)
                            (case side2 => exact (Kd.R_reads' HO_34.out).2.1)
                            rintro e w' ⟨rfl, ⟨nd, rfl⟩⟩
                            refine ⟨_, rfl, ?_⟩
                            refine hK.out _ _ (hHeld) (fun hHeld => ?_)
                            clear hK K
                            refine norm_ (a' := ?_) ?_ ?_
                            rotate_left
                            ·show Act.put _ (some 405) _ = _
                             simp only [Act.put, sa_, sb_, sc_, i64_w, i32_w]
                             rfl
                            refine pz_ 23 406 (bl_ 32 0xffffff) HT_.out ?_
                            refine pz_ 24 407 (bl_ 32 0x1ffffff) HT_.out ?_
                            refine pz_ 25 408 (bl_ 32 0x3ffffff) HT_.out ?_
                            refine pz_ 26 409 (bl_ 32 0x7ffffff) HT_.out ?_
                            refine pz_ 27 410 (bl_ 32 0xfffffff) HT_.out ?_
                            refine pz_ 28 411 (bl_ 32 0x1fffffff) HT_.out ?_
                            refine pz_ 29 412 (bl_ 32 0x3fffffff) HT_.out ?_
                            refine pz_ 30 413 (bl_ 32 0x7fffffff) HT_.out ?_
                            refine pz_ 31 414 (bl_ 32 0xffffffff) HT_.out ?_
                            refine done_ (done_of HT_.out (by kernel_rfl)) ?_
                            try go_wp2
                            go_meet
                            case rel => exact ⟨_, H', ⟨by have := HJ9.out; have := HJ13.out; have := HJ35.out; have := HK4.out; first | omega | exact Nat.le_refl _⟩, ⟨by (with_reducible repeat (first | apply Kd.R_alloc | apply Kd.R_drewN | apply Kd.R_drew)); exact Kd.R_mono HO_30.out (fun _ hk => ⟨hk.2.1, hk.2.2.1⟩)⟩, ⟨by (with_reducible repeat (first | apply Kd.R_alloc | apply Kd.R_drewN | apply Kd.R_drew)); exact Kd.R_mono HO_34.out (fun _ hk => ⟨hk.2.1, hk.2.2.1⟩)⟩, ⟨by (with_reducible repeat (first | apply Kd.S_alloc | apply Kd.S_drewN | apply Kd.S_drew)); exact Kd.S_mono HO_38.out (fun _ hk => ⟨hk.2.1, ⟨hk.2.2.1, hk.2.2.2.1⟩⟩)⟩, ⟨by (with_reducible repeat (first | apply Kd.R_alloc | apply Kd.R_drewN | apply Kd.R_drew)); exact Kd.R_mono HO_46.out (fun _ hk => ⟨hk.2.1, hk.2.2.1⟩)⟩, ⟨bb_⟩⟩
                           ·rw [if_neg c133] at H
                            exact absurd H (by simp)
                          ·rw [if_neg c132] at H
                           have c132b0 : (t316 == 0) = false := beq_eq_false_iff_ne.mpr c132
                           have c132b1 : (t316 != 0) = true := bne_iff_ne.mpr c132
                           exact absurd H (by simp)
                         ·replace c131 := Bool.eq_false_iff.mpr c131
                          subst c131
                          rw [if_neg (show ¬ (false = true) by decide)] at H
                          have H' := Aside0.mk H
                          clear H
                          try go_wp2
                          have n0_ := Aside0.mk (Kd.R_drew HO_26.out)
                          have n1_ := Aside0.mk (Kd.R_drew HO_30.out)
                          have n2_ := Aside0.mk (Kd.R_drew HO_34.out)
                          have n3_ := Aside0.mk (Kd.S_drew HO_38.out)
                          have n4_ := Aside0.mk (Kd.R_drew HO_46.out)
                          have n5_ := Aside0.mk (Kd.R_drew HO_370.out)
                          have n6_ := Aside0.mk (below_drew1 HB.out)
                          clear HO_26
                          clear HO_30
                          clear HO_34
                          clear HO_38
                          clear HO_46
                          clear HO_370
                          clear HB
                          have HO_26 := n0_
                          have HO_30 := n1_
                          have HO_34 := n2_
                          have HO_38 := n3_
                          have HO_46 := n4_
                          have HO_370 := n5_
                          have HB := n6_
                          clear n0_ n1_ n2_ n3_ n4_ n5_ n6_
                          obtain ⟨Ao139, co139, eo139⟩ := Kd.R_slice HO_46.out
                          (first | subst eo139 | (injection eo139 with f1_ f2_ f3_; have f4_ := f1_.symm; have f5_ := f3_.symm; clear f1_ f2_ f3_; subst f4_; subst f5_))
                          have p380 : 0 ≤ (t315 : Int) := of_decide_eq_true (by assumption)
                          have q380 : t315 < (t330.length : Int) := of_decide_eq_true (by assumption)
                          (try (obtain ⟨Ao9_, co9_, eo9_⟩ := Kd.R_slice HO_30.out; subst eo9_))
                          obtain ⟨ad380, e380, hx380_0⟩ := Kd.at_int (Kd.R_reads' HO_30.out).2.2 t315 p380 q380
                          cases e380
                          replace p380 := eq_true p380
                          replace q380 := eq_true q380
                          refine start_ (n := 32) (S := fun w' => w'.cell? (ad380.add (t315).toNat) = some (.int .i64 (rd t330 t315))) (ds := []) (bl_ 32 0x0) (by kernel_rfl) rfl rfl (hx380_0) (fun hHeld => ?_); refine with_tabW laws_FnTablesLead.tab49 laws_FnTablesLead.bits49 (fun HT_ HW_ => ?_)
                          generalize wr.drew = w138 at HO_26 HO_30 HO_34 HO_38 HO_46 HO_370 HB hx380_0 hHeld ⊢
                          refine pz_ 0 383 (bl_ 32 0x1) HT_.out ?_
                          refine pz_ 1 384 (bl_ 32 0x3) HT_.out ?_
                          refine pz_ 2 385 (bl_ 32 0x7) HT_.out ?_
                          refine pz_ 3 386 (bl_ 32 0xf) HT_.out ?_
                          refine pz_ 4 387 (bl_ 32 0x1f) HT_.out ?_
                          refine one_ (i := 5) (N := some 388) (bl_ 32 0x3f) rfl rfl (one_of HT_.out (by kernel_rfl)) (by decide) (fun K hK => ?_)
                          refine goes_ Try.func27 (by kernel_rfl) rfl #[.slice Ao139 t358.length co139, .int .i64 t315] (by rfl) rfl rfl (by (try simp only [List.map_toArray, List.map_cons, List.map_nil]); first | done | rfl | (simp only [List.length_drop, List.length_take]; rfl)) ?_
                          with_reducible refine (laws_gHas.calls k4 _ _ t358 t315 t378 _ ?side1 ?side2 A124.out).mono ?_
                          (case side1 => exact cu_ (Kd.R_reads' HO_46.out).2.2)
                          (case side2 => exact (Kd.R_reads' HO_46.out).2.1)
                          rintro e w' ⟨rfl, ⟨nd, rfl⟩⟩
                          refine ⟨_, rfl, ?_⟩
                          obtain ⟨Ao140, co140, eo140⟩ := Kd.R_slice HO_34.out
                          (first | subst eo140 | (injection eo140 with f1_ f2_ f3_; have f4_ := f1_.symm; have f5_ := f3_.symm; clear f1_ f2_ f3_; subst f4_; subst f5_))
                          refine hK.out _ _ (hHeld) (fun hHeld => ?_)
                          clear hK K
                          refine norm_ (a' := ?_) ?_ ?_
                          rotate_left
                          ·show Act.put _ (some 388) _ = _
                           simp only [Act.put, sa_, sb_, sc_, i64_w, i32_w]
                           rfl
                          refine pz_ 6 389 (bl_ 32 0x7f) HT_.out ?_
                          refine pz_ 7 390 (bl_ 32 0xff) HT_.out ?_
                          refine pz_ 8 391 (bl_ 32 0x1ff) HT_.out ?_
                          refine pz_ 9 392 (bl_ 32 0x3ff) HT_.out ?_
                          refine pz_ 11 394 (bl_ 32 0xbff) HT_.out ?_
                          refine pz_ 12 395 (bl_ 32 0x1bff) HT_.out ?_
                          refine pz_ 13 396 (bl_ 32 0x3bff) HT_.out ?_
                          refine pz_ 15 398 (bl_ 32 0xbbff) HT_.out ?_
                          refine take_ (i := 14) (N := some 397) (v := ?_) (a' := ?_) (bl_ 32 0xfbff) rfl rfl (take_ofW HT_.out HW_.out (by kernel_rfl)) (fun _ _ _ h => h) (Or.inl ⟨by rfl, ?_⟩) hHeld ?_ ?_
                          rotate_left
                          ·intro w' s0
                           go_simp
                           with_reducible rfl
                          rotate_left
                          ·simp only [Act.put, sa_, sb_, sc_, i64_w, i32_w]
                           rfl
                          refine pz_ 16 399 (bl_ 32 0x1fbff) HT_.out ?_
                          refine one_ (i := 10) (N := some 393) (bl_ 32 0x1ffff) rfl rfl (one_of HT_.out (by kernel_rfl)) (by decide) (fun K hK => ?_)
                          refine goes_ Try.func27 (by kernel_rfl) rfl #[.slice Ao140 t338.length co140, .int .i64 t315] (by rfl) rfl rfl (by (try simp only [List.map_toArray, List.map_cons, List.map_nil]); first | done | rfl | (simp only [List.length_drop, List.length_take]; rfl)) ?_
                          with_reducible refine (laws_gHas.calls k4 _ _ t338 t315 t379 _ ?side1 ?side2 A126.out).mono ?_
                          (case side1 => exact cu_ (Kd.R_reads' HO_34.out).2.2)
                          (case side2 => exact (Kd.R_reads' HO_34.out).2.1)
                          rintro e w' ⟨rfl, ⟨nd, rfl⟩⟩
                          refine ⟨_, rfl, ?_⟩
                          obtain ⟨Ao141, co141, eo141⟩ := Kd.R_slice HO_30.out
                          (first | subst eo141 | (injection eo141 with f1_ f2_ f3_; have f4_ := f1_.symm; have f5_ := f3_.symm; clear f1_ f2_ f3_; subst f4_; subst f5_))
                          refine hK.out _ _ (hHeld) (fun hHeld => ?_)
                          clear hK K
                          refine norm_ (a' := ?_) ?_ ?_
                          rotate_left
                          ·show Act.put _ (some 393) _ = _
                           simp only [Act.put, sa_, sb_, sc_, i64_w, i32_w]
                           rfl
                          refine pz_ 17 400 (bl_ 32 0x3ffff) HT_.out ?_
                          refine pz_ 18 401 (bl_ 32 0x7ffff) HT_.out ?_
                          refine pz_ 19 402 (bl_ 32 0xfffff) HT_.out ?_
                          refine pz_ 20 403 (bl_ 32 0x1fffff) HT_.out ?_
                          refine pz_ 21 404 (bl_ 32 0x3fffff) HT_.out ?_
                          refine one_ (i := 22) (N := some 405) (bl_ 32 0x7fffff) rfl rfl (one_of HT_.out (by kernel_rfl)) (by decide) (fun K hK => ?_)
                          refine goes_ Try.func27 (by kernel_rfl) rfl #[.slice Ao140 t338.length co140, .int .i64 t315] (by rfl) rfl rfl (by (try simp only [List.map_toArray, List.map_cons, List.map_nil]); first | done | rfl | (simp only [List.length_drop, List.length_take]; rfl)) ?_
                          with_reducible refine (laws_gHas.calls k4 _ _ t338 t315 false _ ?side1 ?side2 A130.out).mono ?_
                          (case side1 => exact cu_ (Kd.R_reads' HO_34.out).2.2)
                          (case side2 => exact (Kd.R_reads' HO_34.out).2.1)
                          rintro e w' ⟨rfl, ⟨nd, rfl⟩⟩
                          refine ⟨_, rfl, ?_⟩
                          refine hK.out _ _ (hHeld) (fun hHeld => ?_)
                          clear hK K
                          refine norm_ (a' := ?_) ?_ ?_
                          rotate_left
                          ·show Act.put _ (some 405) _ = _
                           simp only [Act.put, sa_, sb_, sc_, i64_w, i32_w]
                           rfl
                          refine pz_ 23 406 (bl_ 32 0xffffff) HT_.out ?_
                          refine pu_ 24 407 (bl_ 32 0x1ffffff) HT_.out ?_
                          refine pu_ 25 408 (bl_ 32 0x3ffffff) HT_.out ?_
                          refine pu_ 26 409 (bl_ 32 0x7ffffff) HT_.out ?_
                          refine pu_ 27 410 (bl_ 32 0xfffffff) HT_.out ?_
                          refine pu_ 28 411 (bl_ 32 0x1fffffff) HT_.out ?_
                          refine pu_ 29 412 (bl_ 32 0x3fffffff) HT_.out ?_
                          refine pz_ 30 413 (bl_ 32 0x7fffffff) HT_.out ?_
                          refine pz_ 31 414 (bl_ 32 0xffffffff) HT_.out ?_
                          refine done_ (done_of HT_.out (by kernel_rfl)) ?_
                          try go_wp2
                          go_meet
                          case rel => exact ⟨_, H', ⟨by have := HJ9.out; have := HJ13.out; have := HJ35.out; have := HK4.out; first | omega | exact Nat.le_refl _⟩, ⟨by (with_reducible repeat (first | apply Kd.R_alloc | apply Kd.R_drewN | apply Kd.R_drew)); exact Kd.R_mono HO_30.out (fun _ hk => ⟨hk.2.1, hk.2.2.1⟩)⟩, ⟨by (with_reducible repeat (first | apply Kd.R_alloc | apply Kd.R_drewN | apply Kd.R_drew)); exact Kd.R_mono HO_34.out (fun _ hk => ⟨hk.2.1, hk.2.2.1⟩)⟩, ⟨by (with_reducible repeat (first | apply Kd.S_alloc | apply Kd.S_drewN | apply Kd.S_drew)); exact Kd.S_mono HO_38.out (fun _ hk => ⟨hk.2.1, ⟨hk.2.2.1, hk.2.2.2.1⟩⟩)⟩, ⟨by (with_reducible repeat (first | apply Kd.R_alloc | apply Kd.R_drewN | apply Kd.R_drew)); exact Kd.R_mono HO_46.out (fun _ hk => ⟨hk.2.1, hk.2.2.1⟩)⟩, ⟨bb_⟩⟩
                       ·rw [if_neg c128] at H
                        exact absurd H (by simp)
                      ·rw [if_neg c127] at H
                       exact absurd H (by simp)
                 ·rw [if_neg c113] at H
                  exact absurd H (by simp)
                ·replace c112 := Bool.eq_false_iff.mpr c112
                 subst c112
                 rw [if_neg (show ¬ (false = true) by decide)] at H
                 exact absurd H (by simp)
               ·replace c111 := Bool.eq_false_iff.mpr c111
                subst c111
                rw [if_neg (show ¬ (false = true) by decide)] at H
                exact absurd H (by simp)
              ·replace c108 := Bool.eq_false_iff.mpr c108
               subst c108
               rw [if_neg (show ¬ (false = true) by decide)] at H
               exact absurd H (by simp)
          ·as_aux_lemma =>
           replace c103 := Bool.eq_false_iff.mpr c103
           subst c103
           rw [if_neg (show ¬ (false = true) by decide)] at H
           have H' := Aside0.mk H
           clear H
           go_wp2
           go_meet
           case rel => exact ⟨_, H', ⟨by have := HJ9.out; have := HJ13.out; have := HJ35.out; first | omega | exact Nat.le_refl _⟩, ⟨by (with_reducible repeat (first | apply Kd.R_alloc | apply Kd.R_drewN | apply Kd.R_drew)); exact Kd.R_mono HO_30.out (fun _ hk => ⟨hk.2.1, hk.2.2⟩)⟩, ⟨by (with_reducible repeat (first | apply Kd.R_alloc | apply Kd.R_drewN | apply Kd.R_drew)); exact Kd.R_mono HO_34.out (fun _ hk => ⟨hk.2.1, hk.2.2⟩)⟩, ⟨by (with_reducible repeat (first | apply Kd.S_alloc | apply Kd.S_drewN | apply Kd.S_drew)); exact Kd.S_mono HO_38.out (fun _ hk => ⟨hk.2.1, ⟨hk.2.2.1, hk.2.2.2⟩⟩)⟩, ⟨by (with_reducible repeat (first | apply Kd.R_alloc | apply Kd.R_drewN | apply Kd.R_drew)); exact Kd.R_mono HO_46.out (fun _ hk => ⟨hk.2.1, hk.2.2⟩)⟩, ⟨bb_⟩⟩
         case rest =>
          as_aux_lemma =>
          clear HC102
          (try clear c1); (try clear c2); (try clear p2); (try clear p3); (try clear q3); (try clear hx3); (try clear c10); (try clear c11); (try clear c12); (try clear c13); (try clear c27); (try clear p38); (try clear q38); (try clear hx38); (try clear c103); (try clear c108); (try clear c111); (try clear c112); (try clear c113); (try clear c127); (try clear c128); (try clear c131); (try clear c132); (try clear c132b0); (try clear c132b1); (try clear c133); (try clear hx380_0); (try clear p380); (try clear q380)
          obtain ⟨kq, HA, HJ101, HO_30, HO_34, HO_38, HO_46, HB⟩ := hcut
          cases kq with
          | zero => exact absurd HA.out (by simp [laws_FnTablesLead.j5])
          | succ kj101 =>
           have H := HA.out
           clear HA
           simp only [laws_FnTablesLead.j5] at H
           by_cases c142 : t331 = true
           rotate_left
           ·as_aux_lemma =>
            replace c142 := Bool.eq_false_iff.mpr c142
            subst c142
            rw [if_neg (show ¬ (false = true) by decide)] at H
            obtain rfl := Option.some.inj H
            go_wp2
            go_ret
            exact ⟨by first | rfl | (simp [errW_none, errW_some] <;> rfl) | (simp [*, errW_none, errW_some] <;> rfl), bb_⟩
           subst c142
           rw [if_pos rfl] at H
           by_cases c143 : (t330.length : Int) = t313
           rotate_left
           ·rw [if_neg c143] at H
            exact absurd H (by simp)
           rw [if_pos c143] at H
           have c143b0 : ((t330.length : Int) == t313) = true := beq_iff_eq.mpr c143
           have c143b1 : ((t330.length : Int) != t313) = false := bne_eq_false_iff_eq.mpr c143
           clear c143
           replace H := Option.bind_eq_some_iff.mp H
           obtain ⟨t382, A1440, H⟩ := H
           (try dsimp only at H)
           have A144 := Aside0.mk A1440
           clear A1440
           by_cases c145 : t382 = true
           rotate_left
           ·replace c145 := Bool.eq_false_iff.mpr c145
            subst c145
            rw [if_neg (show ¬ (false = true) by decide)] at H
            exact absurd H (by simp)
           subst c145
           rw [if_pos rfl] at H
           replace H := Option.bind_eq_some_iff.mp H
           obtain ⟨t383, A1460, H⟩ := H
           (try dsimp only at H)
           have A146 := Aside0.mk A1460
           clear A1460
           by_cases c147 : t383 = true
           rotate_left
           ·replace c147 := Bool.eq_false_iff.mpr c147
            subst c147
            rw [if_neg (show ¬ (false = true) by decide)] at H
            exact absurd H (by simp)
           as_aux_lemma =>
           subst c147
           rw [if_pos rfl] at H
           have H' := Aside0.mk H
           clear H
           obtain ⟨Ao148, co148, eo148⟩ := Kd.R_slice HO_30.out
           subst eo148
           obtain ⟨Ao149, co149, eo149⟩ := Kd.R_slice HO_34.out
           subst eo149
           go_wp2_with (first | (go_at_call 26; (with_reducible refine (laws_gRises.calls kj101 _ _ t338 true _ ?side1 ?side2 A144.out).mono ?_); (case side1 => exact cu_ (Kd.R_reads' HO_34.out).2.2); (case side2 => exact (Kd.R_reads' HO_34.out).2.1); rintro e w' ⟨rfl, ⟨nd, rfl⟩⟩; obtain ⟨Ao150, co150, eo150⟩ := Kd.R_slice HO_46.out; subst eo150) | (go_at_call 26; (with_reducible refine (laws_gRises.calls kj101 _ _ t358 true _ ?side1 ?side2 A146.out).mono ?_); (case side1 => exact cu_ (Kd.R_reads' HO_46.out).2.2); (case side2 => exact (Kd.R_reads' HO_46.out).2.1); rintro e w' ⟨rfl, ⟨nd, rfl⟩⟩; obtain ⟨Ao151, co151, eo151⟩ := Kd.S_slice HO_38.out; subst eo151))
           go_loopg [56, 57, 432] kj101 (fun kq v56 v57 v432 w' => ∃ (x56_5 : Int) (x57_5 : Int) (x432_5 : Int), v56 = .int .i64 x56_5 ∧ v57 = .int .i64 x57_5 ∧ v432 = .int .i64 x432_5 ∧ Aside0 (laws_FnTablesLead.l2 kq t313 t330 t338 t346 t354 x56_5 x57_5 t346 (t346.length : Int) x432_5 = some r) ∧ Aside0 (kq ≤ kj101) ∧ Aside0 (Kd.R (Kd.int .i64) 3 w' w.heap.size (fun k_ => some k_ ≠ ((.slice Ao149 t338.length co149) : Value).ownBlock) (.slice Ao148 t330.length co148) t330) ∧ Aside0 (Kd.R (Kd.int .i64) 3 w' w.heap.size (fun k_ => some k_ ≠ ((.slice Ao148 t330.length co148) : Value).ownBlock) (.slice Ao149 t338.length co149) t338) ∧ Aside0 (Kd.S (Kd.slice 3 (Kd.int .i64)) 33 w' w.heap.size (fun k_ => some k_ ≠ ((.slice Ao148 t330.length co148) : Value).ownBlock ∧ some k_ ≠ ((.slice Ao149 t338.length co149) : Value).ownBlock) (.slice Ao151 t346.length co151) t346) ∧ Aside0 (Kd.S (Kd.slice 3 (Kd.int .i64)) 33 w' w.heap.size (fun k_ => some k_ ≠ ((.slice Ao148 t330.length co148) : Value).ownBlock ∧ some k_ ≠ ((.slice Ao149 t338.length co149) : Value).ownBlock) (.slice Ao151 t346.length co151) t346) ∧ Aside0 (Below w.heap.size w w'))
           case atStart => exact ⟨(0), (0), (0), (by first | rfl | (simp; done) | (simp [*]; done)), (by first | rfl | (simp; done) | (simp [*]; done)), (by first | rfl | (simp; done) | (simp [*]; done)), H', ⟨Nat.le_refl _⟩, ⟨by (with_reducible repeat (first | apply Kd.R_alloc | apply Kd.R_drewN | apply Kd.R_drew)); exact Kd.R_mono HO_30.out (fun _ hk => hk.1)⟩, ⟨by (with_reducible repeat (first | apply Kd.R_alloc | apply Kd.R_drewN | apply Kd.R_drew)); exact Kd.R_mono HO_34.out (fun _ hk => hk.1)⟩, ⟨by (with_reducible repeat (first | apply Kd.S_alloc | apply Kd.S_drewN | apply Kd.S_drew)); exact Kd.S_mono HO_38.out (fun _ hk => ⟨hk.1, hk.2.1⟩)⟩, ⟨by (with_reducible repeat (first | apply Kd.S_alloc | apply Kd.S_drewN | apply Kd.S_drew)); exact Kd.S_mono HO_38.out (fun _ hk => ⟨hk.1, hk.2.1⟩)⟩, ⟨bb_⟩⟩
           case round =>
            as_aux_lemma =>
            clear H'
            (try clear c1); (try clear c2); (try clear p2); (try clear p3); (try clear q3); (try clear hx3); (try clear c10); (try clear c11); (try clear c12); (try clear c13); (try clear c14); (try clear c27); (try clear p38); (try clear q38); (try clear hx38); (try clear c103); (try clear c108); (try clear c111); (try clear c112); (try clear c113); (try clear c127); (try clear c128); (try clear c131); (try clear c132); (try clear c132b0); (try clear c132b1); (try clear c133); (try clear c142); (try clear c143); (try clear c143b0); (try clear c143b1); (try clear c145); (try clear c147); (try clear hx380_0); (try clear p2); (try clear p3); (try clear p38); (try clear p380); (try clear q3); (try clear q38); (try clear q380)
            obtain ⟨x56_5, x57_5, x432_5, rfl, rfl, rfl, HA, HK5, HO_30, HO_34, HO_38, HO_430, HB⟩ := hrel
            cases gk with
            | zero => exact absurd HA.out (by simp [laws_FnTablesLead.l2])
            | succ k5 =>
             have H := HA.out
             clear HA
             simp only [laws_FnTablesLead.l2] at H
             by_cases c152 : x432_5 < (t346.length : Int)
             rotate_left
             ·rw [if_neg c152] at H
              have c152b0 : decide (x432_5 < (t346.length : Int)) = false := decide_eq_false c152
              clear c152
              by_cases c228 : x57_5 = (t338.length : Int)
              rotate_left
              ·rw [if_neg c228] at H
               exact absurd H (by simp)
              rw [if_pos c228] at H
              have c228b0 : (x57_5 == (t338.length : Int)) = true := beq_iff_eq.mpr c228
              have c228b1 : (x57_5 != (t338.length : Int)) = false := bne_eq_false_iff_eq.mpr c228
              clear c228
              by_cases c229 : ((x56_5 == t313) != (t354 == 0)) = true
              ·rw [if_pos c229] at H
               exact absurd H (by simp)
              as_aux_lemma =>
              rw [if_neg c229] at H
              have c229b0 : ((x56_5 == t313) != (t354 == 0)) = false := by simpa using c229
              (try (have c229b1 : decide ((x56_5 == t313) = (t354 == 0)) = true := by simpa using c229))
              (try (have c229b2 : ((x56_5 == t313) == (t354 == 0)) = true := by simpa using c229))
              clear c229
              obtain rfl := Option.some.inj H
              go_wp2
              go_ret
              exact ⟨by first | rfl | (simp [errW_none, errW_some] <;> rfl) | (simp [*, errW_none, errW_some] <;> rfl), bb_⟩
             rw [if_pos c152] at H
             have c152b0 : decide (x432_5 < (t346.length : Int)) = true := decide_eq_true c152
             clear c152
             by_cases c153 : 0 ≤ x432_5
             rotate_left
             ·rw [if_neg c153] at H
              exact absurd H (by simp)
             rw [if_pos c153] at H
             have c153b0 : decide (0 ≤ x432_5) = true := decide_eq_true c153
             clear c153
             by_cases c154 : x432_5 < (t346.length : Int)
             rotate_left
             ·rw [if_neg c154] at H
              exact absurd H (by simp)
             rw [if_pos c154] at H
             have c154b0 : decide (x432_5 < (t346.length : Int)) = true := decide_eq_true c154
             clear c154
             by_cases c155 : ((rd_L3 t346 x432_5).length : Int) = 1
             ·rw [if_pos c155] at H
              have c155b0 : (((rd_L3 t346 x432_5).length : Int) == 1) = true := beq_iff_eq.mpr c155
              have c155b1 : (((rd_L3 t346 x432_5).length : Int) != 1) = false := bne_eq_false_iff_eq.mpr c155
              clear c155
              by_cases c156 : ((rd_L3 t346 x432_5).length : Int) = 0
              ·rw [if_pos c156] at H
               have c156b0 : (((rd_L3 t346 x432_5).length : Int) == 0) = true := beq_iff_eq.mpr c156
               have c156b1 : (((rd_L3 t346 x432_5).length : Int) != 0) = false := bne_eq_false_iff_eq.mpr c156
               clear c156
               exact absurd H (by simp)
              rw [if_neg c156] at H
              have c156b0 : (((rd_L3 t346 x432_5).length : Int) == 0) = false := beq_eq_false_iff_ne.mpr c156
              have c156b1 : (((rd_L3 t346 x432_5).length : Int) != 0) = true := bne_iff_ne.mpr c156
              have c156b2 : ¬ ((rd_L3 t346 x432_5) = []) := fun h_ => c156 (by rw [h_]; rfl)
              by_cases c157 : x432_5 > 0
              rotate_left
              ·rw [if_neg c157] at H
               have c157b0 : decide (0 < x432_5) = false := decide_eq_false c157
               clear c157
               have H' := Aside0.mk H
               clear H
               have p384 : 0 ≤ (x432_5 : Int) := of_decide_eq_true (by assumption)
               have q384 : x432_5 < (t346.length : Int) := of_decide_eq_true (by assumption)
               obtain ⟨ad384, A384_0, c384_0, e384, hx384_0, hl384_0, hi384_0⟩ := at_L3 (Kd.S_reads' HO_430.out).2.2 x432_5 p384 q384
               cases e384
               obtain ⟨ce384, hce384, hMe384, hcc384⟩ := Kd.S_get HO_430.out [] x432_5 p384 (by first | exact q384 | exact of_decide_eq_true (by assumption) | (have e_ := (Kd.S_reads' HO_430.out).1; omega))
               obtain ⟨ve384_0, rfl, ge384_0⟩ := hMe384
               have hv384_0 := hcc384 0 _ rfl
               rw [Nat.add_zero, show ((Kd.slice 3 (Kd.int .i64))).sz = 1 from rfl, Nat.mul_one] at hv384_0
               replace hv384_0 := Option.some.inj (hv384_0.symm.trans hx384_0)
               rw [hv384_0] at ge384_0
               have HL384_0 := Aside0.mk (show Kd.R (Kd.int .i64) 3 _ _ _ _ (rd_L3 t346 x432_5) from ge384_0)
               clear hv384_0 ge384_0
               clear hcc384 hce384
               have HR384_0 := Aside0.mk hi384_0
               have HC384_0 := Aside0.mk hl384_0
               clear hi384_0 hl384_0
               replace p384 := eq_true p384
               replace q384 := eq_true q384
               try go_wp2
               have n0_ := Aside0.mk (Kd.R_drew HO_30.out)
               have n1_ := Aside0.mk (Kd.R_drew HO_34.out)
               have n2_ := Aside0.mk (Kd.S_drew HO_38.out)
               have n3_ := Aside0.mk (Kd.S_drew HO_430.out)
               have n4_ := Aside0.mk (Kd.R_drew HL384_0.out)
               have n5_ := Aside0.mk (Kd.C_drew HR384_0.out)
               have n6_ := Aside0.mk (below_drew1 HB.out)
               clear HO_30
               clear HO_34
               clear HO_38
               clear HO_430
               clear HL384_0
               clear HR384_0
               clear HB
               have HO_30 := n0_
               have HO_34 := n1_
               have HO_38 := n2_
               have HO_430 := n3_
               have HL384_0 := n4_
               have HR384_0 := n5_
               have HB := n6_
               clear n0_ n1_ n2_ n3_ n4_ n5_ n6_
               refine start_ (n := 20) (S := fun w' => True) (ds := []) (bl_ 20 0x0) (by kernel_rfl) rfl rfl trivial (fun hHeld => ?_); refine with_tabW laws_FnTablesLead.tab61 laws_FnTablesLead.bits61 (fun HT_ HW_ => ?_)
               generalize wr.drew = w178 at HO_30 HO_34 HO_38 HO_430 HL384_0 HR384_0 HB hHeld ⊢
               refine pz_ 0 446 (bl_ 20 0x1) HT_.out ?_
               refine pz_ 1 447 (bl_ 20 0x3) HT_.out ?_
               refine pz_ 2 448 (bl_ 20 0x7) HT_.out ?_
               refine pz_ 3 449 (bl_ 20 0xf) HT_.out ?_
               refine pz_ 4 450 (bl_ 20 0x1f) HT_.out ?_
               refine pz_ 5 451 (bl_ 20 0x3f) HT_.out ?_
               refine pz_ 6 452 (bl_ 20 0x7f) HT_.out ?_
               refine pu_ 7 453 (bl_ 20 0xff) HT_.out ?_
               refine pu_ 8 454 (bl_ 20 0x1ff) HT_.out ?_
               refine pu_ 9 455 (bl_ 20 0x3ff) HT_.out ?_
               refine pu_ 10 456 (bl_ 20 0x7ff) HT_.out ?_
               refine pu_ 11 457 (bl_ 20 0xfff) HT_.out ?_
               refine pu_ 12 458 (bl_ 20 0x1fff) HT_.out ?_
               refine pu_ 13 459 (bl_ 20 0x3fff) HT_.out ?_
               refine pu_ 14 460 (bl_ 20 0x7fff) HT_.out ?_
               refine pu_ 15 461 (bl_ 20 0xffff) HT_.out ?_
               refine pu_ 16 462 (bl_ 20 0x1ffff) HT_.out ?_
               refine pu_ 17 463 (bl_ 20 0x3ffff) HT_.out ?_
               refine pz_ 18 464 (bl_ 20 0x7ffff) HT_.out ?_
               refine pz_ 19 465 (bl_ 20 0xfffff) HT_.out ?_
               refine done_ (done_of HT_.out (by kernel_rfl)) ?_
               try go_wp2
               go_loopg [468] k5 (fun kq v468 w' => ∃ (x468_6 : Int), v468 = .int .i64 x468_6 ∧ Aside0 (laws_FnTablesLead.l3 kq t313 t330 t338 t346 t354 (wrap64 (x56_5 + ((rd_L3 t346 x432_5).length : Int))) (wrap64 (x57_5 + 1)) (rd_L3 t346 x432_5) t346 (t346.length : Int) x432_5 (rd_L3 t346 x432_5) ((rd_L3 t346 x432_5).length : Int) x468_6 = some r) ∧ Aside0 (kq ≤ k5) ∧ Aside0 (Kd.R (Kd.int .i64) 3 w' w.heap.size (fun k_ => some k_ ≠ ((.slice Ao149 t338.length co149) : Value).ownBlock) (.slice Ao148 t330.length co148) t330) ∧ Aside0 (Kd.R (Kd.int .i64) 3 w' w.heap.size (fun k_ => some k_ ≠ ((.slice Ao148 t330.length co148) : Value).ownBlock) (.slice Ao149 t338.length co149) t338) ∧ Aside0 (Kd.S (Kd.slice 3 (Kd.int .i64)) 33 w' w.heap.size (fun k_ => some k_ ≠ ((.slice Ao148 t330.length co148) : Value).ownBlock ∧ some k_ ≠ ((.slice Ao149 t338.length co149) : Value).ownBlock) (.slice (some ad384) t346.length co151) t346) ∧ Aside0 (Kd.S (Kd.slice 3 (Kd.int .i64)) 33 w' w.heap.size (fun k_ => some k_ ≠ ((.slice Ao148 t330.length co148) : Value).ownBlock ∧ some k_ ≠ ((.slice Ao149 t338.length co149) : Value).ownBlock) (.slice (some ad384) t346.length co151) t346) ∧ Aside0 (Kd.C (Kd.int .i64) w' A384_0 (rd_L3 t346 x432_5).length (rd_L3 t346 x432_5)) ∧ Aside0 (Below w.heap.size w w'))
               case atStart => exact ⟨(0), (by first | rfl | (simp; done) | (simp [*]; done)), H', ⟨Nat.le_refl _⟩, ⟨by (with_reducible repeat (first | apply Kd.R_alloc | apply Kd.R_drewN | apply Kd.R_drew)); exact HO_30.out⟩, ⟨by (with_reducible repeat (first | apply Kd.R_alloc | apply Kd.R_drewN | apply Kd.R_drew)); exact HO_34.out⟩, ⟨by (with_reducible repeat (first | apply Kd.S_alloc | apply Kd.S_drewN | apply Kd.S_drew)); exact HO_38.out⟩, ⟨by (with_reducible repeat (first | apply Kd.S_alloc | apply Kd.S_drewN | apply Kd.S_drew)); exact HO_430.out⟩, ⟨by repeat (first | (with_reducible exact HR384_0.out) | (with_reducible refine Kd.C_alloc ?_ _) | (with_reducible refine Kd.C_drewN ?_ _) | (with_reducible refine Kd.C_drew ?_) | exact HR384_0.out)⟩, ⟨bb_⟩⟩
               case round =>
                as_aux_lemma =>
                clear H'
                (try clear c1); (try clear c2); (try clear p2); (try clear c3); (try clear p3); (try clear q3); (try clear hx3); (try clear qi3); (try clear p6); (try clear c10); (try clear c11); (try clear c12); (try clear c13); (try clear c14); (try clear c15); (try clear c16); (try clear c17); (try clear c27); (try clear c38); (try clear p38); (try clear q38); (try clear hx38); (try clear qi38); (try clear p39); (try clear q39); (try clear hx39); (try clear p64); (try clear c103); (try clear c108); (try clear c111); (try clear c112); (try clear c113); (try clear c127); (try clear c128); (try clear c131); (try clear c132); (try clear c132b0); (try clear c132b1); (try clear c133); (try clear c142); (try clear c143); (try clear c143b0); (try clear c143b1); (try clear c145); (try clear c147); (try clear c152); (try clear c152b0); (try clear c153); (try clear c153b0); (try clear c154); (try clear c154b0); (try clear c155); (try clear c155b0); (try clear c155b1); (try clear c156); (try clear c156b0); (try clear c156b1); (try clear c156b2); (try clear c157); (try clear c157b0); (try clear c159); (try clear c159b0); (try clear c160); (try clear c160b0); (try clear c161); (try clear c161b0); (try clear c161b1); (try clear c162); (try clear c162b0); (try clear c162b1); (try clear c163); (try clear c163b0); (try clear c165); (try clear c165b0); (try clear c166); (try clear c166b0); (try clear c167); (try clear c167b0); (try clear c168); (try clear c168b0); (try clear c168b1); (try clear c169); (try clear c169b0); (try clear c170); (try clear c170b0); (try clear c171); (try clear c171b0); (try clear c172); (try clear c172b0); (try clear c172b1); (try clear c172b2); (try clear c174); (try clear c174b0); (try clear c175); (try clear c175b0); (try clear c176); (try clear c176b0); (try clear c176b1); (try clear hx380_0); (try clear hx384_0); (try clear hx385_0); (try clear hx386_0); (try clear hx387_0); (try clear hx388_0); (try clear hx389_0); (try clear hx390_0); (try clear hx391_0); (try clear p2); (try clear p3); (try clear p38); (try clear p380); (try clear p384); (try clear p385); (try clear p386); (try clear p387); (try clear p388); (try clear p389); (try clear p390); (try clear p391); (try clear p6); (try clear p64); (try clear q3); (try clear q38); (try clear q380); (try clear q384); (try clear q385); (try clear q386); (try clear q387); (try clear q388); (try clear q389); (try clear q390); (try clear q391)
                obtain ⟨x468_6, rfl, HA, HK6, HO_30, HO_34, HO_38, HO_430, HR384_0, HB⟩ := hrel
                cases gk with
                | zero => exact absurd HA.out (by simp [laws_FnTablesLead.l3])
                | succ k6 =>
                 have H := HA.out
                 clear HA
                 simp only [laws_FnTablesLead.l3] at H
                 by_cases c179 : x468_6 < ((rd_L3 t346 x432_5).length : Int)
                 rotate_left
                 ·as_aux_lemma =>
                  rw [if_neg c179] at H
                  have c179b0 : decide (x468_6 < ((rd_L3 t346 x432_5).length : Int)) = false := decide_eq_false c179
                  clear c179
                  have H' := Aside0.mk H
                  clear H
                  go_wp2
                  go_roundg k6
                  case measure => have := HJ9.out; have := HJ13.out; have := HJ35.out; have := HJ101.out; have := HK5.out; have := HK6.out; omega
                  case rel => exact ⟨((wrap64 (x56_5 + ((rd_L3 t346 x432_5).length : Int)))), ((wrap64 (x57_5 + 1))), (wrap64 (x432_5 + 1)), (by first | rfl | (simp; done) | (simp [*]; done)), (by first | rfl | (simp; done) | (simp [*]; done)), (by first | rfl | (simp; done) | (simp [*]; done)), H', ⟨by have := HJ9.out; have := HJ13.out; have := HJ35.out; have := HJ101.out; have := HK5.out; have := HK6.out; omega⟩, ⟨by (with_reducible repeat (first | apply Kd.R_alloc | apply Kd.R_drewN | apply Kd.R_drew)); exact HO_30.out⟩, ⟨by (with_reducible repeat (first | apply Kd.R_alloc | apply Kd.R_drewN | apply Kd.R_drew)); exact HO_34.out⟩, ⟨by (with_reducible repeat (first | apply Kd.S_alloc | apply Kd.S_drewN | apply Kd.S_drew)); exact HO_38.out⟩, ⟨by (with_reducible repeat (first | apply Kd.S_alloc | apply Kd.S_drewN | apply Kd.S_drew)); exact HO_430.out⟩, ⟨bb_⟩⟩
                 rw [if_pos c179] at H
                 have c179b0 : decide (x468_6 < ((rd_L3 t346 x432_5).length : Int)) = true := decide_eq_true c179
                 clear c179
                 by_cases c180 : 0 ≤ x468_6
                 rotate_left
                 ·rw [if_neg c180] at H
                  exact absurd H (by simp)
                 rw [if_pos c180] at H
                 have c180b0 : decide (0 ≤ x468_6) = true := decide_eq_true c180
                 clear c180
                 by_cases c181 : x468_6 < ((rd_L3 t346 x432_5).length : Int)
                 rotate_left
                 ·rw [if_neg c181] at H
                  exact absurd H (by simp)
                 rw [if_pos c181] at H
                 have c181b0 : decide (x468_6 < ((rd_L3 t346 x432_5).length : Int)) = true := decide_eq_true c181
                 clear c181
                 by_cases c182 : 0 < ((rd_L3 t346 x432_5).length : Int)
                 rotate_left
                 ·rw [if_neg c182] at H
                  exact absurd H (by simp)
                 rw [if_pos c182] at H
                 have c182b0 : decide (0 < ((rd_L3 t346 x432_5).length : Int)) = true := decide_eq_true c182
                 have c182b1 : decide (0 < (rd_L3 t346 x432_5).length) = true := decide_eq_true (by omega)
                 clear c182
                 by_cases c183 : (rd (rd_L3 t346 x432_5) x468_6) < (rd (rd_L3 t346 x432_5) 0)
                 ·rw [if_pos c183] at H
                  have c183b0 : decide ((rd (rd_L3 t346 x432_5) x468_6) < (rd (rd_L3 t346 x432_5) 0)) = true := decide_eq_true c183
                  clear c183
                  exact absurd H (by simp)
                 rw [if_neg c183] at H
                 have c183b0 : decide ((rd (rd_L3 t346 x432_5) x468_6) < (rd (rd_L3 t346 x432_5) 0)) = false := decide_eq_false c183
                 clear c183
                 by_cases c184 : 0 ≤ (rd (rd_L3 t346 x432_5) x468_6)
                 rotate_left
                 ·rw [if_neg c184] at H
                  exact absurd H (by simp)
                 rw [if_pos c184] at H
                 have c184b0 : decide (0 ≤ (rd (rd_L3 t346 x432_5) x468_6)) = true := decide_eq_true c184
                 clear c184
                 by_cases c185 : (rd (rd_L3 t346 x432_5) x468_6) < (t330.length : Int)
                 rotate_left
                 ·rw [if_neg c185] at H
                  exact absurd H (by simp)
                 rw [if_pos c185] at H
                 have c185b0 : decide ((rd (rd_L3 t346 x432_5) x468_6) < (t330.length : Int)) = true := decide_eq_true c185
                 clear c185
                 by_cases c186 : ((rd_L3 t346 x432_5).length : Int) = 0
                 ·rw [if_pos c186] at H
                  exact absurd H (by simp)
                 rw [if_neg c186] at H
                 have c186b0 : (((rd_L3 t346 x432_5).length : Int) == 0) = false := beq_eq_false_iff_ne.mpr c186
                 have c186b1 : (((rd_L3 t346 x432_5).length : Int) != 0) = true := bne_iff_ne.mpr c186
                 have c186b2 : ¬ ((rd_L3 t346 x432_5) = []) := fun h_ => c186 (by rw [h_]; rfl)
                 obtain ⟨ji187, hji187⟩ : ∃ j_ : Int, (Int.tmod (wrap64 (x468_6 + 1)) ((rd_L3 t346 x432_5).length : Int)) = j_ := ⟨_, rfl⟩
                 replace H : (if 0 ≤ (ji187) then (if (ji187) < ((rd_L3 t346 x432_5).length : Int) then (if (rd t330 (rd (rd_L3 t346 x432_5) x468_6)) = (rd (rd_L3 t346 x432_5) (ji187)) then (laws_FnTablesLead.l3 k6 t313 t330 t338 t346 t354 (wrap64 (x56_5 + ((rd_L3 t346 x432_5).length : Int))) (wrap64 (x57_5 + 1)) (rd_L3 t346 x432_5) t346 (t346.length : Int) x432_5 (rd_L3 t346 x432_5) ((rd_L3 t346 x432_5).length : Int) (wrap64 (x468_6 + 1))) else (none)) else (none)) else (none)) = some r := by first | (rw [hji187] at H; exact H) | (simp only [hji187] at H ⊢; exact H)
                 by_cases c188 : 0 ≤ (ji187)
                 rotate_left
                 ·rw [if_neg c188] at H
                  exact absurd H (by simp)
                 rw [if_pos c188] at H
                 have c188b0 : decide (0 ≤ (ji187)) = true := decide_eq_true c188
                 clear c188
                 by_cases c189 : (ji187) < ((rd_L3 t346 x432_5).length : Int)
                 rotate_left
                 ·rw [if_neg c189] at H
                  exact absurd H (by simp)
                 rw [if_pos c189] at H
                 have c189b0 : decide ((ji187) < ((rd_L3 t346 x432_5).length : Int)) = true := decide_eq_true c189
                 clear c189
                 by_cases c190 : (rd t330 (rd (rd_L3 t346 x432_5) x468_6)) = (rd (rd_L3 t346 x432_5) (ji187))
                 rotate_left
                 ·rw [if_neg c190] at H
                  exact absurd H (by simp)
                 rw [if_pos c190] at H
                 have c190b0 : ((rd t330 (rd (rd_L3 t346 x432_5) x468_6)) == (rd (rd_L3 t346 x432_5) (ji187))) = true := beq_iff_eq.mpr c190
                 have c190b1 : ((rd t330 (rd (rd_L3 t346 x432_5) x468_6)) != (rd (rd_L3 t346 x432_5) (ji187))) = false := bne_eq_false_iff_eq.mpr c190
                 clear c190
                 have H' := Aside0.mk H
                 clear H
                 have p388 : 0 ≤ (x468_6 : Int) := of_decide_eq_true (by assumption)
                 have q388 : x468_6 < ((rd_L3 t346 x432_5).length : Int) := of_decide_eq_true (by assumption)
                 obtain ⟨ad388, e388, hx388_0⟩ := Kd.at_int HR384_0.out x468_6 p388 q388
                 cases e388
                 replace p388 := eq_true p388
                 replace q388 := eq_true q388
                 try go_wp2
                 have n0_ := Aside0.mk (Kd.R_drew HO_30.out)
                 have n1_ := Aside0.mk (Kd.R_drew HO_34.out)
                 have n2_ := Aside0.mk (Kd.S_drew HO_38.out)
                 have n3_ := Aside0.mk (Kd.S_drew HO_430.out)
                 have n4_ := Aside0.mk (Kd.C_drew HR384_0.out)
                 have n5_ := Aside0.mk (below_drew1 HB.out)
                 clear HO_30
                 clear HO_34
                 clear HO_38
                 clear HO_430
                 clear HR384_0
                 clear HB
                 have HO_30 := n0_
                 have HO_34 := n1_
                 have HO_38 := n2_
                 have HO_430 := n3_
                 have HR384_0 := n4_
                 have HB := n5_
                 clear n0_ n1_ n2_ n3_ n4_ n5_
                 have p389 : 0 ≤ (0 : Int) := (by omega)
                 have q389 : 0 < ((rd_L3 t346 x432_5).length : Int) := of_decide_eq_true (by assumption)
                 obtain ⟨ad389, e389, hx389_0⟩ := Kd.at_int HR384_0.out 0 p389 q389
                 have hw389_0 := hx389_0
                 (try rw [show ((0 : Int)).toNat = 0 from rfl] at hw389_0)
                 (try rw [show 0 * 1 = 0 from rfl] at hw389_0)
                 (try rw [Addr.add_zero'] at hw389_0)
                 obtain rfl : ad388 = ad389 := (by injection e389)
                 have qi389 : (0 < (rd_L3 t346 x432_5).length) = True := eq_true (by omega)
                 (try rw [show ((0 : Int)).toNat = 0 from rfl] at hx389_0)
                 (try rw [Addr.add_zero'] at hx389_0)
                 replace p389 := eq_true p389
                 replace q389 := eq_true q389
                 have p390 : 0 ≤ ((rd (rd_L3 t346 x432_5) x468_6) : Int) := of_decide_eq_true (by assumption)
                 have q390 : (rd (rd_L3 t346 x432_5) x468_6) < (t330.length : Int) := of_decide_eq_true (by assumption)
                 obtain ⟨ad390, e390, hx390_0⟩ := Kd.at_int (Kd.R_reads' HO_30.out).2.2 (rd (rd_L3 t346 x432_5) x468_6) p390 q390
                 cases e390
                 replace p390 := eq_true p390
                 replace q390 := eq_true q390
                 have p391 : 0 ≤ ((ji187) : Int) := of_decide_eq_true (by assumption)
                 have q391 : (ji187) < ((rd_L3 t346 x432_5).length : Int) := of_decide_eq_true (by assumption)
                 obtain ⟨ad391, e391, hx391_0⟩ := Kd.at_int HR384_0.out (ji187) p391 q391
                 have hw391_0 := hx391_0
                 obtain rfl : ad388 = ad391 := (by injection e391)
                 replace p391 := eq_true p391
                 replace q391 := eq_true q391
                 refine start_ (n := 20) (S := fun w' => w'.cell? ad388 = some (.int .i64 (rd (rd_L3 t346 x432_5) 0)) ∧ w'.cell? (ad390.add ((rd (rd_L3 t346 x432_5) x468_6)).toNat) = some (.int .i64 (rd t330 (rd (rd_L3 t346 x432_5) x468_6))) ∧ w'.cell? (ad388.add ((ji187)).toNat) = some (.int .i64 (rd (rd_L3 t346 x432_5) (ji187)))) (ds := []) (bl_ 20 0x0) (by kernel_rfl) rfl rfl ⟨hw389_0, hx390_0, hw391_0⟩ (fun hHeld => ?_); refine with_tabW laws_FnTablesLead.tab66 laws_FnTablesLead.bits66 (fun HT_ HW_ => ?_)
                 generalize wr.drew = w191 at HO_30 HO_34 HO_38 HO_430 HR384_0 HB hx389_0 hx390_0 hx391_0 hHeld ⊢
                 refine pz_ 0 473 (bl_ 20 0x1) HT_.out ?_
                 refine pz_ 1 474 (bl_ 20 0x3) HT_.out ?_
                 refine pz_ 2 475 (bl_ 20 0x7) HT_.out ?_
                 refine take_ (i := 3) (N := some 476) (v := ?_) (a' := ?_) (bl_ 20 0xf) rfl rfl (take_ofW HT_.out HW_.out (by kernel_rfl)) (fun _ _ _ h => h) (Or.inl ⟨by rfl, ?_⟩) hHeld ?_ ?_
                 rotate_left
                 ·rintro w' ⟨s0, s1, s2⟩
                  go_simp
                  with_reducible rfl
                 rotate_left
                 ·simp only [Act.put, sa_, sb_, sc_, i64_w, i32_w]
                  rfl
                 refine pz_ 4 477 (bl_ 20 0x1f) HT_.out ?_
                 refine pz_ 5 478 (bl_ 20 0x3f) HT_.out ?_
                 refine pz_ 6 479 (bl_ 20 0x7f) HT_.out ?_
                 refine pz_ 7 480 (bl_ 20 0xff) HT_.out ?_
                 refine pz_ 8 481 (bl_ 20 0x1ff) HT_.out ?_
                 refine pz_ 10 483 (bl_ 20 0x5ff) HT_.out ?_
                 refine pz_ 11 484 (bl_ 20 0xdff) HT_.out ?_
                 refine pz_ 12 485 (bl_ 20 0x1dff) HT_.out ?_
                 refine pz_ 13 486 (bl_ 20 0x3dff) HT_.out ?_
                 refine pz_ 14 487 (bl_ 20 0x7dff) HT_.out ?_
                 refine pz_ 15 488 (bl_ 20 0xfdff) HT_.out ?_
                 refine pz_ 16 489 (bl_ 20 0x1fdff) HT_.out ?_
                 refine take_ (i := 9) (N := some 482) (v := ?_) (a' := ?_) (bl_ 20 0x1ffff) rfl rfl (take_ofW HT_.out HW_.out (by kernel_rfl)) (fun _ _ _ h => h) (Or.inl ⟨by rfl, ?_⟩) hHeld ?_ ?_
                 rotate_left
                 ·rintro w' ⟨s0, s1, s2⟩
                  go_simp
                  with_reducible rfl
                 rotate_left
                 ·simp only [Act.put, sa_, sb_, sc_, i64_w, i32_w]
                  rfl
                 refine take_ (i := 17) (N := some 490) (v := ?_) (a' := ?_) (bl_ 20 0x3ffff) rfl rfl (take_ofW HT_.out HW_.out (by kernel_rfl)) (fun _ _ _ h => h) (Or.inl ⟨by rfl, ?_⟩) hHeld ?_ ?_
                 rotate_left
                 ·rintro w' ⟨s0, s1, s2⟩
                  go_simp
                  with_reducible rfl
                 rotate_left
                 ·simp only [Act.put, sa_, sb_, sc_, i64_w, i32_w]
                  rfl
                 refine pz_ 18 491 (bl_ 20 0x7ffff) HT_.out ?_
                 refine pz_ 19 492 (bl_ 20 0xfffff) HT_.out ?_
                 refine done_ (done_of HT_.out (by kernel_rfl)) ?_
                 try go_wp2
                 go_roundg k6
                 case measure => have := HJ9.out; have := HJ13.out; have := HJ35.out; have := HJ101.out; have := HK5.out; have := HK6.out; omega
                 case rel => exact ⟨(wrap64 (x468_6 + 1)), (by first | rfl | (simp; done) | (simp [*]; done)), H', ⟨by have := HJ9.out; have := HJ13.out; have := HJ35.out; have := HJ101.out; have := HK5.out; have := HK6.out; omega⟩, ⟨by (with_reducible repeat (first | apply Kd.R_alloc | apply Kd.R_drewN | apply Kd.R_drew)); exact HO_30.out⟩, ⟨by (with_reducible repeat (first | apply Kd.R_alloc | apply Kd.R_drewN | apply Kd.R_drew)); exact HO_34.out⟩, ⟨by (with_reducible repeat (first | apply Kd.S_alloc | apply Kd.S_drewN | apply Kd.S_drew)); exact HO_38.out⟩, ⟨by (with_reducible repeat (first | apply Kd.S_alloc | apply Kd.S_drewN | apply Kd.S_drew)); exact HO_430.out⟩, ⟨by repeat (first | (with_reducible exact HR384_0.out) | (with_reducible refine Kd.C_alloc ?_ _) | (with_reducible refine Kd.C_drewN ?_ _) | (with_reducible refine Kd.C_drew ?_) | exact HR384_0.out)⟩, ⟨bb_⟩⟩
              rw [if_pos c157] at H
              have c157b0 : decide (0 < x432_5) = true := decide_eq_true c157
              clear c157
              obtain ⟨ji158, hji158⟩ : ∃ j_ : Int, (wrap64 (x432_5 - 1)) = j_ := ⟨_, rfl⟩
              replace H : (if 0 ≤ (ji158) then (if (ji158) < (t346.length : Int) then (if 0 < ((rd_L3 t346 (ji158)).length : Int) then (if 0 < ((rd_L3 t346 x432_5).length : Int) then (if (rd (rd_L3 t346 (ji158)) 0) ≥ (rd (rd_L3 t346 x432_5) 0) then (none) else (laws_FnTablesLead.l3 k5 t313 t330 t338 t346 t354 (wrap64 (x56_5 + ((rd_L3 t346 x432_5).length : Int))) (wrap64 (x57_5 + 1)) (rd_L3 t346 x432_5) t346 (t346.length : Int) x432_5 (rd_L3 t346 x432_5) ((rd_L3 t346 x432_5).length : Int) 0)) else (none)) else (none)) else (none)) else (none)) = some r := by first | (rw [hji158] at H; exact H) | (simp only [hji158] at H ⊢; exact H)
              have hji158w : (IntKind.i64.wrap (x432_5 - 1)) = ji158 := (i64_w _).trans hji158
              by_cases c159 : 0 ≤ (ji158)
              rotate_left
              ·rw [if_neg c159] at H
               exact absurd H (by simp)
              rw [if_pos c159] at H
              have c159b0 : decide (0 ≤ (ji158)) = true := decide_eq_true c159
              clear c159
              by_cases c160 : (ji158) < (t346.length : Int)
              rotate_left
              ·rw [if_neg c160] at H
               exact absurd H (by simp)
              rw [if_pos c160] at H
              have c160b0 : decide ((ji158) < (t346.length : Int)) = true := decide_eq_true c160
              clear c160
              by_cases c161 : 0 < ((rd_L3 t346 (ji158)).length : Int)
              rotate_left
              ·rw [if_neg c161] at H
               exact absurd H (by simp)
              rw [if_pos c161] at H
              have c161b0 : decide (0 < ((rd_L3 t346 (ji158)).length : Int)) = true := decide_eq_true c161
              have c161b1 : decide (0 < (rd_L3 t346 (ji158)).length) = true := decide_eq_true (by omega)
              clear c161
              by_cases c162 : 0 < ((rd_L3 t346 x432_5).length : Int)
              rotate_left
              ·rw [if_neg c162] at H
               exact absurd H (by simp)
              rw [if_pos c162] at H
              have c162b0 : decide (0 < ((rd_L3 t346 x432_5).length : Int)) = true := decide_eq_true c162
              have c162b1 : decide (0 < (rd_L3 t346 x432_5).length) = true := decide_eq_true (by omega)
              clear c162
              by_cases c163 : (rd (rd_L3 t346 (ji158)) 0) ≥ (rd (rd_L3 t346 x432_5) 0)
              ·rw [if_pos c163] at H
               exact absurd H (by simp)
              rw [if_neg c163] at H
              have c163b0 : decide ((rd (rd_L3 t346 x432_5) 0) ≤ (rd (rd_L3 t346 (ji158)) 0)) = false := decide_eq_false c163
              clear c163
              have H' := Aside0.mk H
              clear H
              have p384 : 0 ≤ (x432_5 : Int) := of_decide_eq_true (by assumption)
              have q384 : x432_5 < (t346.length : Int) := of_decide_eq_true (by assumption)
              obtain ⟨ad384, A384_0, c384_0, e384, hx384_0, hl384_0, hi384_0⟩ := at_L3 (Kd.S_reads' HO_430.out).2.2 x432_5 p384 q384
              cases e384
              obtain ⟨ce384, hce384, hMe384, hcc384⟩ := Kd.S_get HO_430.out [] x432_5 p384 (by first | exact q384 | exact of_decide_eq_true (by assumption) | (have e_ := (Kd.S_reads' HO_430.out).1; omega))
              obtain ⟨ve384_0, rfl, ge384_0⟩ := hMe384
              have hv384_0 := hcc384 0 _ rfl
              rw [Nat.add_zero, show ((Kd.slice 3 (Kd.int .i64))).sz = 1 from rfl, Nat.mul_one] at hv384_0
              replace hv384_0 := Option.some.inj (hv384_0.symm.trans hx384_0)
              rw [hv384_0] at ge384_0
              have HL384_0 := Aside0.mk (show Kd.R (Kd.int .i64) 3 _ _ _ _ (rd_L3 t346 x432_5) from ge384_0)
              clear hv384_0 ge384_0
              clear hcc384 hce384
              have HR384_0 := Aside0.mk hi384_0
              have HC384_0 := Aside0.mk hl384_0
              clear hi384_0 hl384_0
              replace p384 := eq_true p384
              replace q384 := eq_true q384
              try go_wp2
              have n0_ := Aside0.mk (Kd.R_drew HO_30.out)
              have n1_ := Aside0.mk (Kd.R_drew HO_34.out)
              have n2_ := Aside0.mk (Kd.S_drew HO_38.out)
              have n3_ := Aside0.mk (Kd.S_drew HO_430.out)
              have n4_ := Aside0.mk (Kd.R_drew HL384_0.out)
              have n5_ := Aside0.mk (Kd.C_drew HR384_0.out)
              have n6_ := Aside0.mk (below_drew1 HB.out)
              clear HO_30
              clear HO_34
              clear HO_38
              clear HO_430
              clear HL384_0
              clear HR384_0
              clear HB
              have HO_30 := n0_
              have HO_34 := n1_
              have HO_38 := n2_
              have HO_430 := n3_
              have HL384_0 := n4_
              have HR384_0 := n5_
              have HB := n6_
              clear n0_ n1_ n2_ n3_ n4_ n5_ n6_
              have p385 : 0 ≤ ((ji158) : Int) := of_decide_eq_true (by assumption)
              have q385 : (ji158) < (t346.length : Int) := of_decide_eq_true (by assumption)
              obtain ⟨ad385, A385_0, c385_0, e385, hx385_0, hl385_0, hi385_0⟩ := at_L3 (Kd.S_reads' HO_38.out).2.2 (ji158) p385 q385
              obtain rfl : ad384 = ad385 := (by injection e385)
              obtain ⟨ce385, hce385, hMe385, hcc385⟩ := Kd.S_get HO_38.out [] (ji158) p385 (by first | exact q385 | exact of_decide_eq_true (by assumption) | (have e_ := (Kd.S_reads' HO_38.out).1; omega))
              obtain ⟨ve385_0, rfl, ge385_0⟩ := hMe385
              have hv385_0 := hcc385 0 _ rfl
              rw [Nat.add_zero, show ((Kd.slice 3 (Kd.int .i64))).sz = 1 from rfl, Nat.mul_one] at hv385_0
              replace hv385_0 := Option.some.inj (hv385_0.symm.trans hx385_0)
              rw [hv385_0] at ge385_0
              have HL385_0 := Aside0.mk (show Kd.R (Kd.int .i64) 3 _ _ _ _ (rd_L3 t346 (ji158)) from ge385_0)
              clear hv385_0 ge385_0
              clear hcc385 hce385
              have HR385_0 := Aside0.mk hi385_0
              have HC385_0 := Aside0.mk hl385_0
              clear hi385_0 hl385_0
              replace p385 := eq_true p385
              replace q385 := eq_true q385
              have p386 : 0 ≤ (0 : Int) := (by omega)
              have q386 : 0 < ((rd_L3 t346 (ji158)).length : Int) := of_decide_eq_true (by assumption)
              obtain ⟨ad386, e386, hx386_0⟩ := Kd.at_int (by repeat (first | (with_reducible exact HR385_0.out) | (with_reducible refine Kd.C_alloc ?_ _) | (with_reducible refine Kd.C_drewN ?_ _) | (with_reducible refine Kd.C_drew ?_) | exact HR385_0.out)) 0 p386 q386
              cases e386
              have qi386 : (0 < (rd_L3 t346 (ji158)).length) = True := eq_true (by omega)
              (try rw [show ((0 : Int)).toNat = 0 from rfl] at hx386_0)
              (try rw [Addr.add_zero'] at hx386_0)
              replace p386 := eq_true p386
              replace q386 := eq_true q386
              have p387 : 0 ≤ (0 : Int) := (by omega)
              have q387 : 0 < ((rd_L3 t346 x432_5).length : Int) := of_decide_eq_true (by assumption)
              obtain ⟨ad387, e387, hx387_0⟩ := Kd.at_int (by repeat (first | (with_reducible exact HR384_0.out) | (with_reducible refine Kd.C_alloc ?_ _) | (with_reducible refine Kd.C_drewN ?_ _) | (with_reducible refine Kd.C_drew ?_) | exact HR384_0.out)) 0 p387 q387
              cases e387
              have qi387 : (0 < (rd_L3 t346 x432_5).length) = True := eq_true (by omega)
              (try rw [show ((0 : Int)).toNat = 0 from rfl] at hx387_0)
              (try rw [Addr.add_zero'] at hx387_0)
              replace p387 := eq_true p387
              replace q387 := eq_true q387
              refine start_ (n := 20) (S := fun w' => w'.cell? (ad384.add ((ji158)).toNat) = some (.slice (some ad386) (rd_L3 t346 (ji158)).length c385_0) ∧ w'.cell? ad386 = some (.int .i64 (rd (rd_L3 t346 (ji158)) 0)) ∧ w'.cell? ad387 = some (.int .i64 (rd (rd_L3 t346 x432_5) 0))) (ds := []) (bl_ 20 0x0) (by kernel_rfl) rfl rfl ⟨hx385_0, hx386_0, hx387_0⟩ (fun hHeld => ?_); refine with_tabW laws_FnTablesLead.tab61 laws_FnTablesLead.bits61 (fun HT_ HW_ => ?_)
              generalize wr.drew = w164 at HO_30 HO_34 HO_38 HO_430 HL384_0 HR384_0 HB HL385_0 HR385_0 hx385_0 hx386_0 hx387_0 hHeld ⊢
              refine pz_ 0 446 (bl_ 20 0x1) HT_.out ?_
              refine pz_ 1 447 (bl_ 20 0x3) HT_.out ?_
              refine pz_ 2 448 (bl_ 20 0x7) HT_.out ?_
              refine pz_ 3 449 (bl_ 20 0xf) HT_.out ?_
              refine pz_ 4 450 (bl_ 20 0x1f) HT_.out ?_
              refine pz_ 5 451 (bl_ 20 0x3f) HT_.out ?_
              refine pz_ 6 452 (bl_ 20 0x7f) HT_.out ?_
              refine pz_ 7 453 (bl_ 20 0xff) HT_.out ?_
              refine pz_ 8 454 (bl_ 20 0x1ff) HT_.out ?_
              refine pz_ 9 455 (bl_ 20 0x3ff) HT_.out ?_
              refine pz_ 10 456 (bl_ 20 0x7ff) HT_.out ?_
              refine pz_ 14 460 (bl_ 20 0x47ff) HT_.out ?_
              refine pz_ 15 461 (bl_ 20 0xc7ff) HT_.out ?_
              refine take_ (i := 11) (N := some 457) (v := ?_) (a' := ?_) (bl_ 20 0xcfff) rfl rfl (take_ofW HT_.out HW_.out (by kernel_rfl)) (fun _ _ _ h => h) (Or.inl ⟨by rfl, ?_⟩) hHeld ?_ ?_
              rotate_left
              ·rintro w' ⟨s0, s1, s2⟩
               go_simp
               with_reducible rfl
              rotate_left
              ·simp only [Act.put, sa_, sb_, sc_, i64_w, i32_w]
               rfl
              refine pz_ 12 458 (bl_ 20 0xdfff) HT_.out ?_
              refine take_ (i := 13) (N := some 459) (v := ?_) (a' := ?_) (bl_ 20 0xffff) rfl rfl (take_ofW HT_.out HW_.out (by kernel_rfl)) (fun _ _ _ h => h) (Or.inl ⟨by rfl, ?_⟩) hHeld ?_ ?_
              rotate_left
              ·rintro w' ⟨s0, s1, s2⟩
               go_simp
               with_reducible rfl
              rotate_left
              ·simp only [Act.put, sa_, sb_, sc_, i64_w, i32_w]
               rfl
              refine take_ (i := 16) (N := some 462) (v := ?_) (a' := ?_) (bl_ 20 0x1ffff) rfl rfl (take_ofW HT_.out HW_.out (by kernel_rfl)) (fun _ _ _ h => h) (Or.inl ⟨by rfl, ?_⟩) hHeld ?_ ?_
              rotate_left
              ·rintro w' ⟨s0, s1, s2⟩
               go_simp
               with_reducible rfl
              rotate_left
              ·simp only [Act.put, sa_, sb_, sc_, i64_w, i32_w]
               rfl
              refine pz_ 17 463 (bl_ 20 0x3ffff) HT_.out ?_
              refine pz_ 18 464 (bl_ 20 0x7ffff) HT_.out ?_
              refine pz_ 19 465 (bl_ 20 0xfffff) HT_.out ?_
              refine done_ (done_of HT_.out (by kernel_rfl)) ?_
              try go_wp2
              go_loopg [468] k5 (fun kq v468 w' => ∃ (x468_6 : Int), v468 = .int .i64 x468_6 ∧ Aside0 (laws_FnTablesLead.l3 kq t313 t330 t338 t346 t354 (wrap64 (x56_5 + ((rd_L3 t346 x432_5).length : Int))) (wrap64 (x57_5 + 1)) (rd_L3 t346 x432_5) t346 (t346.length : Int) x432_5 (rd_L3 t346 x432_5) ((rd_L3 t346 x432_5).length : Int) x468_6 = some r) ∧ Aside0 (kq ≤ k5) ∧ Aside0 (Kd.R (Kd.int .i64) 3 w' w.heap.size (fun k_ => some k_ ≠ ((.slice Ao149 t338.length co149) : Value).ownBlock) (.slice Ao148 t330.length co148) t330) ∧ Aside0 (Kd.R (Kd.int .i64) 3 w' w.heap.size (fun k_ => some k_ ≠ ((.slice Ao148 t330.length co148) : Value).ownBlock) (.slice Ao149 t338.length co149) t338) ∧ Aside0 (Kd.S (Kd.slice 3 (Kd.int .i64)) 33 w' w.heap.size (fun k_ => some k_ ≠ ((.slice Ao148 t330.length co148) : Value).ownBlock ∧ some k_ ≠ ((.slice Ao149 t338.length co149) : Value).ownBlock) (.slice (some ad384) t346.length co151) t346) ∧ Aside0 (Kd.S (Kd.slice 3 (Kd.int .i64)) 33 w' w.heap.size (fun k_ => some k_ ≠ ((.slice Ao148 t330.length co148) : Value).ownBlock ∧ some k_ ≠ ((.slice Ao149 t338.length co149) : Value).ownBlock) (.slice (some ad384) t346.length co151) t346) ∧ Aside0 (Kd.C (Kd.int .i64) w' (some ad387) (rd_L3 t346 x432_5).length (rd_L3 t346 x432_5)) ∧ Aside0 (Below w.heap.size w w'))
              case atStart => exact ⟨(0), (by first | rfl | (simp; done) | (simp [*]; done)), H', ⟨Nat.le_refl _⟩, ⟨by (with_reducible repeat (first | apply Kd.R_alloc | apply Kd.R_drewN | apply Kd.R_drew)); exact HO_30.out⟩, ⟨by (with_reducible repeat (first | apply Kd.R_alloc | apply Kd.R_drewN | apply Kd.R_drew)); exact HO_34.out⟩, ⟨by (with_reducible repeat (first | apply Kd.S_alloc | apply Kd.S_drewN | apply Kd.S_drew)); exact HO_38.out⟩, ⟨by (with_reducible repeat (first | apply Kd.S_alloc | apply Kd.S_drewN | apply Kd.S_drew)); exact HO_430.out⟩, ⟨by repeat (first | (with_reducible exact HR384_0.out) | (with_reducible refine Kd.C_alloc ?_ _) | (with_reducible refine Kd.C_drewN ?_ _) | (with_reducible refine Kd.C_drew ?_) | exact HR384_0.out)⟩, ⟨bb_⟩⟩
              case round =>
               as_aux_lemma =>
               clear H'
               (try clear c1); (try clear c2); (try clear p2); (try clear c3); (try clear p3); (try clear q3); (try clear hx3); (try clear qi3); (try clear p6); (try clear c10); (try clear c11); (try clear c12); (try clear c13); (try clear c14); (try clear c15); (try clear c16); (try clear c27); (try clear c38); (try clear p38); (try clear q38); (try clear hx38); (try clear qi38); (try clear p64); (try clear c103); (try clear c108); (try clear c111); (try clear c112); (try clear c113); (try clear c127); (try clear c128); (try clear c131); (try clear c132); (try clear c132b0); (try clear c132b1); (try clear c133); (try clear c142); (try clear c143); (try clear c143b0); (try clear c143b1); (try clear c145); (try clear c147); (try clear c152); (try clear c152b0); (try clear c153); (try clear c153b0); (try clear c154); (try clear c154b0); (try clear c155); (try clear c155b0); (try clear c155b1); (try clear c156); (try clear c156b0); (try clear c156b1); (try clear c156b2); (try clear c157); (try clear c157b0); (try clear c159); (try clear c159b0); (try clear c160); (try clear c160b0); (try clear c161); (try clear c161b0); (try clear c161b1); (try clear c162); (try clear c162b0); (try clear c162b1); (try clear c163); (try clear c163b0); (try clear hx380_0); (try clear hx384_0); (try clear hx385_0); (try clear hx386_0); (try clear hx387_0); (try clear p2); (try clear p3); (try clear p38); (try clear p380); (try clear p384); (try clear p385); (try clear p386); (try clear p387); (try clear q3); (try clear q38); (try clear q380); (try clear q384); (try clear q385); (try clear q386); (try clear q387)
               obtain ⟨x468_6, rfl, HA, HK6, HO_30, HO_34, HO_38, HO_430, HR384_0, HB⟩ := hrel
               cases gk with
               | zero => exact absurd HA.out (by simp [laws_FnTablesLead.l3])
               | succ k6 =>
                have H := HA.out
                clear HA
                simp only [laws_FnTablesLead.l3] at H
                by_cases c165 : x468_6 < ((rd_L3 t346 x432_5).length : Int)
                rotate_left
                ·as_aux_lemma =>
                 rw [if_neg c165] at H
                 have c165b0 : decide (x468_6 < ((rd_L3 t346 x432_5).length : Int)) = false := decide_eq_false c165
                 clear c165
                 have H' := Aside0.mk H
                 clear H
                 go_wp2
                 go_roundg k6
                 case measure => have := HJ9.out; have := HJ13.out; have := HJ35.out; have := HJ101.out; have := HK5.out; have := HK6.out; omega
                 case rel => exact ⟨((wrap64 (x56_5 + ((rd_L3 t346 x432_5).length : Int)))), ((wrap64 (x57_5 + 1))), (wrap64 (x432_5 + 1)), (by first | rfl | (simp; done) | (simp [*]; done)), (by first | rfl | (simp; done) | (simp [*]; done)), (by first | rfl | (simp; done) | (simp [*]; done)), H', ⟨by have := HJ9.out; have := HJ13.out; have := HJ35.out; have := HJ101.out; have := HK5.out; have := HK6.out; omega⟩, ⟨by (with_reducible repeat (first | apply Kd.R_alloc | apply Kd.R_drewN | apply Kd.R_drew)); exact HO_30.out⟩, ⟨by (with_reducible repeat (first | apply Kd.R_alloc | apply Kd.R_drewN | apply Kd.R_drew)); exact HO_34.out⟩, ⟨by (with_reducible repeat (first | apply Kd.S_alloc | apply Kd.S_drewN | apply Kd.S_drew)); exact HO_38.out⟩, ⟨by (with_reducible repeat (first | apply Kd.S_alloc | apply Kd.S_drewN | apply Kd.S_drew)); exact HO_430.out⟩, ⟨bb_⟩⟩
                rw [if_pos c165] at H
                have c165b0 : decide (x468_6 < ((rd_L3 t346 x432_5).length : Int)) = true := decide_eq_true c165
                clear c165
                by_cases c166 : 0 ≤ x468_6
                rotate_left
                ·rw [if_neg c166] at H
                 exact absurd H (by simp)
                rw [if_pos c166] at H
                have c166b0 : decide (0 ≤ x468_6) = true := decide_eq_true c166
                clear c166
                by_cases c167 : x468_6 < ((rd_L3 t346 x432_5).length : Int)
                rotate_left
                ·rw [if_neg c167] at H
                 exact absurd H (by simp)
                rw [if_pos c167] at H
                have c167b0 : decide (x468_6 < ((rd_L3 t346 x432_5).length : Int)) = true := decide_eq_true c167
                clear c167
                by_cases c168 : 0 < ((rd_L3 t346 x432_5).length : Int)
                rotate_left
                ·rw [if_neg c168] at H
                 exact absurd H (by simp)
                rw [if_pos c168] at H
                have c168b0 : decide (0 < ((rd_L3 t346 x432_5).length : Int)) = true := decide_eq_true c168
                have c168b1 : decide (0 < (rd_L3 t346 x432_5).length) = true := decide_eq_true (by omega)
                clear c168
                by_cases c169 : (rd (rd_L3 t346 x432_5) x468_6) < (rd (rd_L3 t346 x432_5) 0)
                ·rw [if_pos c169] at H
                 have c169b0 : decide ((rd (rd_L3 t346 x432_5) x468_6) < (rd (rd_L3 t346 x432_5) 0)) = true := decide_eq_true c169
                 clear c169
                 exact absurd H (by simp)
                rw [if_neg c169] at H
                have c169b0 : decide ((rd (rd_L3 t346 x432_5) x468_6) < (rd (rd_L3 t346 x432_5) 0)) = false := decide_eq_false c169
                clear c169
                by_cases c170 : 0 ≤ (rd (rd_L3 t346 x432_5) x468_6)
                rotate_left
                ·rw [if_neg c170] at H
                 exact absurd H (by simp)
                rw [if_pos c170] at H
                have c170b0 : decide (0 ≤ (rd (rd_L3 t346 x432_5) x468_6)) = true := decide_eq_true c170
                clear c170
                by_cases c171 : (rd (rd_L3 t346 x432_5) x468_6) < (t330.length : Int)
                rotate_left
                ·rw [if_neg c171] at H
                 exact absurd H (by simp)
                rw [if_pos c171] at H
                have c171b0 : decide ((rd (rd_L3 t346 x432_5) x468_6) < (t330.length : Int)) = true := decide_eq_true c171
                clear c171
                by_cases c172 : ((rd_L3 t346 x432_5).length : Int) = 0
                ·rw [if_pos c172] at H
                 exact absurd H (by simp)
                rw [if_neg c172] at H
                have c172b0 : (((rd_L3 t346 x432_5).length : Int) == 0) = false := beq_eq_false_iff_ne.mpr c172
                have c172b1 : (((rd_L3 t346 x432_5).length : Int) != 0) = true := bne_iff_ne.mpr c172
                have c172b2 : ¬ ((rd_L3 t346 x432_5) = []) := fun h_ => c172 (by rw [h_]; rfl)
                obtain ⟨ji173, hji173⟩ : ∃ j_ : Int, (Int.tmod (wrap64 (x468_6 + 1)) ((rd_L3 t346 x432_5).length : Int)) = j_ := ⟨_, rfl⟩
                replace H : (if 0 ≤ (ji173) then (if (ji173) < ((rd_L3 t346 x432_5).length : Int) then (if (rd t330 (rd (rd_L3 t346 x432_5) x468_6)) = (rd (rd_L3 t346 x432_5) (ji173)) then (laws_FnTablesLead.l3 k6 t313 t330 t338 t346 t354 (wrap64 (x56_5 + ((rd_L3 t346 x432_5).length : Int))) (wrap64 (x57_5 + 1)) (rd_L3 t346 x432_5) t346 (t346.length : Int) x432_5 (rd_L3 t346 x432_5) ((rd_L3 t346 x432_5).length : Int) (wrap64 (x468_6 + 1))) else (none)) else (none)) else (none)) = some r := by first | (rw [hji173] at H; exact H) | (simp only [hji173] at H ⊢; exact H)
                by_cases c174 : 0 ≤ (ji173)
                rotate_left
                ·rw [if_neg c174] at H
                 exact absurd H (by simp)
                rw [if_pos c174] at H
                have c174b0 : decide (0 ≤ (ji173)) = true := decide_eq_true c174
                clear c174
                by_cases c175 : (ji173) < ((rd_L3 t346 x432_5).length : Int)
                rotate_left
                ·rw [if_neg c175] at H
                 exact absurd H (by simp)
                rw [if_pos c175] at H
                have c175b0 : decide ((ji173) < ((rd_L3 t346 x432_5).length : Int)) = true := decide_eq_true c175
                clear c175
                by_cases c176 : (rd t330 (rd (rd_L3 t346 x432_5) x468_6)) = (rd (rd_L3 t346 x432_5) (ji173))
                rotate_left
                ·rw [if_neg c176] at H
                 exact absurd H (by simp)
                rw [if_pos c176] at H
                have c176b0 : ((rd t330 (rd (rd_L3 t346 x432_5) x468_6)) == (rd (rd_L3 t346 x432_5) (ji173))) = true := beq_iff_eq.mpr c176
                have c176b1 : ((rd t330 (rd (rd_L3 t346 x432_5) x468_6)) != (rd (rd_L3 t346 x432_5) (ji173))) = false := bne_eq_false_iff_eq.mpr c176
                clear c176
                have H' := Aside0.mk H
                clear H
                have p388 : 0 ≤ (x468_6 : Int) := of_decide_eq_true (by assumption)
                have q388 : x468_6 < ((rd_L3 t346 x432_5).length : Int) := of_decide_eq_true (by assumption)
                obtain ⟨ad388, e388, hx388_0⟩ := Kd.at_int HR384_0.out x468_6 p388 q388
                obtain rfl : ad387 = ad388 := (by injection e388)
                replace p388 := eq_true p388
                replace q388 := eq_true q388
                try go_wp2
                have n0_ := Aside0.mk (Kd.R_drew HO_30.out)
                have n1_ := Aside0.mk (Kd.R_drew HO_34.out)
                have n2_ := Aside0.mk (Kd.S_drew HO_38.out)
                have n3_ := Aside0.mk (Kd.S_drew HO_430.out)
                have n4_ := Aside0.mk (Kd.C_drew HR384_0.out)
                have n5_ := Aside0.mk (below_drew1 HB.out)
                clear HO_30
                clear HO_34
                clear HO_38
                clear HO_430
                clear HR384_0
                clear HB
                have HO_30 := n0_
                have HO_34 := n1_
                have HO_38 := n2_
                have HO_430 := n3_
                have HR384_0 := n4_
                have HB := n5_
                clear n0_ n1_ n2_ n3_ n4_ n5_
                have p389 : 0 ≤ (0 : Int) := (by omega)
                have q389 : 0 < ((rd_L3 t346 x432_5).length : Int) := of_decide_eq_true (by assumption)
                obtain ⟨ad389, e389, hx389_0⟩ := Kd.at_int HR384_0.out 0 p389 q389
                have hw389_0 := hx389_0
                (try rw [show ((0 : Int)).toNat = 0 from rfl] at hw389_0)
                (try rw [show 0 * 1 = 0 from rfl] at hw389_0)
                (try rw [Addr.add_zero'] at hw389_0)
                obtain rfl : ad387 = ad389 := (by injection e389)
                have qi389 : (0 < (rd_L3 t346 x432_5).length) = True := eq_true (by omega)
                (try rw [show ((0 : Int)).toNat = 0 from rfl] at hx389_0)
                (try rw [Addr.add_zero'] at hx389_0)
                replace p389 := eq_true p389
                replace q389 := eq_true q389
                have p390 : 0 ≤ ((rd (rd_L3 t346 x432_5) x468_6) : Int) := of_decide_eq_true (by assumption)
                have q390 : (rd (rd_L3 t346 x432_5) x468_6) < (t330.length : Int) := of_decide_eq_true (by assumption)
                obtain ⟨ad390, e390, hx390_0⟩ := Kd.at_int (Kd.R_reads' HO_30.out).2.2 (rd (rd_L3 t346 x432_5) x468_6) p390 q390
                cases e390
                replace p390 := eq_true p390
                replace q390 := eq_true q390
                have p391 : 0 ≤ ((ji173) : Int) := of_decide_eq_true (by assumption)
                have q391 : (ji173) < ((rd_L3 t346 x432_5).length : Int) := of_decide_eq_true (by assumption)
                obtain ⟨ad391, e391, hx391_0⟩ := Kd.at_int HR384_0.out (ji173) p391 q391
                have hw391_0 := hx391_0
                obtain rfl : ad387 = ad391 := (by injection e391)
                replace p391 := eq_true p391
                replace q391 := eq_true q391
                refine start_ (n := 20) (S := fun w' => w'.cell? ad387 = some (.int .i64 (rd (rd_L3 t346 x432_5) 0)) ∧ w'.cell? (ad390.add ((rd (rd_L3 t346 x432_5) x468_6)).toNat) = some (.int .i64 (rd t330 (rd (rd_L3 t346 x432_5) x468_6))) ∧ w'.cell? (ad387.add ((ji173)).toNat) = some (.int .i64 (rd (rd_L3 t346 x432_5) (ji173)))) (ds := []) (bl_ 20 0x0) (by kernel_rfl) rfl rfl ⟨hw389_0, hx390_0, hw391_0⟩ (fun hHeld => ?_); refine with_tabW laws_FnTablesLead.tab66 laws_FnTablesLead.bits66 (fun HT_ HW_ => ?_)
                generalize wr.drew = w177 at HO_30 HO_34 HO_38 HO_430 HR384_0 HB hx389_0 hx390_0 hx391_0 hHeld ⊢
                refine pz_ 0 473 (bl_ 20 0x1) HT_.out ?_
                refine pz_ 1 474 (bl_ 20 0x3) HT_.out ?_
                refine pz_ 2 475 (bl_ 20 0x7) HT_.out ?_
                refine take_ (i := 3) (N := some 476) (v := ?_) (a' := ?_) (bl_ 20 0xf) rfl rfl (take_ofW HT_.out HW_.out (by kernel_rfl)) (fun _ _ _ h => h) (Or.inl ⟨by rfl, ?_⟩) hHeld ?_ ?_
                rotate_left
                ·rintro w' ⟨s0, s1, s2⟩
                 go_simp
                 with_reducible rfl
                rotate_left
                ·simp only [Act.put, sa_, sb_, sc_, i64_w, i32_w]
                 rfl
                refine pz_ 4 477 (bl_ 20 0x1f) HT_.out ?_
                refine pz_ 5 478 (bl_ 20 0x3f) HT_.out ?_
                refine pz_ 6 479 (bl_ 20 0x7f) HT_.out ?_
                refine pz_ 7 480 (bl_ 20 0xff) HT_.out ?_
                refine pz_ 8 481 (bl_ 20 0x1ff) HT_.out ?_
                refine pz_ 10 483 (bl_ 20 0x5ff) HT_.out ?_
                refine pz_ 11 484 (bl_ 20 0xdff) HT_.out ?_
                refine pz_ 12 485 (bl_ 20 0x1dff) HT_.out ?_
                refine pz_ 13 486 (bl_ 20 0x3dff) HT_.out ?_
                refine pz_ 14 487 (bl_ 20 0x7dff) HT_.out ?_
                refine pz_ 15 488 (bl_ 20 0xfdff) HT_.out ?_
                refine pz_ 16 489 (bl_ 20 0x1fdff) HT_.out ?_
                refine take_ (i := 9) (N := some 482) (v := ?_) (a' := ?_) (bl_ 20 0x1ffff) rfl rfl (take_ofW HT_.out HW_.out (by kernel_rfl)) (fun _ _ _ h => h) (Or.inl ⟨by rfl, ?_⟩) hHeld ?_ ?_
                rotate_left
                ·rintro w' ⟨s0, s1, s2⟩
                 go_simp
                 with_reducible rfl
                rotate_left
                ·simp only [Act.put, sa_, sb_, sc_, i64_w, i32_w]
                 rfl
                refine take_ (i := 17) (N := some 490) (v := ?_) (a' := ?_) (bl_ 20 0x3ffff) rfl rfl (take_ofW HT_.out HW_.out (by kernel_rfl)) (fun _ _ _ h => h) (Or.inl ⟨by rfl, ?_⟩) hHeld ?_ ?_
                rotate_left
                ·rintro w' ⟨s0, s1, s2⟩
                 go_simp
                 with_reducible rfl
                rotate_left
                ·simp only [Act.put, sa_, sb_, sc_, i64_w, i32_w]
                 rfl
                refine pz_ 18 491 (bl_ 20 0x7ffff) HT_.out ?_
                refine pz_ 19 492 (bl_ 20 0xfffff) HT_.out ?_
                refine done_ (done_of HT_.out (by kernel_rfl)) ?_
                try go_wp2
                go_roundg k6
                case measure => have := HJ9.out; have := HJ13.out; have := HJ35.out; have := HJ101.out; have := HK5.out; have := HK6.out; omega
                case rel => exact ⟨(wrap64 (x468_6 + 1)), (by first | rfl | (simp; done) | (simp [*]; done)), H', ⟨by have := HJ9.out; have := HJ13.out; have := HJ35.out; have := HJ101.out; have := HK5.out; have := HK6.out; omega⟩, ⟨by (with_reducible repeat (first | apply Kd.R_alloc | apply Kd.R_drewN | apply Kd.R_drew)); exact HO_30.out⟩, ⟨by (with_reducible repeat (first | apply Kd.R_alloc | apply Kd.R_drewN | apply Kd.R_drew)); exact HO_34.out⟩, ⟨by (with_reducible repeat (first | apply Kd.S_alloc | apply Kd.S_drewN | apply Kd.S_drew)); exact HO_38.out⟩, ⟨by (with_reducible repeat (first | apply Kd.S_alloc | apply Kd.S_drewN | apply Kd.S_drew)); exact HO_430.out⟩, ⟨by repeat (first | (with_reducible exact HR384_0.out) | (with_reducible refine Kd.C_alloc ?_ _) | (with_reducible refine Kd.C_drewN ?_ _) | (with_reducible refine Kd.C_drew ?_) | exact HR384_0.out)⟩, ⟨bb_⟩⟩
             rw [if_neg c155] at H
             have c155b0 : (((rd_L3 t346 x432_5).length : Int) == 1) = false := beq_eq_false_iff_ne.mpr c155
             have c155b1 : (((rd_L3 t346 x432_5).length : Int) != 1) = true := bne_iff_ne.mpr c155
             by_cases c192 : ((rd_L3 t346 x432_5).length : Int) = 0
             ·rw [if_pos c192] at H
              have c192b0 : (((rd_L3 t346 x432_5).length : Int) == 0) = true := beq_iff_eq.mpr c192
              have c192b1 : (((rd_L3 t346 x432_5).length : Int) != 0) = false := bne_eq_false_iff_eq.mpr c192
              clear c192
              exact absurd H (by simp)
             rw [if_neg c192] at H
             have c192b0 : (((rd_L3 t346 x432_5).length : Int) == 0) = false := beq_eq_false_iff_ne.mpr c192
             have c192b1 : (((rd_L3 t346 x432_5).length : Int) != 0) = true := bne_iff_ne.mpr c192
             have c192b2 : ¬ ((rd_L3 t346 x432_5) = []) := fun h_ => c192 (by rw [h_]; rfl)
             by_cases c193 : x432_5 > 0
             rotate_left
             ·rw [if_neg c193] at H
              have c193b0 : decide (0 < x432_5) = false := decide_eq_false c193
              clear c193
              have H' := Aside0.mk H
              clear H
              have p384 : 0 ≤ (x432_5 : Int) := of_decide_eq_true (by assumption)
              have q384 : x432_5 < (t346.length : Int) := of_decide_eq_true (by assumption)
              obtain ⟨ad384, A384_0, c384_0, e384, hx384_0, hl384_0, hi384_0⟩ := at_L3 (Kd.S_reads' HO_430.out).2.2 x432_5 p384 q384
              cases e384
              obtain ⟨ce384, hce384, hMe384, hcc384⟩ := Kd.S_get HO_430.out [] x432_5 p384 (by first | exact q384 | exact of_decide_eq_true (by assumption) | (have e_ := (Kd.S_reads' HO_430.out).1; omega))
              obtain ⟨ve384_0, rfl, ge384_0⟩ := hMe384
              have hv384_0 := hcc384 0 _ rfl
              rw [Nat.add_zero, show ((Kd.slice 3 (Kd.int .i64))).sz = 1 from rfl, Nat.mul_one] at hv384_0
              replace hv384_0 := Option.some.inj (hv384_0.symm.trans hx384_0)
              rw [hv384_0] at ge384_0
              have HL384_0 := Aside0.mk (show Kd.R (Kd.int .i64) 3 _ _ _ _ (rd_L3 t346 x432_5) from ge384_0)
              clear hv384_0 ge384_0
              clear hcc384 hce384
              have HR384_0 := Aside0.mk hi384_0
              have HC384_0 := Aside0.mk hl384_0
              clear hi384_0 hl384_0
              replace p384 := eq_true p384
              replace q384 := eq_true q384
              try go_wp2
              have n0_ := Aside0.mk (Kd.R_drew HO_30.out)
              have n1_ := Aside0.mk (Kd.R_drew HO_34.out)
              have n2_ := Aside0.mk (Kd.S_drew HO_38.out)
              have n3_ := Aside0.mk (Kd.S_drew HO_430.out)
              have n4_ := Aside0.mk (Kd.R_drew HL384_0.out)
              have n5_ := Aside0.mk (Kd.C_drew HR384_0.out)
              have n6_ := Aside0.mk (below_drew1 HB.out)
              clear HO_30
              clear HO_34
              clear HO_38
              clear HO_430
              clear HL384_0
              clear HR384_0
              clear HB
              have HO_30 := n0_
              have HO_34 := n1_
              have HO_38 := n2_
              have HO_430 := n3_
              have HL384_0 := n4_
              have HR384_0 := n5_
              have HB := n6_
              clear n0_ n1_ n2_ n3_ n4_ n5_ n6_
              refine start_ (n := 20) (S := fun w' => True) (ds := []) (bl_ 20 0x0) (by kernel_rfl) rfl rfl trivial (fun hHeld => ?_); refine with_tabW laws_FnTablesLead.tab61 laws_FnTablesLead.bits61 (fun HT_ HW_ => ?_)
              generalize wr.drew = w214 at HO_30 HO_34 HO_38 HO_430 HL384_0 HR384_0 HB hHeld ⊢
              refine pz_ 0 446 (bl_ 20 0x1) HT_.out ?_
              refine pz_ 1 447 (bl_ 20 0x3) HT_.out ?_
              refine pz_ 2 448 (bl_ 20 0x7) HT_.out ?_
              refine pz_ 3 449 (bl_ 20 0xf) HT_.out ?_
              refine pz_ 4 450 (bl_ 20 0x1f) HT_.out ?_
              refine pz_ 5 451 (bl_ 20 0x3f) HT_.out ?_
              refine pz_ 6 452 (bl_ 20 0x7f) HT_.out ?_
              refine pu_ 7 453 (bl_ 20 0xff) HT_.out ?_
              refine pu_ 8 454 (bl_ 20 0x1ff) HT_.out ?_
              refine pu_ 9 455 (bl_ 20 0x3ff) HT_.out ?_
              refine pu_ 10 456 (bl_ 20 0x7ff) HT_.out ?_
              refine pu_ 11 457 (bl_ 20 0xfff) HT_.out ?_
              refine pu_ 12 458 (bl_ 20 0x1fff) HT_.out ?_
              refine pu_ 13 459 (bl_ 20 0x3fff) HT_.out ?_
              refine pu_ 14 460 (bl_ 20 0x7fff) HT_.out ?_
              refine pu_ 15 461 (bl_ 20 0xffff) HT_.out ?_
              refine pu_ 16 462 (bl_ 20 0x1ffff) HT_.out ?_
              refine pu_ 17 463 (bl_ 20 0x3ffff) HT_.out ?_
              refine pz_ 18 464 (bl_ 20 0x7ffff) HT_.out ?_
              refine pz_ 19 465 (bl_ 20 0xfffff) HT_.out ?_
              refine done_ (done_of HT_.out (by kernel_rfl)) ?_
              try go_wp2
              go_loopg [468] k5 (fun kq v468 w' => ∃ (x468_6 : Int), v468 = .int .i64 x468_6 ∧ Aside0 (laws_FnTablesLead.l3 kq t313 t330 t338 t346 t354 (wrap64 (x56_5 + ((rd_L3 t346 x432_5).length : Int))) x57_5 (rd_L3 t346 x432_5) t346 (t346.length : Int) x432_5 (rd_L3 t346 x432_5) ((rd_L3 t346 x432_5).length : Int) x468_6 = some r) ∧ Aside0 (kq ≤ k5) ∧ Aside0 (Kd.R (Kd.int .i64) 3 w' w.heap.size (fun k_ => some k_ ≠ ((.slice Ao149 t338.length co149) : Value).ownBlock) (.slice Ao148 t330.length co148) t330) ∧ Aside0 (Kd.R (Kd.int .i64) 3 w' w.heap.size (fun k_ => some k_ ≠ ((.slice Ao148 t330.length co148) : Value).ownBlock) (.slice Ao149 t338.length co149) t338) ∧ Aside0 (Kd.S (Kd.slice 3 (Kd.int .i64)) 33 w' w.heap.size (fun k_ => some k_ ≠ ((.slice Ao148 t330.length co148) : Value).ownBlock ∧ some k_ ≠ ((.slice Ao149 t338.length co149) : Value).ownBlock) (.slice (some ad384) t346.length co151) t346) ∧ Aside0 (Kd.S (Kd.slice 3 (Kd.int .i64)) 33 w' w.heap.size (fun k_ => some k_ ≠ ((.slice Ao148 t330.length co148) : Value).ownBlock ∧ some k_ ≠ ((.slice Ao149 t338.length co149) : Value).ownBlock) (.slice (some ad384) t346.length co151) t346) ∧ Aside0 (Kd.C (Kd.int .i64) w' A384_0 (rd_L3 t346 x432_5).length (rd_L3 t346 x432_5)) ∧ Aside0 (Below w.heap.size w w'))
              case atStart => exact ⟨(0), (by first | rfl | (simp; done) | (simp [*]; done)), H', ⟨Nat.le_refl _⟩, ⟨by (with_reducible repeat (first | apply Kd.R_alloc | apply Kd.R_drewN | apply Kd.R_drew)); exact HO_30.out⟩, ⟨by (with_reducible repeat (first | apply Kd.R_alloc | apply Kd.R_drewN | apply Kd.R_drew)); exact HO_34.out⟩, ⟨by (with_reducible repeat (first | apply Kd.S_alloc | apply Kd.S_drewN | apply Kd.S_drew)); exact HO_38.out⟩, ⟨by (with_reducible repeat (first | apply Kd.S_alloc | apply Kd.S_drewN | apply Kd.S_drew)); exact HO_430.out⟩, ⟨by repeat (first | (with_reducible exact HR384_0.out) | (with_reducible refine Kd.C_alloc ?_ _) | (with_reducible refine Kd.C_drewN ?_ _) | (with_reducible refine Kd.C_drew ?_) | exact HR384_0.out)⟩, ⟨bb_⟩⟩
              case round =>
               as_aux_lemma =>
               clear H'
               (try clear c1); (try clear c2); (try clear p2); (try clear c3); (try clear p3); (try clear q3); (try clear hx3); (try clear qi3); (try clear p6); (try clear c15); (try clear c17); (try clear c18); (try clear c19); (try clear c20); (try clear c21); (try clear c38); (try clear p38); (try clear q38); (try clear hx38); (try clear qi38); (try clear c39); (try clear p39); (try clear q39); (try clear hx39); (try clear qi39); (try clear p64); (try clear c155); (try clear c155b0); (try clear c155b1); (try clear c179); (try clear c179b0); (try clear c180); (try clear c180b0); (try clear c181); (try clear c181b0); (try clear c182); (try clear c182b0); (try clear c182b1); (try clear c183); (try clear c183b0); (try clear c184); (try clear c184b0); (try clear c185); (try clear c185b0); (try clear c186); (try clear c186b0); (try clear c186b1); (try clear c186b2); (try clear c188); (try clear c188b0); (try clear c189); (try clear c189b0); (try clear c190); (try clear c190b0); (try clear c190b1); (try clear c192); (try clear c192b0); (try clear c192b1); (try clear c192b2); (try clear c193); (try clear c193b0); (try clear c195); (try clear c195b0); (try clear c196); (try clear c196b0); (try clear c197); (try clear c197b0); (try clear c197b1); (try clear c198); (try clear c198b0); (try clear c198b1); (try clear c199); (try clear c199b0); (try clear c201); (try clear c201b0); (try clear c202); (try clear c202b0); (try clear c203); (try clear c203b0); (try clear c204); (try clear c204b0); (try clear c204b1); (try clear c205); (try clear c205b0); (try clear c206); (try clear c206b0); (try clear c207); (try clear c207b0); (try clear c208); (try clear c208b0); (try clear c208b1); (try clear c208b2); (try clear c210); (try clear c210b0); (try clear c211); (try clear c211b0); (try clear c212); (try clear c212b0); (try clear c212b1); (try clear hx384_0); (try clear hx388_0); (try clear hx389_0); (try clear hx390_0); (try clear hx391_0); (try clear hx392_0); (try clear hx393_0); (try clear hx394_0); (try clear p2); (try clear p3); (try clear p38); (try clear p384); (try clear p388); (try clear p389); (try clear p39); (try clear p390); (try clear p391); (try clear p392); (try clear p393); (try clear p394); (try clear p6); (try clear p64); (try clear q3); (try clear q38); (try clear q384); (try clear q388); (try clear q389); (try clear q39); (try clear q390); (try clear q391); (try clear q392); (try clear q393); (try clear q394)
               obtain ⟨x468_6, rfl, HA, HK6, HO_30, HO_34, HO_38, HO_430, HR384_0, HB⟩ := hrel
               cases gk with
               | zero => exact absurd HA.out (by simp [laws_FnTablesLead.l3])
               | succ k6 =>
                have H := HA.out
                clear HA
                simp only [laws_FnTablesLead.l3] at H
                by_cases c215 : x468_6 < ((rd_L3 t346 x432_5).length : Int)
                rotate_left
                ·as_aux_lemma =>
                 rw [if_neg c215] at H
                 have c215b0 : decide (x468_6 < ((rd_L3 t346 x432_5).length : Int)) = false := decide_eq_false c215
                 clear c215
                 have H' := Aside0.mk H
                 clear H
                 go_wp2
                 go_roundg k6
                 case measure => have := HJ9.out; have := HJ13.out; have := HJ35.out; have := HJ101.out; have := HK5.out; have := HK6.out; omega
                 case rel => exact ⟨((wrap64 (x56_5 + ((rd_L3 t346 x432_5).length : Int)))), (x57_5), (wrap64 (x432_5 + 1)), (by first | rfl | (simp; done) | (simp [*]; done)), (by first | rfl | (simp; done) | (simp [*]; done)), (by first | rfl | (simp; done) | (simp [*]; done)), H', ⟨by have := HJ9.out; have := HJ13.out; have := HJ35.out; have := HJ101.out; have := HK5.out; have := HK6.out; omega⟩, ⟨by (with_reducible repeat (first | apply Kd.R_alloc | apply Kd.R_drewN | apply Kd.R_drew)); exact HO_30.out⟩, ⟨by (with_reducible repeat (first | apply Kd.R_alloc | apply Kd.R_drewN | apply Kd.R_drew)); exact HO_34.out⟩, ⟨by (with_reducible repeat (first | apply Kd.S_alloc | apply Kd.S_drewN | apply Kd.S_drew)); exact HO_38.out⟩, ⟨by (with_reducible repeat (first | apply Kd.S_alloc | apply Kd.S_drewN | apply Kd.S_drew)); exact HO_430.out⟩, ⟨bb_⟩⟩
                rw [if_pos c215] at H
                have c215b0 : decide (x468_6 < ((rd_L3 t346 x432_5).length : Int)) = true := decide_eq_true c215
                clear c215
                by_cases c216 : 0 ≤ x468_6
                rotate_left
                ·rw [if_neg c216] at H
                 exact absurd H (by simp)
                rw [if_pos c216] at H
                have c216b0 : decide (0 ≤ x468_6) = true := decide_eq_true c216
                clear c216
                by_cases c217 : x468_6 < ((rd_L3 t346 x432_5).length : Int)
                rotate_left
                ·rw [if_neg c217] at H
                 exact absurd H (by simp)
                rw [if_pos c217] at H
                have c217b0 : decide (x468_6 < ((rd_L3 t346 x432_5).length : Int)) = true := decide_eq_true c217
                clear c217
                by_cases c218 : 0 < ((rd_L3 t346 x432_5).length : Int)
                rotate_left
                ·rw [if_neg c218] at H
                 exact absurd H (by simp)
                rw [if_pos c218] at H
                have c218b0 : decide (0 < ((rd_L3 t346 x432_5).length : Int)) = true := decide_eq_true c218
                have c218b1 : decide (0 < (rd_L3 t346 x432_5).length) = true := decide_eq_true (by omega)
                clear c218
                by_cases c219 : (rd (rd_L3 t346 x432_5) x468_6) < (rd (rd_L3 t346 x432_5) 0)
                ·rw [if_pos c219] at H
                 have c219b0 : decide ((rd (rd_L3 t346 x432_5) x468_6) < (rd (rd_L3 t346 x432_5) 0)) = true := decide_eq_true c219
                 clear c219
                 exact absurd H (by simp)
                rw [if_neg c219] at H
                have c219b0 : decide ((rd (rd_L3 t346 x432_5) x468_6) < (rd (rd_L3 t346 x432_5) 0)) = false := decide_eq_false c219
                clear c219
                by_cases c220 : 0 ≤ (rd (rd_L3 t346 x432_5) x468_6)
                rotate_left
                ·rw [if_neg c220] at H
                 exact absurd H (by simp)
                rw [if_pos c220] at H
                have c220b0 : decide (0 ≤ (rd (rd_L3 t346 x432_5) x468_6)) = true := decide_eq_true c220
                clear c220
                by_cases c221 : (rd (rd_L3 t346 x432_5) x468_6) < (t330.length : Int)
                rotate_left
                ·rw [if_neg c221] at H
                 exact absurd H (by simp)
                rw [if_pos c221] at H
                have c221b0 : decide ((rd (rd_L3 t346 x432_5) x468_6) < (t330.length : Int)) = true := decide_eq_true c221
                clear c221
                by_cases c222 : ((rd_L3 t346 x432_5).length : Int) = 0
                ·rw [if_pos c222] at H
                 exact absurd H (by simp)
                rw [if_neg c222] at H
                have c222b0 : (((rd_L3 t346 x432_5).length : Int) == 0) = false := beq_eq_false_iff_ne.mpr c222
                have c222b1 : (((rd_L3 t346 x432_5).length : Int) != 0) = true := bne_iff_ne.mpr c222
                have c222b2 : ¬ ((rd_L3 t346 x432_5) = []) := fun h_ => c222 (by rw [h_]; rfl)
                obtain ⟨ji223, hji223⟩ : ∃ j_ : Int, (Int.tmod (wrap64 (x468_6 + 1)) ((rd_L3 t346 x432_5).length : Int)) = j_ := ⟨_, rfl⟩
                replace H : (if 0 ≤ (ji223) then (if (ji223) < ((rd_L3 t346 x432_5).length : Int) then (if (rd t330 (rd (rd_L3 t346 x432_5) x468_6)) = (rd (rd_L3 t346 x432_5) (ji223)) then (laws_FnTablesLead.l3 k6 t313 t330 t338 t346 t354 (wrap64 (x56_5 + ((rd_L3 t346 x432_5).length : Int))) x57_5 (rd_L3 t346 x432_5) t346 (t346.length : Int) x432_5 (rd_L3 t346 x432_5) ((rd_L3 t346 x432_5).length : Int) (wrap64 (x468_6 + 1))) else (none)) else (none)) else (none)) = some r := by first | (rw [hji223] at H; exact H) | (simp only [hji223] at H ⊢; exact H)
                by_cases c224 : 0 ≤ (ji223)
                rotate_left
                ·rw [if_neg c224] at H
                 exact absurd H (by simp)
                rw [if_pos c224] at H
                have c224b0 : decide (0 ≤ (ji223)) = true := decide_eq_true c224
                clear c224
                by_cases c225 : (ji223) < ((rd_L3 t346 x432_5).length : Int)
                rotate_left
                ·rw [if_neg c225] at H
                 exact absurd H (by simp)
                rw [if_pos c225] at H
                have c225b0 : decide ((ji223) < ((rd_L3 t346 x432_5).length : Int)) = true := decide_eq_true c225
                clear c225
                by_cases c226 : (rd t330 (rd (rd_L3 t346 x432_5) x468_6)) = (rd (rd_L3 t346 x432_5) (ji223))
                rotate_left
                ·rw [if_neg c226] at H
                 exact absurd H (by simp)
                rw [if_pos c226] at H
                have c226b0 : ((rd t330 (rd (rd_L3 t346 x432_5) x468_6)) == (rd (rd_L3 t346 x432_5) (ji223))) = true := beq_iff_eq.mpr c226
                have c226b1 : ((rd t330 (rd (rd_L3 t346 x432_5) x468_6)) != (rd (rd_L3 t346 x432_5) (ji223))) = false := bne_eq_false_iff_eq.mpr c226
                clear c226
                have H' := Aside0.mk H
                clear H
                have p388 : 0 ≤ (x468_6 : Int) := of_decide_eq_true (by assumption)
                have q388 : x468_6 < ((rd_L3 t346 x432_5).length : Int) := of_decide_eq_true (by assumption)
                obtain ⟨ad388, e388, hx388_0⟩ := Kd.at_int HR384_0.out x468_6 p388 q388
                cases e388
                replace p388 := eq_true p388
                replace q388 := eq_true q388
                try go_wp2
                have n0_ := Aside0.mk (Kd.R_drew HO_30.out)
                have n1_ := Aside0.mk (Kd.R_drew HO_34.out)
                have n2_ := Aside0.mk (Kd.S_drew HO_38.out)
                have n3_ := Aside0.mk (Kd.S_drew HO_430.out)
                have n4_ := Aside0.mk (Kd.C_drew HR384_0.out)
                have n5_ := Aside0.mk (below_drew1 HB.out)
                clear HO_30
                clear HO_34
                clear HO_38
                clear HO_430
                clear HR384_0
                clear HB
                have HO_30 := n0_
                have HO_34 := n1_
                have HO_38 := n2_
                have HO_430 := n3_
                have HR384_0 := n4_
                have HB := n5_
                clear n0_ n1_ n2_ n3_ n4_ n5_
                have p389 : 0 ≤ (0 : Int) := (by omega)
                have q389 : 0 < ((rd_L3 t346 x432_5).length : Int) := of_decide_eq_true (by assumption)
                obtain ⟨ad389, e389, hx389_0⟩ := Kd.at_int HR384_0.out 0 p389 q389
                have hw389_0 := hx389_0
                (try rw [show ((0 : Int)).toNat = 0 from rfl] at hw389_0)
                (try rw [show 0 * 1 = 0 from rfl] at hw389_0)
                (try rw [Addr.add_zero'] at hw389_0)
                obtain rfl : ad388 = ad389 := (by injection e389)
                have qi389 : (0 < (rd_L3 t346 x432_5).length) = True := eq_true (by omega)
                (try rw [show ((0 : Int)).toNat = 0 from rfl] at hx389_0)
                (try rw [Addr.add_zero'] at hx389_0)
                replace p389 := eq_true p389
                replace q389 := eq_true q389
                have p390 : 0 ≤ ((rd (rd_L3 t346 x432_5) x468_6) : Int) := of_decide_eq_true (by assumption)
                have q390 : (rd (rd_L3 t346 x432_5) x468_6) < (t330.length : Int) := of_decide_eq_true (by assumption)
                obtain ⟨ad390, e390, hx390_0⟩ := Kd.at_int (Kd.R_reads' HO_30.out).2.2 (rd (rd_L3 t346 x432_5) x468_6) p390 q390
                cases e390
                replace p390 := eq_true p390
                replace q390 := eq_true q390
                have p391 : 0 ≤ ((ji223) : Int) := of_decide_eq_true (by assumption)
                have q391 : (ji223) < ((rd_L3 t346 x432_5).length : Int) := of_decide_eq_true (by assumption)
                obtain ⟨ad391, e391, hx391_0⟩ := Kd.at_int HR384_0.out (ji223) p391 q391
                have hw391_0 := hx391_0
                obtain rfl : ad388 = ad391 := (by injection e391)
                replace p391 := eq_true p391
                replace q391 := eq_true q391
                refine start_ (n := 20) (S := fun w' => w'.cell? ad388 = some (.int .i64 (rd (rd_L3 t346 x432_5) 0)) ∧ w'.cell? (ad390.add ((rd (rd_L3 t346 x432_5) x468_6)).toNat) = some (.int .i64 (rd t330 (rd (rd_L3 t346 x432_5) x468_6))) ∧ w'.cell? (ad388.add ((ji223)).toNat) = some (.int .i64 (rd (rd_L3 t346 x432_5) (ji223)))) (ds := []) (bl_ 20 0x0) (by kernel_rfl) rfl rfl ⟨hw389_0, hx390_0, hw391_0⟩ (fun hHeld => ?_); refine with_tabW laws_FnTablesLead.tab66 laws_FnTablesLead.bits66 (fun HT_ HW_ => ?_)
                generalize wr.drew = w227 at HO_30 HO_34 HO_38 HO_430 HR384_0 HB hx389_0 hx390_0 hx391_0 hHeld ⊢
                refine pz_ 0 473 (bl_ 20 0x1) HT_.out ?_
                refine pz_ 1 474 (bl_ 20 0x3) HT_.out ?_
                refine pz_ 2 475 (bl_ 20 0x7) HT_.out ?_
                refine take_ (i := 3) (N := some 476) (v := ?_) (a' := ?_) (bl_ 20 0xf) rfl rfl (take_ofW HT_.out HW_.out (by kernel_rfl)) (fun _ _ _ h => h) (Or.inl ⟨by rfl, ?_⟩) hHeld ?_ ?_
                rotate_left
                ·rintro w' ⟨s0, s1, s2⟩
                 go_simp
                 with_reducible rfl
                rotate_left
                ·simp only [Act.put, sa_, sb_, sc_, i64_w, i32_w]
                 rfl
                refine pz_ 4 477 (bl_ 20 0x1f) HT_.out ?_
                refine pz_ 5 478 (bl_ 20 0x3f) HT_.out ?_
                refine pz_ 6 479 (bl_ 20 0x7f) HT_.out ?_
                refine pz_ 7 480 (bl_ 20 0xff) HT_.out ?_
                refine pz_ 8 481 (bl_ 20 0x1ff) HT_.out ?_
                refine pz_ 10 483 (bl_ 20 0x5ff) HT_.out ?_
                refine pz_ 11 484 (bl_ 20 0xdff) HT_.out ?_
                refine pz_ 12 485 (bl_ 20 0x1dff) HT_.out ?_
                refine pz_ 13 486 (bl_ 20 0x3dff) HT_.out ?_
                refine pz_ 14 487 (bl_ 20 0x7dff) HT_.out ?_
                refine pz_ 15 488 (bl_ 20 0xfdff) HT_.out ?_
                refine pz_ 16 489 (bl_ 20 0x1fdff) HT_.out ?_
                refine take_ (i := 9) (N := some 482) (v := ?_) (a' := ?_) (bl_ 20 0x1ffff) rfl rfl (take_ofW HT_.out HW_.out (by kernel_rfl)) (fun _ _ _ h => h) (Or.inl ⟨by rfl, ?_⟩) hHeld ?_ ?_
                rotate_left
                ·rintro w' ⟨s0, s1, s2⟩
                 go_simp
                 with_reducible rfl
                rotate_left
                ·simp only [Act.put, sa_, sb_, sc_, i64_w, i32_w]
                 rfl
                refine take_ (i := 17) (N := some 490) (v := ?_) (a' := ?_) (bl_ 20 0x3ffff) rfl rfl (take_ofW HT_.out HW_.out (by kernel_rfl)) (fun _ _ _ h => h) (Or.inl ⟨by rfl, ?_⟩) hHeld ?_ ?_
                rotate_left
                ·rintro w' ⟨s0, s1, s2⟩
                 go_simp
                 with_reducible rfl
                rotate_left
                ·simp only [Act.put, sa_, sb_, sc_, i64_w, i32_w]
                 rfl
                refine pz_ 18 491 (bl_ 20 0x7ffff) HT_.out ?_
                refine pz_ 19 492 (bl_ 20 0xfffff) HT_.out ?_
                refine done_ (done_of HT_.out (by kernel_rfl)) ?_
                try go_wp2
                go_roundg k6
                case measure => have := HJ9.out; have := HJ13.out; have := HJ35.out; have := HJ101.out; have := HK5.out; have := HK6.out; omega
                case rel => exact ⟨(wrap64 (x468_6 + 1)), (by first | rfl | (simp; done) | (simp [*]; done)), H', ⟨by have := HJ9.out; have := HJ13.out; have := HJ35.out; have := HJ101.out; have := HK5.out; have := HK6.out; omega⟩, ⟨by (with_reducible repeat (first | apply Kd.R_alloc | apply Kd.R_drewN | apply Kd.R_drew)); exact HO_30.out⟩, ⟨by (with_reducible repeat (first | apply Kd.R_alloc | apply Kd.R_drewN | apply Kd.R_drew)); exact HO_34.out⟩, ⟨by (with_reducible repeat (first | apply Kd.S_alloc | apply Kd.S_drewN | apply Kd.S_drew)); exact HO_38.out⟩, ⟨by (with_reducible repeat (first | apply Kd.S_alloc | apply Kd.S_drewN | apply Kd.S_drew)); exact HO_430.out⟩, ⟨by repeat (first | (with_reducible exact HR384_0.out) | (with_reducible refine Kd.C_alloc ?_ _) | (with_reducible refine Kd.C_drewN ?_ _) | (with_reducible refine Kd.C_drew ?_) | exact HR384_0.out)⟩, ⟨bb_⟩⟩
             rw [if_pos c193] at H
             have c193b0 : decide (0 < x432_5) = true := decide_eq_true c193
             clear c193
             obtain ⟨ji194, hji194⟩ : ∃ j_ : Int, (wrap64 (x432_5 - 1)) = j_ := ⟨_, rfl⟩
             replace H : (if 0 ≤ (ji194) then (if (ji194) < (t346.length : Int) then (if 0 < ((rd_L3 t346 (ji194)).length : Int) then (if 0 < ((rd_L3 t346 x432_5).length : Int) then (if (rd (rd_L3 t346 (ji194)) 0) ≥ (rd (rd_L3 t346 x432_5) 0) then (none) else (laws_FnTablesLead.l3 k5 t313 t330 t338 t346 t354 (wrap64 (x56_5 + ((rd_L3 t346 x432_5).length : Int))) x57_5 (rd_L3 t346 x432_5) t346 (t346.length : Int) x432_5 (rd_L3 t346 x432_5) ((rd_L3 t346 x432_5).length : Int) 0)) else (none)) else (none)) else (none)) else (none)) = some r := by first | (rw [hji194] at H; exact H) | (simp only [hji194] at H ⊢; exact H)
             have hji194w : (IntKind.i64.wrap (x432_5 - 1)) = ji194 := (i64_w _).trans hji194
             by_cases c195 : 0 ≤ (ji194)
             rotate_left
             ·rw [if_neg c195] at H
              exact absurd H (by simp)
             rw [if_pos c195] at H
             have c195b0 : decide (0 ≤ (ji194)) = true := decide_eq_true c195
             clear c195
             by_cases c196 : (ji194) < (t346.length : Int)
             rotate_left
             ·rw [if_neg c196] at H
              exact absurd H (by simp)
             rw [if_pos c196] at H
             have c196b0 : decide ((ji194) < (t346.length : Int)) = true := decide_eq_true c196
             clear c196
             by_cases c197 : 0 < ((rd_L3 t346 (ji194)).length : Int)
             rotate_left
             ·rw [if_neg c197] at H
              exact absurd H (by simp)
             rw [if_pos c197] at H
             have c197b0 : decide (0 < ((rd_L3 t346 (ji194)).length : Int)) = true := decide_eq_true c197
             have c197b1 : decide (0 < (rd_L3 t346 (ji194)).length) = true := decide_eq_true (by omega)
             clear c197
             by_cases c198 : 0 < ((rd_L3 t346 x432_5).length : Int)
             rotate_left
             ·rw [if_neg c198] at H
              exact absurd H (by simp)
             rw [if_pos c198] at H
             have c198b0 : decide (0 < ((rd_L3 t346 x432_5).length : Int)) = true := decide_eq_true c198
             have c198b1 : decide (0 < (rd_L3 t346 x432_5).length) = true := decide_eq_true (by omega)
             clear c198
             by_cases c199 : (rd (rd_L3 t346 (ji194)) 0) ≥ (rd (rd_L3 t346 x432_5) 0)
             ·rw [if_pos c199] at H
              exact absurd H (by simp)
             rw [if_neg c199] at H
             have c199b0 : decide ((rd (rd_L3 t346 x432_5) 0) ≤ (rd (rd_L3 t346 (ji194)) 0)) = false := decide_eq_false c199
             clear c199
             have H' := Aside0.mk H
             clear H
             have p384 : 0 ≤ (x432_5 : Int) := of_decide_eq_true (by assumption)
             have q384 : x432_5 < (t346.length : Int) := of_decide_eq_true (by assumption)
             obtain ⟨ad384, A384_0, c384_0, e384, hx384_0, hl384_0, hi384_0⟩ := at_L3 (Kd.S_reads' HO_430.out).2.2 x432_5 p384 q384
             cases e384
             obtain ⟨ce384, hce384, hMe384, hcc384⟩ := Kd.S_get HO_430.out [] x432_5 p384 (by first | exact q384 | exact of_decide_eq_true (by assumption) | (have e_ := (Kd.S_reads' HO_430.out).1; omega))
             obtain ⟨ve384_0, rfl, ge384_0⟩ := hMe384
             have hv384_0 := hcc384 0 _ rfl
             rw [Nat.add_zero, show ((Kd.slice 3 (Kd.int .i64))).sz = 1 from rfl, Nat.mul_one] at hv384_0
             replace hv384_0 := Option.some.inj (hv384_0.symm.trans hx384_0)
             rw [hv384_0] at ge384_0
             have HL384_0 := Aside0.mk (show Kd.R (Kd.int .i64) 3 _ _ _ _ (rd_L3 t346 x432_5) from ge384_0)
             clear hv384_0 ge384_0
             clear hcc384 hce384
             have HR384_0 := Aside0.mk hi384_0
             have HC384_0 := Aside0.mk hl384_0
             clear hi384_0 hl384_0
             replace p384 := eq_true p384
             replace q384 := eq_true q384
             try go_wp2
             have n0_ := Aside0.mk (Kd.R_drew HO_30.out)
             have n1_ := Aside0.mk (Kd.R_drew HO_34.out)
             have n2_ := Aside0.mk (Kd.S_drew HO_38.out)
             have n3_ := Aside0.mk (Kd.S_drew HO_430.out)
             have n4_ := Aside0.mk (Kd.R_drew HL384_0.out)
             have n5_ := Aside0.mk (Kd.C_drew HR384_0.out)
             have n6_ := Aside0.mk (below_drew1 HB.out)
             clear HO_30
             clear HO_34
             clear HO_38
             clear HO_430
             clear HL384_0
             clear HR384_0
             clear HB
             have HO_30 := n0_
             have HO_34 := n1_
             have HO_38 := n2_
             have HO_430 := n3_
             have HL384_0 := n4_
             have HR384_0 := n5_
             have HB := n6_
             clear n0_ n1_ n2_ n3_ n4_ n5_ n6_
             have p392 : 0 ≤ ((ji194) : Int) := of_decide_eq_true (by assumption)
             have q392 : (ji194) < (t346.length : Int) := of_decide_eq_true (by assumption)
             obtain ⟨ad392, A392_0, c392_0, e392, hx392_0, hl392_0, hi392_0⟩ := at_L3 (Kd.S_reads' HO_38.out).2.2 (ji194) p392 q392
             obtain rfl : ad384 = ad392 := (by injection e392)
             obtain ⟨ce392, hce392, hMe392, hcc392⟩ := Kd.S_get HO_38.out [] (ji194) p392 (by first | exact q392 | exact of_decide_eq_true (by assumption) | (have e_ := (Kd.S_reads' HO_38.out).1; omega))
             obtain ⟨ve392_0, rfl, ge392_0⟩ := hMe392
             have hv392_0 := hcc392 0 _ rfl
             rw [Nat.add_zero, show ((Kd.slice 3 (Kd.int .i64))).sz = 1 from rfl, Nat.mul_one] at hv392_0
             replace hv392_0 := Option.some.inj (hv392_0.symm.trans hx392_0)
             rw [hv392_0] at ge392_0
             have HL392_0 := Aside0.mk (show Kd.R (Kd.int .i64) 3 _ _ _ _ (rd_L3 t346 (ji194)) from ge392_0)
             clear hv392_0 ge392_0
             clear hcc392 hce392
             have HR392_0 := Aside0.mk hi392_0
             have HC392_0 := Aside0.mk hl392_0
             clear hi392_0 hl392_0
             replace p392 := eq_true p392
             replace q392 := eq_true q392
             have p393 : 0 ≤ (0 : Int) := (by omega)
             have q393 : 0 < ((rd_L3 t346 (ji194)).length : Int) := of_decide_eq_true (by assumption)
             obtain ⟨ad393, e393, hx393_0⟩ := Kd.at_int (by repeat (first | (with_reducible exact HR392_0.out) | (with_reducible refine Kd.C_alloc ?_ _) | (with_reducible refine Kd.C_drewN ?_ _) | (with_reducible refine Kd.C_drew ?_) | exact HR392_0.out)) 0 p393 q393
             cases e393
             have qi393 : (0 < (rd_L3 t346 (ji194)).length) = True := eq_true (by omega)
             (try rw [show ((0 : Int)).toNat = 0 from rfl] at hx393_0)
             (try rw [Addr.add_zero'] at hx393_0)
             replace p393 := eq_true p393
             replace q393 := eq_true q393
             have p394 : 0 ≤ (0 : Int) := (by omega)
             have q394 : 0 < ((rd_L3 t346 x432_5).length : Int) := of_decide_eq_true (by assumption)
             obtain ⟨ad394, e394, hx394_0⟩ := Kd.at_int (by repeat (first | (with_reducible exact HR384_0.out) | (with_reducible refine Kd.C_alloc ?_ _) | (with_reducible refine Kd.C_drewN ?_ _) | (with_reducible refine Kd.C_drew ?_) | exact HR384_0.out)) 0 p394 q394
             cases e394
             have qi394 : (0 < (rd_L3 t346 x432_5).length) = True := eq_true (by omega)
             (try rw [show ((0 : Int)).toNat = 0 from rfl] at hx394_0)
             (try rw [Addr.add_zero'] at hx394_0)
             replace p394 := eq_true p394
             replace q394 := eq_true q394
             refine start_ (n := 20) (S := fun w' => w'.cell? (ad384.add ((ji194)).toNat) = some (.slice (some ad393) (rd_L3 t346 (ji194)).length c392_0) ∧ w'.cell? ad393 = some (.int .i64 (rd (rd_L3 t346 (ji194)) 0)) ∧ w'.cell? ad394 = some (.int .i64 (rd (rd_L3 t346 x432_5) 0))) (ds := []) (bl_ 20 0x0) (by kernel_rfl) rfl rfl ⟨hx392_0, hx393_0, hx394_0⟩ (fun hHeld => ?_); refine with_tabW laws_FnTablesLead.tab61 laws_FnTablesLead.bits61 (fun HT_ HW_ => ?_)
             generalize wr.drew = w200 at HO_30 HO_34 HO_38 HO_430 HL384_0 HR384_0 HB HL392_0 HR392_0 hx392_0 hx393_0 hx394_0 hHeld ⊢
             refine pz_ 0 446 (bl_ 20 0x1) HT_.out ?_
             refine pz_ 1 447 (bl_ 20 0x3) HT_.out ?_
             refine pz_ 2 448 (bl_ 20 0x7) HT_.out ?_
             refine pz_ 3 449 (bl_ 20 0xf) HT_.out ?_
             refine pz_ 4 450 (bl_ 20 0x1f) HT_.out ?_
             refine pz_ 5 451 (bl_ 20 0x3f) HT_.out ?_
             refine pz_ 6 452 (bl_ 20 0x7f) HT_.out ?_
             refine pz_ 7 453 (bl_ 20 0xff) HT_.out ?_
             refine pz_ 8 454 (bl_ 20 0x1ff) HT_.out ?_
             refine pz_ 9 455 (bl_ 20 0x3ff) HT_.out ?_
             refine pz_ 10 456 (bl_ 20 0x7ff) HT_.out ?_
             refine pz_ 14 460 (bl_ 20 0x47ff) HT_.out ?_
             refine pz_ 15 461 (bl_ 20 0xc7ff) HT_.out ?_
             refine take_ (i := 11) (N := some 457) (v := ?_) (a' := ?_) (bl_ 20 0xcfff) rfl rfl (take_ofW HT_.out HW_.out (by kernel_rfl)) (fun _ _ _ h => h) (Or.inl ⟨by rfl, ?_⟩) hHeld ?_ ?_
             rotate_left
             ·rintro w' ⟨s0, s1, s2⟩
              go_simp
              with_reducible rfl
             rotate_left
             ·simp only [Act.put, sa_, sb_, sc_, i64_w, i32_w]
              rfl
             refine pz_ 12 458 (bl_ 20 0xdfff) HT_.out ?_
             refine take_ (i := 13) (N := some 459) (v := ?_) (a' := ?_) (bl_ 20 0xffff) rfl rfl (take_ofW HT_.out HW_.out (by kernel_rfl)) (fun _ _ _ h => h) (Or.inl ⟨by rfl, ?_⟩) hHeld ?_ ?_
             rotate_left
             ·rintro w' ⟨s0, s1, s2⟩
              go_simp
              with_reducible rfl
             rotate_left
             ·simp only [Act.put, sa_, sb_, sc_, i64_w, i32_w]
              rfl
             refine take_ (i := 16) (N := some 462) (v := ?_) (a' := ?_) (bl_ 20 0x1ffff) rfl rfl (take_ofW HT_.out HW_.out (by kernel_rfl)) (fun _ _ _ h => h) (Or.inl ⟨by rfl, ?_⟩) hHeld ?_ ?_
             rotate_left
             ·rintro w' ⟨s0, s1, s2⟩
              go_simp
              with_reducible rfl
             rotate_left
             ·simp only [Act.put, sa_, sb_, sc_, i64_w, i32_w]
              rfl
             refine pz_ 17 463 (bl_ 20 0x3ffff) HT_.out ?_
             refine pz_ 18 464 (bl_ 20 0x7ffff) HT_.out ?_
             refine pz_ 19 465 (bl_ 20 0xfffff) HT_.out ?_
             refine done_ (done_of HT_.out (by kernel_rfl)) ?_
             try go_wp2
             go_loopg [468] k5 (fun kq v468 w' => ∃ (x468_6 : Int), v468 = .int .i64 x468_6 ∧ Aside0 (laws_FnTablesLead.l3 kq t313 t330 t338 t346 t354 (wrap64 (x56_5 + ((rd_L3 t346 x432_5).length : Int))) x57_5 (rd_L3 t346 x432_5) t346 (t346.length : Int) x432_5 (rd_L3 t346 x432_5) ((rd_L3 t346 x432_5).length : Int) x468_6 = some r) ∧ Aside0 (kq ≤ k5) ∧ Aside0 (Kd.R (Kd.int .i64) 3 w' w.heap.size (fun k_ => some k_ ≠ ((.slice Ao149 t338.length co149) : Value).ownBlock) (.slice Ao148 t330.length co148) t330) ∧ Aside0 (Kd.R (Kd.int .i64) 3 w' w.heap.size (fun k_ => some k_ ≠ ((.slice Ao148 t330.length co148) : Value).ownBlock) (.slice Ao149 t338.length co149) t338) ∧ Aside0 (Kd.S (Kd.slice 3 (Kd.int .i64)) 33 w' w.heap.size (fun k_ => some k_ ≠ ((.slice Ao148 t330.length co148) : Value).ownBlock ∧ some k_ ≠ ((.slice Ao149 t338.length co149) : Value).ownBlock) (.slice (some ad384) t346.length co151) t346) ∧ Aside0 (Kd.S (Kd.slice 3 (Kd.int .i64)) 33 w' w.heap.size (fun k_ => some k_ ≠ ((.slice Ao148 t330.length co148) : Value).ownBlock ∧ some k_ ≠ ((.slice Ao149 t338.length co149) : Value).ownBlock) (.slice (some ad384) t346.length co151) t346) ∧ Aside0 (Kd.C (Kd.int .i64) w' (some ad394) (rd_L3 t346 x432_5).length (rd_L3 t346 x432_5)) ∧ Aside0 (Below w.heap.size w w'))
             case atStart => exact ⟨(0), (by first | rfl | (simp; done) | (simp [*]; done)), H', ⟨Nat.le_refl _⟩, ⟨by (with_reducible repeat (first | apply Kd.R_alloc | apply Kd.R_drewN | apply Kd.R_drew)); exact HO_30.out⟩, ⟨by (with_reducible repeat (first | apply Kd.R_alloc | apply Kd.R_drewN | apply Kd.R_drew)); exact HO_34.out⟩, ⟨by (with_reducible repeat (first | apply Kd.S_alloc | apply Kd.S_drewN | apply Kd.S_drew)); exact HO_38.out⟩, ⟨by (with_reducible repeat (first | apply Kd.S_alloc | apply Kd.S_drewN | apply Kd.S_drew)); exact HO_430.out⟩, ⟨by repeat (first | (with_reducible exact HR384_0.out) | (with_reducible refine Kd.C_alloc ?_ _) | (with_reducible refine Kd.C_drewN ?_ _) | (with_reducible refine Kd.C_drew ?_) | exact HR384_0.out)⟩, ⟨bb_⟩⟩
             case round =>
              as_aux_lemma =>
              clear H'
              (try clear c1); (try clear p2); (try clear c3); (try clear p3); (try clear q3); (try clear hx3); (try clear qi3); (try clear p6); (try clear c15); (try clear c17); (try clear c18); (try clear c19); (try clear c38); (try clear p38); (try clear q38); (try clear hx38); (try clear qi38); (try clear c39); (try clear p39); (try clear q39); (try clear hx39); (try clear qi39); (try clear p64); (try clear c155); (try clear c155b0); (try clear c155b1); (try clear c179); (try clear c179b0); (try clear c180); (try clear c180b0); (try clear c181); (try clear c181b0); (try clear c182); (try clear c182b0); (try clear c182b1); (try clear c183); (try clear c183b0); (try clear c184); (try clear c184b0); (try clear c185); (try clear c185b0); (try clear c186); (try clear c186b0); (try clear c186b1); (try clear c186b2); (try clear c188); (try clear c188b0); (try clear c189); (try clear c189b0); (try clear c190); (try clear c190b0); (try clear c190b1); (try clear c192); (try clear c192b0); (try clear c192b1); (try clear c192b2); (try clear c193); (try clear c193b0); (try clear c195); (try clear c195b0); (try clear c196); (try clear c196b0); (try clear c197); (try clear c197b0); (try clear c197b1); (try clear c198); (try clear c198b0); (try clear c198b1); (try clear c199); (try clear c199b0); (try clear hx384_0); (try clear hx388_0); (try clear hx389_0); (try clear hx390_0); (try clear hx391_0); (try clear hx392_0); (try clear hx393_0); (try clear hx394_0); (try clear p384); (try clear p388); (try clear p389); (try clear p390); (try clear p391); (try clear p392); (try clear p393); (try clear p394); (try clear q384); (try clear q388); (try clear q389); (try clear q390); (try clear q391); (try clear q392); (try clear q393); (try clear q394)
              obtain ⟨x468_6, rfl, HA, HK6, HO_30, HO_34, HO_38, HO_430, HR384_0, HB⟩ := hrel
              cases gk with
              | zero => exact absurd HA.out (by simp [laws_FnTablesLead.l3])
              | succ k6 =>
               have H := HA.out
               clear HA
               simp only [laws_FnTablesLead.l3] at H
               by_cases c201 : x468_6 < ((rd_L3 t346 x432_5).length : Int)
               rotate_left
               ·as_aux_lemma =>
                rw [if_neg c201] at H
                have c201b0 : decide (x468_6 < ((rd_L3 t346 x432_5).length : Int)) = false := decide_eq_false c201
                clear c201
                have H' := Aside0.mk H
                clear H
                go_wp2
                go_roundg k6
                case measure => have := HJ9.out; have := HJ13.out; have := HJ35.out; have := HJ101.out; have := HK5.out; have := HK6.out; omega
                case rel => exact ⟨((wrap64 (x56_5 + ((rd_L3 t346 x432_5).length : Int)))), (x57_5), (wrap64 (x432_5 + 1)), (by first | rfl | (simp; done) | (simp [*]; done)), (by first | rfl | (simp; done) | (simp [*]; done)), (by first | rfl | (simp; done) | (simp [*]; done)), H', ⟨by have := HJ9.out; have := HJ13.out; have := HJ35.out; have := HJ101.out; have := HK5.out; have := HK6.out; omega⟩, ⟨by (with_reducible repeat (first | apply Kd.R_alloc | apply Kd.R_drewN | apply Kd.R_drew)); exact HO_30.out⟩, ⟨by (with_reducible repeat (first | apply Kd.R_alloc | apply Kd.R_drewN | apply Kd.R_drew)); exact HO_34.out⟩, ⟨by (with_reducible repeat (first | apply Kd.S_alloc | apply Kd.S_drewN | apply Kd.S_drew)); exact HO_38.out⟩, ⟨by (with_reducible repeat (first | apply Kd.S_alloc | apply Kd.S_drewN | apply Kd.S_drew)); exact HO_430.out⟩, ⟨bb_⟩⟩
               rw [if_pos c201] at H
               have c201b0 : decide (x468_6 < ((rd_L3 t346 x432_5).length : Int)) = true := decide_eq_true c201
               clear c201
               by_cases c202 : 0 ≤ x468_6
               rotate_left
               ·rw [if_neg c202] at H
                exact absurd H (by simp)
               rw [if_pos c202] at H
               have c202b0 : decide (0 ≤ x468_6) = true := decide_eq_true c202
               clear c202
               by_cases c203 : x468_6 < ((rd_L3 t346 x432_5).length : Int)
               rotate_left
               ·rw [if_neg c203] at H
                exact absurd H (by simp)
               rw [if_pos c203] at H
               have c203b0 : decide (x468_6 < ((rd_L3 t346 x432_5).length : Int)) = true := decide_eq_true c203
               clear c203
               by_cases c204 : 0 < ((rd_L3 t346 x432_5).length : Int)
               rotate_left
               ·rw [if_neg c204] at H
                exact absurd H (by simp)
               rw [if_pos c204] at H
               have c204b0 : decide (0 < ((rd_L3 t346 x432_5).length : Int)) = true := decide_eq_true c204
               have c204b1 : decide (0 < (rd_L3 t346 x432_5).length) = true := decide_eq_true (by omega)
               clear c204
               by_cases c205 : (rd (rd_L3 t346 x432_5) x468_6) < (rd (rd_L3 t346 x432_5) 0)
               ·rw [if_pos c205] at H
                have c205b0 : decide ((rd (rd_L3 t346 x432_5) x468_6) < (rd (rd_L3 t346 x432_5) 0)) = true := decide_eq_true c205
                clear c205
                exact absurd H (by simp)
               rw [if_neg c205] at H
               have c205b0 : decide ((rd (rd_L3 t346 x432_5) x468_6) < (rd (rd_L3 t346 x432_5) 0)) = false := decide_eq_false c205
               clear c205
               by_cases c206 : 0 ≤ (rd (rd_L3 t346 x432_5) x468_6)
               rotate_left
               ·rw [if_neg c206] at H
                exact absurd H (by simp)
               rw [if_pos c206] at H
               have c206b0 : decide (0 ≤ (rd (rd_L3 t346 x432_5) x468_6)) = true := decide_eq_true c206
               clear c206
               by_cases c207 : (rd (rd_L3 t346 x432_5) x468_6) < (t330.length : Int)
               rotate_left
               ·rw [if_neg c207] at H
                exact absurd H (by simp)
               rw [if_pos c207] at H
               have c207b0 : decide ((rd (rd_L3 t346 x432_5) x468_6) < (t330.length : Int)) = true := decide_eq_true c207
               clear c207
               by_cases c208 : ((rd_L3 t346 x432_5).length : Int) = 0
               ·rw [if_pos c208] at H
                exact absurd H (by simp)
               rw [if_neg c208] at H
               have c208b0 : (((rd_L3 t346 x432_5).length : Int) == 0) = false := beq_eq_false_iff_ne.mpr c208
               have c208b1 : (((rd_L3 t346 x432_5).length : Int) != 0) = true := bne_iff_ne.mpr c208
               have c208b2 : ¬ ((rd_L3 t346 x432_5) = []) := fun h_ => c208 (by rw [h_]; rfl)
               obtain ⟨ji209, hji209⟩ : ∃ j_ : Int, (Int.tmod (wrap64 (x468_6 + 1)) ((rd_L3 t346 x432_5).length : Int)) = j_ := ⟨_, rfl⟩
               replace H : (if 0 ≤ (ji209) then (if (ji209) < ((rd_L3 t346 x432_5).length : Int) then (if (rd t330 (rd (rd_L3 t346 x432_5) x468_6)) = (rd (rd_L3 t346 x432_5) (ji209)) then (laws_FnTablesLead.l3 k6 t313 t330 t338 t346 t354 (wrap64 (x56_5 + ((rd_L3 t346 x432_5).length : Int))) x57_5 (rd_L3 t346 x432_5) t346 (t346.length : Int) x432_5 (rd_L3 t346 x432_5) ((rd_L3 t346 x432_5).length : Int) (wrap64 (x468_6 + 1))) else (none)) else (none)) else (none)) = some r := by first | (rw [hji209] at H; exact H) | (simp only [hji209] at H ⊢; exact H)
               by_cases c210 : 0 ≤ (ji209)
               rotate_left
               ·rw [if_neg c210] at H
                exact absurd H (by simp)
               rw [if_pos c210] at H
               have c210b0 : decide (0 ≤ (ji209)) = true := decide_eq_true c210
               clear c210
               by_cases c211 : (ji209) < ((rd_L3 t346 x432_5).length : Int)
               rotate_left
               ·rw [if_neg c211] at H
                exact absurd H (by simp)
               rw [if_pos c211] at H
               have c211b0 : decide ((ji209) < ((rd_L3 t346 x432_5).length : Int)) = true := decide_eq_true c211
               clear c211
               by_cases c212 : (rd t330 (rd (rd_L3 t346 x432_5) x468_6)) = (rd (rd_L3 t346 x432_5) (ji209))
               rotate_left
               ·rw [if_neg c212] at H
                exact absurd H (by simp)
               rw [if_pos c212] at H
               have c212b0 : ((rd t330 (rd (rd_L3 t346 x432_5) x468_6)) == (rd (rd_L3 t346 x432_5) (ji209))) = true := beq_iff_eq.mpr c212
               have c212b1 : ((rd t330 (rd (rd_L3 t346 x432_5) x468_6)) != (rd (rd_L3 t346 x432_5) (ji209))) = false := bne_eq_false_iff_eq.mpr c212
               clear c212
               have H' := Aside0.mk H
               clear H
               have p388 : 0 ≤ (x468_6 : Int) := of_decide_eq_true (by assumption)
               have q388 : x468_6 < ((rd_L3 t346 x432_5).length : Int) := of_decide_eq_true (by assumption)
               obtain ⟨ad388, e388, hx388_0⟩ := Kd.at_int HR384_0.out x468_6 p388 q388
               obtain rfl : ad394 = ad388 := (by injection e388)
               replace p388 := eq_true p388
               replace q388 := eq_true q388
               try go_wp2
               have n0_ := Aside0.mk (Kd.R_drew HO_30.out)
               have n1_ := Aside0.mk (Kd.R_drew HO_34.out)
               have n2_ := Aside0.mk (Kd.S_drew HO_38.out)
               have n3_ := Aside0.mk (Kd.S_drew HO_430.out)
               have n4_ := Aside0.mk (Kd.C_drew HR384_0.out)
               have n5_ := Aside0.mk (below_drew1 HB.out)
               clear HO_30
               clear HO_34
               clear HO_38
               clear HO_430
               clear HR384_0
               clear HB
               have HO_30 := n0_
               have HO_34 := n1_
               have HO_38 := n2_
               have HO_430 := n3_
               have HR384_0 := n4_
               have HB := n5_
               clear n0_ n1_ n2_ n3_ n4_ n5_
               have p389 : 0 ≤ (0 : Int) := (by omega)
               have q389 : 0 < ((rd_L3 t346 x432_5).length : Int) := of_decide_eq_true (by assumption)
               obtain ⟨ad389, e389, hx389_0⟩ := Kd.at_int HR384_0.out 0 p389 q389
               have hw389_0 := hx389_0
               (try rw [show ((0 : Int)).toNat = 0 from rfl] at hw389_0)
               (try rw [show 0 * 1 = 0 from rfl] at hw389_0)
               (try rw [Addr.add_zero'] at hw389_0)
               obtain rfl : ad394 = ad389 := (by injection e389)
               have qi389 : (0 < (rd_L3 t346 x432_5).length) = True := eq_true (by omega)
               (try rw [show ((0 : Int)).toNat = 0 from rfl] at hx389_0)
               (try rw [Addr.add_zero'] at hx389_0)
               replace p389 := eq_true p389
               replace q389 := eq_true q389
               have p390 : 0 ≤ ((rd (rd_L3 t346 x432_5) x468_6) : Int) := of_decide_eq_true (by assumption)
               have q390 : (rd (rd_L3 t346 x432_5) x468_6) < (t330.length : Int) := of_decide_eq_true (by assumption)
               obtain ⟨ad390, e390, hx390_0⟩ := Kd.at_int (Kd.R_reads' HO_30.out).2.2 (rd (rd_L3 t346 x432_5) x468_6) p390 q390
               cases e390
               replace p390 := eq_true p390
               replace q390 := eq_true q390
               have p391 : 0 ≤ ((ji209) : Int) := of_decide_eq_true (by assumption)
               have q391 : (ji209) < ((rd_L3 t346 x432_5).length : Int) := of_decide_eq_true (by assumption)
               obtain ⟨ad391, e391, hx391_0⟩ := Kd.at_int HR384_0.out (ji209) p391 q391
               have hw391_0 := hx391_0
               obtain rfl : ad394 = ad391 := (by injection e391)
               replace p391 := eq_true p391
               replace q391 := eq_true q391
               refine start_ (n := 20) (S := fun w' => w'.cell? ad394 = some (.int .i64 (rd (rd_L3 t346 x432_5) 0)) ∧ w'.cell? (ad390.add ((rd (rd_L3 t346 x432_5) x468_6)).toNat) = some (.int .i64 (rd t330 (rd (rd_L3 t346 x432_5) x468_6))) ∧ w'.cell? (ad394.add ((ji209)).toNat) = some (.int .i64 (rd (rd_L3 t346 x432_5) (ji209)))) (ds := []) (bl_ 20 0x0) (by kernel_rfl) rfl rfl ⟨hw389_0, hx390_0, hw391_0⟩ (fun hHeld => ?_); refine with_tabW laws_FnTablesLead.tab66 laws_FnTablesLead.bits66 (fun HT_ HW_ => ?_)
               generalize wr.drew = w213 at HO_30 HO_34 HO_38 HO_430 HR384_0 HB hx389_0 hx390_0 hx391_0 hHeld ⊢
               refine pz_ 0 473 (bl_ 20 0x1) HT_.out ?_
               refine pz_ 1 474 (bl_ 20 0x3) HT_.out ?_
               refine pz_ 2 475 (bl_ 20 0x7) HT_.out ?_
               refine take_ (i := 3) (N := some 476) (v := ?_) (a' := ?_) (bl_ 20 0xf) rfl rfl (take_ofW HT_.out HW_.out (by kernel_rfl)) (fun _ _ _ h => h) (Or.inl ⟨by rfl, ?_⟩) hHeld ?_ ?_
               rotate_left
               ·rintro w' ⟨s0, s1, s2⟩
                go_simp
                with_reducible rfl
               rotate_left
               ·simp only [Act.put, sa_, sb_, sc_, i64_w, i32_w]
                rfl
               refine pz_ 4 477 (bl_ 20 0x1f) HT_.out ?_
               refine pz_ 5 478 (bl_ 20 0x3f) HT_.out ?_
               refine pz_ 6 479 (bl_ 20 0x7f) HT_.out ?_
               refine pz_ 7 480 (bl_ 20 0xff) HT_.out ?_
               refine pz_ 8 481 (bl_ 20 0x1ff) HT_.out ?_
               refine pz_ 10 483 (bl_ 20 0x5ff) HT_.out ?_
               refine pz_ 11 484 (bl_ 20 0xdff) HT_.out ?_
               refine pz_ 12 485 (bl_ 20 0x1dff) HT_.out ?_
               refine pz_ 13 486 (bl_ 20 0x3dff) HT_.out ?_
               refine pz_ 14 487 (bl_ 20 0x7dff) HT_.out ?_
               refine pz_ 15 488 (bl_ 20 0xfdff) HT_.out ?_
               refine pz_ 16 489 (bl_ 20 0x1fdff) HT_.out ?_
               refine take_ (i := 9) (N := some 482) (v := ?_) (a' := ?_) (bl_ 20 0x1ffff) rfl rfl (take_ofW HT_.out HW_.out (by kernel_rfl)) (fun _ _ _ h => h) (Or.inl ⟨by rfl, ?_⟩) hHeld ?_ ?_
               rotate_left
               ·rintro w' ⟨s0, s1, s2⟩
                go_simp
                with_reducible rfl
               rotate_left
               ·simp only [Act.put, sa_, sb_, sc_, i64_w, i32_w]
                rfl
               refine take_ (i := 17) (N := some 490) (v := ?_) (a' := ?_) (bl_ 20 0x3ffff) rfl rfl (take_ofW HT_.out HW_.out (by kernel_rfl)) (fun _ _ _ h => h) (Or.inl ⟨by rfl, ?_⟩) hHeld ?_ ?_
               rotate_left
               ·rintro w' ⟨s0, s1, s2⟩
                go_simp
                with_reducible rfl
               rotate_left
               ·simp only [Act.put, sa_, sb_, sc_, i64_w, i32_w]
                rfl
               refine pz_ 18 491 (bl_ 20 0x7ffff) HT_.out ?_
               refine pz_ 19 492 (bl_ 20 0xfffff) HT_.out ?_
               refine done_ (done_of HT_.out (by kernel_rfl)) ?_
               try go_wp2
               go_roundg k6
               case measure => have := HJ9.out; have := HJ13.out; have := HJ35.out; have := HJ101.out; have := HK5.out; have := HK6.out; omega
               case rel => exact ⟨(wrap64 (x468_6 + 1)), (by first | rfl | (simp; done) | (simp [*]; done)), H', ⟨by have := HJ9.out; have := HJ13.out; have := HJ35.out; have := HJ101.out; have := HK5.out; have := HK6.out; omega⟩, ⟨by (with_reducible repeat (first | apply Kd.R_alloc | apply Kd.R_drewN | apply Kd.R_drew)); exact HO_30.out⟩, ⟨by (with_reducible repeat (first | apply Kd.R_alloc | apply Kd.R_drewN | apply Kd.R_drew)); exact HO_34.out⟩, ⟨by (with_reducible repeat (first | apply Kd.S_alloc | apply Kd.S_drewN | apply Kd.S_drew)); exact HO_38.out⟩, ⟨by (with_reducible repeat (first | apply Kd.S_alloc | apply Kd.S_drewN | apply Kd.S_drew)); exact HO_430.out⟩, ⟨by repeat (first | (with_reducible exact HR384_0.out) | (with_reducible refine Kd.C_alloc ?_ _) | (with_reducible refine Kd.C_drewN ?_ _) | (with_reducible refine Kd.C_drew ?_) | exact HR384_0.out)⟩, ⟨bb_⟩⟩
/-- THE ONE PURE STATEMENT of laws_FnTablesLead: yours. -/
def laws_FnTablesLead.Pure : Prop := ∀ (l0 : List Int) (l1 : List Int), l0.length ≤ maxLen → l0.length * 1 ≤ 140737488351232 → (∀ x ∈ l0, (Lit.int .u8 x).wf = true) → l1.length ≤ maxLen → l1.length * 1 ≤ 140737488351232 → (∀ x ∈ l1, (Lit.int .u8 x).wf = true) → ∃ k, laws_FnTablesLead.f k l0 l1 = some true
theorem laws_FnTablesLead.walk (P : laws_FnTablesLead.Pure) (a0 : Option Addr) (len0 cap0 : Nat) (z0 : List Int) (a1 : Option Addr) (len1 cap1 : Nat) (z1 : List Int) (w : World) (w0 : (a0 = none ∧ len0 = 0 ∧ cap0 = 0 ∧ z0 = []) ∨ ∃ x, a0 = some x ∧ len0 ≤ cap0 ∧ cap0 ≤ maxLen ∧ z0.length = cap0 ∧ (∀ i, i < z0.length → w.cell? (x.add i) = some (.int .u8 (z0.getD i 0))) ∧ ∀ n ∈ z0, (Lit.int .u8 n).wf = true) (y0 : len0 * 1 ≤ 140737488351232) (w1 : (a1 = none ∧ len1 = 0 ∧ cap1 = 0 ∧ z1 = []) ∨ ∃ x, a1 = some x ∧ len1 ≤ cap1 ∧ cap1 ≤ maxLen ∧ z1.length = cap1 ∧ (∀ i, i < z1.length → w.cell? (x.add i) = some (.int .u8 (z1.getD i 0))) ∧ ∀ n ∈ z1, (Lit.int .u8 n).wf = true) (y1 : len1 * 1 ≤ 140737488351232) :
  Calls Try.prog 3 #[.slice a0 len0 cap0, .slice a1 len1 cap1] w fun e w' => e = .returned (.bool true) ∧ Below w.heap.size w w' := by
 obtain ⟨l0, rfl, hr0, hm0, hw0, hc0⟩ := ReadsInt.ofRowC w0
 obtain ⟨l1, rfl, hr1, hm1, hw1, hc1⟩ := ReadsInt.ofRowC w1
 obtain ⟨k, h⟩ := P l0 l1 hm0 y0 hw0 hm1 y1 hw1
 refine (laws_FnTablesLead.calls k _ _ l0 _ _ l1 true w (Kd.C_of_reads (d := (0 : Int)) (h1 := fun _ => rfl) hr0) hc0 (Kd.C_of_reads (d := (0 : Int)) (h1 := fun _ => rfl) hr1) hc1 h).mono ?_
 rintro e w' ⟨rfl, hd⟩
 exact ⟨rfl, hd⟩

end Go.Proofs.Ytgiiaajincdhnaa.P
