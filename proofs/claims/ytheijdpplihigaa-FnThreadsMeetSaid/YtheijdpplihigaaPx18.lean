/- A part of this seat's proofs: contracts of the translated functions, written by the session's own program (gp.py) out of the kit's print.py and the session's own contracts; no conditions of its own. -/
import Derived.Test.YtheijdpplihigaaPx0
import Derived.Test.YtheijdpplihigaaPx2
import Derived.Test.YtheijdpplihigaaPx3
import Derived.Test.YtheijdpplihigaaPx4
import Derived.Test.YtheijdpplihigaaPx5
import Derived.Test.YtheijdpplihigaaPx7
import Derived.Test.YtheijdpplihigaaPx9
import Derived.Test.YtheijdpplihigaaPx12
import Derived.Test.YtheijdpplihigaaPx15
import Derived.Test.YtheijdpplihigaaPx16
import Derived.Test.YtheijdpplihigaaPx17
namespace Go.Proofs.Ytheijdpplihigaa.P
open Go.RowKit Go.Proofs.YtheijdpplihigaaW.PrintWords Go.Proofs.YtheijdpplihigaaW.PrintLast Go.Proofs.YtheijdpplihigaaW.PrintMore
attribute [local go_sem] max2_int min2_int max_two min_two max_three min_three max_four min_four   -- for this text's walks alone
set_option linter.unusedVariables false
set_option linter.unusedSimpArgs false

/-! ### laws_FnThreadsMeet: function 3 -/
mutual
def laws_FnThreadsMeet.j0 : Nat → List Int → List Int → Bool → Bool → Int → Int → Int → Int → Option (Bool)
 | 0, _, _, _, _, _, _, _, _ => none
 | k + 1, x1, x7, x8, x113, x471000, x471001, x472000, x472001 => if x113 = true then (none) else (if x8 = true then ((impl_MeetingOf.f x472000 x472001 x471000 x471001).bind fun bt485 => ((impl_MeetingOf.f x471001 x471000 x472001 x472000).bind fun bt489 => (if (x7.length : Int) = 4 then (if 0 < (x7.length : Int) then (if 1 < (x7.length : Int) then ((laws_gLow.f k (rd x7 0) (rd x7 1)).bind fun t495 => (if t495 = true then (if 2 < (x7.length : Int) then (if 3 < (x7.length : Int) then ((laws_gLow.f k (rd x7 2) (rd x7 3)).bind fun t498 => (if t498 = true then (if (rd x7 0) < 1 then (none) else (if (rd x7 2) < 1 then (none) else (if bt485.2 = true then ((laws_gSame.f k bt485.1 x7).bind fun t501 => (if t501 = true then (if bt489.2 = true then ((laws_gSame.f k bt489.1 (([rd x7 2, rd x7 3, rd x7 0, rd x7 1] : List Int))).bind fun t509 => (if t509 = true then (if (wrap64 ((wrap64 ((wrap64 ((rd x7 0) * (rd x7 3))) * x471001)) + (wrap64 ((wrap64 ((rd x7 2) * (rd x7 1))) * x471000)))) = (wrap64 ((wrap64 ((wrap64 (x471000 * x471001)) * (rd x7 1))) * (rd x7 3))) then (if (wrap64 ((wrap64 ((wrap64 ((rd x7 0) * (rd x7 3))) * x472001)) + (wrap64 ((wrap64 ((rd x7 2) * (rd x7 1))) * x472000)))) = (wrap64 ((wrap64 ((wrap64 (x472000 * x472001)) * (rd x7 1))) * (rd x7 3))) then (laws_FnThreadsMeet.j1 k x1) else (none)) else (none)) else (none))) else (none)) else (none))) else (none)))) else (none))) else (none)) else (none)) else (none))) else (none)) else (none)) else (none)))) else (laws_FnThreadsMeet.j1 k x1))
def laws_FnThreadsMeet.j1 : Nat → List Int → Option (Bool)
 | 0, _ => none
 | k + 1, x1 => (spec_DrawMeetingsOnThread.f k x1).bind fun bt514 => ((impl_MeetingsOnThread.f k bt514.1 bt514.2).bind fun bt518 => ((spec_MeetingsOnThread.f k bt514.1 bt514.2).bind fun bt522 => ((impl_CountMeetings.f k bt514.1).bind fun bt526 => ((spec_CountMeetings.f k bt514.1).bind fun bt528 => ((spec_DrawHeightOf.f x1).bind fun bt530 => ((impl_HeightOf.f bt530.1 bt530.2.1 bt530.2.2).bind fun bt534 => ((spec_HeightOf.f bt530.1 bt530.2.1 bt530.2.2).bind fun bt537 => ((impl_DoubleTriangle.f bt530.1 bt530.2.1).bind fun bt540 => ((spec_DoubleTriangle.f bt530.1 bt530.2.1).bind fun bt542 => (if (bt518.2 != bt522.2) = true then (none) else ((laws_gSame.f k bt518.1 bt522.1).bind fun t544 => (if t544 = true then (if (bt526.2 != bt528.2) = true then (none) else (if bt526.1 = bt528.1 then (if (bt534.2.2 != bt537.2.2) = true then (none) else (if bt534.1 = bt537.1 then (if bt534.2.1 = bt537.2.1 then (if (bt540.2 != bt542.2) = true then (none) else (if bt540.1 = bt542.1 then ((impl_AreThreads.f k bt514.1).bind fun t545 => (if (bt526.2 != t545) = true then (none) else ((impl_AreThreads.f k bt514.1).bind fun t546 => ((spec_AreThreads.f k bt514.1).bind fun t547 => (if (t546 != t547) = true then (none) else (if bt518.2 = true then (if bt526.2 = true then (if bt534.2.2 = true then (laws_FnThreadsMeet.j2 k bt514.1 bt514.2 bt518.1 bt518.2 bt526.1 bt530.2.2 bt534.1 bt534.2.1 bt534.2.2 bt540.1 (!bt540.2) bt530.1 bt530.2.1) else (laws_FnThreadsMeet.j2 k bt514.1 bt514.2 bt518.1 bt518.2 bt526.1 bt530.2.2 bt534.1 bt534.2.1 bt534.2.2 bt540.1 false bt530.1 bt530.2.1)) else (none)) else (if bt534.2.2 = true then (laws_FnThreadsMeet.j2 k bt514.1 bt514.2 bt518.1 bt518.2 bt526.1 bt530.2.2 bt534.1 bt534.2.1 bt534.2.2 bt540.1 (!bt540.2) bt530.1 bt530.2.1) else (laws_FnThreadsMeet.j2 k bt514.1 bt514.2 bt518.1 bt518.2 bt526.1 bt530.2.2 bt534.1 bt534.2.1 bt534.2.2 bt540.1 false bt530.1 bt530.2.1)))))))) else (none))) else (none)) else (none))) else (none))) else (none)))))))))))))
def laws_FnThreadsMeet.j2 : Nat → List (S25) → Int → List Int → Bool → Int → Int → Int → Int → Bool → Int → Bool → Int → Int → Option (Bool)
 | 0, _, _, _, _, _, _, _, _, _, _, _, _, _ => none
 | k + 1, x23, x24, x25, x26, x29, x34, x35, x36, x37, x41, x388, x534000, x534001 => if x388 = true then (none) else (if x26 = true then (laws_FnThreadsMeet.l0 k x23 x24 x25 x29 x34 x35 x36 x37 x41 0 (x23.length : Int) 0 x534000 x534001) else (laws_FnThreadsMeet.j5 k x34 x35 x36 x37 x41 x534000 x534001))
def laws_FnThreadsMeet.j5 : Nat → Int → Int → Int → Bool → Int → Int → Int → Option (Bool)
 | 0, _, _, _, _, _, _, _ => none
 | k + 1, x34, x35, x36, x37, x41, x534000, x534001 => if x37 = true then ((laws_gLow.f k x35 x36).bind fun t572 => (if t572 = true then (if (wrap64 (x35 * x534000)) = (wrap64 ((wrap64 (x534001 * (wrap64 (x534000 - x34)))) * x36)) then (if x41 = (wrap64 (x534000 * x534001)) then (some true) else (none)) else (none)) else (none))) else (some true)
def laws_FnThreadsMeet.l0 : Nat → List (S25) → Int → List Int → Int → Int → Int → Int → Bool → Int → Int → Int → Int → Int → Int → Option (Bool)
 | 0, _, _, _, _, _, _, _, _, _, _, _, _, _, _ => none
 | k + 1, x23, x24, x25, x29, x34, x35, x36, x37, x41, x45, x391, x392, x534000, x534001 => if x392 < x391 then ((impl_MeetingsOnThread.f k x23 x392).bind fun bt548 => (if bt548.2 = true then (laws_FnThreadsMeet.l0 k x23 x24 x25 x29 x34 x35 x36 x37 x41 (wrap64 (x45 + (bt548.1.length : Int))) x391 (wrap64 (x392 + 1)) x534000 x534001) else (none))) else (if x45 = (wrap64 (2 * x29)) then (laws_FnThreadsMeet.l1 k x23 x24 x25 x34 x35 x36 x37 x41 x25 (x25.length : Int) 0 x534000 x534001) else (none))
def laws_FnThreadsMeet.l1 : Nat → List (S25) → Int → List Int → Int → Int → Int → Bool → Int → List Int → Int → Int → Int → Int → Option (Bool)
 | 0, _, _, _, _, _, _, _, _, _, _, _, _, _ => none
 | k + 1, x23, x24, x25, x34, x35, x36, x37, x41, x412, x413, x414, x534000, x534001 => if x414 < x413 then (if 0 ≤ x414 then (if x414 < (x412.length : Int) then (if 0 ≤ x24 then (if x24 < (x23.length : Int) then (if 0 ≤ (rd x412 x414) then (if (rd x412 x414) < (x23.length : Int) then ((impl_MeetingOf.f ((rd_T25 x23 x24).f0) ((rd_T25 x23 x24).f1) ((rd_T25 x23 (rd x412 x414)).f0) ((rd_T25 x23 (rd x412 x414)).f1)).bind fun bt555 => (if bt555.2 = true then (if x414 > 0 then (if 0 ≤ (wrap64 (x414 - 1)) then (if (wrap64 (x414 - 1)) < (x25.length : Int) then (if 0 ≤ (rd x25 (wrap64 (x414 - 1))) then (if (rd x25 (wrap64 (x414 - 1))) < (x23.length : Int) then ((impl_MeetingOf.f ((rd_T25 x23 x24).f0) ((rd_T25 x23 x24).f1) ((rd_T25 x23 (rd x25 (wrap64 (x414 - 1)))).f0) ((rd_T25 x23 (rd x25 (wrap64 (x414 - 1)))).f1)).bind fun bt562 => (if bt562.2 = true then (if 0 < (bt562.1.length : Int) then (if 1 < (bt555.1.length : Int) then (if 0 < (bt555.1.length : Int) then (if 1 < (bt562.1.length : Int) then (if (wrap64 ((rd bt562.1 0) * (rd bt555.1 1))) > (wrap64 ((rd bt555.1 0) * (rd bt562.1 1))) then (none) else ((laws_gSame.f k bt562.1 bt555.1).bind fun t570 => (if t570 = true then (if (rd x25 (wrap64 (x414 - 1))) > (rd x412 x414) then (none) else (laws_FnThreadsMeet.l1 k x23 x24 x25 x34 x35 x36 x37 x41 x412 x413 (wrap64 (x414 + 1)) x534000 x534001)) else (laws_FnThreadsMeet.l1 k x23 x24 x25 x34 x35 x36 x37 x41 x412 x413 (wrap64 (x414 + 1)) x534000 x534001)))) else (none)) else (none)) else (none)) else (none)) else (none))) else (none)) else (none)) else (none)) else (none)) else (laws_FnThreadsMeet.l1 k x23 x24 x25 x34 x35 x36 x37 x41 x412 x413 (wrap64 (x414 + 1)) x534000 x534001)) else (none))) else (none)) else (none)) else (none)) else (none)) else (none)) else (none)) else (laws_FnThreadsMeet.j5 k x34 x35 x36 x37 x41 x534000 x534001)
end
def laws_FnThreadsMeet.f (k : Nat) (l0 : List Int) (l1 : List Int) : Option (Bool) := (laws_big.f l0 l1).bind fun t465 => (if t465 = true then (some true) else ((spec_DrawMeetingOf.f l0).bind fun bt466 => ((impl_MeetingOf.f bt466.1 bt466.2.1 bt466.2.2.1 bt466.2.2.2).bind fun bt472 => ((spec_MeetingOf.f bt466.1 bt466.2.1 bt466.2.2.1 bt466.2.2.2).bind fun bt476 => ((impl_DoThreadsMeet.f bt466.1 bt466.2.1 bt466.2.2.1 bt466.2.2.2).bind fun bt480 => ((spec_DoThreadsMeet.f bt466.1 bt466.2.1 bt466.2.2.1 bt466.2.2.2).bind fun bt482 => (if (bt472.2 != bt476.2) = true then (none) else ((laws_gSame.f k bt472.1 bt476.1).bind fun t484 => (if t484 = true then (if (bt480.2 != bt482.2) = true then (none) else (if (bt480.1 != bt482.1) = true then (none) else (if bt480.2 = true then (laws_FnThreadsMeet.j0 k l1 bt472.1 bt472.2 (bt472.2 != bt480.1) bt466.1 bt466.2.1 bt466.2.2.1 bt466.2.2.2) else (laws_FnThreadsMeet.j0 k l1 bt472.1 bt472.2 (bt472.2 != false) bt466.1 bt466.2.1 bt466.2.2.1 bt466.2.2.2)))) else (none))))))))))
theorem laws_FnThreadsMeet.mono_l : ∀ k, (∀ y0 y1 y2 y3 y4 y5 y6 y7, LeO (laws_FnThreadsMeet.j0 k y0 y1 y2 y3 y4 y5 y6 y7) (laws_FnThreadsMeet.j0 (k + 1) y0 y1 y2 y3 y4 y5 y6 y7)) ∧ (∀ y0, LeO (laws_FnThreadsMeet.j1 k y0) (laws_FnThreadsMeet.j1 (k + 1) y0)) ∧ (∀ y0 y1 y2 y3 y4 y5 y6 y7 y8 y9 y10 y11 y12, LeO (laws_FnThreadsMeet.j2 k y0 y1 y2 y3 y4 y5 y6 y7 y8 y9 y10 y11 y12) (laws_FnThreadsMeet.j2 (k + 1) y0 y1 y2 y3 y4 y5 y6 y7 y8 y9 y10 y11 y12)) ∧ (∀ y0 y1 y2 y3 y4 y5 y6, LeO (laws_FnThreadsMeet.j5 k y0 y1 y2 y3 y4 y5 y6) (laws_FnThreadsMeet.j5 (k + 1) y0 y1 y2 y3 y4 y5 y6)) ∧ (∀ y0 y1 y2 y3 y4 y5 y6 y7 y8 y9 y10 y11 y12 y13, LeO (laws_FnThreadsMeet.l0 k y0 y1 y2 y3 y4 y5 y6 y7 y8 y9 y10 y11 y12 y13) (laws_FnThreadsMeet.l0 (k + 1) y0 y1 y2 y3 y4 y5 y6 y7 y8 y9 y10 y11 y12 y13)) ∧ (∀ y0 y1 y2 y3 y4 y5 y6 y7 y8 y9 y10 y11 y12, LeO (laws_FnThreadsMeet.l1 k y0 y1 y2 y3 y4 y5 y6 y7 y8 y9 y10 y11 y12) (laws_FnThreadsMeet.l1 (k + 1) y0 y1 y2 y3 y4 y5 y6 y7 y8 y9 y10 y11 y12))
 | 0 => ⟨fun _ _ _ _ _ _ _ _ r h => by simp [laws_FnThreadsMeet.j0] at h, fun _ r h => by simp [laws_FnThreadsMeet.j1] at h, fun _ _ _ _ _ _ _ _ _ _ _ _ _ r h => by simp [laws_FnThreadsMeet.j2] at h, fun _ _ _ _ _ _ _ r h => by simp [laws_FnThreadsMeet.j5] at h, fun _ _ _ _ _ _ _ _ _ _ _ _ _ _ r h => by simp [laws_FnThreadsMeet.l0] at h, fun _ _ _ _ _ _ _ _ _ _ _ _ _ r h => by simp [laws_FnThreadsMeet.l1] at h⟩
 | k + 1 => by
  obtain ⟨ih0, ih1, ih2, ih3, ih4, ih5⟩ := laws_FnThreadsMeet.mono_l k
  refine ⟨?_, ?_, ?_, ?_, ?_, ?_⟩
  all_goals (intros; first | unfold laws_FnThreadsMeet.j0 | unfold laws_FnThreadsMeet.j1 | unfold laws_FnThreadsMeet.j2 | unfold laws_FnThreadsMeet.j5 | unfold laws_FnThreadsMeet.l0 | unfold laws_FnThreadsMeet.l1)
  all_goals repeat' with_reducible first | apply ih0 | apply ih1 | apply ih2 | apply ih3 | apply ih4 | apply ih5 | apply impl_AreThreads.mono | apply impl_CountMeetings.mono | apply impl_MeetingsOnThread.mono | apply laws_gLow.mono | apply laws_gSame.mono | apply spec_AreThreads.mono | apply spec_CountMeetings.mono | apply spec_DrawMeetingsOnThread.mono | apply spec_MeetingsOnThread.mono | exact LeO.refl _ | exact LeO.none _ | refine LeO.ite ?_ ?_ | refine LeO.bind ?_ (fun _ => ?_)
theorem laws_FnThreadsMeet.mono : ∀ a0 a1 k, LeO (laws_FnThreadsMeet.f k a0 a1) (laws_FnThreadsMeet.f (k + 1) a0 a1) := by
 intro a0 a1 k
 obtain ⟨ih0, ih1, ih2, ih3, ih4, ih5⟩ := laws_FnThreadsMeet.mono_l k
 unfold laws_FnThreadsMeet.f
 repeat' with_reducible first | apply ih0 | apply ih1 | apply ih2 | apply ih3 | apply ih4 | apply ih5 | apply impl_AreThreads.mono | apply impl_CountMeetings.mono | apply impl_MeetingsOnThread.mono | apply laws_gLow.mono | apply laws_gSame.mono | apply spec_AreThreads.mono | apply spec_CountMeetings.mono | apply spec_DrawMeetingsOnThread.mono | apply spec_MeetingsOnThread.mono | exact LeO.refl _ | exact LeO.none _ | refine LeO.ite ?_ ?_ | refine LeO.bind ?_ (fun _ => ?_)
def laws_FnThreadsMeet.T13 : Bool × List (List Nat × List Nat) := (true, [([], []), ([0], [0]), ([1], [1]), ([2], [2]), ([3], [3]), ([4, 3], [3, 4]), ([5, 3], [3, 5]), ([3], [3]), ([7, 3], [3, 7]), ([8, 3], [3, 8]), ([6, 9, 3, 3], [3, 6, 9]), ([10, 3], [3, 10]), ([3, 11], [3, 11]), ([12, 10], [12]), ([13], [13]), ([14, 13], [13, 14]), ([15, 13], [13, 15]), ([13], [13]), ([17, 13], [13, 17]), ([18, 13], [13, 18]), ([16, 19, 13, 13], [13, 16, 19]), ([20, 13], [13, 20]), ([13, 21], [13, 21]), ([22, 20], [22]), ([23], [23]), ([24, 23], [23, 24]), ([25, 23], [23, 25]), ([26, 23], [23, 26]), ([23, 27], [23, 27]), ([28, 23], [28]), ([29], [29]), ([30, 29], [29, 30]), ([31, 29], [29, 31]), ([32, 29], [29, 32]), ([29, 33], [29, 33]), ([34, 29], [34]), ([35], [35]), ([36, 35], [35, 36]), ([35, 37], [35, 37]), ([38, 35], [38]), ([39], [39]), ([39], [39]), ([40, 41, 39, 39], [39, 40, 41]), ([42, 39], [39, 42]), ([39, 43], [39, 43]), ([44, 42], [44]), ([45], [45]), ([46, 45], [45, 46]), ([45, 47], [45, 47]), ([48, 45], [48]), ([49], [49]), ([49], [49]), ([51, 49], [49, 51]), ([52, 49], [49, 52]), ([49], [49]), ([54, 49], [49, 54]), ([55, 49], [49, 55]), ([49], [49]), ([57, 49], [49, 57]), ([58, 49], [49, 58]), ([49], [49]), ([60, 49], [49, 60]), ([61, 49], [49, 61]), ([53, 56, 59, 62, 49], [49, 53, 56, 59, 62]), ([50, 63, 49, 49], [49, 50, 63]), ([64, 49], [49, 64]), ([49, 65], [49, 65])])
def laws_FnThreadsMeet.B13 : List Nat := [0, 1, 3, 7, 15, 31, 63, 15, 143, 399, 1023, 2047, 4095, 8191, 16383, 32767, 65535, 16383, 147455, 409599, 1048575, 2097151, 4194303, 8388607, 16777215, 33554431, 67108863, 134217727, 268435455, 536870911, 1073741823, 2147483647, 4294967295, 8589934591, 17179869183, 34359738367, 68719476735, 137438953471, 274877906943, 549755813887, 1099511627775, 1099511627775, 4398046511103, 8796093022207, 17592186044415, 35184372088831, 70368744177663, 140737488355327, 281474976710655, 562949953421311, 1125899906842623, 1125899906842623, 3377699720527871, 7881299347898367, 1125899906842623, 19140298416324607, 55169095435288575, 1125899906842623, 145241087982698495, 433471464134410239, 1125899906842623, 1154047404513689599, 3459890413727383551, 9222246136947933183, 18446744073709551615, 36893488147419103231, 73786976294838206463]
theorem laws_FnThreadsMeet.tab13 : rtab .any (opsOf Try.f3 13) = laws_FnThreadsMeet.T13 := by kernel_rfl
theorem laws_FnThreadsMeet.bits13 : waitsOk laws_FnThreadsMeet.T13.2 laws_FnThreadsMeet.B13 = true := by kernel_rfl
def laws_FnThreadsMeet.T15 : Bool × List (List Nat × List Nat) := (true, [([], []), ([0], [0]), ([1], [1]), ([], []), ([3], [3]), ([4], [4]), ([], []), ([6], [6]), ([7], [7]), ([], []), ([9], [9]), ([10], [10]), ([2, 0, 1, 2], [2]), ([5, 12, 0, 1, 2, 3, 4, 5, 12], [5]), ([8, 13, 0, 1, 2, 3, 4, 5, 6, 7, 8, 12, 13], [8]), ([11, 14, 0, 1, 2, 3, 4, 5, 6, 7, 8, 9, 10, 11, 12, 13, 14], [11])])
def laws_FnThreadsMeet.B15 : List Nat := [0, 1, 3, 0, 8, 24, 0, 64, 192, 0, 512, 1536, 7, 4159, 12799, 32767]
theorem laws_FnThreadsMeet.tab15 : rtab .any (opsOf Try.f3 15) = laws_FnThreadsMeet.T15 := by kernel_rfl
theorem laws_FnThreadsMeet.bits15 : waitsOk laws_FnThreadsMeet.T15.2 laws_FnThreadsMeet.B15 = true := by kernel_rfl
def laws_FnThreadsMeet.T45 : Bool × List (List Nat × List Nat) := (true, [([], []), ([], []), ([0, 1], [0, 1]), ([2], [2]), ([], []), ([], []), ([4, 5], [4, 5]), ([6], [6]), ([3, 7], [3, 7]), ([8], [8]), ([9], [9]), ([9], [9]), ([10, 8, 0, 1, 2, 3, 4, 5, 6, 7, 8, 9, 10], [10]), ([11, 12, 0, 1, 2, 3, 4, 5, 6, 7, 8, 9, 10, 11, 12], [11])])
def laws_FnThreadsMeet.B45 : List Nat := [0, 0, 3, 7, 0, 0, 48, 112, 255, 511, 1023, 1023, 2047, 8191]
theorem laws_FnThreadsMeet.tab45 : rtab .any (opsOf Try.f3 45) = laws_FnThreadsMeet.T45 := by kernel_rfl
theorem laws_FnThreadsMeet.bits45 : waitsOk laws_FnThreadsMeet.T45.2 laws_FnThreadsMeet.B45 = true := by kernel_rfl
def laws_FnThreadsMeet.T49 : Bool × List (List Nat × List Nat) := (true, [([], []), ([], []), ([0, 1], [0, 1]), ([2], [2]), ([], []), ([], []), ([], []), ([6], [6]), ([5, 7], [5, 7]), ([8], [8]), ([4, 9], [4, 9]), ([10], [10]), ([3, 11], [3, 11]), ([12], [12]), ([13], [13]), ([13], [13]), ([14, 12, 0, 1, 2, 3, 4, 5, 6, 7, 8, 9, 10, 11, 12, 13, 14], [14]), ([15, 16, 0, 1, 2, 3, 4, 5, 6, 7, 8, 9, 10, 11, 12, 13, 14, 15, 16], [15])])
def laws_FnThreadsMeet.B49 : List Nat := [0, 0, 3, 7, 0, 0, 0, 64, 224, 480, 1008, 2032, 4095, 8191, 16383, 16383, 32767, 131071]
theorem laws_FnThreadsMeet.tab49 : rtab .any (opsOf Try.f3 49) = laws_FnThreadsMeet.T49 := by kernel_rfl
theorem laws_FnThreadsMeet.bits49 : waitsOk laws_FnThreadsMeet.T49.2 laws_FnThreadsMeet.B49 = true := by kernel_rfl
def laws_FnThreadsMeet.T50 : Bool × List (List Nat × List Nat) := (true, [([], []), ([0], [0]), ([1], [1]), ([2], [2]), ([3, 2], [2, 3]), ([4, 2], [2, 4]), ([2], [2]), ([6, 2], [2, 6]), ([7, 2], [2, 7]), ([5, 8, 2], [2, 5, 8]), ([2], [2]), ([10, 2], [2, 10]), ([11, 2], [2, 11]), ([2], [2]), ([13, 2], [2, 13]), ([14, 2], [2, 14]), ([12, 15, 2], [2, 12, 15]), ([9, 16, 2], [2, 9, 16]), ([2, 17], [2, 17]), ([18, 2], [18]), ([19], [19]), ([19], [19]), ([20, 21, 19, 19], [19, 20, 21]), ([22, 22, 19], [19, 22]), ([23], [23]), ([23], [23]), ([25, 23], [23, 25]), ([24, 26, 23], [23, 24, 26]), ([27, 23], [23, 27]), ([23], [23]), ([28, 29, 23], [23, 28, 29]), ([23, 30, 19], [19, 23, 30]), ([19, 31], [19, 31])])
def laws_FnThreadsMeet.B50 : List Nat := [0, 1, 3, 7, 15, 31, 7, 71, 199, 511, 7, 1031, 3079, 7, 8199, 24583, 64519, 131071, 262143, 524287, 1048575, 1048575, 4194303, 8388607, 16777215, 16777215, 50331647, 134217727, 268435455, 16777215, 1073741823, 2147483647, 4294967295]
theorem laws_FnThreadsMeet.tab50 : rtab .any (opsOf Try.f3 50) = laws_FnThreadsMeet.T50 := by kernel_rfl
theorem laws_FnThreadsMeet.bits50 : waitsOk laws_FnThreadsMeet.T50.2 laws_FnThreadsMeet.B50 = true := by kernel_rfl
set_option maxHeartbeats 80000000 in
set_option maxRecDepth 100000 in
theorem laws_FnThreadsMeet.calls (k : Nat) (A0 : Option Addr) (c0 : Nat) (l0 : List Int) (A1 : Option Addr) (c1 : Nat) (l1 : List Int) (r : Bool) (w : World) (hr0 : Kd.C (Kd.int .u8) w A0 l0.length l0) (hc0 : l0.length ≤ c0) (hr1 : Kd.C (Kd.int .u8) w A1 l1.length l1) (hc1 : l1.length ≤ c1) (h : laws_FnThreadsMeet.f k l0 l1 = some r) :
  Calls Try.prog 3 #[.slice A0 l0.length c0, .slice A1 l1.length c1] w fun e w' => e = .returned (.bool r) ∧ Below w.heap.size w w' := by
 have hu25 := Try.underlying25
 have HR0 := Aside0.mk hr0
 have HC0 := Aside0.mk hc0
 clear hr0 hc0
 have HR1 := Aside0.mk hr1
 have HC1 := Aside0.mk hc1
 clear hr1 hc1
 have HB := Aside0.mk (Below.refl w.heap.size w)
 have H : ((laws_big.f l0 l1).bind fun t465 => (if t465 = true then (some true) else ((spec_DrawMeetingOf.f l0).bind fun bt466 => ((impl_MeetingOf.f bt466.1 bt466.2.1 bt466.2.2.1 bt466.2.2.2).bind fun bt472 => ((spec_MeetingOf.f bt466.1 bt466.2.1 bt466.2.2.1 bt466.2.2.2).bind fun bt476 => ((impl_DoThreadsMeet.f bt466.1 bt466.2.1 bt466.2.2.1 bt466.2.2.2).bind fun bt480 => ((spec_DoThreadsMeet.f bt466.1 bt466.2.1 bt466.2.2.1 bt466.2.2.2).bind fun bt482 => (if (bt472.2 != bt476.2) = true then (none) else ((laws_gSame.f k bt472.1 bt476.1).bind fun t484 => (if t484 = true then (if (bt480.2 != bt482.2) = true then (none) else (if (bt480.1 != bt482.1) = true then (none) else (if bt480.2 = true then (laws_FnThreadsMeet.j0 k l1 bt472.1 bt472.2 (bt472.2 != bt480.1) bt466.1 bt466.2.1 bt466.2.2.1 bt466.2.2.2) else (laws_FnThreadsMeet.j0 k l1 bt472.1 bt472.2 (bt472.2 != false) bt466.1 bt466.2.1 bt466.2.2.1 bt466.2.2.2)))) else (none))))))))))) = some r := h
 clear h
 replace H := Option.bind_eq_some_iff.mp H
 obtain ⟨t465, A30, H⟩ := H
 (try dsimp only at H)
 have A3 := Aside0.mk A30
 clear A30
 by_cases c4 : t465 = true
 ·as_aux_lemma =>
  subst c4
  rw [if_pos rfl] at H
  obtain rfl := Option.some.inj H
  go_enter Try.func3, Try.ntmps3
  go_wp2_with (first | ((with_reducible refine gate_callee (f := 5) rfl ?_); refine gl_ (some 57) Try.func5 #[.slice A0 l0.length c0, .slice A1 l1.length c1] ?_; (with_reducible refine (laws_big.calls _ _ l0 _ _ l1 true _ ?side1 ?side2 ?side3 ?side4 A3.out).mono ?_); (case side1 => exact cu_ HR0.out); (case side2 => exact HC0.out); (case side3 => exact cu_ HR1.out); (case side4 => exact HC1.out); rintro e w' ⟨rfl, ⟨nd, rfl⟩⟩; refine ⟨_, rfl, ?_⟩))
  go_ret
  exact ⟨by first | rfl | (simp [errW_none, errW_some] <;> rfl) | (simp [*, errW_none, errW_some] <;> rfl), bb_⟩
 ·as_aux_lemma =>
  replace c4 := Bool.eq_false_iff.mpr c4
  subst c4
  rw [if_neg (show ¬ (false = true) by decide)] at H
  replace H := Option.bind_eq_some_iff.mp H
  obtain ⟨⟨t466, t467, t468, t469⟩, A50, H⟩ := H
  (try dsimp only at H)
  have A5 := Aside0.mk A50
  clear A50
  replace H := Option.bind_eq_some_iff.mp H
  obtain ⟨⟨t472, t475⟩, A60, H⟩ := H
  (try dsimp only at H)
  have A6 := Aside0.mk A60
  clear A60
  replace H := Option.bind_eq_some_iff.mp H
  obtain ⟨⟨t476, t479⟩, A70, H⟩ := H
  (try dsimp only at H)
  have A7 := Aside0.mk A70
  clear A70
  replace H := Option.bind_eq_some_iff.mp H
  obtain ⟨⟨t480, t481⟩, A80, H⟩ := H
  (try dsimp only at H)
  have A8 := Aside0.mk A80
  clear A80
  replace H := Option.bind_eq_some_iff.mp H
  obtain ⟨⟨t482, t483⟩, A90, H⟩ := H
  (try dsimp only at H)
  have A9 := Aside0.mk A90
  clear A90
  have HC10 := Aside0.mk H
  clear H
  go_enter Try.func3, Try.ntmps3
  go_upto_region 8 with (first | ((with_reducible refine gate_callee (f := 5) rfl ?_); refine gl_ (some 57) Try.func5 #[.slice A0 l0.length c0, .slice A1 l1.length c1] ?_; (with_reducible refine (laws_big.calls _ _ l0 _ _ l1 false _ ?side1 ?side2 ?side3 ?side4 A3.out).mono ?_); (case side1 => exact cu_ HR0.out); (case side2 => exact HC0.out); (case side3 => exact cu_ HR1.out); (case side4 => exact HC1.out); rintro e w' ⟨rfl, ⟨nd, rfl⟩⟩; refine ⟨_, rfl, ?_⟩) | ((with_reducible refine gate_callee (f := 6) rfl ?_); refine gl_ (some 60) Try.func6 #[.slice A0 l0.length c0] ?_; (with_reducible refine (spec_DrawMeetingOf.calls _ _ l0 t466 t467 t468 t469 _ ?side1 ?side2 A5.out).mono ?_); (case side1 => exact cu_ HR0.out); (case side2 => exact HC0.out); rintro e w11 ⟨rfl, hb⟩; refine ⟨_, rfl, ?_⟩; have n0_ := Aside0.mk (bs_ hb); clear HB; have HB := n0_; clear n0_; (try clear hb)) | ((with_reducible refine gate_dst (N := 5) rfl ?_); (try (refine gate_guard (by rfl) ?_; dsimp only)); refine box_event ?hg (N := 5) ?hd (cs := #[.int .i64 0, .int .i64 0]) (t := 25) ?hr ?_; (case hd => rfl); (case hg => rfl); (case hr => first | (go_simp; done) | (go_simp; rfl)); intro gb470 hg w12 hbox hb; have n0_ := Aside0.mk (bs_ hb); have n1_ := Aside0.mk (hbox); have n2_ := Aside0.mk ((by rw [hg]; exact bz_ : w.heap.size ≤ gb470)); have n3_ := Aside0.mk ((by rw [hg]; exact bz_ : w.heap.size ≤ gb470)); clear HB; have HB := n0_; have BK470 := n1_; have GW470 := n2_; have GE470 := n3_; clear n0_ n1_ n2_ n3_; clear hb hbox hg) | ((with_reducible refine gate_dst (N := 6) rfl ?_); (try (refine gate_guard (by rfl) ?_; dsimp only)); refine box_event ?hg (N := 6) ?hd (cs := #[.int .i64 0, .int .i64 0]) (t := 25) ?hr ?_; (case hd => rfl); (case hg => rfl); (case hr => first | (go_simp; done) | (go_simp; rfl)); intro gb471 hg w13 hbox hb; have n0_ := Aside0.mk (blk_below (g := gb470) (o := .cells #[.int .i64 0, .int .i64 0] 25 (0, 0)) (by (with_reducible repeat (first | refine blk_drewN ?_ _ | refine blk_drew ?_ | refine blk_alloc ?_ _)); exact BK470.out) hb); have n1_ := Aside0.mk (below_step (by repeat (first | (with_reducible first | apply below_alloc | apply pw_below_drewN | apply below_drew1 | refine below_set ?_ GE470.out) | exact HB.out)) hb); have n2_ := Aside0.mk (hbox); have n3_ := Aside0.mk ((by rw [hg]; exact (below_size (by repeat (first | (with_reducible first | apply below_alloc | apply pw_below_drewN | apply below_drew1 | refine below_set ?_ GE470.out) | exact HB.out))) : w.heap.size ≤ gb471)); have n4_ := Aside0.mk ((by rw [hg]; exact (below_size (by repeat (first | (with_reducible first | apply below_alloc | apply pw_below_drewN | apply below_drew1 | refine below_set ?_ GE470.out) | exact HB.out))) : w.heap.size ≤ gb471)); have n5_ := Aside0.mk ((by rw [hg]; exact Nat.ne_of_lt (blk_lt (g := gb470) (o := .cells #[.int .i64 0, .int .i64 0] 25 (0, 0)) (by (with_reducible repeat (first | refine blk_drewN ?_ _ | refine blk_drew ?_ | refine blk_alloc ?_ _)); exact BK470.out)) : gb470 ≠ gb471)); have n6_ := Aside0.mk ((by rw [hg]; exact Nat.ne_of_gt (blk_lt (g := gb470) (o := .cells #[.int .i64 0, .int .i64 0] 25 (0, 0)) (by (with_reducible repeat (first | refine blk_drewN ?_ _ | refine blk_drew ?_ | refine blk_alloc ?_ _)); exact BK470.out)) : gb471 ≠ gb470)); clear BK470; clear HB; have BK470 := n0_; have HB := n1_; have BK471 := n2_; have GW471 := n3_; have GE471 := n4_; have NB470_471 := n5_; have NB471_470 := n6_; clear n0_ n1_ n2_ n3_ n4_ n5_ n6_; clear hb hbox hg; have hnb14 := NB470_471.out; have hnc14 := NB471_470.out; have hcz15_0 : w13.cell? ⟨gb470, 0, none⟩ = some (.int .i64 0) := (blk_cell BK470.out 0).trans rfl; have hcz15_1 : w13.cell? ⟨gb470, 1, none⟩ = some (.int .i64 0) := (blk_cell BK470.out 1).trans rfl; have hfz15_0 := blk_frozen BK470.out 0; have hfz15_1 := blk_frozen BK470.out 1; have hcz16_0 : w13.cell? ⟨gb471, 0, none⟩ = some (.int .i64 0) := (blk_cell BK471.out 0).trans rfl; have hcz16_1 : w13.cell? ⟨gb471, 1, none⟩ = some (.int .i64 0) := (blk_cell BK471.out 1).trans rfl; have hfz16_0 := blk_frozen BK471.out 0; have hfz16_1 := blk_frozen BK471.out 1) | ((with_reducible refine gate_callee (f := 7) rfl ?_); refine gl_ (some 66) Try.func7 #[.agg #[.int .i64 t466, .int .i64 t467], .agg #[.int .i64 t468, .int .i64 t469]] ?_; (with_reducible refine (impl_MeetingOf.calls t466 t467 t468 t469 t472 t475 _ A6.out).mono ?_); rintro e w17 ⟨v473, rfl, ho0, hb⟩; refine ⟨_, rfl, ?_⟩; have n0_ := Aside0.mk (Kd.R_lower ho0 (below_size (by repeat (first | (with_reducible first | apply below_alloc | apply pw_below_drewN | apply below_drew1 | refine below_set ?_ GE470.out | refine below_set ?_ GE471.out) | exact HB.out)))); have n1_ := Aside0.mk (blk_below (g := gb470) (o := .cells #[.int .i64 t466, .int .i64 t467] 25 (0, 0)) (by (with_reducible repeat (first | refine blk_drewN ?_ _ | refine blk_drew ?_ | refine blk_alloc ?_ _)); refine blk_far ?_ NB470_471.out _; (with_reducible repeat (first | refine blk_drewN ?_ _ | refine blk_drew ?_ | refine blk_alloc ?_ _)); refine blk_far ?_ NB470_471.out _; (with_reducible repeat (first | refine blk_drewN ?_ _ | refine blk_drew ?_ | refine blk_alloc ?_ _)); refine blk_put (cs := #[.int .i64 t466, .int .i64 0]) ?_ 1 _ rfl; (with_reducible repeat (first | refine blk_drewN ?_ _ | refine blk_drew ?_ | refine blk_alloc ?_ _)); refine blk_put (cs := #[.int .i64 0, .int .i64 0]) ?_ 0 _ rfl; (with_reducible repeat (first | refine blk_drewN ?_ _ | refine blk_drew ?_ | refine blk_alloc ?_ _)); exact BK470.out) hb); have n2_ := Aside0.mk (blk_below (g := gb471) (o := .cells #[.int .i64 t468, .int .i64 t469] 25 (0, 0)) (by (with_reducible repeat (first | refine blk_drewN ?_ _ | refine blk_drew ?_ | refine blk_alloc ?_ _)); refine blk_put (cs := #[.int .i64 t468, .int .i64 0]) ?_ 1 _ rfl; (with_reducible repeat (first | refine blk_drewN ?_ _ | refine blk_drew ?_ | refine blk_alloc ?_ _)); refine blk_put (cs := #[.int .i64 0, .int .i64 0]) ?_ 0 _ rfl; (with_reducible repeat (first | refine blk_drewN ?_ _ | refine blk_drew ?_ | refine blk_alloc ?_ _)); refine blk_far ?_ NB471_470.out _; (with_reducible repeat (first | refine blk_drewN ?_ _ | refine blk_drew ?_ | refine blk_alloc ?_ _)); refine blk_far ?_ NB471_470.out _; (with_reducible repeat (first | refine blk_drewN ?_ _ | refine blk_drew ?_ | refine blk_alloc ?_ _)); exact BK471.out) hb); have n3_ := Aside0.mk (below_step (by repeat (first | (with_reducible first | apply below_alloc | apply pw_below_drewN | apply below_drew1 | refine below_set ?_ GE470.out | refine below_set ?_ GE471.out) | exact HB.out)) hb); clear BK470; clear BK471; clear HB; have HO474 := n0_; have BK470 := n1_; have BK471 := n2_; have HB := n3_; clear n0_ n1_ n2_ n3_; (try clear hb); (try clear ho0); have hcz18_0 : w17.cell? ⟨gb470, 0, none⟩ = some (.int .i64 t466) := (blk_cell BK470.out 0).trans rfl; have hcz18_1 : w17.cell? ⟨gb470, 1, none⟩ = some (.int .i64 t467) := (blk_cell BK470.out 1).trans rfl; have hfz18_0 := blk_frozen BK470.out 0; have hfz18_1 := blk_frozen BK470.out 1; have hcz19_0 : w17.cell? ⟨gb471, 0, none⟩ = some (.int .i64 t468) := (blk_cell BK471.out 0).trans rfl; have hcz19_1 : w17.cell? ⟨gb471, 1, none⟩ = some (.int .i64 t469) := (blk_cell BK471.out 1).trans rfl; have hfz19_0 := blk_frozen BK471.out 0; have hfz19_1 := blk_frozen BK471.out 1) | ((with_reducible refine gate_callee (f := 8) rfl ?_); refine gl_ (some 72) Try.func8 #[.agg #[.int .i64 t466, .int .i64 t467], .agg #[.int .i64 t468, .int .i64 t469]] ?_; (with_reducible refine (spec_MeetingOf.calls t466 t467 t468 t469 t476 t479 _ A7.out).mono ?_); rintro e w20 ⟨v477, rfl, ho0, hb⟩; refine ⟨_, rfl, ?_⟩; have n0_ := Aside0.mk (Kd.R_elder' (ru_ HO474.out) (Kd.R_base ho0) hb); have n1_ := Aside0.mk (Kd.R_lower (Kd.R_new' ho0 (Kd.R_lt (ru_ HO474.out))) (below_size (by repeat (first | (with_reducible first | apply below_alloc | apply pw_below_drewN | apply below_drew1 | refine below_set ?_ GE470.out | refine below_set ?_ GE471.out) | exact HB.out)))); have n2_ := Aside0.mk (blk_below (g := gb470) (o := .cells #[.int .i64 t466, .int .i64 t467] 25 (0, 0)) (by (with_reducible repeat (first | refine blk_drewN ?_ _ | refine blk_drew ?_ | refine blk_alloc ?_ _)); exact BK470.out) hb); have n3_ := Aside0.mk (blk_below (g := gb471) (o := .cells #[.int .i64 t468, .int .i64 t469] 25 (0, 0)) (by (with_reducible repeat (first | refine blk_drewN ?_ _ | refine blk_drew ?_ | refine blk_alloc ?_ _)); exact BK471.out) hb); have n4_ := Aside0.mk (below_step (by repeat (first | (with_reducible first | apply below_alloc | apply pw_below_drewN | apply below_drew1 | refine below_set ?_ GE470.out | refine below_set ?_ GE471.out) | exact HB.out)) hb); clear HO474; clear BK470; clear BK471; clear HB; have HO474 := n0_; have HO478 := n1_; have BK470 := n2_; have BK471 := n3_; have HB := n4_; clear n0_ n1_ n2_ n3_ n4_; (try clear hb); (try clear ho0); have hcz21_0 : w20.cell? ⟨gb470, 0, none⟩ = some (.int .i64 t466) := (blk_cell BK470.out 0).trans rfl; have hcz21_1 : w20.cell? ⟨gb470, 1, none⟩ = some (.int .i64 t467) := (blk_cell BK470.out 1).trans rfl; have hfz21_0 := blk_frozen BK470.out 0; have hfz21_1 := blk_frozen BK470.out 1; have hcz22_0 : w20.cell? ⟨gb471, 0, none⟩ = some (.int .i64 t468) := (blk_cell BK471.out 0).trans rfl; have hcz22_1 : w20.cell? ⟨gb471, 1, none⟩ = some (.int .i64 t469) := (blk_cell BK471.out 1).trans rfl; have hfz22_0 := blk_frozen BK471.out 0; have hfz22_1 := blk_frozen BK471.out 1) | ((with_reducible refine gate_callee (f := 9) rfl ?_); refine gl_ (some 78) Try.func9 #[.agg #[.int .i64 t466, .int .i64 t467], .agg #[.int .i64 t468, .int .i64 t469]] ?_; (with_reducible refine (impl_DoThreadsMeet.calls t466 t467 t468 t469 t480 t481 _ A8.out).mono ?_); rintro e w23 ⟨rfl, hb⟩; refine ⟨_, rfl, ?_⟩; have n0_ := Aside0.mk (Kd.R_below (ru_ HO474.out) hb); have n1_ := Aside0.mk (Kd.R_below (ru_ HO478.out) hb); have n2_ := Aside0.mk (blk_below (g := gb470) (o := .cells #[.int .i64 t466, .int .i64 t467] 25 (0, 0)) (by (with_reducible repeat (first | refine blk_drewN ?_ _ | refine blk_drew ?_ | refine blk_alloc ?_ _)); exact BK470.out) hb); have n3_ := Aside0.mk (blk_below (g := gb471) (o := .cells #[.int .i64 t468, .int .i64 t469] 25 (0, 0)) (by (with_reducible repeat (first | refine blk_drewN ?_ _ | refine blk_drew ?_ | refine blk_alloc ?_ _)); exact BK471.out) hb); have n4_ := Aside0.mk (below_step (by repeat (first | (with_reducible first | apply below_alloc | apply pw_below_drewN | apply below_drew1 | refine below_set ?_ GE470.out | refine below_set ?_ GE471.out) | exact HB.out)) hb); clear HO474; clear HO478; clear BK470; clear BK471; clear HB; have HO474 := n0_; have HO478 := n1_; have BK470 := n2_; have BK471 := n3_; have HB := n4_; clear n0_ n1_ n2_ n3_ n4_; (try clear hb); have hcz24_0 : w23.cell? ⟨gb470, 0, none⟩ = some (.int .i64 t466) := (blk_cell BK470.out 0).trans rfl; have hcz24_1 : w23.cell? ⟨gb470, 1, none⟩ = some (.int .i64 t467) := (blk_cell BK470.out 1).trans rfl; have hfz24_0 := blk_frozen BK470.out 0; have hfz24_1 := blk_frozen BK470.out 1; have hcz25_0 : w23.cell? ⟨gb471, 0, none⟩ = some (.int .i64 t468) := (blk_cell BK471.out 0).trans rfl; have hcz25_1 : w23.cell? ⟨gb471, 1, none⟩ = some (.int .i64 t469) := (blk_cell BK471.out 1).trans rfl; have hfz25_0 := blk_frozen BK471.out 0; have hfz25_1 := blk_frozen BK471.out 1) | ((with_reducible refine gate_callee (f := 10) rfl ?_); refine gl_ (some 84) Try.func10 #[.agg #[.int .i64 t466, .int .i64 t467], .agg #[.int .i64 t468, .int .i64 t469]] ?_; (with_reducible refine (spec_DoThreadsMeet.calls t466 t467 t468 t469 t482 t483 _ A9.out).mono ?_); rintro e w26 ⟨rfl, hb⟩; refine ⟨_, rfl, ?_⟩; have n0_ := Aside0.mk (Kd.R_below (ru_ HO474.out) hb); have n1_ := Aside0.mk (Kd.R_below (ru_ HO478.out) hb); have n2_ := Aside0.mk (blk_below (g := gb470) (o := .cells #[.int .i64 t466, .int .i64 t467] 25 (0, 0)) (by (with_reducible repeat (first | refine blk_drewN ?_ _ | refine blk_drew ?_ | refine blk_alloc ?_ _)); exact BK470.out) hb); have n3_ := Aside0.mk (blk_below (g := gb471) (o := .cells #[.int .i64 t468, .int .i64 t469] 25 (0, 0)) (by (with_reducible repeat (first | refine blk_drewN ?_ _ | refine blk_drew ?_ | refine blk_alloc ?_ _)); exact BK471.out) hb); have n4_ := Aside0.mk (below_step (by repeat (first | (with_reducible first | apply below_alloc | apply pw_below_drewN | apply below_drew1 | refine below_set ?_ GE470.out | refine below_set ?_ GE471.out) | exact HB.out)) hb); clear HO474; clear HO478; clear BK470; clear BK471; clear HB; have HO474 := n0_; have HO478 := n1_; have BK470 := n2_; have BK471 := n3_; have HB := n4_; clear n0_ n1_ n2_ n3_ n4_; (try clear hb)))
  (try simp only [Act.put, sa_, sb_, sc_])
  go_cut [113] from 100000 to 100000 (fun v113 wc => ∃ (kq : Nat) (x113_9 : Bool), v113 = .bool x113_9 ∧ Aside0 (laws_FnThreadsMeet.j0 kq l1 t472 t475 x113_9 t466 t467 t468 t469 = some r) ∧ Aside0 (kq ≤ k) ∧ Aside0 (Kd.R (Kd.int .i64) 3 wc w.heap.size (fun _ => True) v473 t472) ∧ Aside0 (wc.heap[gb470]? = some (.cells #[.int .i64 t466, .int .i64 t467] 25 (0, 0))) ∧ Aside0 (wc.heap[gb471]? = some (.cells #[.int .i64 t468, .int .i64 t469] 25 (0, 0))) ∧ Aside0 (Below w.heap.size w wc))
  case first =>
   as_aux_lemma =>
   have H := HC10.out
   clear HC10
   by_cases c27 : (t475 != t479) = true
   ·rw [if_pos c27] at H
    exact absurd H (by simp)
   ·rw [if_neg c27] at H
    have c27b0 : (t475 != t479) = false := by simpa using c27
    (try (have c27b1 : decide (t475 = t479) = true := by simpa using c27))
    (try (have c27b2 : (t475 == t479) = true := by simpa using c27))
    clear c27
    (first | rw [c27b0] | (simp only [i64_w, i32_w]; rw [c27b0]) | skip)
    replace H := Option.bind_eq_some_iff.mp H
    obtain ⟨t484, A280, H⟩ := H
    (try dsimp only at H)
    have A28 := Aside0.mk A280
    clear A280
    by_cases c29 : t484 = true
    ·subst c29
     rw [if_pos rfl] at H
     by_cases c30 : (t481 != t483) = true
     ·rw [if_pos c30] at H
      exact absurd H (by simp)
     ·rw [if_neg c30] at H
      have c30b0 : (t481 != t483) = false := by simpa using c30
      (try (have c30b1 : decide (t481 = t483) = true := by simpa using c30))
      (try (have c30b2 : (t481 == t483) = true := by simpa using c30))
      clear c30
      by_cases c31 : (t480 != t482) = true
      ·rw [if_pos c31] at H
       exact absurd H (by simp)
      ·rw [if_neg c31] at H
       have c31b0 : (t480 != t482) = false := by simpa using c31
       (try (have c31b1 : decide (t480 = t482) = true := by simpa using c31))
       (try (have c31b2 : (t480 == t482) = true := by simpa using c31))
       clear c31
       by_cases c32 : t481 = true
       ·as_aux_lemma =>
        subst c32
        rw [if_pos rfl] at H
        have H' := Aside0.mk H
        clear H
        obtain ⟨Ao33, co33, eo33⟩ := Kd.R_slice HO474.out
        subst eo33
        obtain ⟨Ao34, co34, eo34⟩ := Kd.R_slice HO478.out
        subst eo34
        go_wp2_with (first | (go_at_call 11; (with_reducible refine (laws_gSame.calls k _ _ t472 _ _ t476 true _ ?side1 ?side2 ?side3 ?side4 A28.out).mono ?_); (case side1 => exact cu_ (Kd.R_reads' HO474.out).2.2); (case side2 => exact (Kd.R_reads' HO474.out).2.1); (case side3 => exact cu_ (Kd.R_reads' HO478.out).2.2); (case side4 => exact (Kd.R_reads' HO478.out).2.1); rintro e w' ⟨rfl, ⟨nd, rfl⟩⟩))
        go_meet
        case rel => exact ⟨_, ((t475 != t480)), (by first | rfl | (simp; done) | (simp [*]; done)), H', ⟨by first | omega | exact Nat.le_refl _⟩, ⟨by (with_reducible repeat (first | apply Kd.R_alloc | apply Kd.R_drewN | apply Kd.R_drew)); exact Kd.R_mono HO474.out (fun _ hk => trivial)⟩, ⟨by (with_reducible repeat (first | refine blk_drewN ?_ _ | refine blk_drew ?_ | refine blk_alloc ?_ _)); exact BK470.out⟩, ⟨by (with_reducible repeat (first | refine blk_drewN ?_ _ | refine blk_drew ?_ | refine blk_alloc ?_ _)); exact BK471.out⟩, ⟨by repeat (first | (with_reducible first | apply below_alloc | apply pw_below_drewN | apply below_drew1 | refine below_set ?_ GE470.out | refine below_set ?_ GE471.out) | exact HB.out)⟩⟩
       ·as_aux_lemma =>
        replace c32 := Bool.eq_false_iff.mpr c32
        subst c32
        rw [if_neg (show ¬ (false = true) by decide)] at H
        have H' := Aside0.mk H
        clear H
        obtain ⟨Ao35, co35, eo35⟩ := Kd.R_slice HO474.out
        subst eo35
        obtain ⟨Ao36, co36, eo36⟩ := Kd.R_slice HO478.out
        subst eo36
        go_wp2_with (first | (go_at_call 11; (with_reducible refine (laws_gSame.calls k _ _ t472 _ _ t476 true _ ?side1 ?side2 ?side3 ?side4 A28.out).mono ?_); (case side1 => exact cu_ (Kd.R_reads' HO474.out).2.2); (case side2 => exact (Kd.R_reads' HO474.out).2.1); (case side3 => exact cu_ (Kd.R_reads' HO478.out).2.2); (case side4 => exact (Kd.R_reads' HO478.out).2.1); rintro e w' ⟨rfl, ⟨nd, rfl⟩⟩))
        go_meet
        case rel => exact ⟨_, ((t475 != false)), (by first | rfl | (simp; done) | (simp [*]; done)), H', ⟨by first | omega | exact Nat.le_refl _⟩, ⟨by (with_reducible repeat (first | apply Kd.R_alloc | apply Kd.R_drewN | apply Kd.R_drew)); exact Kd.R_mono HO474.out (fun _ hk => trivial)⟩, ⟨by (with_reducible repeat (first | refine blk_drewN ?_ _ | refine blk_drew ?_ | refine blk_alloc ?_ _)); exact BK470.out⟩, ⟨by (with_reducible repeat (first | refine blk_drewN ?_ _ | refine blk_drew ?_ | refine blk_alloc ?_ _)); exact BK471.out⟩, ⟨by repeat (first | (with_reducible first | apply below_alloc | apply pw_below_drewN | apply below_drew1 | refine below_set ?_ GE470.out | refine below_set ?_ GE471.out) | exact HB.out)⟩⟩
    ·replace c29 := Bool.eq_false_iff.mpr c29
     subst c29
     rw [if_neg (show ¬ (false = true) by decide)] at H
     exact absurd H (by simp)
  case rest =>
   as_aux_lemma =>
   clear HC10
   (try clear c1); (try clear c2); (try clear p2); (try clear c3); (try clear c4); (try clear c5); (try clear c6); (try clear c7); (try clear c8); (try clear c9); (try clear c10); (try clear c14); (try clear c27); (try clear c27b0); (try clear c27b1); (try clear c27b2); (try clear c29); (try clear c30); (try clear c30b0); (try clear c30b1); (try clear c30b2); (try clear c31); (try clear c31b0); (try clear c31b1); (try clear c31b2); (try clear c32); (try clear hcz15_0); (try clear hcz15_1); (try clear hcz16_0); (try clear hcz16_1); (try clear hcz18_0); (try clear hcz18_1); (try clear hcz19_0); (try clear hcz19_1); (try clear hcz21_0); (try clear hcz21_1); (try clear hcz22_0); (try clear hcz22_1); (try clear hcz24_0); (try clear hcz24_1); (try clear hcz25_0); (try clear hcz25_1); (try clear hfz15_0); (try clear hfz15_1); (try clear hfz16_0); (try clear hfz16_1); (try clear hfz18_0); (try clear hfz18_1); (try clear hfz19_0); (try clear hfz19_1); (try clear hfz21_0); (try clear hfz21_1); (try clear hfz22_0); (try clear hfz22_1); (try clear hfz24_0); (try clear hfz24_1); (try clear hfz25_0); (try clear hfz25_1)
   obtain ⟨kq, x113_9, rfl, HA, HJ9, HO_7, BK470, BK471, HB⟩ := hcut
   cases kq with
   | zero => exact absurd HA.out (by simp [laws_FnThreadsMeet.j0])
   | succ kj9 =>
    have H := HA.out
    clear HA
    simp only [laws_FnThreadsMeet.j0] at H
    by_cases c37 : x113_9 = true
    ·subst c37
     rw [if_pos rfl] at H
     exact absurd H (by simp)
    as_aux_lemma =>
    replace c37 := Bool.eq_false_iff.mpr c37
    subst c37
    rw [if_neg (show ¬ (false = true) by decide)] at H
    have HC38 := Aside0.mk H
    clear H
    go_upto_if 114 with (fail)
    go_cut [] from 100000 to 100000 (fun wc => ∃ (kq : Nat), Aside0 (laws_FnThreadsMeet.j1 kq l1 = some r) ∧ Aside0 (kq ≤ kj9) ∧ Aside0 (wc.heap[gb470]? = some (.cells #[.int .i64 t466, .int .i64 t467] 25 (0, 0))) ∧ Aside0 (wc.heap[gb471]? = some (.cells #[.int .i64 t468, .int .i64 t469] 25 (0, 0))) ∧ Aside0 (Below w.heap.size w wc))
    case first =>
     as_aux_lemma =>
     have H := HC38.out
     clear HC38
     by_cases c39 : t475 = true
     ·subst c39
      rw [if_pos rfl] at H
      replace H := Option.bind_eq_some_iff.mp H
      obtain ⟨⟨t485, t488⟩, A400, H⟩ := H
      (try dsimp only at H)
      have A40 := Aside0.mk A400
      clear A400
      replace H := Option.bind_eq_some_iff.mp H
      obtain ⟨⟨t489, t492⟩, A410, H⟩ := H
      (try dsimp only at H)
      have A41 := Aside0.mk A410
      clear A410
      by_cases c42 : (t472.length : Int) = 4
      ·rw [if_pos c42] at H
       have c42b0 : ((t472.length : Int) == 4) = true := beq_iff_eq.mpr c42
       have c42b1 : ((t472.length : Int) != 4) = false := bne_eq_false_iff_eq.mpr c42
       clear c42
       (first | rw [c42b0] | (simp only [i64_w, i32_w]; rw [c42b0]) | skip)
       by_cases c43 : 0 < (t472.length : Int)
       ·rw [if_pos c43] at H
        have c43b0 : decide (0 < (t472.length : Int)) = true := decide_eq_true c43
        have c43b1 : decide (0 < t472.length) = true := decide_eq_true (by omega)
        clear c43
        by_cases c44 : 1 < (t472.length : Int)
        ·rw [if_pos c44] at H
         have c44b0 : decide (1 < (t472.length : Int)) = true := decide_eq_true c44
         have c44b1 : decide (1 < t472.length) = true := decide_eq_true (by omega)
         clear c44
         replace H := Option.bind_eq_some_iff.mp H
         obtain ⟨t495, A450, H⟩ := H
         (try dsimp only at H)
         have A45 := Aside0.mk A450
         clear A450
         by_cases c46 : t495 = true
         ·subst c46
          rw [if_pos rfl] at H
          by_cases c47 : 2 < (t472.length : Int)
          ·rw [if_pos c47] at H
           have c47b0 : decide (2 < (t472.length : Int)) = true := decide_eq_true c47
           have c47b1 : decide (2 < t472.length) = true := decide_eq_true (by omega)
           clear c47
           by_cases c48 : 3 < (t472.length : Int)
           ·rw [if_pos c48] at H
            have c48b0 : decide (3 < (t472.length : Int)) = true := decide_eq_true c48
            have c48b1 : decide (3 < t472.length) = true := decide_eq_true (by omega)
            clear c48
            replace H := Option.bind_eq_some_iff.mp H
            obtain ⟨t498, A490, H⟩ := H
            (try dsimp only at H)
            have A49 := Aside0.mk A490
            clear A490
            by_cases c50 : t498 = true
            ·subst c50
             rw [if_pos rfl] at H
             by_cases c51 : (rd t472 0) < 1
             ·rw [if_pos c51] at H
              have c51b0 : decide ((rd t472 0) < 1) = true := decide_eq_true c51
              clear c51
              exact absurd H (by simp)
             ·rw [if_neg c51] at H
              have c51b0 : decide ((rd t472 0) < 1) = false := decide_eq_false c51
              clear c51
              by_cases c52 : (rd t472 2) < 1
              ·rw [if_pos c52] at H
               have c52b0 : decide ((rd t472 2) < 1) = true := decide_eq_true c52
               clear c52
               exact absurd H (by simp)
              ·rw [if_neg c52] at H
               have c52b0 : decide ((rd t472 2) < 1) = false := decide_eq_false c52
               clear c52
               by_cases c53 : t488 = true
               ·subst c53
                rw [if_pos rfl] at H
                replace H := Option.bind_eq_some_iff.mp H
                obtain ⟨t501, A540, H⟩ := H
                (try dsimp only at H)
                have A54 := Aside0.mk A540
                clear A540
                by_cases c55 : t501 = true
                ·subst c55
                 rw [if_pos rfl] at H
                 by_cases c56 : t492 = true
                 ·subst c56
                  rw [if_pos rfl] at H
                  obtain ⟨y506, hy506⟩ : ∃ y_ : List Int, y_ = (([rd t472 2, rd t472 3, rd t472 0, rd t472 1] : List Int)) := ⟨_, rfl⟩
                  replace H : ((laws_gSame.f kj9 t489 y506).bind fun t509 => (if t509 = true then (if (wrap64 ((wrap64 ((wrap64 ((rd t472 0) * (rd t472 3))) * t467)) + (wrap64 ((wrap64 ((rd t472 2) * (rd t472 1))) * t466)))) = (wrap64 ((wrap64 ((wrap64 (t466 * t467)) * (rd t472 1))) * (rd t472 3))) then (if (wrap64 ((wrap64 ((wrap64 ((rd t472 0) * (rd t472 3))) * t469)) + (wrap64 ((wrap64 ((rd t472 2) * (rd t472 1))) * t468)))) = (wrap64 ((wrap64 ((wrap64 (t468 * t469)) * (rd t472 1))) * (rd t472 3))) then (laws_FnThreadsMeet.j1 kj9 l1) else (none)) else (none)) else (none))) = some r := by first | (rw [hy506]; with_reducible exact H) | (have H2_ := (Option.bind_some _ _).symm.trans H; rw [hy506]; with_reducible exact H2_) | (have H2_ := (Option.bind_some _ _).symm.trans H; with_reducible exact H2_) | with_reducible exact H | (rw [hy506]; exact H) | exact H
                  have Ny506 := Aside0.mk hy506
                  clear hy506
                  replace H := Option.bind_eq_some_iff.mp H
                  obtain ⟨t509, A570, H⟩ := H
                  (try dsimp only at H)
                  have A57 := Aside0.mk A570
                  clear A570
                  by_cases c58 : t509 = true
                  ·subst c58
                   rw [if_pos rfl] at H
                   by_cases c59 : (wrap64 ((wrap64 ((wrap64 ((rd t472 0) * (rd t472 3))) * t467)) + (wrap64 ((wrap64 ((rd t472 2) * (rd t472 1))) * t466)))) = (wrap64 ((wrap64 ((wrap64 (t466 * t467)) * (rd t472 1))) * (rd t472 3)))
                   ·rw [if_pos c59] at H
                    have c59b0 : ((wrap64 ((wrap64 ((wrap64 ((rd t472 0) * (rd t472 3))) * t467)) + (wrap64 ((wrap64 ((rd t472 2) * (rd t472 1))) * t466)))) == (wrap64 ((wrap64 ((wrap64 (t466 * t467)) * (rd t472 1))) * (rd t472 3)))) = true := beq_iff_eq.mpr c59
                    have c59b1 : ((wrap64 ((wrap64 ((wrap64 ((rd t472 0) * (rd t472 3))) * t467)) + (wrap64 ((wrap64 ((rd t472 2) * (rd t472 1))) * t466)))) != (wrap64 ((wrap64 ((wrap64 (t466 * t467)) * (rd t472 1))) * (rd t472 3)))) = false := bne_eq_false_iff_eq.mpr c59
                    clear c59
                    by_cases c60 : (wrap64 ((wrap64 ((wrap64 ((rd t472 0) * (rd t472 3))) * t469)) + (wrap64 ((wrap64 ((rd t472 2) * (rd t472 1))) * t468)))) = (wrap64 ((wrap64 ((wrap64 (t468 * t469)) * (rd t472 1))) * (rd t472 3)))
                    ·rw [if_pos c60] at H
                     have c60b0 : ((wrap64 ((wrap64 ((wrap64 ((rd t472 0) * (rd t472 3))) * t469)) + (wrap64 ((wrap64 ((rd t472 2) * (rd t472 1))) * t468)))) == (wrap64 ((wrap64 ((wrap64 (t468 * t469)) * (rd t472 1))) * (rd t472 3)))) = true := beq_iff_eq.mpr c60
                     have c60b1 : ((wrap64 ((wrap64 ((wrap64 ((rd t472 0) * (rd t472 3))) * t469)) + (wrap64 ((wrap64 ((rd t472 2) * (rd t472 1))) * t468)))) != (wrap64 ((wrap64 ((wrap64 (t468 * t469)) * (rd t472 1))) * (rd t472 3)))) = false := bne_eq_false_iff_eq.mpr c60
                     clear c60
                     have H' := Aside0.mk H
                     clear H
                     have hnb61 := NB471_470.out
                     have hnc61 := NB470_471.out
                     have hcz62_0 : wc.cell? ⟨gb471, 0, none⟩ = some (.int .i64 t468) := (blk_cell BK471.out 0).trans rfl
                     have hcz62_1 : wc.cell? ⟨gb471, 1, none⟩ = some (.int .i64 t469) := (blk_cell BK471.out 1).trans rfl
                     have hfz62_0 := blk_frozen BK471.out 0
                     have hfz62_1 := blk_frozen BK471.out 1
                     have hcz63_0 : wc.cell? ⟨gb470, 0, none⟩ = some (.int .i64 t466) := (blk_cell BK470.out 0).trans rfl
                     have hcz63_1 : wc.cell? ⟨gb470, 1, none⟩ = some (.int .i64 t467) := (blk_cell BK470.out 1).trans rfl
                     have hfz63_0 := blk_frozen BK470.out 0
                     have hfz63_1 := blk_frozen BK470.out 1
                     try go_wp2_with (first | ((with_reducible refine gate_callee (f := 7) rfl ?_); refine gl_ (some 118) Try.func7 #[.agg #[.int .i64 t468, .int .i64 t469], .agg #[.int .i64 t466, .int .i64 t467]] ?_; (with_reducible refine (impl_MeetingOf.calls t468 t469 t466 t467 t485 true _ A40.out).mono ?_); rintro e w64 ⟨v486, rfl, ho0, hb⟩; refine ⟨_, rfl, ?_⟩; have n0_ := Aside0.mk (Kd.R_elder' (ru_ HO_7.out) (Kd.R_base ho0) hb); have n1_ := Aside0.mk (Kd.R_lower (Kd.R_new' ho0 (Kd.R_lt (ru_ HO_7.out))) (below_size (by repeat (first | (with_reducible first | apply below_alloc | apply pw_below_drewN | apply below_drew1 | refine below_set ?_ GE470.out | refine below_set ?_ GE471.out) | exact HB.out)))); have n2_ := Aside0.mk (blk_below (g := gb470) (o := .cells #[.int .i64 t466, .int .i64 t467] 25 (0, 0)) (by (with_reducible repeat (first | refine blk_drewN ?_ _ | refine blk_drew ?_ | refine blk_alloc ?_ _)); exact BK470.out) hb); have n3_ := Aside0.mk (blk_below (g := gb471) (o := .cells #[.int .i64 t468, .int .i64 t469] 25 (0, 0)) (by (with_reducible repeat (first | refine blk_drewN ?_ _ | refine blk_drew ?_ | refine blk_alloc ?_ _)); exact BK471.out) hb); have n4_ := Aside0.mk (below_step (by repeat (first | (with_reducible first | apply below_alloc | apply pw_below_drewN | apply below_drew1 | refine below_set ?_ GE470.out | refine below_set ?_ GE471.out) | exact HB.out)) hb); clear HO_7; clear BK470; clear BK471; clear HB; have HO_7 := n0_; have HO487 := n1_; have BK470 := n2_; have BK471 := n3_; have HB := n4_; clear n0_ n1_ n2_ n3_ n4_; (try clear hb); (try clear ho0); have hcz65_0 : w64.cell? ⟨gb470, 0, none⟩ = some (.int .i64 t466) := (blk_cell BK470.out 0).trans rfl; have hcz65_1 : w64.cell? ⟨gb470, 1, none⟩ = some (.int .i64 t467) := (blk_cell BK470.out 1).trans rfl; have hfz65_0 := blk_frozen BK470.out 0; have hfz65_1 := blk_frozen BK470.out 1; have hcz66_0 : w64.cell? ⟨gb471, 0, none⟩ = some (.int .i64 t468) := (blk_cell BK471.out 0).trans rfl; have hcz66_1 : w64.cell? ⟨gb471, 1, none⟩ = some (.int .i64 t469) := (blk_cell BK471.out 1).trans rfl; have hfz66_0 := blk_frozen BK471.out 0; have hfz66_1 := blk_frozen BK471.out 1) | ((with_reducible refine gate_callee (f := 7) rfl ?_); refine gl_ (some 132) Try.func7 #[.agg #[.int .i64 t467, .int .i64 t466], .agg #[.int .i64 t469, .int .i64 t468]] ?_; (with_reducible refine (impl_MeetingOf.calls t467 t466 t469 t468 t489 true _ A41.out).mono ?_); rintro e w67 ⟨v490, rfl, ho0, hb⟩; refine ⟨_, rfl, ?_⟩; have n0_ := Aside0.mk (Kd.R_elder' (ru_ HO_7.out) (Kd.R_base ho0) hb); have n1_ := Aside0.mk (Kd.R_elder' (ru_ HO487.out) (Kd.R_base ho0) hb); have n2_ := Aside0.mk (Kd.R_lower (Kd.R_new' (Kd.R_new' ho0 (Kd.R_lt (ru_ HO_7.out))) (Kd.R_lt (ru_ HO487.out))) (below_size (by repeat (first | (with_reducible first | apply below_alloc | apply pw_below_drewN | apply below_drew1 | refine below_set ?_ GE470.out | refine below_set ?_ GE471.out) | exact HB.out)))); have n3_ := Aside0.mk (blk_below (g := gb470) (o := .cells #[.int .i64 t466, .int .i64 t467] 25 (0, 0)) (by (with_reducible repeat (first | refine blk_drewN ?_ _ | refine blk_drew ?_ | refine blk_alloc ?_ _)); exact BK470.out) hb); have n4_ := Aside0.mk (blk_below (g := gb471) (o := .cells #[.int .i64 t468, .int .i64 t469] 25 (0, 0)) (by (with_reducible repeat (first | refine blk_drewN ?_ _ | refine blk_drew ?_ | refine blk_alloc ?_ _)); exact BK471.out) hb); have n5_ := Aside0.mk (below_step (by repeat (first | (with_reducible first | apply below_alloc | apply pw_below_drewN | apply below_drew1 | refine below_set ?_ GE470.out | refine below_set ?_ GE471.out) | exact HB.out)) hb); clear HO_7; clear HO487; clear BK470; clear BK471; clear HB; have HO_7 := n0_; have HO487 := n1_; have HO491 := n2_; have BK470 := n3_; have BK471 := n4_; have HB := n5_; clear n0_ n1_ n2_ n3_ n4_ n5_; (try clear hb); (try clear ho0)))
                     have n0_ := Aside0.mk (Kd.R_drew HO_7.out)
                     have n1_ := Aside0.mk (Kd.R_drew HO487.out)
                     have n2_ := Aside0.mk (Kd.R_drew HO491.out)
                     have n3_ := Aside0.mk (blk_drew BK470.out)
                     have n4_ := Aside0.mk (blk_drew BK471.out)
                     have n5_ := Aside0.mk (below_drew1 HB.out)
                     clear HO_7
                     clear HO487
                     clear HO491
                     clear BK470
                     clear BK471
                     clear HB
                     have HO_7 := n0_
                     have HO487 := n1_
                     have HO491 := n2_
                     have BK470 := n3_
                     have BK471 := n4_
                     have HB := n5_
                     clear n0_ n1_ n2_ n3_ n4_ n5_
                     obtain ⟨Ao69, co69, eo69⟩ := Kd.R_slice HO_7.out
                     (first | subst eo69 | (injection eo69 with f1_ f2_ f3_; have f4_ := f1_.symm; have f5_ := f3_.symm; clear f1_ f2_ f3_; subst f4_; subst f5_))
                     have p493 : 0 ≤ (0 : Int) := (by omega)
                     have q493 : 0 < (t472.length : Int) := of_decide_eq_true (by assumption)
                     obtain ⟨ad493, e493, hx493_0⟩ := Kd.at_int (Kd.R_reads' HO_7.out).2.2 0 p493 q493
                     cases e493
                     have qi493 : (0 < t472.length) = True := eq_true (by omega)
                     (try rw [show ((0 : Int)).toNat = 0 from rfl] at hx493_0)
                     (try rw [Addr.add_zero'] at hx493_0)
                     replace p493 := eq_true p493
                     replace q493 := eq_true q493
                     have p494 : 0 ≤ (1 : Int) := (by omega)
                     have q494 : 1 < (t472.length : Int) := of_decide_eq_true (by assumption)
                     obtain ⟨ad494, e494, hx494_0⟩ := Kd.at_int (Kd.R_reads' HO_7.out).2.2 1 p494 q494
                     obtain rfl : ad493 = ad494 := (by injection e494)
                     (try simp only [show (1 : Int).toNat = 1 from rfl, Nat.reduceMul, Nat.reduceEqDiff, Go.Addr.add, ↓reduceIte] at hx494_0)
                     have qi494 : (1 < t472.length) = True := eq_true (by omega)
                     (try rw [show ((1 : Int)).toNat = 1 from rfl] at hx494_0)
                     replace p494 := eq_true p494
                     replace q494 := eq_true q494
                     have p496 : 0 ≤ (2 : Int) := (by omega)
                     have q496 : 2 < (t472.length : Int) := of_decide_eq_true (by assumption)
                     obtain ⟨ad496, e496, hx496_0⟩ := Kd.at_int (Kd.R_reads' HO_7.out).2.2 2 p496 q496
                     obtain rfl : ad493 = ad496 := (by injection e496)
                     (try simp only [show (2 : Int).toNat = 2 from rfl, Nat.reduceMul, Nat.reduceEqDiff, Go.Addr.add, ↓reduceIte] at hx496_0)
                     have qi496 : (2 < t472.length) = True := eq_true (by omega)
                     (try rw [show ((2 : Int)).toNat = 2 from rfl] at hx496_0)
                     replace p496 := eq_true p496
                     replace q496 := eq_true q496
                     have p497 : 0 ≤ (3 : Int) := (by omega)
                     have q497 : 3 < (t472.length : Int) := of_decide_eq_true (by assumption)
                     obtain ⟨ad497, e497, hx497_0⟩ := Kd.at_int (Kd.R_reads' HO_7.out).2.2 3 p497 q497
                     obtain rfl : ad493 = ad497 := (by injection e497)
                     (try simp only [show (3 : Int).toNat = 3 from rfl, Nat.reduceMul, Nat.reduceEqDiff, Go.Addr.add, ↓reduceIte] at hx497_0)
                     have qi497 : (3 < t472.length) = True := eq_true (by omega)
                     (try rw [show ((3 : Int)).toNat = 3 from rfl] at hx497_0)
                     replace p497 := eq_true p497
                     replace q497 := eq_true q497
                     have p499 : 0 ≤ (0 : Int) := (by omega)
                     have q499 : 0 < (t472.length : Int) := of_decide_eq_true (by assumption)
                     obtain ⟨ad499, e499, hx499_0⟩ := Kd.at_int (Kd.R_reads' HO_7.out).2.2 0 p499 q499
                     obtain rfl : ad493 = ad499 := (by injection e499)
                     have qi499 : (0 < t472.length) = True := eq_true (by omega)
                     (try rw [show ((0 : Int)).toNat = 0 from rfl] at hx499_0)
                     (try rw [Addr.add_zero'] at hx499_0)
                     replace p499 := eq_true p499
                     replace q499 := eq_true q499
                     have p500 : 0 ≤ (2 : Int) := (by omega)
                     have q500 : 2 < (t472.length : Int) := of_decide_eq_true (by assumption)
                     obtain ⟨ad500, e500, hx500_0⟩ := Kd.at_int (Kd.R_reads' HO_7.out).2.2 2 p500 q500
                     obtain rfl : ad493 = ad500 := (by injection e500)
                     (try simp only [show (2 : Int).toNat = 2 from rfl, Nat.reduceMul, Nat.reduceEqDiff, Go.Addr.add, ↓reduceIte] at hx500_0)
                     have qi500 : (2 < t472.length) = True := eq_true (by omega)
                     (try rw [show ((2 : Int)).toNat = 2 from rfl] at hx500_0)
                     replace p500 := eq_true p500
                     replace q500 := eq_true q500
                     have p502 : 0 ≤ (2 : Int) := (by omega)
                     have q502 : 2 < (t472.length : Int) := of_decide_eq_true (by assumption)
                     obtain ⟨ad502, e502, hx502_0⟩ := Kd.at_int (Kd.R_reads' HO_7.out).2.2 2 p502 q502
                     obtain rfl : ad493 = ad502 := (by injection e502)
                     (try simp only [show (2 : Int).toNat = 2 from rfl, Nat.reduceMul, Nat.reduceEqDiff, Go.Addr.add, ↓reduceIte] at hx502_0)
                     have qi502 : (2 < t472.length) = True := eq_true (by omega)
                     (try rw [show ((2 : Int)).toNat = 2 from rfl] at hx502_0)
                     replace p502 := eq_true p502
                     replace q502 := eq_true q502
                     have p503 : 0 ≤ (3 : Int) := (by omega)
                     have q503 : 3 < (t472.length : Int) := of_decide_eq_true (by assumption)
                     obtain ⟨ad503, e503, hx503_0⟩ := Kd.at_int (Kd.R_reads' HO_7.out).2.2 3 p503 q503
                     obtain rfl : ad493 = ad503 := (by injection e503)
                     (try simp only [show (3 : Int).toNat = 3 from rfl, Nat.reduceMul, Nat.reduceEqDiff, Go.Addr.add, ↓reduceIte] at hx503_0)
                     have qi503 : (3 < t472.length) = True := eq_true (by omega)
                     (try rw [show ((3 : Int)).toNat = 3 from rfl] at hx503_0)
                     replace p503 := eq_true p503
                     replace q503 := eq_true q503
                     have p504 : 0 ≤ (0 : Int) := (by omega)
                     have q504 : 0 < (t472.length : Int) := of_decide_eq_true (by assumption)
                     obtain ⟨ad504, e504, hx504_0⟩ := Kd.at_int (Kd.R_reads' HO_7.out).2.2 0 p504 q504
                     obtain rfl : ad493 = ad504 := (by injection e504)
                     have qi504 : (0 < t472.length) = True := eq_true (by omega)
                     (try rw [show ((0 : Int)).toNat = 0 from rfl] at hx504_0)
                     (try rw [Addr.add_zero'] at hx504_0)
                     replace p504 := eq_true p504
                     replace q504 := eq_true q504
                     have p505 : 0 ≤ (1 : Int) := (by omega)
                     have q505 : 1 < (t472.length : Int) := of_decide_eq_true (by assumption)
                     obtain ⟨ad505, e505, hx505_0⟩ := Kd.at_int (Kd.R_reads' HO_7.out).2.2 1 p505 q505
                     obtain rfl : ad493 = ad505 := (by injection e505)
                     (try simp only [show (1 : Int).toNat = 1 from rfl, Nat.reduceMul, Nat.reduceEqDiff, Go.Addr.add, ↓reduceIte] at hx505_0)
                     have qi505 : (1 < t472.length) = True := eq_true (by omega)
                     (try rw [show ((1 : Int)).toNat = 1 from rfl] at hx505_0)
                     replace p505 := eq_true p505
                     replace q505 := eq_true q505
                     refine start_ (n := 67) (S := fun w' => w'.cell? ad493 = some (.int .i64 (rd t472 0)) ∧ w'.cell? ⟨ad493.block, ad493.off + 1, none⟩ = some (.int .i64 (rd t472 1)) ∧ w'.cell? ⟨ad493.block, ad493.off + 2, none⟩ = some (.int .i64 (rd t472 2)) ∧ w'.cell? ⟨ad493.block, ad493.off + 3, none⟩ = some (.int .i64 (rd t472 3)) ∧ w'.cell? ad493 = some (.int .i64 (rd t472 0)) ∧ w'.cell? ⟨ad493.block, ad493.off + 2, none⟩ = some (.int .i64 (rd t472 2)) ∧ w'.cell? ⟨ad493.block, ad493.off + 2, none⟩ = some (.int .i64 (rd t472 2)) ∧ w'.cell? ⟨ad493.block, ad493.off + 3, none⟩ = some (.int .i64 (rd t472 3)) ∧ w'.cell? ad493 = some (.int .i64 (rd t472 0)) ∧ w'.cell? ⟨ad493.block, ad493.off + 1, none⟩ = some (.int .i64 (rd t472 1))) (ds := []) (bl_ 67 0x0) (by kernel_rfl) rfl rfl ⟨hx493_0, hx494_0, hx496_0, hx497_0, hx499_0, hx500_0, hx502_0, hx503_0, hx504_0, hx505_0⟩ (fun hHeld => ?_); refine with_tabW laws_FnThreadsMeet.tab13 laws_FnThreadsMeet.bits13 (fun HT_ HW_ => ?_)
                     generalize w67.drew = w68 at HO_7 HO487 HO491 BK470 BK471 HB hx493_0 hx494_0 hx496_0 hx497_0 hx499_0 hx500_0 hx502_0 hx503_0 hx504_0 hx505_0 hHeld ⊢
                     refine pz_ 0 135 (bl_ 67 0x1) HT_.out ?_
                     refine pz_ 1 136 (bl_ 67 0x3) HT_.out ?_
                     refine pz_ 2 137 (bl_ 67 0x7) HT_.out ?_
                     refine pz_ 3 138 (bl_ 67 0xf) HT_.out ?_
                     refine pz_ 4 139 (bl_ 67 0x1f) HT_.out ?_
                     refine pz_ 5 140 (bl_ 67 0x3f) HT_.out ?_
                     refine pz_ 7 142 (bl_ 67 0xbf) HT_.out ?_
                     refine pz_ 8 143 (bl_ 67 0x1bf) HT_.out ?_
                     refine take_ (i := 6) (N := some 141) (v := ?_) (a' := ?_) (bl_ 67 0x1ff) rfl rfl (take_ofW HT_.out HW_.out (by kernel_rfl)) (fun _ _ _ h => h) (Or.inl ⟨by rfl, ?_⟩) hHeld ?_ ?_
                     rotate_left
                     ·rintro w' ⟨s0, s1, s2, s3, s4, s5, s6, s7, s8, s9⟩
                      go_simp
                      with_reducible rfl
                     rotate_left
                     ·simp only [Act.put, sa_, sb_, sc_, i64_w, i32_w]
                      rfl
                     refine take_ (i := 9) (N := some 144) (v := ?_) (a' := ?_) (bl_ 67 0x3ff) rfl rfl (take_ofW HT_.out HW_.out (by kernel_rfl)) (fun _ _ _ h => h) (Or.inl ⟨by rfl, ?_⟩) hHeld ?_ ?_
                     rotate_left
                     ·rintro w' ⟨s0, s1, s2, s3, s4, s5, s6, s7, s8, s9⟩
                      go_simp
                      with_reducible rfl
                     rotate_left
                     ·simp only [Act.put, sa_, sb_, sc_, i64_w, i32_w]
                      rfl
                     refine one_ (i := 10) (N := some 145) (bl_ 67 0x7ff) rfl rfl (one_of HT_.out (by kernel_rfl)) (by decide) (fun K hK => ?_)
                     refine goes_ Try.func12 (by kernel_rfl) rfl #[.int .i64 (rd t472 0), .int .i64 (rd t472 1)] (by rfl) rfl rfl (by (try simp only [List.map_toArray, List.map_cons, List.map_nil]); first | done | rfl | (simp only [List.length_drop, List.length_take]; rfl)) ?_
                     with_reducible refine (laws_gLow.calls kj9 (rd t472 0) (rd t472 1) true _ A45.out).mono ?_
                     rintro e w' ⟨rfl, ⟨nd, rfl⟩⟩
                     refine ⟨_, rfl, ?_⟩
                     refine hK.out _ _ ⟨hHeld.1, hHeld.2.1, hHeld.2.2.1, hHeld.2.2.2.1, hHeld.2.2.2.2.1, hHeld.2.2.2.2.2.1, hHeld.2.2.2.2.2.2.1, hHeld.2.2.2.2.2.2.2.1, hHeld.2.2.2.2.2.2.2.2.1, hHeld.2.2.2.2.2.2.2.2.2⟩ (fun hHeld => ?_)
                     clear hK K
                     refine norm_ (a' := ?_) ?_ ?_
                     rotate_left
                     ·show Act.put _ (some 145) _ = _
                      simp only [Act.put, sa_, sb_, sc_, i64_w, i32_w]
                      rfl
                     refine pz_ 11 146 (bl_ 67 0xfff) HT_.out ?_
                     refine pz_ 12 147 (bl_ 67 0x1fff) HT_.out ?_
                     refine pz_ 13 148 (bl_ 67 0x3fff) HT_.out ?_
                     refine pz_ 14 149 (bl_ 67 0x7fff) HT_.out ?_
                     refine pz_ 15 150 (bl_ 67 0xffff) HT_.out ?_
                     refine pz_ 17 152 (bl_ 67 0x2ffff) HT_.out ?_
                     refine pz_ 18 153 (bl_ 67 0x6ffff) HT_.out ?_
                     refine take_ (i := 16) (N := some 151) (v := ?_) (a' := ?_) (bl_ 67 0x7ffff) rfl rfl (take_ofW HT_.out HW_.out (by kernel_rfl)) (fun _ _ _ h => h) (Or.inl ⟨by rfl, ?_⟩) hHeld ?_ ?_
                     rotate_left
                     ·rintro w' ⟨s0, s1, s2, s3, s4, s5, s6, s7, s8, s9⟩
                      go_simp
                      with_reducible rfl
                     rotate_left
                     ·simp only [Act.put, sa_, sb_, sc_, i64_w, i32_w]
                      rfl
                     refine take_ (i := 19) (N := some 154) (v := ?_) (a' := ?_) (bl_ 67 0xfffff) rfl rfl (take_ofW HT_.out HW_.out (by kernel_rfl)) (fun _ _ _ h => h) (Or.inl ⟨by rfl, ?_⟩) hHeld ?_ ?_
                     rotate_left
                     ·rintro w' ⟨s0, s1, s2, s3, s4, s5, s6, s7, s8, s9⟩
                      go_simp
                      with_reducible rfl
                     rotate_left
                     ·simp only [Act.put, sa_, sb_, sc_, i64_w, i32_w]
                      rfl
                     refine one_ (i := 20) (N := some 155) (bl_ 67 0x1fffff) rfl rfl (one_of HT_.out (by kernel_rfl)) (by decide) (fun K hK => ?_)
                     refine goes_ Try.func12 (by kernel_rfl) rfl #[.int .i64 (rd t472 2), .int .i64 (rd t472 3)] (by rfl) rfl rfl (by (try simp only [List.map_toArray, List.map_cons, List.map_nil]); first | done | rfl | (simp only [List.length_drop, List.length_take]; rfl)) ?_
                     with_reducible refine (laws_gLow.calls kj9 (rd t472 2) (rd t472 3) true _ A49.out).mono ?_
                     rintro e w' ⟨rfl, ⟨nd, rfl⟩⟩
                     refine ⟨_, rfl, ?_⟩
                     obtain ⟨Ao70, co70, eo70⟩ := Kd.R_slice HO487.out
                     (first | subst eo70 | (injection eo70 with f1_ f2_ f3_; have f4_ := f1_.symm; have f5_ := f3_.symm; clear f1_ f2_ f3_; subst f4_; subst f5_))
                     refine hK.out _ _ ⟨hHeld.1, hHeld.2.1, hHeld.2.2.1, hHeld.2.2.2.1, hHeld.2.2.2.2.1, hHeld.2.2.2.2.2.1, hHeld.2.2.2.2.2.2.1, hHeld.2.2.2.2.2.2.2.1, hHeld.2.2.2.2.2.2.2.2.1, hHeld.2.2.2.2.2.2.2.2.2⟩ (fun hHeld => ?_)
                     clear hK K
                     refine norm_ (a' := ?_) ?_ ?_
                     rotate_left
                     ·show Act.put _ (some 155) _ = _
                      simp only [Act.put, sa_, sb_, sc_, i64_w, i32_w]
                      rfl
                     refine pz_ 21 156 (bl_ 67 0x3fffff) HT_.out ?_
                     refine pz_ 22 157 (bl_ 67 0x7fffff) HT_.out ?_
                     refine pz_ 23 158 (bl_ 67 0xffffff) HT_.out ?_
                     refine pz_ 24 159 (bl_ 67 0x1ffffff) HT_.out ?_
                     refine pz_ 25 160 (bl_ 67 0x3ffffff) HT_.out ?_
                     refine take_ (i := 26) (N := some 161) (v := ?_) (a' := ?_) (bl_ 67 0x7ffffff) rfl rfl (take_ofW HT_.out HW_.out (by kernel_rfl)) (fun _ _ _ h => h) (Or.inl ⟨by rfl, ?_⟩) hHeld ?_ ?_
                     rotate_left
                     ·rintro w' ⟨s0, s1, s2, s3, s4, s5, s6, s7, s8, s9⟩
                      go_simp
                      with_reducible rfl
                     rotate_left
                     ·simp only [Act.put, sa_, sb_, sc_, i64_w, i32_w]
                      rfl
                     refine pz_ 27 162 (bl_ 67 0xfffffff) HT_.out ?_
                     refine pz_ 28 163 (bl_ 67 0x1fffffff) HT_.out ?_
                     refine pz_ 29 164 (bl_ 67 0x3fffffff) HT_.out ?_
                     refine pz_ 30 165 (bl_ 67 0x7fffffff) HT_.out ?_
                     refine pz_ 31 166 (bl_ 67 0xffffffff) HT_.out ?_
                     refine take_ (i := 32) (N := some 167) (v := ?_) (a' := ?_) (bl_ 67 0x1ffffffff) rfl rfl (take_ofW HT_.out HW_.out (by kernel_rfl)) (fun _ _ _ h => h) (Or.inl ⟨by rfl, ?_⟩) hHeld ?_ ?_
                     rotate_left
                     ·rintro w' ⟨s0, s1, s2, s3, s4, s5, s6, s7, s8, s9⟩
                      go_simp
                      with_reducible rfl
                     rotate_left
                     ·simp only [Act.put, sa_, sb_, sc_, i64_w, i32_w]
                      rfl
                     refine pz_ 33 168 (bl_ 67 0x3ffffffff) HT_.out ?_
                     refine pz_ 34 169 (bl_ 67 0x7ffffffff) HT_.out ?_
                     refine pz_ 35 170 (bl_ 67 0xfffffffff) HT_.out ?_
                     refine pz_ 36 171 (bl_ 67 0x1fffffffff) HT_.out ?_
                     refine pz_ 37 172 (bl_ 67 0x3fffffffff) HT_.out ?_
                     refine pz_ 38 173 (bl_ 67 0x7fffffffff) HT_.out ?_
                     refine pz_ 39 174 (bl_ 67 0xffffffffff) HT_.out ?_
                     refine pz_ 40 175 (bl_ 67 0x1ffffffffff) HT_.out ?_
                     refine pz_ 41 176 (bl_ 67 0x3ffffffffff) HT_.out ?_
                     refine one_ (i := 42) (N := some 177) (bl_ 67 0x7ffffffffff) rfl rfl (one_of HT_.out (by kernel_rfl)) (by decide) (fun K hK => ?_)
                     refine goes_ Try.func11 (by kernel_rfl) rfl #[.slice Ao70 t485.length co70, .slice (some ad493) t472.length co69] (by rfl) rfl rfl (by (try simp only [List.map_toArray, List.map_cons, List.map_nil]); first | done | rfl | (simp only [List.length_drop, List.length_take]; rfl)) ?_
                     with_reducible refine (laws_gSame.calls kj9 _ _ t485 _ _ t472 true _ ?side1 ?side2 ?side3 ?side4 A54.out).mono ?_
                     (case side1 => exact cu_ (Kd.R_reads' HO487.out).2.2)
                     (case side2 => exact (Kd.R_reads' HO487.out).2.1)
                     (case side3 => exact cu_ (Kd.R_reads' HO_7.out).2.2)
                     (case side4 => exact (Kd.R_reads' HO_7.out).2.1)
                     rintro e w' ⟨rfl, ⟨nd, rfl⟩⟩
                     refine ⟨_, rfl, ?_⟩
                     refine hK.out _ _ ⟨hHeld.1, hHeld.2.1, hHeld.2.2.1, hHeld.2.2.2.1, hHeld.2.2.2.2.1, hHeld.2.2.2.2.2.1, hHeld.2.2.2.2.2.2.1, hHeld.2.2.2.2.2.2.2.1, hHeld.2.2.2.2.2.2.2.2.1, hHeld.2.2.2.2.2.2.2.2.2⟩ (fun hHeld => ?_)
                     clear hK K
                     refine norm_ (a' := ?_) ?_ ?_
                     rotate_left
                     ·show Act.put _ (some 177) _ = _
                      simp only [Act.put, sa_, sb_, sc_, i64_w, i32_w]
                      rfl
                     refine pz_ 43 178 (bl_ 67 0xfffffffffff) HT_.out ?_
                     refine pz_ 44 179 (bl_ 67 0x1fffffffffff) HT_.out ?_
                     refine pz_ 45 180 (bl_ 67 0x3fffffffffff) HT_.out ?_
                     refine pz_ 46 181 (bl_ 67 0x7fffffffffff) HT_.out ?_
                     refine pz_ 47 182 (bl_ 67 0xffffffffffff) HT_.out ?_
                     refine pz_ 48 183 (bl_ 67 0x1ffffffffffff) HT_.out ?_
                     refine pz_ 49 184 (bl_ 67 0x3ffffffffffff) HT_.out ?_
                     refine pz_ 50 185 (bl_ 67 0x7ffffffffffff) HT_.out ?_
                     refine pz_ 51 186 (bl_ 67 0xfffffffffffff) HT_.out ?_
                     refine pz_ 52 187 (bl_ 67 0x1fffffffffffff) HT_.out ?_
                     refine pz_ 54 189 (bl_ 67 0x5fffffffffffff) HT_.out ?_
                     refine pz_ 55 190 (bl_ 67 0xdfffffffffffff) HT_.out ?_
                     refine pz_ 57 192 (bl_ 67 0x2dfffffffffffff) HT_.out ?_
                     refine pz_ 58 193 (bl_ 67 0x6dfffffffffffff) HT_.out ?_
                     refine pz_ 60 195 (bl_ 67 0x16dfffffffffffff) HT_.out ?_
                     refine pz_ 61 196 (bl_ 67 0x36dfffffffffffff) HT_.out ?_
                     refine take_ (i := 53) (N := some 188) (v := ?_) (a' := ?_) (bl_ 67 0x36ffffffffffffff) rfl rfl (take_ofW HT_.out HW_.out (by kernel_rfl)) (fun _ _ _ h => h) (Or.inl ⟨by rfl, ?_⟩) hHeld ?_ ?_
                     rotate_left
                     ·rintro w' ⟨s0, s1, s2, s3, s4, s5, s6, s7, s8, s9⟩
                      go_simp
                      with_reducible rfl
                     rotate_left
                     ·simp only [Act.put, sa_, sb_, sc_, i64_w, i32_w]
                      rfl
                     refine take_ (i := 56) (N := some 191) (v := ?_) (a' := ?_) (bl_ 67 0x37ffffffffffffff) rfl rfl (take_ofW HT_.out HW_.out (by kernel_rfl)) (fun _ _ _ h => h) (Or.inl ⟨by rfl, ?_⟩) hHeld ?_ ?_
                     rotate_left
                     ·rintro w' ⟨s0, s1, s2, s3, s4, s5, s6, s7, s8, s9⟩
                      go_simp
                      with_reducible rfl
                     rotate_left
                     ·simp only [Act.put, sa_, sb_, sc_, i64_w, i32_w]
                      rfl
                     refine take_ (i := 59) (N := some 194) (v := ?_) (a' := ?_) (bl_ 67 0x3fffffffffffffff) rfl rfl (take_ofW HT_.out HW_.out (by kernel_rfl)) (fun _ _ _ h => h) (Or.inl ⟨by rfl, ?_⟩) hHeld ?_ ?_
                     rotate_left
                     ·rintro w' ⟨s0, s1, s2, s3, s4, s5, s6, s7, s8, s9⟩
                      go_simp
                      with_reducible rfl
                     rotate_left
                     ·simp only [Act.put, sa_, sb_, sc_, i64_w, i32_w]
                      rfl
                     refine take_ (i := 62) (N := some 197) (v := ?_) (a' := ?_) (bl_ 67 0x7fffffffffffffff) rfl rfl (take_ofW HT_.out HW_.out (by kernel_rfl)) (fun _ _ _ h => h) (Or.inl ⟨by rfl, ?_⟩) hHeld ?_ ?_
                     rotate_left
                     ·rintro w' ⟨s0, s1, s2, s3, s4, s5, s6, s7, s8, s9⟩
                      go_simp
                      with_reducible rfl
                     rotate_left
                     ·simp only [Act.put, sa_, sb_, sc_, i64_w, i32_w]
                      rfl
                     refine one_ (i := 63) (N := some 198) (bl_ 67 0xffffffffffffffff) rfl rfl (one_of HT_.out (by kernel_rfl)) (by decide) (fun K hK => ?_)
                     refine Kd.R_lit_step (Kd.int .i64) _ 3 ?hg (N := 198) ?hd (xs := ([rd t472 2, rd t472 3, rd t472 0, rd t472 1] : List Int)) (inner := [.int .i64 (rd t472 2), .int .i64 (rd t472 3), .int .i64 (rd t472 0), .int .i64 (rd t472 1)]) (ok := fun _ => True) (okp := fun _ => True) ?hr ?hp (fun _ hk => hk) trivial (Below.refl _ _) (Nat.le_refl _) (by simp) ?_; (case hd => rfl); (case hg => rfl); (case hr => first | (go_simp; done) | (go_simp; rfl)); (case hp => exact (Reps.one (show Kd.M (Kd.int .i64) _ _ _ (rd t472 2) [.int .i64 (rd t472 2)] from rfl) (Reps.one (show Kd.M (Kd.int .i64) _ _ _ (rd t472 3) [.int .i64 (rd t472 3)] from rfl) (Reps.one (show Kd.M (Kd.int .i64) _ _ _ (rd t472 0) [.int .i64 (rd t472 0)] from rfl) (Reps.one (show Kd.M (Kd.int .i64) _ _ _ (rd t472 1) [.int .i64 (rd t472 1)] from rfl) (Reps.none _ _))))))
                     intro v507 w71 ho72 hb hg_ hnew_
                     have HS0_ := (hb.cell (World.block_lt_of_cell? _ _ (hHeld.1))).trans (hHeld.1)
                     have HS1_ := (hb.cell (World.block_lt_of_cell? _ _ (hHeld.2.1))).trans (hHeld.2.1)
                     have HS2_ := (hb.cell (World.block_lt_of_cell? _ _ (hHeld.2.2.1))).trans (hHeld.2.2.1)
                     have HS3_ := (hb.cell (World.block_lt_of_cell? _ _ (hHeld.2.2.2.1))).trans (hHeld.2.2.2.1)
                     have HS4_ := (hb.cell (World.block_lt_of_cell? _ _ (hHeld.2.2.2.2.1))).trans (hHeld.2.2.2.2.1)
                     have HS5_ := (hb.cell (World.block_lt_of_cell? _ _ (hHeld.2.2.2.2.2.1))).trans (hHeld.2.2.2.2.2.1)
                     have HS6_ := (hb.cell (World.block_lt_of_cell? _ _ (hHeld.2.2.2.2.2.2.1))).trans (hHeld.2.2.2.2.2.2.1)
                     have HS7_ := (hb.cell (World.block_lt_of_cell? _ _ (hHeld.2.2.2.2.2.2.2.1))).trans (hHeld.2.2.2.2.2.2.2.1)
                     have HS8_ := (hb.cell (World.block_lt_of_cell? _ _ (hHeld.2.2.2.2.2.2.2.2.1))).trans (hHeld.2.2.2.2.2.2.2.2.1)
                     have HS9_ := (hb.cell (World.block_lt_of_cell? _ _ (hHeld.2.2.2.2.2.2.2.2.2))).trans (hHeld.2.2.2.2.2.2.2.2.2)
                     clear hg_ hnew_
                     (first | rw [← Ny506.out] at ho72 | (simp only [Int.reduceToNat] at ho72; rw [← Ny506.out] at ho72))
                     have n0_ := Aside0.mk (Kd.R_elder' (ru_ HO_7.out) (Kd.R_base ho72) hb)
                     have n1_ := Aside0.mk (Kd.R_elder' (ru_ HO487.out) (Kd.R_base ho72) hb)
                     have n2_ := Aside0.mk (Kd.R_elder' (ru_ HO491.out) (Kd.R_base ho72) hb)
                     have n3_ := Aside0.mk (Kd.R_lower (Kd.R_new' (Kd.R_new' (Kd.R_new' ho72 (Kd.R_lt (ru_ HO_7.out))) (Kd.R_lt (ru_ HO487.out))) (Kd.R_lt (ru_ HO491.out))) (below_size (by repeat (first | (with_reducible first | apply below_alloc | apply pw_below_drewN | apply below_drew1 | refine below_set ?_ GE470.out | refine below_set ?_ GE471.out) | exact HB.out))))
                     have n4_ := Aside0.mk (blk_below (g := gb470) (o := .cells #[.int .i64 t466, .int .i64 t467] 25 (0, 0)) (by (with_reducible repeat (first | refine blk_drewN ?_ _ | refine blk_drew ?_ | refine blk_alloc ?_ _)); exact BK470.out) hb)
                     have n5_ := Aside0.mk (blk_below (g := gb471) (o := .cells #[.int .i64 t468, .int .i64 t469] 25 (0, 0)) (by (with_reducible repeat (first | refine blk_drewN ?_ _ | refine blk_drew ?_ | refine blk_alloc ?_ _)); exact BK471.out) hb)
                     have n6_ := Aside0.mk (below_step (by repeat (first | (with_reducible first | apply below_alloc | apply pw_below_drewN | apply below_drew1 | refine below_set ?_ GE470.out | refine below_set ?_ GE471.out) | exact HB.out)) hb)
                     clear HO_7
                     clear HO487
                     clear HO491
                     clear BK470
                     clear BK471
                     clear HB
                     have HO_7 := n0_
                     have HO487 := n1_
                     have HO491 := n2_
                     have HO508 := n3_
                     have BK470 := n4_
                     have BK471 := n5_
                     have HB := n6_
                     clear n0_ n1_ n2_ n3_ n4_ n5_ n6_
                     clear hb ho72
                     obtain ⟨Ao73, co73, eo73⟩ := Kd.R_slice HO491.out
                     (first | subst eo73 | (injection eo73 with f1_ f2_ f3_; have f4_ := f1_.symm; have f5_ := f3_.symm; clear f1_ f2_ f3_; subst f4_; subst f5_))
                     obtain ⟨Ao74, co74, eo74⟩ := Kd.R_slice HO508.out
                     (first | subst eo74 | (injection eo74 with f1_ f2_ f3_; have f4_ := f1_.symm; have f5_ := f3_.symm; clear f1_ f2_ f3_; subst f4_; subst f5_))
                     refine hK.out _ _ ⟨HS0_, HS1_, HS2_, HS3_, HS4_, HS5_, HS6_, HS7_, HS8_, HS9_⟩ (fun hHeld => ?_)
                     clear hK K
                     refine norm_ (a' := ?_) ?_ ?_
                     rotate_left
                     ·show Act.put _ (some 198) _ = _
                      simp only [Act.put, sa_, sb_, sc_, i64_w, i32_w]
                      rfl
                     refine one_ (i := 64) (N := some 199) (bl_ 67 0x1ffffffffffffffff) rfl rfl (one_of HT_.out (by kernel_rfl)) (by decide) (fun K hK => ?_)
                     refine goes_ Try.func11 (by kernel_rfl) rfl #[.slice Ao73 t489.length co73, .slice Ao74 y506.length co74] (by rfl) rfl rfl (by (try simp only [List.map_toArray, List.map_cons, List.map_nil]); first | done | rfl | (simp only [List.length_drop, List.length_take]; rfl)) ?_
                     with_reducible refine (laws_gSame.calls kj9 _ _ t489 _ _ y506 true _ ?side1 ?side2 ?side3 ?side4 A57.out).mono ?_
                     (case side1 => exact cu_ (Kd.R_reads' HO491.out).2.2)
                     (case side2 => exact (Kd.R_reads' HO491.out).2.1)
                     (case side3 => exact cu_ (Kd.R_reads' HO508.out).2.2)
                     (case side4 => exact (Kd.R_reads' HO508.out).2.1)
                     rintro e w' ⟨rfl, ⟨nd, rfl⟩⟩
                     refine ⟨_, rfl, ?_⟩
                     refine hK.out _ _ ⟨hHeld.1, hHeld.2.1, hHeld.2.2.1, hHeld.2.2.2.1, hHeld.2.2.2.2.1, hHeld.2.2.2.2.2.1, hHeld.2.2.2.2.2.2.1, hHeld.2.2.2.2.2.2.2.1, hHeld.2.2.2.2.2.2.2.2.1, hHeld.2.2.2.2.2.2.2.2.2⟩ (fun hHeld => ?_)
                     clear hK K
                     refine norm_ (a' := ?_) ?_ ?_
                     rotate_left
                     ·show Act.put _ (some 199) _ = _
                      simp only [Act.put, sa_, sb_, sc_, i64_w, i32_w]
                      rfl
                     refine pz_ 65 200 (bl_ 67 0x3ffffffffffffffff) HT_.out ?_
                     refine pz_ 66 201 (bl_ 67 0x7ffffffffffffffff) HT_.out ?_
                     refine done_ (done_of HT_.out (by kernel_rfl)) ?_
                     try go_wp2
                     (try (rw [drewN_self w71]; generalize hq_ : World.drewN w71 _ = w71; have n0_ : Aside0 (Kd.R (Kd.int .i64) 3 w71 w.heap.size (fun k_ => some k_ ≠ (.slice Ao73 t489.length co73 : Value).ownBlock ∧ some k_ ≠ (.slice Ao74 y506.length co74 : Value).ownBlock ∧ some k_ ≠ (.slice (some ad493) t472.length co69 : Value).ownBlock) (.slice Ao70 t485.length co70) t485) := ⟨by rw [← hq_]; exact (by (with_reducible repeat (first | apply Kd.R_alloc | apply Kd.R_drewN | apply Kd.R_drew)); exact Kd.R_mono HO487.out (fun _ hk => ⟨hk.1.2, ⟨hk.2, hk.1.1.2⟩⟩))⟩; have n1_ : Aside0 (Kd.R (Kd.int .i64) 3 w71 w.heap.size (fun k_ => some k_ ≠ (.slice Ao70 t485.length co70 : Value).ownBlock ∧ some k_ ≠ (.slice Ao74 y506.length co74 : Value).ownBlock ∧ some k_ ≠ (.slice (some ad493) t472.length co69 : Value).ownBlock) (.slice Ao73 t489.length co73) t489) := ⟨by rw [← hq_]; exact (by (with_reducible repeat (first | apply Kd.R_alloc | apply Kd.R_drewN | apply Kd.R_drew)); exact Kd.R_mono HO491.out (fun _ hk => ⟨hk.1.2, ⟨hk.2, hk.1.1.2⟩⟩))⟩; have n2_ : Aside0 (Kd.R (Kd.int .i64) 3 w71 w.heap.size (fun k_ => some k_ ≠ (.slice Ao70 t485.length co70 : Value).ownBlock ∧ some k_ ≠ (.slice Ao73 t489.length co73 : Value).ownBlock ∧ some k_ ≠ (.slice (some ad493) t472.length co69 : Value).ownBlock) (.slice Ao74 y506.length co74) y506) := ⟨by rw [← hq_]; exact (by (with_reducible repeat (first | apply Kd.R_alloc | apply Kd.R_drewN | apply Kd.R_drew)); exact Kd.R_mono HO508.out (fun _ hk => ⟨hk.1.2, ⟨hk.2, hk.1.1.2⟩⟩))⟩; have n3_ : Aside0 (Kd.R (Kd.int .i64) 3 w71 w.heap.size (fun k_ => some k_ ≠ (.slice Ao70 t485.length co70 : Value).ownBlock ∧ some k_ ≠ (.slice Ao73 t489.length co73 : Value).ownBlock ∧ some k_ ≠ (.slice Ao74 y506.length co74 : Value).ownBlock) (.slice (some ad493) t472.length co69) t472) := ⟨by rw [← hq_]; exact (by (with_reducible repeat (first | apply Kd.R_alloc | apply Kd.R_drewN | apply Kd.R_drew)); exact Kd.R_mono HO_7.out (fun _ hk => ⟨hk.1.1.2, ⟨hk.1.2, hk.2⟩⟩))⟩; have n4_ : Aside0 (w71.heap[gb470]? = some (.cells #[.int .i64 t466, .int .i64 t467] 25 (0, 0))) := ⟨by rw [← hq_]; exact (by (with_reducible repeat (first | refine blk_drewN ?_ _ | refine blk_drew ?_ | refine blk_alloc ?_ _)); exact BK470.out)⟩; have n5_ : Aside0 (w71.heap[gb471]? = some (.cells #[.int .i64 t468, .int .i64 t469] 25 (0, 0))) := ⟨by rw [← hq_]; exact (by (with_reducible repeat (first | refine blk_drewN ?_ _ | refine blk_drew ?_ | refine blk_alloc ?_ _)); exact BK471.out)⟩; have n6_ : Aside0 (Below w.heap.size w w71) := ⟨by rw [← hq_]; exact (by repeat (first | (with_reducible first | apply below_alloc | apply pw_below_drewN | apply below_drew1 | refine below_set ?_ GE470.out | refine below_set ?_ GE471.out) | exact HB.out))⟩; clear HO487 HO491 HO508 HO_7 BK470 BK471 HB hq_; have HO487 := n0_; have HO491 := n1_; have HO508 := n2_; have HO_7 := n3_; have BK470 := n4_; have BK471 := n5_; have HB := n6_; clear n0_ n1_ n2_ n3_ n4_ n5_ n6_))
                     have n0_ := Aside0.mk (Kd.R_drew HO_7.out)
                     have n1_ := Aside0.mk (Kd.R_drew HO487.out)
                     have n2_ := Aside0.mk (Kd.R_drew HO491.out)
                     have n3_ := Aside0.mk (Kd.R_drew HO508.out)
                     have n4_ := Aside0.mk (blk_drew BK470.out)
                     have n5_ := Aside0.mk (blk_drew BK471.out)
                     have n6_ := Aside0.mk (below_drew1 HB.out)
                     clear HO_7
                     clear HO487
                     clear HO491
                     clear HO508
                     clear BK470
                     clear BK471
                     clear HB
                     have HO_7 := n0_
                     have HO487 := n1_
                     have HO491 := n2_
                     have HO508 := n3_
                     have BK470 := n4_
                     have BK471 := n5_
                     have HB := n6_
                     clear n0_ n1_ n2_ n3_ n4_ n5_ n6_
                     have p510 : 0 ≤ (0 : Int) := (by omega)
                     have q510 : 0 < (t472.length : Int) := of_decide_eq_true (by assumption)
                     obtain ⟨ad510, e510, hx510_0⟩ := Kd.at_int (Kd.R_reads' HO_7.out).2.2 0 p510 q510
                     obtain rfl : ad493 = ad510 := (by injection e510)
                     have qi510 : (0 < t472.length) = True := eq_true (by omega)
                     (try rw [show ((0 : Int)).toNat = 0 from rfl] at hx510_0)
                     (try rw [Addr.add_zero'] at hx510_0)
                     replace p510 := eq_true p510
                     replace q510 := eq_true q510
                     have p511 : 0 ≤ (1 : Int) := (by omega)
                     have q511 : 1 < (t472.length : Int) := of_decide_eq_true (by assumption)
                     obtain ⟨ad511, e511, hx511_0⟩ := Kd.at_int (Kd.R_reads' HO_7.out).2.2 1 p511 q511
                     obtain rfl : ad493 = ad511 := (by injection e511)
                     (try simp only [show (1 : Int).toNat = 1 from rfl, Nat.reduceMul, Nat.reduceEqDiff, Go.Addr.add, ↓reduceIte] at hx511_0)
                     have qi511 : (1 < t472.length) = True := eq_true (by omega)
                     (try rw [show ((1 : Int)).toNat = 1 from rfl] at hx511_0)
                     replace p511 := eq_true p511
                     replace q511 := eq_true q511
                     have p512 : 0 ≤ (2 : Int) := (by omega)
                     have q512 : 2 < (t472.length : Int) := of_decide_eq_true (by assumption)
                     obtain ⟨ad512, e512, hx512_0⟩ := Kd.at_int (Kd.R_reads' HO_7.out).2.2 2 p512 q512
                     obtain rfl : ad493 = ad512 := (by injection e512)
                     (try simp only [show (2 : Int).toNat = 2 from rfl, Nat.reduceMul, Nat.reduceEqDiff, Go.Addr.add, ↓reduceIte] at hx512_0)
                     have qi512 : (2 < t472.length) = True := eq_true (by omega)
                     (try rw [show ((2 : Int)).toNat = 2 from rfl] at hx512_0)
                     replace p512 := eq_true p512
                     replace q512 := eq_true q512
                     have p513 : 0 ≤ (3 : Int) := (by omega)
                     have q513 : 3 < (t472.length : Int) := of_decide_eq_true (by assumption)
                     obtain ⟨ad513, e513, hx513_0⟩ := Kd.at_int (Kd.R_reads' HO_7.out).2.2 3 p513 q513
                     obtain rfl : ad493 = ad513 := (by injection e513)
                     (try simp only [show (3 : Int).toNat = 3 from rfl, Nat.reduceMul, Nat.reduceEqDiff, Go.Addr.add, ↓reduceIte] at hx513_0)
                     have qi513 : (3 < t472.length) = True := eq_true (by omega)
                     (try rw [show ((3 : Int)).toNat = 3 from rfl] at hx513_0)
                     replace p513 := eq_true p513
                     replace q513 := eq_true q513
                     refine start_ (n := 16) (S := fun w' => w'.cell? ad493 = some (.int .i64 (rd t472 0)) ∧ w'.cell? ⟨ad493.block, ad493.off + 1, none⟩ = some (.int .i64 (rd t472 1)) ∧ w'.cell? ⟨ad493.block, ad493.off + 2, none⟩ = some (.int .i64 (rd t472 2)) ∧ w'.cell? ⟨ad493.block, ad493.off + 3, none⟩ = some (.int .i64 (rd t472 3))) (ds := []) (bl_ 16 0x0) (by kernel_rfl) rfl rfl ⟨hx510_0, hx511_0, hx512_0, hx513_0⟩ (fun hHeld => ?_); refine with_tabW laws_FnThreadsMeet.tab15 laws_FnThreadsMeet.bits15 (fun HT_ HW_ => ?_)
                     generalize w71.drew = w75 at HO_7 HO487 HO491 HO508 BK470 BK471 HB hx510_0 hx511_0 hx512_0 hx513_0 hHeld ⊢
                     refine pz_ 0 202 (bl_ 16 0x1) HT_.out ?_
                     refine pz_ 1 203 (bl_ 16 0x3) HT_.out ?_
                     refine pz_ 3 205 (bl_ 16 0xb) HT_.out ?_
                     refine pz_ 4 206 (bl_ 16 0x1b) HT_.out ?_
                     refine pz_ 6 208 (bl_ 16 0x5b) HT_.out ?_
                     refine pz_ 7 209 (bl_ 16 0xdb) HT_.out ?_
                     refine pz_ 9 211 (bl_ 16 0x2db) HT_.out ?_
                     refine pz_ 10 212 (bl_ 16 0x6db) HT_.out ?_
                     refine take_ (i := 2) (N := some 204) (v := ?_) (a' := ?_) (bl_ 16 0x6df) rfl rfl (take_ofW HT_.out HW_.out (by kernel_rfl)) (fun _ _ _ h => h) (Or.inl ⟨by rfl, ?_⟩) hHeld ?_ ?_
                     rotate_left
                     ·rintro w' ⟨s0, s1, s2, s3⟩
                      go_simp
                      with_reducible rfl
                     rotate_left
                     ·simp only [Act.put, sa_, sb_, sc_, i64_w, i32_w]
                      rfl
                     refine pz_ 12 19 (bl_ 16 0x16df) HT_.out ?_
                     refine take_ (i := 5) (N := some 207) (v := ?_) (a' := ?_) (bl_ 16 0x16ff) rfl rfl (take_ofW HT_.out HW_.out (by kernel_rfl)) (fun _ _ _ h => h) (Or.inl ⟨by rfl, ?_⟩) hHeld ?_ ?_
                     rotate_left
                     ·rintro w' ⟨s0, s1, s2, s3⟩
                      go_simp
                      with_reducible rfl
                     rotate_left
                     ·simp only [Act.put, sa_, sb_, sc_, i64_w, i32_w]
                      rfl
                     refine pz_ 13 20 (bl_ 16 0x36ff) HT_.out ?_
                     refine take_ (i := 8) (N := some 210) (v := ?_) (a' := ?_) (bl_ 16 0x37ff) rfl rfl (take_ofW HT_.out HW_.out (by kernel_rfl)) (fun _ _ _ h => h) (Or.inl ⟨by rfl, ?_⟩) hHeld ?_ ?_
                     rotate_left
                     ·rintro w' ⟨s0, s1, s2, s3⟩
                      go_simp
                      with_reducible rfl
                     rotate_left
                     ·simp only [Act.put, sa_, sb_, sc_, i64_w, i32_w]
                      rfl
                     refine pz_ 14 21 (bl_ 16 0x77ff) HT_.out ?_
                     refine take_ (i := 11) (N := some 213) (v := ?_) (a' := ?_) (bl_ 16 0x7fff) rfl rfl (take_ofW HT_.out HW_.out (by kernel_rfl)) (fun _ _ _ h => h) (Or.inl ⟨by rfl, ?_⟩) hHeld ?_ ?_
                     rotate_left
                     ·rintro w' ⟨s0, s1, s2, s3⟩
                      go_simp
                      with_reducible rfl
                     rotate_left
                     ·simp only [Act.put, sa_, sb_, sc_, i64_w, i32_w]
                      rfl
                     refine pz_ 15 22 (bl_ 16 0xffff) HT_.out ?_
                     refine done_ (done_of HT_.out (by kernel_rfl)) ?_
                     have hcz76_0 : w75.cell? ⟨gb470, 0, none⟩ = some (.int .i64 t466) := (blk_cell BK470.out 0).trans rfl
                     have hcz76_1 : w75.cell? ⟨gb470, 1, none⟩ = some (.int .i64 t467) := (blk_cell BK470.out 1).trans rfl
                     have hfz76_0 := blk_frozen BK470.out 0
                     have hfz76_1 := blk_frozen BK470.out 1
                     have hcz77_0 : w75.cell? ⟨gb471, 0, none⟩ = some (.int .i64 t468) := (blk_cell BK471.out 0).trans rfl
                     have hcz77_1 : w75.cell? ⟨gb471, 1, none⟩ = some (.int .i64 t469) := (blk_cell BK471.out 1).trans rfl
                     have hfz77_0 := blk_frozen BK471.out 0
                     have hfz77_1 := blk_frozen BK471.out 1
                     try go_wp2
                     go_meet
                     case rel => exact ⟨_, H', ⟨by have := HJ9.out; first | omega | exact Nat.le_refl _⟩, ⟨by (with_reducible repeat (first | refine blk_drewN ?_ _ | refine blk_drew ?_ | refine blk_alloc ?_ _)); exact BK470.out⟩, ⟨by (with_reducible repeat (first | refine blk_drewN ?_ _ | refine blk_drew ?_ | refine blk_alloc ?_ _)); exact BK471.out⟩, ⟨by repeat (first | (with_reducible first | apply below_alloc | apply pw_below_drewN | apply below_drew1 | refine below_set ?_ GE470.out | refine below_set ?_ GE471.out) | exact HB.out)⟩⟩
                    ·rw [if_neg c60] at H
                     exact absurd H (by simp)
                   ·rw [if_neg c59] at H
                    exact absurd H (by simp)
                  ·replace c58 := Bool.eq_false_iff.mpr c58
                   subst c58
                   rw [if_neg (show ¬ (false = true) by decide)] at H
                   exact absurd H (by simp)
                 ·replace c56 := Bool.eq_false_iff.mpr c56
                  subst c56
                  rw [if_neg (show ¬ (false = true) by decide)] at H
                  exact absurd H (by simp)
                ·replace c55 := Bool.eq_false_iff.mpr c55
                 subst c55
                 rw [if_neg (show ¬ (false = true) by decide)] at H
                 exact absurd H (by simp)
               ·replace c53 := Bool.eq_false_iff.mpr c53
                subst c53
                rw [if_neg (show ¬ (false = true) by decide)] at H
                exact absurd H (by simp)
            ·replace c50 := Bool.eq_false_iff.mpr c50
             subst c50
             rw [if_neg (show ¬ (false = true) by decide)] at H
             exact absurd H (by simp)
           ·rw [if_neg c48] at H
            exact absurd H (by simp)
          ·rw [if_neg c47] at H
           exact absurd H (by simp)
         ·replace c46 := Bool.eq_false_iff.mpr c46
          subst c46
          rw [if_neg (show ¬ (false = true) by decide)] at H
          exact absurd H (by simp)
        ·rw [if_neg c44] at H
         exact absurd H (by simp)
       ·rw [if_neg c43] at H
        exact absurd H (by simp)
      ·rw [if_neg c42] at H
       have c42b0 : ((t472.length : Int) == 4) = false := beq_eq_false_iff_ne.mpr c42
       have c42b1 : ((t472.length : Int) != 4) = true := bne_iff_ne.mpr c42
       (first | rw [c42b0] | (simp only [i64_w, i32_w]; rw [c42b0]) | skip)
       exact absurd H (by simp)
     ·as_aux_lemma =>
      replace c39 := Bool.eq_false_iff.mpr c39
      subst c39
      rw [if_neg (show ¬ (false = true) by decide)] at H
      have H' := Aside0.mk H
      clear H
      go_wp2
      go_meet
      case rel => exact ⟨_, H', ⟨by have := HJ9.out; first | omega | exact Nat.le_refl _⟩, ⟨by (with_reducible repeat (first | refine blk_drewN ?_ _ | refine blk_drew ?_ | refine blk_alloc ?_ _)); exact BK470.out⟩, ⟨by (with_reducible repeat (first | refine blk_drewN ?_ _ | refine blk_drew ?_ | refine blk_alloc ?_ _)); exact BK471.out⟩, ⟨by repeat (first | (with_reducible first | apply below_alloc | apply pw_below_drewN | apply below_drew1 | refine below_set ?_ GE470.out | refine below_set ?_ GE471.out) | exact HB.out)⟩⟩
    case rest =>
     as_aux_lemma =>
     clear HC38
     (try clear c1); (try clear p2); (try clear c3); (try clear c4); (try clear c5); (try clear p5); (try clear q5); (try clear hx5); (try clear qi5); (try clear c6); (try clear c11); (try clear c39); (try clear c42); (try clear c42b0); (try clear c42b1); (try clear c43); (try clear c44); (try clear c46); (try clear c47); (try clear c48); (try clear c50); (try clear p51); (try clear q51); (try clear hx51); (try clear qi51); (try clear c53); (try clear c55); (try clear c56); (try clear c58); (try clear c59); (try clear c60); (try clear hcz76_0); (try clear hcz76_1); (try clear hcz77_0); (try clear hcz77_1); (try clear hfz76_0); (try clear hfz76_1); (try clear hfz77_0); (try clear hfz77_1); (try clear hx510_0); (try clear hx511_0); (try clear hx512_0); (try clear hx513_0); (try clear p510); (try clear p511); (try clear p512); (try clear p513); (try clear q510); (try clear q511); (try clear q512); (try clear q513)
     obtain ⟨kq, HA, HJ37, BK470, BK471, HB⟩ := hcut
     cases kq with
     | zero => exact absurd HA.out (by simp [laws_FnThreadsMeet.j1])
     | succ kj37 =>
      have H := HA.out
      clear HA
      simp only [laws_FnThreadsMeet.j1] at H
      replace H := Option.bind_eq_some_iff.mp H
      obtain ⟨⟨t514, t515⟩, A780, H⟩ := H
      (try dsimp only at H)
      have A78 := Aside0.mk A780
      clear A780
      replace H := Option.bind_eq_some_iff.mp H
      obtain ⟨⟨t518, t519⟩, A790, H⟩ := H
      (try dsimp only at H)
      have A79 := Aside0.mk A790
      clear A790
      replace H := Option.bind_eq_some_iff.mp H
      obtain ⟨⟨t522, t523⟩, A800, H⟩ := H
      (try dsimp only at H)
      have A80 := Aside0.mk A800
      clear A800
      replace H := Option.bind_eq_some_iff.mp H
      obtain ⟨⟨t526, t527⟩, A810, H⟩ := H
      (try dsimp only at H)
      have A81 := Aside0.mk A810
      clear A810
      replace H := Option.bind_eq_some_iff.mp H
      obtain ⟨⟨t528, t529⟩, A820, H⟩ := H
      (try dsimp only at H)
      have A82 := Aside0.mk A820
      clear A820
      replace H := Option.bind_eq_some_iff.mp H
      obtain ⟨⟨t530, t531, t532⟩, A830, H⟩ := H
      (try dsimp only at H)
      have A83 := Aside0.mk A830
      clear A830
      replace H := Option.bind_eq_some_iff.mp H
      obtain ⟨⟨t534, t535, t536⟩, A840, H⟩ := H
      (try dsimp only at H)
      have A84 := Aside0.mk A840
      clear A840
      replace H := Option.bind_eq_some_iff.mp H
      obtain ⟨⟨t537, t538, t539⟩, A850, H⟩ := H
      (try dsimp only at H)
      have A85 := Aside0.mk A850
      clear A850
      replace H := Option.bind_eq_some_iff.mp H
      obtain ⟨⟨t540, t541⟩, A860, H⟩ := H
      (try dsimp only at H)
      have A86 := Aside0.mk A860
      clear A860
      replace H := Option.bind_eq_some_iff.mp H
      obtain ⟨⟨t542, t543⟩, A870, H⟩ := H
      (try dsimp only at H)
      have A87 := Aside0.mk A870
      clear A870
      have HC88 := Aside0.mk H
      clear H
      go_upto_region 28 with (first | ((with_reducible refine gate_callee (f := 13) rfl ?_); refine gl_ (some 264) Try.func13 #[.slice A1 l1.length c1] ?_; (with_reducible refine (spec_DrawMeetingsOnThread.calls kj37 _ _ l1 t514 t515 _ ?side1 ?side2 A78.out).mono ?_); (case side1 => repeat (first | exact (Kd.C_below HR1.out HB.out) | (with_reducible refine Kd.C_alloc ?_ _) | (with_reducible refine Kd.C_drewN ?_ _) | (with_reducible refine Kd.C_drew ?_))); (case side2 => exact HC1.out); rintro e w89 ⟨v516, rfl, ho0, hb⟩; refine ⟨_, rfl, ?_⟩; have n0_ := Aside0.mk (Kd.R_lower (Kd.R_newB (Kd.R_newB ho0 (g := gb470) (o := .cells #[.int .i64 t466, .int .i64 t467] 25 (0, 0)) (by (with_reducible repeat (first | refine blk_drewN ?_ _ | refine blk_drew ?_ | refine blk_alloc ?_ _)); exact BK470.out)) (g := gb471) (o := .cells #[.int .i64 t468, .int .i64 t469] 25 (0, 0)) (by (with_reducible repeat (first | refine blk_drewN ?_ _ | refine blk_drew ?_ | refine blk_alloc ?_ _)); exact BK471.out)) (below_size (by repeat (first | (with_reducible first | apply below_alloc | apply pw_below_drewN | apply below_drew1 | refine below_set ?_ GE470.out | refine below_set ?_ GE471.out) | exact HB.out)))); have n1_ := Aside0.mk (blk_below (g := gb470) (o := .cells #[.int .i64 t466, .int .i64 t467] 25 (0, 0)) (by (with_reducible repeat (first | refine blk_drewN ?_ _ | refine blk_drew ?_ | refine blk_alloc ?_ _)); exact BK470.out) hb); have n2_ := Aside0.mk (blk_below (g := gb471) (o := .cells #[.int .i64 t468, .int .i64 t469] 25 (0, 0)) (by (with_reducible repeat (first | refine blk_drewN ?_ _ | refine blk_drew ?_ | refine blk_alloc ?_ _)); exact BK471.out) hb); have n3_ := Aside0.mk (below_step (by repeat (first | (with_reducible first | apply below_alloc | apply pw_below_drewN | apply below_drew1 | refine below_set ?_ GE470.out | refine below_set ?_ GE471.out) | exact HB.out)) hb); clear BK470; clear BK471; clear HB; have HO517 := n0_; have BK470 := n1_; have BK471 := n2_; have HB := n3_; clear n0_ n1_ n2_ n3_; (try clear hb); (try clear ho0); obtain ⟨Ao90, co90, eo90⟩ := Kd.R_slice HO517.out; subst eo90) | ((with_reducible refine gate_callee (f := 14) rfl ?_); refine gl_ (some 270) Try.func14 #[.slice Ao90 t514.length co90, .int .i64 t515] ?_; (with_reducible refine (impl_MeetingsOnThread.calls kj37 _ _ t514 t515 t518 t519 _ ?side1 ?side2 A79.out).mono ?_); (case side1 => exact cu_ (Kd.R_reads' HO517.out).2.2); (case side2 => exact (Kd.R_reads' HO517.out).2.1); rintro e w91 ⟨v520, rfl, ho0, hb⟩; refine ⟨_, rfl, ?_⟩; have n0_ := Aside0.mk (Kd.R_below (ru_ HO517.out) hb); have n1_ := Aside0.mk (Kd.R_lower ho0 (below_size (by repeat (first | (with_reducible first | apply below_alloc | apply pw_below_drewN | apply below_drew1 | refine below_set ?_ GE470.out | refine below_set ?_ GE471.out) | exact HB.out)))); have n2_ := Aside0.mk (blk_below (g := gb470) (o := .cells #[.int .i64 t466, .int .i64 t467] 25 (0, 0)) (by (with_reducible repeat (first | refine blk_drewN ?_ _ | refine blk_drew ?_ | refine blk_alloc ?_ _)); exact BK470.out) hb); have n3_ := Aside0.mk (blk_below (g := gb471) (o := .cells #[.int .i64 t468, .int .i64 t469] 25 (0, 0)) (by (with_reducible repeat (first | refine blk_drewN ?_ _ | refine blk_drew ?_ | refine blk_alloc ?_ _)); exact BK471.out) hb); have n4_ := Aside0.mk (below_step (by repeat (first | (with_reducible first | apply below_alloc | apply pw_below_drewN | apply below_drew1 | refine below_set ?_ GE470.out | refine below_set ?_ GE471.out) | exact HB.out)) hb); clear HO517; clear BK470; clear BK471; clear HB; have HO517 := n0_; have HO521 := n1_; have BK470 := n2_; have BK471 := n3_; have HB := n4_; clear n0_ n1_ n2_ n3_ n4_; (try clear hb); (try clear ho0)) | ((with_reducible refine gate_callee (f := 15) rfl ?_); refine gl_ (some 276) Try.func15 #[.slice Ao90 t514.length co90, .int .i64 t515] ?_; (with_reducible refine (spec_MeetingsOnThread.calls kj37 _ _ t514 t515 t522 t523 _ ?side1 ?side2 A80.out).mono ?_); (case side1 => exact cu_ (Kd.R_reads' HO517.out).2.2); (case side2 => exact (Kd.R_reads' HO517.out).2.1); rintro e w92 ⟨v524, rfl, ho0, hb⟩; refine ⟨_, rfl, ?_⟩; have n0_ := Aside0.mk (Kd.R_below (ru_ HO517.out) hb); have n1_ := Aside0.mk (Kd.R_elder' (ru_ HO521.out) (Kd.R_base ho0) hb); have n2_ := Aside0.mk (Kd.R_lower (Kd.R_new' ho0 (Kd.R_lt (ru_ HO521.out))) (below_size (by repeat (first | (with_reducible first | apply below_alloc | apply pw_below_drewN | apply below_drew1 | refine below_set ?_ GE470.out | refine below_set ?_ GE471.out) | exact HB.out)))); have n3_ := Aside0.mk (blk_below (g := gb470) (o := .cells #[.int .i64 t466, .int .i64 t467] 25 (0, 0)) (by (with_reducible repeat (first | refine blk_drewN ?_ _ | refine blk_drew ?_ | refine blk_alloc ?_ _)); exact BK470.out) hb); have n4_ := Aside0.mk (blk_below (g := gb471) (o := .cells #[.int .i64 t468, .int .i64 t469] 25 (0, 0)) (by (with_reducible repeat (first | refine blk_drewN ?_ _ | refine blk_drew ?_ | refine blk_alloc ?_ _)); exact BK471.out) hb); have n5_ := Aside0.mk (below_step (by repeat (first | (with_reducible first | apply below_alloc | apply pw_below_drewN | apply below_drew1 | refine below_set ?_ GE470.out | refine below_set ?_ GE471.out) | exact HB.out)) hb); clear HO517; clear HO521; clear BK470; clear BK471; clear HB; have HO517 := n0_; have HO521 := n1_; have HO525 := n2_; have BK470 := n3_; have BK471 := n4_; have HB := n5_; clear n0_ n1_ n2_ n3_ n4_ n5_; (try clear hb); (try clear ho0)) | ((with_reducible refine gate_callee (f := 16) rfl ?_); refine gl_ (some 281) Try.func16 #[.slice Ao90 t514.length co90] ?_; (with_reducible refine (impl_CountMeetings.calls kj37 _ _ t514 t526 t527 _ ?side1 ?side2 A81.out).mono ?_); (case side1 => exact cu_ (Kd.R_reads' HO517.out).2.2); (case side2 => exact (Kd.R_reads' HO517.out).2.1); rintro e w93 ⟨rfl, hb⟩; refine ⟨_, rfl, ?_⟩; have n0_ := Aside0.mk (Kd.R_below (ru_ HO517.out) hb); have n1_ := Aside0.mk (Kd.R_below (ru_ HO521.out) hb); have n2_ := Aside0.mk (Kd.R_below (ru_ HO525.out) hb); have n3_ := Aside0.mk (blk_below (g := gb470) (o := .cells #[.int .i64 t466, .int .i64 t467] 25 (0, 0)) (by (with_reducible repeat (first | refine blk_drewN ?_ _ | refine blk_drew ?_ | refine blk_alloc ?_ _)); exact BK470.out) hb); have n4_ := Aside0.mk (blk_below (g := gb471) (o := .cells #[.int .i64 t468, .int .i64 t469] 25 (0, 0)) (by (with_reducible repeat (first | refine blk_drewN ?_ _ | refine blk_drew ?_ | refine blk_alloc ?_ _)); exact BK471.out) hb); have n5_ := Aside0.mk (below_step (by repeat (first | (with_reducible first | apply below_alloc | apply pw_below_drewN | apply below_drew1 | refine below_set ?_ GE470.out | refine below_set ?_ GE471.out) | exact HB.out)) hb); clear HO517; clear HO521; clear HO525; clear BK470; clear BK471; clear HB; have HO517 := n0_; have HO521 := n1_; have HO525 := n2_; have BK470 := n3_; have BK471 := n4_; have HB := n5_; clear n0_ n1_ n2_ n3_ n4_ n5_; (try clear hb)) | ((with_reducible refine gate_callee (f := 17) rfl ?_); refine gl_ (some 286) Try.func17 #[.slice Ao90 t514.length co90] ?_; (with_reducible refine (spec_CountMeetings.calls kj37 _ _ t514 t528 t529 _ ?side1 ?side2 A82.out).mono ?_); (case side1 => exact cu_ (Kd.R_reads' HO517.out).2.2); (case side2 => exact (Kd.R_reads' HO517.out).2.1); rintro e w94 ⟨rfl, hb⟩; refine ⟨_, rfl, ?_⟩; have n0_ := Aside0.mk (Kd.R_below (ru_ HO517.out) hb); have n1_ := Aside0.mk (Kd.R_below (ru_ HO521.out) hb); have n2_ := Aside0.mk (Kd.R_below (ru_ HO525.out) hb); have n3_ := Aside0.mk (blk_below (g := gb470) (o := .cells #[.int .i64 t466, .int .i64 t467] 25 (0, 0)) (by (with_reducible repeat (first | refine blk_drewN ?_ _ | refine blk_drew ?_ | refine blk_alloc ?_ _)); exact BK470.out) hb); have n4_ := Aside0.mk (blk_below (g := gb471) (o := .cells #[.int .i64 t468, .int .i64 t469] 25 (0, 0)) (by (with_reducible repeat (first | refine blk_drewN ?_ _ | refine blk_drew ?_ | refine blk_alloc ?_ _)); exact BK471.out) hb); have n5_ := Aside0.mk (below_step (by repeat (first | (with_reducible first | apply below_alloc | apply pw_below_drewN | apply below_drew1 | refine below_set ?_ GE470.out | refine below_set ?_ GE471.out) | exact HB.out)) hb); clear HO517; clear HO521; clear HO525; clear BK470; clear BK471; clear HB; have HO517 := n0_; have HO521 := n1_; have HO525 := n2_; have BK470 := n3_; have BK471 := n4_; have HB := n5_; clear n0_ n1_ n2_ n3_ n4_ n5_; (try clear hb)) | ((with_reducible refine gate_callee (f := 18) rfl ?_); refine gl_ (some 291) Try.func18 #[.slice A1 l1.length c1] ?_; (with_reducible refine (spec_DrawHeightOf.calls _ _ l1 t530 t531 t532 _ ?side1 ?side2 A83.out).mono ?_); (case side1 => repeat (first | exact (Kd.C_below HR1.out HB.out) | (with_reducible refine Kd.C_alloc ?_ _) | (with_reducible refine Kd.C_drewN ?_ _) | (with_reducible refine Kd.C_drew ?_))); (case side2 => exact HC1.out); rintro e w95 ⟨rfl, hb⟩; refine ⟨_, rfl, ?_⟩; have n0_ := Aside0.mk (Kd.R_below (ru_ HO517.out) hb); have n1_ := Aside0.mk (Kd.R_below (ru_ HO521.out) hb); have n2_ := Aside0.mk (Kd.R_below (ru_ HO525.out) hb); have n3_ := Aside0.mk (blk_below (g := gb470) (o := .cells #[.int .i64 t466, .int .i64 t467] 25 (0, 0)) (by (with_reducible repeat (first | refine blk_drewN ?_ _ | refine blk_drew ?_ | refine blk_alloc ?_ _)); exact BK470.out) hb); have n4_ := Aside0.mk (blk_below (g := gb471) (o := .cells #[.int .i64 t468, .int .i64 t469] 25 (0, 0)) (by (with_reducible repeat (first | refine blk_drewN ?_ _ | refine blk_drew ?_ | refine blk_alloc ?_ _)); exact BK471.out) hb); have n5_ := Aside0.mk (below_step (by repeat (first | (with_reducible first | apply below_alloc | apply pw_below_drewN | apply below_drew1 | refine below_set ?_ GE470.out | refine below_set ?_ GE471.out) | exact HB.out)) hb); clear HO517; clear HO521; clear HO525; clear BK470; clear BK471; clear HB; have HO517 := n0_; have HO521 := n1_; have HO525 := n2_; have BK470 := n3_; have BK471 := n4_; have HB := n5_; clear n0_ n1_ n2_ n3_ n4_ n5_; (try clear hb)) | ((with_reducible refine gate_dst (N := 33) rfl ?_); (try (refine gate_guard (by rfl) ?_; dsimp only)); refine box_event ?hg (N := 33) ?hd (cs := #[.int .i64 0, .int .i64 0]) (t := 25) ?hr ?_; (case hd => rfl); (case hg => rfl); (case hr => first | (go_simp; done) | (go_simp; rfl)); intro gb533 hg w96 hbox hb; have n0_ := Aside0.mk (Kd.R_below (Kd.R_elderB (ru_ HO517.out) gb533 (Nat.le_of_eq hg.symm)) hb); have n1_ := Aside0.mk (Kd.R_below (ru_ HO521.out) hb); have n2_ := Aside0.mk (Kd.R_below (ru_ HO525.out) hb); have n3_ := Aside0.mk (blk_below (g := gb470) (o := .cells #[.int .i64 t466, .int .i64 t467] 25 (0, 0)) (by (with_reducible repeat (first | refine blk_drewN ?_ _ | refine blk_drew ?_ | refine blk_alloc ?_ _)); exact BK470.out) hb); have n4_ := Aside0.mk (blk_below (g := gb471) (o := .cells #[.int .i64 t468, .int .i64 t469] 25 (0, 0)) (by (with_reducible repeat (first | refine blk_drewN ?_ _ | refine blk_drew ?_ | refine blk_alloc ?_ _)); exact BK471.out) hb); have n5_ := Aside0.mk (below_step (by repeat (first | (with_reducible first | apply below_alloc | apply pw_below_drewN | apply below_drew1 | refine below_set ?_ GE470.out | refine below_set ?_ GE471.out) | exact HB.out)) hb); have n6_ := Aside0.mk (hbox); have n7_ := Aside0.mk ((by rw [hg]; exact (below_size (by repeat (first | (with_reducible first | apply below_alloc | apply pw_below_drewN | apply below_drew1 | refine below_set ?_ GE470.out | refine below_set ?_ GE471.out) | exact HB.out))) : w.heap.size ≤ gb533)); have n8_ := Aside0.mk ((by rw [hg]; exact (below_size (by repeat (first | (with_reducible first | apply below_alloc | apply pw_below_drewN | apply below_drew1 | refine below_set ?_ GE470.out | refine below_set ?_ GE471.out) | exact HB.out))) : w.heap.size ≤ gb533)); have n9_ := Aside0.mk ((by rw [hg]; exact Nat.ne_of_lt (blk_lt (g := gb470) (o := .cells #[.int .i64 t466, .int .i64 t467] 25 (0, 0)) (by (with_reducible repeat (first | refine blk_drewN ?_ _ | refine blk_drew ?_ | refine blk_alloc ?_ _)); exact BK470.out)) : gb470 ≠ gb533)); have n10_ := Aside0.mk ((by rw [hg]; exact Nat.ne_of_gt (blk_lt (g := gb470) (o := .cells #[.int .i64 t466, .int .i64 t467] 25 (0, 0)) (by (with_reducible repeat (first | refine blk_drewN ?_ _ | refine blk_drew ?_ | refine blk_alloc ?_ _)); exact BK470.out)) : gb533 ≠ gb470)); have n11_ := Aside0.mk ((by rw [hg]; exact Nat.ne_of_lt (blk_lt (g := gb471) (o := .cells #[.int .i64 t468, .int .i64 t469] 25 (0, 0)) (by (with_reducible repeat (first | refine blk_drewN ?_ _ | refine blk_drew ?_ | refine blk_alloc ?_ _)); exact BK471.out)) : gb471 ≠ gb533)); have n12_ := Aside0.mk ((by rw [hg]; exact Nat.ne_of_gt (blk_lt (g := gb471) (o := .cells #[.int .i64 t468, .int .i64 t469] 25 (0, 0)) (by (with_reducible repeat (first | refine blk_drewN ?_ _ | refine blk_drew ?_ | refine blk_alloc ?_ _)); exact BK471.out)) : gb533 ≠ gb471)); clear HO517; clear HO521; clear HO525; clear BK470; clear BK471; clear HB; have HO517 := n0_; have HO521 := n1_; have HO525 := n2_; have BK470 := n3_; have BK471 := n4_; have HB := n5_; have BK533 := n6_; have GW533 := n7_; have GE533 := n8_; have NB470_533 := n9_; have NB533_470 := n10_; have NB471_533 := n11_; have NB533_471 := n12_; clear n0_ n1_ n2_ n3_ n4_ n5_ n6_ n7_ n8_ n9_ n10_ n11_ n12_; clear hb hbox hg; have hnb97 := NB533_470.out; have hnc97 := NB470_533.out; have hnb98 := NB533_471.out; have hnc98 := NB471_533.out; have hcz99_0 : w96.cell? ⟨gb533, 0, none⟩ = some (.int .i64 0) := (blk_cell BK533.out 0).trans rfl; have hcz99_1 : w96.cell? ⟨gb533, 1, none⟩ = some (.int .i64 0) := (blk_cell BK533.out 1).trans rfl; have hfz99_0 := blk_frozen BK533.out 0; have hfz99_1 := blk_frozen BK533.out 1) | ((with_reducible refine gate_callee (f := 19) rfl ?_); refine gl_ (some 297) Try.func19 #[.agg #[.int .i64 t530, .int .i64 t531], .int .i64 t532] ?_; (with_reducible refine (impl_HeightOf.calls t530 t531 t532 t534 t535 t536 _ A84.out).mono ?_); rintro e w100 ⟨rfl, hb⟩; refine ⟨_, rfl, ?_⟩; have n0_ := Aside0.mk (Kd.R_below (by (with_reducible repeat (first | apply Kd.R_alloc | apply Kd.R_drewN | apply Kd.R_drew)); exact (Kd.R_mono (Kd.R_far (p := ⟨gb533, 1, none⟩) (Kd.R_far (p := ⟨gb533, 0, none⟩) (Kd.R_mono HO517.out (fun k_ hk => (⟨hk, hk.2⟩ : _ ∧ k_ ≠ gb533))) (fun _ hk => hk.2) (.int .i64 t530)) (fun _ hk => hk.2) (.int .i64 t531)) (fun _ h_ => by first | exact h_.1 | exact ⟨trivial, h_.1⟩))) hb); have n1_ := Aside0.mk (Kd.R_below (by (with_reducible repeat (first | apply Kd.R_alloc | apply Kd.R_drewN | apply Kd.R_drew)); exact (Kd.R_mono (Kd.R_far (p := ⟨gb533, 1, none⟩) (Kd.R_far (p := ⟨gb533, 0, none⟩) (Kd.R_types HO521.out BK533.out (by decide)) (fun _ hk => hk.2) (.int .i64 t530)) (fun _ hk => hk.2) (.int .i64 t531)) (fun _ h_ => by first | exact h_.1 | exact ⟨trivial, h_.1⟩))) hb); have n2_ := Aside0.mk (Kd.R_below (by (with_reducible repeat (first | apply Kd.R_alloc | apply Kd.R_drewN | apply Kd.R_drew)); exact (Kd.R_mono (Kd.R_far (p := ⟨gb533, 1, none⟩) (Kd.R_far (p := ⟨gb533, 0, none⟩) (Kd.R_types HO525.out BK533.out (by decide)) (fun _ hk => hk.2) (.int .i64 t530)) (fun _ hk => hk.2) (.int .i64 t531)) (fun _ h_ => by first | exact h_.1 | exact ⟨trivial, h_.1⟩))) hb); have n3_ := Aside0.mk (blk_below (g := gb470) (o := .cells #[.int .i64 t466, .int .i64 t467] 25 (0, 0)) (by (with_reducible repeat (first | refine blk_drewN ?_ _ | refine blk_drew ?_ | refine blk_alloc ?_ _)); refine blk_far ?_ NB470_533.out _; (with_reducible repeat (first | refine blk_drewN ?_ _ | refine blk_drew ?_ | refine blk_alloc ?_ _)); refine blk_far ?_ NB470_533.out _; (with_reducible repeat (first | refine blk_drewN ?_ _ | refine blk_drew ?_ | refine blk_alloc ?_ _)); exact BK470.out) hb); have n4_ := Aside0.mk (blk_below (g := gb471) (o := .cells #[.int .i64 t468, .int .i64 t469] 25 (0, 0)) (by (with_reducible repeat (first | refine blk_drewN ?_ _ | refine blk_drew ?_ | refine blk_alloc ?_ _)); refine blk_far ?_ NB471_533.out _; (with_reducible repeat (first | refine blk_drewN ?_ _ | refine blk_drew ?_ | refine blk_alloc ?_ _)); refine blk_far ?_ NB471_533.out _; (with_reducible repeat (first | refine blk_drewN ?_ _ | refine blk_drew ?_ | refine blk_alloc ?_ _)); exact BK471.out) hb); have n5_ := Aside0.mk (blk_below (g := gb533) (o := .cells #[.int .i64 t530, .int .i64 t531] 25 (0, 0)) (by (with_reducible repeat (first | refine blk_drewN ?_ _ | refine blk_drew ?_ | refine blk_alloc ?_ _)); refine blk_put (cs := #[.int .i64 t530, .int .i64 0]) ?_ 1 _ rfl; (with_reducible repeat (first | refine blk_drewN ?_ _ | refine blk_drew ?_ | refine blk_alloc ?_ _)); refine blk_put (cs := #[.int .i64 0, .int .i64 0]) ?_ 0 _ rfl; (with_reducible repeat (first | refine blk_drewN ?_ _ | refine blk_drew ?_ | refine blk_alloc ?_ _)); exact BK533.out) hb); have n6_ := Aside0.mk (below_step (by repeat (first | (with_reducible first | apply below_alloc | apply pw_below_drewN | apply below_drew1 | refine below_set ?_ GE470.out | refine below_set ?_ GE471.out | refine below_set ?_ GE533.out) | exact HB.out)) hb); clear HO517; clear HO521; clear HO525; clear BK470; clear BK471; clear BK533; clear HB; have HO517 := n0_; have HO521 := n1_; have HO525 := n2_; have BK470 := n3_; have BK471 := n4_; have BK533 := n5_; have HB := n6_; clear n0_ n1_ n2_ n3_ n4_ n5_ n6_; (try clear hb); have hcz101_0 : w100.cell? ⟨gb533, 0, none⟩ = some (.int .i64 t530) := (blk_cell BK533.out 0).trans rfl; have hcz101_1 : w100.cell? ⟨gb533, 1, none⟩ = some (.int .i64 t531) := (blk_cell BK533.out 1).trans rfl; have hfz101_0 := blk_frozen BK533.out 0; have hfz101_1 := blk_frozen BK533.out 1) | ((with_reducible refine gate_callee (f := 20) rfl ?_); refine gl_ (some 304) Try.func20 #[.agg #[.int .i64 t530, .int .i64 t531], .int .i64 t532] ?_; (with_reducible refine (spec_HeightOf.calls t530 t531 t532 t537 t538 t539 _ A85.out).mono ?_); rintro e w102 ⟨rfl, hb⟩; refine ⟨_, rfl, ?_⟩; have n0_ := Aside0.mk (Kd.R_below (ru_ HO517.out) hb); have n1_ := Aside0.mk (Kd.R_below (ru_ HO521.out) hb); have n2_ := Aside0.mk (Kd.R_below (ru_ HO525.out) hb); have n3_ := Aside0.mk (blk_below (g := gb470) (o := .cells #[.int .i64 t466, .int .i64 t467] 25 (0, 0)) (by (with_reducible repeat (first | refine blk_drewN ?_ _ | refine blk_drew ?_ | refine blk_alloc ?_ _)); exact BK470.out) hb); have n4_ := Aside0.mk (blk_below (g := gb471) (o := .cells #[.int .i64 t468, .int .i64 t469] 25 (0, 0)) (by (with_reducible repeat (first | refine blk_drewN ?_ _ | refine blk_drew ?_ | refine blk_alloc ?_ _)); exact BK471.out) hb); have n5_ := Aside0.mk (blk_below (g := gb533) (o := .cells #[.int .i64 t530, .int .i64 t531] 25 (0, 0)) (by (with_reducible repeat (first | refine blk_drewN ?_ _ | refine blk_drew ?_ | refine blk_alloc ?_ _)); exact BK533.out) hb); have n6_ := Aside0.mk (below_step (by repeat (first | (with_reducible first | apply below_alloc | apply pw_below_drewN | apply below_drew1 | refine below_set ?_ GE470.out | refine below_set ?_ GE471.out | refine below_set ?_ GE533.out) | exact HB.out)) hb); clear HO517; clear HO521; clear HO525; clear BK470; clear BK471; clear BK533; clear HB; have HO517 := n0_; have HO521 := n1_; have HO525 := n2_; have BK470 := n3_; have BK471 := n4_; have BK533 := n5_; have HB := n6_; clear n0_ n1_ n2_ n3_ n4_ n5_ n6_; (try clear hb); have hcz103_0 : w102.cell? ⟨gb533, 0, none⟩ = some (.int .i64 t530) := (blk_cell BK533.out 0).trans rfl; have hcz103_1 : w102.cell? ⟨gb533, 1, none⟩ = some (.int .i64 t531) := (blk_cell BK533.out 1).trans rfl; have hfz103_0 := blk_frozen BK533.out 0; have hfz103_1 := blk_frozen BK533.out 1) | ((with_reducible refine gate_callee (f := 21) rfl ?_); refine gl_ (some 310) Try.func21 #[.agg #[.int .i64 t530, .int .i64 t531]] ?_; (with_reducible refine (impl_DoubleTriangle.calls t530 t531 t540 t541 _ A86.out).mono ?_); rintro e w104 ⟨rfl, hb⟩; refine ⟨_, rfl, ?_⟩; have n0_ := Aside0.mk (Kd.R_below (ru_ HO517.out) hb); have n1_ := Aside0.mk (Kd.R_below (ru_ HO521.out) hb); have n2_ := Aside0.mk (Kd.R_below (ru_ HO525.out) hb); have n3_ := Aside0.mk (blk_below (g := gb470) (o := .cells #[.int .i64 t466, .int .i64 t467] 25 (0, 0)) (by (with_reducible repeat (first | refine blk_drewN ?_ _ | refine blk_drew ?_ | refine blk_alloc ?_ _)); exact BK470.out) hb); have n4_ := Aside0.mk (blk_below (g := gb471) (o := .cells #[.int .i64 t468, .int .i64 t469] 25 (0, 0)) (by (with_reducible repeat (first | refine blk_drewN ?_ _ | refine blk_drew ?_ | refine blk_alloc ?_ _)); exact BK471.out) hb); have n5_ := Aside0.mk (blk_below (g := gb533) (o := .cells #[.int .i64 t530, .int .i64 t531] 25 (0, 0)) (by (with_reducible repeat (first | refine blk_drewN ?_ _ | refine blk_drew ?_ | refine blk_alloc ?_ _)); exact BK533.out) hb); have n6_ := Aside0.mk (below_step (by repeat (first | (with_reducible first | apply below_alloc | apply pw_below_drewN | apply below_drew1 | refine below_set ?_ GE470.out | refine below_set ?_ GE471.out | refine below_set ?_ GE533.out) | exact HB.out)) hb); clear HO517; clear HO521; clear HO525; clear BK470; clear BK471; clear BK533; clear HB; have HO517 := n0_; have HO521 := n1_; have HO525 := n2_; have BK470 := n3_; have BK471 := n4_; have BK533 := n5_; have HB := n6_; clear n0_ n1_ n2_ n3_ n4_ n5_ n6_; (try clear hb); have hcz105_0 : w104.cell? ⟨gb533, 0, none⟩ = some (.int .i64 t530) := (blk_cell BK533.out 0).trans rfl; have hcz105_1 : w104.cell? ⟨gb533, 1, none⟩ = some (.int .i64 t531) := (blk_cell BK533.out 1).trans rfl; have hfz105_0 := blk_frozen BK533.out 0; have hfz105_1 := blk_frozen BK533.out 1) | ((with_reducible refine gate_callee (f := 22) rfl ?_); refine gl_ (some 315) Try.func22 #[.agg #[.int .i64 t530, .int .i64 t531]] ?_; (with_reducible refine (spec_DoubleTriangle.calls t530 t531 t542 t543 _ A87.out).mono ?_); rintro e w106 ⟨rfl, hb⟩; refine ⟨_, rfl, ?_⟩; have n0_ := Aside0.mk (Kd.R_below (ru_ HO517.out) hb); have n1_ := Aside0.mk (Kd.R_below (ru_ HO521.out) hb); have n2_ := Aside0.mk (Kd.R_below (ru_ HO525.out) hb); have n3_ := Aside0.mk (blk_below (g := gb470) (o := .cells #[.int .i64 t466, .int .i64 t467] 25 (0, 0)) (by (with_reducible repeat (first | refine blk_drewN ?_ _ | refine blk_drew ?_ | refine blk_alloc ?_ _)); exact BK470.out) hb); have n4_ := Aside0.mk (blk_below (g := gb471) (o := .cells #[.int .i64 t468, .int .i64 t469] 25 (0, 0)) (by (with_reducible repeat (first | refine blk_drewN ?_ _ | refine blk_drew ?_ | refine blk_alloc ?_ _)); exact BK471.out) hb); have n5_ := Aside0.mk (blk_below (g := gb533) (o := .cells #[.int .i64 t530, .int .i64 t531] 25 (0, 0)) (by (with_reducible repeat (first | refine blk_drewN ?_ _ | refine blk_drew ?_ | refine blk_alloc ?_ _)); exact BK533.out) hb); have n6_ := Aside0.mk (below_step (by repeat (first | (with_reducible first | apply below_alloc | apply pw_below_drewN | apply below_drew1 | refine below_set ?_ GE470.out | refine below_set ?_ GE471.out | refine below_set ?_ GE533.out) | exact HB.out)) hb); clear HO517; clear HO521; clear HO525; clear BK470; clear BK471; clear BK533; clear HB; have HO517 := n0_; have HO521 := n1_; have HO525 := n2_; have BK470 := n3_; have BK471 := n4_; have BK533 := n5_; have HB := n6_; clear n0_ n1_ n2_ n3_ n4_ n5_ n6_; (try clear hb)))
      (try simp only [Act.put, sa_, sb_, sc_])
      go_cut [388] from 100000 to 100000 (fun v388 wc => ∃ (kq : Nat) (x388_87 : Bool), v388 = .bool x388_87 ∧ Aside0 (laws_FnThreadsMeet.j2 kq t514 t515 t518 t519 t526 t532 t534 t535 t536 t540 x388_87 t530 t531 = some r) ∧ Aside0 (kq ≤ kj37) ∧ Aside0 (Kd.R k25 25 wc w.heap.size (fun k_ => k_ ≠ gb470 ∧ k_ ≠ gb471 ∧ k_ ≠ gb533) (.slice Ao90 t514.length co90) t514) ∧ Aside0 (Kd.R (Kd.int .i64) 3 wc w.heap.size (fun _ => True) v520 t518) ∧ Aside0 (wc.heap[gb470]? = some (.cells #[.int .i64 t466, .int .i64 t467] 25 (0, 0))) ∧ Aside0 (wc.heap[gb471]? = some (.cells #[.int .i64 t468, .int .i64 t469] 25 (0, 0))) ∧ Aside0 (wc.heap[gb533]? = some (.cells #[.int .i64 t530, .int .i64 t531] 25 (0, 0))) ∧ Aside0 (Below w.heap.size w wc))
      case first =>
       as_aux_lemma =>
       have H := HC88.out
       clear HC88
       by_cases c107 : (t519 != t523) = true
       ·rw [if_pos c107] at H
        exact absurd H (by simp)
       ·rw [if_neg c107] at H
        have c107b0 : (t519 != t523) = false := by simpa using c107
        (try (have c107b1 : decide (t519 = t523) = true := by simpa using c107))
        (try (have c107b2 : (t519 == t523) = true := by simpa using c107))
        clear c107
        (first | rw [c107b0] | (simp only [i64_w, i32_w]; rw [c107b0]) | skip)
        replace H := Option.bind_eq_some_iff.mp H
        obtain ⟨t544, A1080, H⟩ := H
        (try dsimp only at H)
        have A108 := Aside0.mk A1080
        clear A1080
        by_cases c109 : t544 = true
        ·subst c109
         rw [if_pos rfl] at H
         by_cases c110 : (t527 != t529) = true
         ·rw [if_pos c110] at H
          exact absurd H (by simp)
         ·rw [if_neg c110] at H
          have c110b0 : (t527 != t529) = false := by simpa using c110
          (try (have c110b1 : decide (t527 = t529) = true := by simpa using c110))
          (try (have c110b2 : (t527 == t529) = true := by simpa using c110))
          clear c110
          by_cases c111 : t526 = t528
          ·rw [if_pos c111] at H
           have c111b0 : (t526 == t528) = true := beq_iff_eq.mpr c111
           have c111b1 : (t526 != t528) = false := bne_eq_false_iff_eq.mpr c111
           clear c111
           by_cases c112 : (t536 != t539) = true
           ·rw [if_pos c112] at H
            exact absurd H (by simp)
           ·rw [if_neg c112] at H
            have c112b0 : (t536 != t539) = false := by simpa using c112
            (try (have c112b1 : decide (t536 = t539) = true := by simpa using c112))
            (try (have c112b2 : (t536 == t539) = true := by simpa using c112))
            clear c112
            by_cases c113 : t534 = t537
            ·rw [if_pos c113] at H
             have c113b0 : (t534 == t537) = true := beq_iff_eq.mpr c113
             have c113b1 : (t534 != t537) = false := bne_eq_false_iff_eq.mpr c113
             clear c113
             by_cases c114 : t535 = t538
             ·rw [if_pos c114] at H
              have c114b0 : (t535 == t538) = true := beq_iff_eq.mpr c114
              have c114b1 : (t535 != t538) = false := bne_eq_false_iff_eq.mpr c114
              clear c114
              by_cases c115 : (t541 != t543) = true
              ·rw [if_pos c115] at H
               exact absurd H (by simp)
              ·rw [if_neg c115] at H
               have c115b0 : (t541 != t543) = false := by simpa using c115
               (try (have c115b1 : decide (t541 = t543) = true := by simpa using c115))
               (try (have c115b2 : (t541 == t543) = true := by simpa using c115))
               clear c115
               by_cases c116 : t540 = t542
               ·rw [if_pos c116] at H
                have c116b0 : (t540 == t542) = true := beq_iff_eq.mpr c116
                have c116b1 : (t540 != t542) = false := bne_eq_false_iff_eq.mpr c116
                clear c116
                replace H := Option.bind_eq_some_iff.mp H
                obtain ⟨t545, A1170, H⟩ := H
                (try dsimp only at H)
                have A117 := Aside0.mk A1170
                clear A1170
                by_cases c118 : (t527 != t545) = true
                ·rw [if_pos c118] at H
                 exact absurd H (by simp)
                ·rw [if_neg c118] at H
                 have c118b0 : (t527 != t545) = false := by simpa using c118
                 (try (have c118b1 : decide (t527 = t545) = true := by simpa using c118))
                 (try (have c118b2 : (t527 == t545) = true := by simpa using c118))
                 clear c118
                 replace H := Option.bind_eq_some_iff.mp H
                 obtain ⟨t546, A1190, H⟩ := H
                 (try dsimp only at H)
                 have A119 := Aside0.mk A1190
                 clear A1190
                 obtain rfl : t546 = t545 := Option.some.inj (A119.out.symm.trans A117.out)
                 replace H := Option.bind_eq_some_iff.mp H
                 obtain ⟨t547, A1200, H⟩ := H
                 (try dsimp only at H)
                 have A120 := Aside0.mk A1200
                 clear A1200
                 by_cases c121 : (t546 != t547) = true
                 ·rw [if_pos c121] at H
                  exact absurd H (by simp)
                 ·rw [if_neg c121] at H
                  have c121b0 : (t546 != t547) = false := by simpa using c121
                  (try (have c121b1 : decide (t546 = t547) = true := by simpa using c121))
                  (try (have c121b2 : (t546 == t547) = true := by simpa using c121))
                  clear c121
                  by_cases c122 : t519 = true
                  ·subst c122
                   rw [if_pos rfl] at H
                   by_cases c123 : t527 = true
                   ·subst c123
                    rw [if_pos rfl] at H
                    by_cases c124 : t536 = true
                    ·as_aux_lemma =>
                     subst c124
                     rw [if_pos rfl] at H
                     have H' := Aside0.mk H
                     clear H
                     obtain ⟨Ao125, co125, eo125⟩ := Kd.R_slice HO521.out
                     subst eo125
                     obtain ⟨Ao126, co126, eo126⟩ := Kd.R_slice HO525.out
                     subst eo126
                     go_wp2_with (first | (go_at_call 11; (with_reducible refine (laws_gSame.calls kj37 _ _ t518 _ _ t522 true _ ?side1 ?side2 ?side3 ?side4 A108.out).mono ?_); (case side1 => exact cu_ (Kd.R_reads' HO521.out).2.2); (case side2 => exact (Kd.R_reads' HO521.out).2.1); (case side3 => exact cu_ (Kd.R_reads' HO525.out).2.2); (case side4 => exact (Kd.R_reads' HO525.out).2.1); rintro e w' ⟨rfl, ⟨nd, rfl⟩⟩) | (go_at_call 23; (with_reducible refine (impl_AreThreads.calls kj37 _ _ t514 t545 _ ?side1 ?side2 A117.out).mono ?_); (case side1 => exact cu_ (Kd.R_reads' HO517.out).2.2); (case side2 => exact (Kd.R_reads' HO517.out).2.1); rintro e w127 ⟨rfl, hb⟩; have n0_ := Aside0.mk (Kd.R_below (ru_ HO517.out) hb); have n1_ := Aside0.mk (Kd.R_below (ru_ HO521.out) hb); have n2_ := Aside0.mk (Kd.R_below (ru_ HO525.out) hb); have n3_ := Aside0.mk (blk_below (g := gb470) (o := .cells #[.int .i64 t466, .int .i64 t467] 25 (0, 0)) (by (with_reducible repeat (first | refine blk_drewN ?_ _ | refine blk_drew ?_ | refine blk_alloc ?_ _)); exact BK470.out) hb); have n4_ := Aside0.mk (blk_below (g := gb471) (o := .cells #[.int .i64 t468, .int .i64 t469] 25 (0, 0)) (by (with_reducible repeat (first | refine blk_drewN ?_ _ | refine blk_drew ?_ | refine blk_alloc ?_ _)); exact BK471.out) hb); have n5_ := Aside0.mk (blk_below (g := gb533) (o := .cells #[.int .i64 t530, .int .i64 t531] 25 (0, 0)) (by (with_reducible repeat (first | refine blk_drewN ?_ _ | refine blk_drew ?_ | refine blk_alloc ?_ _)); exact BK533.out) hb); have n6_ := Aside0.mk (below_step (by repeat (first | (with_reducible first | apply below_alloc | apply pw_below_drewN | apply below_drew1 | refine below_set ?_ GE470.out | refine below_set ?_ GE471.out | refine below_set ?_ GE533.out) | exact HB.out)) hb); clear HO517; clear HO521; clear HO525; clear BK470; clear BK471; clear BK533; clear HB; have HO517 := n0_; have HO521 := n1_; have HO525 := n2_; have BK470 := n3_; have BK471 := n4_; have BK533 := n5_; have HB := n6_; clear n0_ n1_ n2_ n3_ n4_ n5_ n6_; (try clear hb)) | (go_at_call 23; (with_reducible refine (impl_AreThreads.calls kj37 _ _ t514 t546 _ ?side1 ?side2 A119.out).mono ?_); (case side1 => exact cu_ (Kd.R_reads' HO517.out).2.2); (case side2 => exact (Kd.R_reads' HO517.out).2.1); rintro e w128 ⟨rfl, hb⟩; have n0_ := Aside0.mk (Kd.R_below (ru_ HO517.out) hb); have n1_ := Aside0.mk (Kd.R_below (ru_ HO521.out) hb); have n2_ := Aside0.mk (Kd.R_below (ru_ HO525.out) hb); have n3_ := Aside0.mk (blk_below (g := gb470) (o := .cells #[.int .i64 t466, .int .i64 t467] 25 (0, 0)) (by (with_reducible repeat (first | refine blk_drewN ?_ _ | refine blk_drew ?_ | refine blk_alloc ?_ _)); exact BK470.out) hb); have n4_ := Aside0.mk (blk_below (g := gb471) (o := .cells #[.int .i64 t468, .int .i64 t469] 25 (0, 0)) (by (with_reducible repeat (first | refine blk_drewN ?_ _ | refine blk_drew ?_ | refine blk_alloc ?_ _)); exact BK471.out) hb); have n5_ := Aside0.mk (blk_below (g := gb533) (o := .cells #[.int .i64 t530, .int .i64 t531] 25 (0, 0)) (by (with_reducible repeat (first | refine blk_drewN ?_ _ | refine blk_drew ?_ | refine blk_alloc ?_ _)); exact BK533.out) hb); have n6_ := Aside0.mk (below_step (by repeat (first | (with_reducible first | apply below_alloc | apply pw_below_drewN | apply below_drew1 | refine below_set ?_ GE470.out | refine below_set ?_ GE471.out | refine below_set ?_ GE533.out) | exact HB.out)) hb); clear HO517; clear HO521; clear HO525; clear BK470; clear BK471; clear BK533; clear HB; have HO517 := n0_; have HO521 := n1_; have HO525 := n2_; have BK470 := n3_; have BK471 := n4_; have BK533 := n5_; have HB := n6_; clear n0_ n1_ n2_ n3_ n4_ n5_ n6_; (try clear hb)) | (go_at_call 24; (with_reducible refine (spec_AreThreads.calls kj37 _ _ t514 t547 _ ?side1 ?side2 A120.out).mono ?_); (case side1 => exact cu_ (Kd.R_reads' HO517.out).2.2); (case side2 => exact (Kd.R_reads' HO517.out).2.1); rintro e w129 ⟨rfl, hb⟩; have n0_ := Aside0.mk (Kd.R_below (ru_ HO517.out) hb); have n1_ := Aside0.mk (Kd.R_below (ru_ HO521.out) hb); have n2_ := Aside0.mk (Kd.R_below (ru_ HO525.out) hb); have n3_ := Aside0.mk (blk_below (g := gb470) (o := .cells #[.int .i64 t466, .int .i64 t467] 25 (0, 0)) (by (with_reducible repeat (first | refine blk_drewN ?_ _ | refine blk_drew ?_ | refine blk_alloc ?_ _)); exact BK470.out) hb); have n4_ := Aside0.mk (blk_below (g := gb471) (o := .cells #[.int .i64 t468, .int .i64 t469] 25 (0, 0)) (by (with_reducible repeat (first | refine blk_drewN ?_ _ | refine blk_drew ?_ | refine blk_alloc ?_ _)); exact BK471.out) hb); have n5_ := Aside0.mk (blk_below (g := gb533) (o := .cells #[.int .i64 t530, .int .i64 t531] 25 (0, 0)) (by (with_reducible repeat (first | refine blk_drewN ?_ _ | refine blk_drew ?_ | refine blk_alloc ?_ _)); exact BK533.out) hb); have n6_ := Aside0.mk (below_step (by repeat (first | (with_reducible first | apply below_alloc | apply pw_below_drewN | apply below_drew1 | refine below_set ?_ GE470.out | refine below_set ?_ GE471.out | refine below_set ?_ GE533.out) | exact HB.out)) hb); clear HO517; clear HO521; clear HO525; clear BK470; clear BK471; clear BK533; clear HB; have HO517 := n0_; have HO521 := n1_; have HO525 := n2_; have BK470 := n3_; have BK471 := n4_; have BK533 := n5_; have HB := n6_; clear n0_ n1_ n2_ n3_ n4_ n5_ n6_; (try clear hb)))
                     go_meet
                     case rel => exact ⟨_, (!t541), (by first | rfl | (simp; done) | (simp [*]; done)), H', ⟨by have := HJ9.out; have := HJ37.out; first | omega | exact Nat.le_refl _⟩, ⟨by (with_reducible repeat (first | apply Kd.R_alloc | apply Kd.R_drewN | apply Kd.R_drew)); exact Kd.R_mono HO517.out (fun _ hk => ⟨hk.1.1.2, ⟨hk.1.2, hk.2⟩⟩)⟩, ⟨by (with_reducible repeat (first | apply Kd.R_alloc | apply Kd.R_drewN | apply Kd.R_drew)); exact Kd.R_mono HO521.out (fun _ hk => trivial)⟩, ⟨by (with_reducible repeat (first | refine blk_drewN ?_ _ | refine blk_drew ?_ | refine blk_alloc ?_ _)); exact BK470.out⟩, ⟨by (with_reducible repeat (first | refine blk_drewN ?_ _ | refine blk_drew ?_ | refine blk_alloc ?_ _)); exact BK471.out⟩, ⟨by (with_reducible repeat (first | refine blk_drewN ?_ _ | refine blk_drew ?_ | refine blk_alloc ?_ _)); exact BK533.out⟩, ⟨by repeat (first | (with_reducible first | apply below_alloc | apply pw_below_drewN | apply below_drew1 | refine below_set ?_ GE470.out | refine below_set ?_ GE471.out | refine below_set ?_ GE533.out) | exact HB.out)⟩⟩
                    ·as_aux_lemma =>
                     replace c124 := Bool.eq_false_iff.mpr c124
                     subst c124
                     rw [if_neg (show ¬ (false = true) by decide)] at H
                     have H' := Aside0.mk H
                     clear H
                     obtain ⟨Ao130, co130, eo130⟩ := Kd.R_slice HO521.out
                     subst eo130
                     obtain ⟨Ao131, co131, eo131⟩ := Kd.R_slice HO525.out
                     subst eo131
                     go_wp2_with (first | (go_at_call 11; (with_reducible refine (laws_gSame.calls kj37 _ _ t518 _ _ t522 true _ ?side1 ?side2 ?side3 ?side4 A108.out).mono ?_); (case side1 => exact cu_ (Kd.R_reads' HO521.out).2.2); (case side2 => exact (Kd.R_reads' HO521.out).2.1); (case side3 => exact cu_ (Kd.R_reads' HO525.out).2.2); (case side4 => exact (Kd.R_reads' HO525.out).2.1); rintro e w' ⟨rfl, ⟨nd, rfl⟩⟩) | (go_at_call 23; (with_reducible refine (impl_AreThreads.calls kj37 _ _ t514 t545 _ ?side1 ?side2 A117.out).mono ?_); (case side1 => exact cu_ (Kd.R_reads' HO517.out).2.2); (case side2 => exact (Kd.R_reads' HO517.out).2.1); rintro e w132 ⟨rfl, hb⟩; have n0_ := Aside0.mk (Kd.R_below (ru_ HO517.out) hb); have n1_ := Aside0.mk (Kd.R_below (ru_ HO521.out) hb); have n2_ := Aside0.mk (Kd.R_below (ru_ HO525.out) hb); have n3_ := Aside0.mk (blk_below (g := gb470) (o := .cells #[.int .i64 t466, .int .i64 t467] 25 (0, 0)) (by (with_reducible repeat (first | refine blk_drewN ?_ _ | refine blk_drew ?_ | refine blk_alloc ?_ _)); exact BK470.out) hb); have n4_ := Aside0.mk (blk_below (g := gb471) (o := .cells #[.int .i64 t468, .int .i64 t469] 25 (0, 0)) (by (with_reducible repeat (first | refine blk_drewN ?_ _ | refine blk_drew ?_ | refine blk_alloc ?_ _)); exact BK471.out) hb); have n5_ := Aside0.mk (blk_below (g := gb533) (o := .cells #[.int .i64 t530, .int .i64 t531] 25 (0, 0)) (by (with_reducible repeat (first | refine blk_drewN ?_ _ | refine blk_drew ?_ | refine blk_alloc ?_ _)); exact BK533.out) hb); have n6_ := Aside0.mk (below_step (by repeat (first | (with_reducible first | apply below_alloc | apply pw_below_drewN | apply below_drew1 | refine below_set ?_ GE470.out | refine below_set ?_ GE471.out | refine below_set ?_ GE533.out) | exact HB.out)) hb); clear HO517; clear HO521; clear HO525; clear BK470; clear BK471; clear BK533; clear HB; have HO517 := n0_; have HO521 := n1_; have HO525 := n2_; have BK470 := n3_; have BK471 := n4_; have BK533 := n5_; have HB := n6_; clear n0_ n1_ n2_ n3_ n4_ n5_ n6_; (try clear hb)) | (go_at_call 23; (with_reducible refine (impl_AreThreads.calls kj37 _ _ t514 t546 _ ?side1 ?side2 A119.out).mono ?_); (case side1 => exact cu_ (Kd.R_reads' HO517.out).2.2); (case side2 => exact (Kd.R_reads' HO517.out).2.1); rintro e w133 ⟨rfl, hb⟩; have n0_ := Aside0.mk (Kd.R_below (ru_ HO517.out) hb); have n1_ := Aside0.mk (Kd.R_below (ru_ HO521.out) hb); have n2_ := Aside0.mk (Kd.R_below (ru_ HO525.out) hb); have n3_ := Aside0.mk (blk_below (g := gb470) (o := .cells #[.int .i64 t466, .int .i64 t467] 25 (0, 0)) (by (with_reducible repeat (first | refine blk_drewN ?_ _ | refine blk_drew ?_ | refine blk_alloc ?_ _)); exact BK470.out) hb); have n4_ := Aside0.mk (blk_below (g := gb471) (o := .cells #[.int .i64 t468, .int .i64 t469] 25 (0, 0)) (by (with_reducible repeat (first | refine blk_drewN ?_ _ | refine blk_drew ?_ | refine blk_alloc ?_ _)); exact BK471.out) hb); have n5_ := Aside0.mk (blk_below (g := gb533) (o := .cells #[.int .i64 t530, .int .i64 t531] 25 (0, 0)) (by (with_reducible repeat (first | refine blk_drewN ?_ _ | refine blk_drew ?_ | refine blk_alloc ?_ _)); exact BK533.out) hb); have n6_ := Aside0.mk (below_step (by repeat (first | (with_reducible first | apply below_alloc | apply pw_below_drewN | apply below_drew1 | refine below_set ?_ GE470.out | refine below_set ?_ GE471.out | refine below_set ?_ GE533.out) | exact HB.out)) hb); clear HO517; clear HO521; clear HO525; clear BK470; clear BK471; clear BK533; clear HB; have HO517 := n0_; have HO521 := n1_; have HO525 := n2_; have BK470 := n3_; have BK471 := n4_; have BK533 := n5_; have HB := n6_; clear n0_ n1_ n2_ n3_ n4_ n5_ n6_; (try clear hb)) | (go_at_call 24; (with_reducible refine (spec_AreThreads.calls kj37 _ _ t514 t547 _ ?side1 ?side2 A120.out).mono ?_); (case side1 => exact cu_ (Kd.R_reads' HO517.out).2.2); (case side2 => exact (Kd.R_reads' HO517.out).2.1); rintro e w134 ⟨rfl, hb⟩; have n0_ := Aside0.mk (Kd.R_below (ru_ HO517.out) hb); have n1_ := Aside0.mk (Kd.R_below (ru_ HO521.out) hb); have n2_ := Aside0.mk (Kd.R_below (ru_ HO525.out) hb); have n3_ := Aside0.mk (blk_below (g := gb470) (o := .cells #[.int .i64 t466, .int .i64 t467] 25 (0, 0)) (by (with_reducible repeat (first | refine blk_drewN ?_ _ | refine blk_drew ?_ | refine blk_alloc ?_ _)); exact BK470.out) hb); have n4_ := Aside0.mk (blk_below (g := gb471) (o := .cells #[.int .i64 t468, .int .i64 t469] 25 (0, 0)) (by (with_reducible repeat (first | refine blk_drewN ?_ _ | refine blk_drew ?_ | refine blk_alloc ?_ _)); exact BK471.out) hb); have n5_ := Aside0.mk (blk_below (g := gb533) (o := .cells #[.int .i64 t530, .int .i64 t531] 25 (0, 0)) (by (with_reducible repeat (first | refine blk_drewN ?_ _ | refine blk_drew ?_ | refine blk_alloc ?_ _)); exact BK533.out) hb); have n6_ := Aside0.mk (below_step (by repeat (first | (with_reducible first | apply below_alloc | apply pw_below_drewN | apply below_drew1 | refine below_set ?_ GE470.out | refine below_set ?_ GE471.out | refine below_set ?_ GE533.out) | exact HB.out)) hb); clear HO517; clear HO521; clear HO525; clear BK470; clear BK471; clear BK533; clear HB; have HO517 := n0_; have HO521 := n1_; have HO525 := n2_; have BK470 := n3_; have BK471 := n4_; have BK533 := n5_; have HB := n6_; clear n0_ n1_ n2_ n3_ n4_ n5_ n6_; (try clear hb)))
                     go_meet
                     case rel => exact ⟨_, (false), (by first | rfl | (simp; done) | (simp [*]; done)), H', ⟨by have := HJ9.out; have := HJ37.out; first | omega | exact Nat.le_refl _⟩, ⟨by (with_reducible repeat (first | apply Kd.R_alloc | apply Kd.R_drewN | apply Kd.R_drew)); exact Kd.R_mono HO517.out (fun _ hk => ⟨hk.1.1.2, ⟨hk.1.2, hk.2⟩⟩)⟩, ⟨by (with_reducible repeat (first | apply Kd.R_alloc | apply Kd.R_drewN | apply Kd.R_drew)); exact Kd.R_mono HO521.out (fun _ hk => trivial)⟩, ⟨by (with_reducible repeat (first | refine blk_drewN ?_ _ | refine blk_drew ?_ | refine blk_alloc ?_ _)); exact BK470.out⟩, ⟨by (with_reducible repeat (first | refine blk_drewN ?_ _ | refine blk_drew ?_ | refine blk_alloc ?_ _)); exact BK471.out⟩, ⟨by (with_reducible repeat (first | refine blk_drewN ?_ _ | refine blk_drew ?_ | refine blk_alloc ?_ _)); exact BK533.out⟩, ⟨by repeat (first | (with_reducible first | apply below_alloc | apply pw_below_drewN | apply below_drew1 | refine below_set ?_ GE470.out | refine below_set ?_ GE471.out | refine below_set ?_ GE533.out) | exact HB.out)⟩⟩
                   ·replace c123 := Bool.eq_false_iff.mpr c123
                    subst c123
                    rw [if_neg (show ¬ (false = true) by decide)] at H
                    exact absurd H (by simp)
                  ·replace c122 := Bool.eq_false_iff.mpr c122
                   subst c122
                   rw [if_neg (show ¬ (false = true) by decide)] at H
                   by_cases c135 : t536 = true
                   ·as_aux_lemma =>
                    subst c135
                    rw [if_pos rfl] at H
                    have H' := Aside0.mk H
                    clear H
                    obtain ⟨Ao136, co136, eo136⟩ := Kd.R_slice HO521.out
                    subst eo136
                    obtain ⟨Ao137, co137, eo137⟩ := Kd.R_slice HO525.out
                    subst eo137
                    go_wp2_with (first | (go_at_call 11; (with_reducible refine (laws_gSame.calls kj37 _ _ t518 _ _ t522 true _ ?side1 ?side2 ?side3 ?side4 A108.out).mono ?_); (case side1 => exact cu_ (Kd.R_reads' HO521.out).2.2); (case side2 => exact (Kd.R_reads' HO521.out).2.1); (case side3 => exact cu_ (Kd.R_reads' HO525.out).2.2); (case side4 => exact (Kd.R_reads' HO525.out).2.1); rintro e w' ⟨rfl, ⟨nd, rfl⟩⟩) | (go_at_call 23; (with_reducible refine (impl_AreThreads.calls kj37 _ _ t514 t545 _ ?side1 ?side2 A117.out).mono ?_); (case side1 => exact cu_ (Kd.R_reads' HO517.out).2.2); (case side2 => exact (Kd.R_reads' HO517.out).2.1); rintro e w138 ⟨rfl, hb⟩; have n0_ := Aside0.mk (Kd.R_below (ru_ HO517.out) hb); have n1_ := Aside0.mk (Kd.R_below (ru_ HO521.out) hb); have n2_ := Aside0.mk (Kd.R_below (ru_ HO525.out) hb); have n3_ := Aside0.mk (blk_below (g := gb470) (o := .cells #[.int .i64 t466, .int .i64 t467] 25 (0, 0)) (by (with_reducible repeat (first | refine blk_drewN ?_ _ | refine blk_drew ?_ | refine blk_alloc ?_ _)); exact BK470.out) hb); have n4_ := Aside0.mk (blk_below (g := gb471) (o := .cells #[.int .i64 t468, .int .i64 t469] 25 (0, 0)) (by (with_reducible repeat (first | refine blk_drewN ?_ _ | refine blk_drew ?_ | refine blk_alloc ?_ _)); exact BK471.out) hb); have n5_ := Aside0.mk (blk_below (g := gb533) (o := .cells #[.int .i64 t530, .int .i64 t531] 25 (0, 0)) (by (with_reducible repeat (first | refine blk_drewN ?_ _ | refine blk_drew ?_ | refine blk_alloc ?_ _)); exact BK533.out) hb); have n6_ := Aside0.mk (below_step (by repeat (first | (with_reducible first | apply below_alloc | apply pw_below_drewN | apply below_drew1 | refine below_set ?_ GE470.out | refine below_set ?_ GE471.out | refine below_set ?_ GE533.out) | exact HB.out)) hb); clear HO517; clear HO521; clear HO525; clear BK470; clear BK471; clear BK533; clear HB; have HO517 := n0_; have HO521 := n1_; have HO525 := n2_; have BK470 := n3_; have BK471 := n4_; have BK533 := n5_; have HB := n6_; clear n0_ n1_ n2_ n3_ n4_ n5_ n6_; (try clear hb)) | (go_at_call 23; (with_reducible refine (impl_AreThreads.calls kj37 _ _ t514 t546 _ ?side1 ?side2 A119.out).mono ?_); (case side1 => exact cu_ (Kd.R_reads' HO517.out).2.2); (case side2 => exact (Kd.R_reads' HO517.out).2.1); rintro e w139 ⟨rfl, hb⟩; have n0_ := Aside0.mk (Kd.R_below (ru_ HO517.out) hb); have n1_ := Aside0.mk (Kd.R_below (ru_ HO521.out) hb); have n2_ := Aside0.mk (Kd.R_below (ru_ HO525.out) hb); have n3_ := Aside0.mk (blk_below (g := gb470) (o := .cells #[.int .i64 t466, .int .i64 t467] 25 (0, 0)) (by (with_reducible repeat (first | refine blk_drewN ?_ _ | refine blk_drew ?_ | refine blk_alloc ?_ _)); exact BK470.out) hb); have n4_ := Aside0.mk (blk_below (g := gb471) (o := .cells #[.int .i64 t468, .int .i64 t469] 25 (0, 0)) (by (with_reducible repeat (first | refine blk_drewN ?_ _ | refine blk_drew ?_ | refine blk_alloc ?_ _)); exact BK471.out) hb); have n5_ := Aside0.mk (blk_below (g := gb533) (o := .cells #[.int .i64 t530, .int .i64 t531] 25 (0, 0)) (by (with_reducible repeat (first | refine blk_drewN ?_ _ | refine blk_drew ?_ | refine blk_alloc ?_ _)); exact BK533.out) hb); have n6_ := Aside0.mk (below_step (by repeat (first | (with_reducible first | apply below_alloc | apply pw_below_drewN | apply below_drew1 | refine below_set ?_ GE470.out | refine below_set ?_ GE471.out | refine below_set ?_ GE533.out) | exact HB.out)) hb); clear HO517; clear HO521; clear HO525; clear BK470; clear BK471; clear BK533; clear HB; have HO517 := n0_; have HO521 := n1_; have HO525 := n2_; have BK470 := n3_; have BK471 := n4_; have BK533 := n5_; have HB := n6_; clear n0_ n1_ n2_ n3_ n4_ n5_ n6_; (try clear hb)) | (go_at_call 24; (with_reducible refine (spec_AreThreads.calls kj37 _ _ t514 t547 _ ?side1 ?side2 A120.out).mono ?_); (case side1 => exact cu_ (Kd.R_reads' HO517.out).2.2); (case side2 => exact (Kd.R_reads' HO517.out).2.1); rintro e w140 ⟨rfl, hb⟩; have n0_ := Aside0.mk (Kd.R_below (ru_ HO517.out) hb); have n1_ := Aside0.mk (Kd.R_below (ru_ HO521.out) hb); have n2_ := Aside0.mk (Kd.R_below (ru_ HO525.out) hb); have n3_ := Aside0.mk (blk_below (g := gb470) (o := .cells #[.int .i64 t466, .int .i64 t467] 25 (0, 0)) (by (with_reducible repeat (first | refine blk_drewN ?_ _ | refine blk_drew ?_ | refine blk_alloc ?_ _)); exact BK470.out) hb); have n4_ := Aside0.mk (blk_below (g := gb471) (o := .cells #[.int .i64 t468, .int .i64 t469] 25 (0, 0)) (by (with_reducible repeat (first | refine blk_drewN ?_ _ | refine blk_drew ?_ | refine blk_alloc ?_ _)); exact BK471.out) hb); have n5_ := Aside0.mk (blk_below (g := gb533) (o := .cells #[.int .i64 t530, .int .i64 t531] 25 (0, 0)) (by (with_reducible repeat (first | refine blk_drewN ?_ _ | refine blk_drew ?_ | refine blk_alloc ?_ _)); exact BK533.out) hb); have n6_ := Aside0.mk (below_step (by repeat (first | (with_reducible first | apply below_alloc | apply pw_below_drewN | apply below_drew1 | refine below_set ?_ GE470.out | refine below_set ?_ GE471.out | refine below_set ?_ GE533.out) | exact HB.out)) hb); clear HO517; clear HO521; clear HO525; clear BK470; clear BK471; clear BK533; clear HB; have HO517 := n0_; have HO521 := n1_; have HO525 := n2_; have BK470 := n3_; have BK471 := n4_; have BK533 := n5_; have HB := n6_; clear n0_ n1_ n2_ n3_ n4_ n5_ n6_; (try clear hb)))
                    go_meet
                    case rel => exact ⟨_, (!t541), (by first | rfl | (simp; done) | (simp [*]; done)), H', ⟨by have := HJ9.out; have := HJ37.out; first | omega | exact Nat.le_refl _⟩, ⟨by (with_reducible repeat (first | apply Kd.R_alloc | apply Kd.R_drewN | apply Kd.R_drew)); exact Kd.R_mono HO517.out (fun _ hk => ⟨hk.1.1.2, ⟨hk.1.2, hk.2⟩⟩)⟩, ⟨by (with_reducible repeat (first | apply Kd.R_alloc | apply Kd.R_drewN | apply Kd.R_drew)); exact Kd.R_mono HO521.out (fun _ hk => trivial)⟩, ⟨by (with_reducible repeat (first | refine blk_drewN ?_ _ | refine blk_drew ?_ | refine blk_alloc ?_ _)); exact BK470.out⟩, ⟨by (with_reducible repeat (first | refine blk_drewN ?_ _ | refine blk_drew ?_ | refine blk_alloc ?_ _)); exact BK471.out⟩, ⟨by (with_reducible repeat (first | refine blk_drewN ?_ _ | refine blk_drew ?_ | refine blk_alloc ?_ _)); exact BK533.out⟩, ⟨by repeat (first | (with_reducible first | apply below_alloc | apply pw_below_drewN | apply below_drew1 | refine below_set ?_ GE470.out | refine below_set ?_ GE471.out | refine below_set ?_ GE533.out) | exact HB.out)⟩⟩
                   ·as_aux_lemma =>
                    replace c135 := Bool.eq_false_iff.mpr c135
                    subst c135
                    rw [if_neg (show ¬ (false = true) by decide)] at H
                    have H' := Aside0.mk H
                    clear H
                    obtain ⟨Ao141, co141, eo141⟩ := Kd.R_slice HO521.out
                    subst eo141
                    obtain ⟨Ao142, co142, eo142⟩ := Kd.R_slice HO525.out
                    subst eo142
                    go_wp2_with (first | (go_at_call 11; (with_reducible refine (laws_gSame.calls kj37 _ _ t518 _ _ t522 true _ ?side1 ?side2 ?side3 ?side4 A108.out).mono ?_); (case side1 => exact cu_ (Kd.R_reads' HO521.out).2.2); (case side2 => exact (Kd.R_reads' HO521.out).2.1); (case side3 => exact cu_ (Kd.R_reads' HO525.out).2.2); (case side4 => exact (Kd.R_reads' HO525.out).2.1); rintro e w' ⟨rfl, ⟨nd, rfl⟩⟩) | (go_at_call 23; (with_reducible refine (impl_AreThreads.calls kj37 _ _ t514 t545 _ ?side1 ?side2 A117.out).mono ?_); (case side1 => exact cu_ (Kd.R_reads' HO517.out).2.2); (case side2 => exact (Kd.R_reads' HO517.out).2.1); rintro e w143 ⟨rfl, hb⟩; have n0_ := Aside0.mk (Kd.R_below (ru_ HO517.out) hb); have n1_ := Aside0.mk (Kd.R_below (ru_ HO521.out) hb); have n2_ := Aside0.mk (Kd.R_below (ru_ HO525.out) hb); have n3_ := Aside0.mk (blk_below (g := gb470) (o := .cells #[.int .i64 t466, .int .i64 t467] 25 (0, 0)) (by (with_reducible repeat (first | refine blk_drewN ?_ _ | refine blk_drew ?_ | refine blk_alloc ?_ _)); exact BK470.out) hb); have n4_ := Aside0.mk (blk_below (g := gb471) (o := .cells #[.int .i64 t468, .int .i64 t469] 25 (0, 0)) (by (with_reducible repeat (first | refine blk_drewN ?_ _ | refine blk_drew ?_ | refine blk_alloc ?_ _)); exact BK471.out) hb); have n5_ := Aside0.mk (blk_below (g := gb533) (o := .cells #[.int .i64 t530, .int .i64 t531] 25 (0, 0)) (by (with_reducible repeat (first | refine blk_drewN ?_ _ | refine blk_drew ?_ | refine blk_alloc ?_ _)); exact BK533.out) hb); have n6_ := Aside0.mk (below_step (by repeat (first | (with_reducible first | apply below_alloc | apply pw_below_drewN | apply below_drew1 | refine below_set ?_ GE470.out | refine below_set ?_ GE471.out | refine below_set ?_ GE533.out) | exact HB.out)) hb); clear HO517; clear HO521; clear HO525; clear BK470; clear BK471; clear BK533; clear HB; have HO517 := n0_; have HO521 := n1_; have HO525 := n2_; have BK470 := n3_; have BK471 := n4_; have BK533 := n5_; have HB := n6_; clear n0_ n1_ n2_ n3_ n4_ n5_ n6_; (try clear hb)) | (go_at_call 23; (with_reducible refine (impl_AreThreads.calls kj37 _ _ t514 t546 _ ?side1 ?side2 A119.out).mono ?_); (case side1 => exact cu_ (Kd.R_reads' HO517.out).2.2); (case side2 => exact (Kd.R_reads' HO517.out).2.1); rintro e w144 ⟨rfl, hb⟩; have n0_ := Aside0.mk (Kd.R_below (ru_ HO517.out) hb); have n1_ := Aside0.mk (Kd.R_below (ru_ HO521.out) hb); have n2_ := Aside0.mk (Kd.R_below (ru_ HO525.out) hb); have n3_ := Aside0.mk (blk_below (g := gb470) (o := .cells #[.int .i64 t466, .int .i64 t467] 25 (0, 0)) (by (with_reducible repeat (first | refine blk_drewN ?_ _ | refine blk_drew ?_ | refine blk_alloc ?_ _)); exact BK470.out) hb); have n4_ := Aside0.mk (blk_below (g := gb471) (o := .cells #[.int .i64 t468, .int .i64 t469] 25 (0, 0)) (by (with_reducible repeat (first | refine blk_drewN ?_ _ | refine blk_drew ?_ | refine blk_alloc ?_ _)); exact BK471.out) hb); have n5_ := Aside0.mk (blk_below (g := gb533) (o := .cells #[.int .i64 t530, .int .i64 t531] 25 (0, 0)) (by (with_reducible repeat (first | refine blk_drewN ?_ _ | refine blk_drew ?_ | refine blk_alloc ?_ _)); exact BK533.out) hb); have n6_ := Aside0.mk (below_step (by repeat (first | (with_reducible first | apply below_alloc | apply pw_below_drewN | apply below_drew1 | refine below_set ?_ GE470.out | refine below_set ?_ GE471.out | refine below_set ?_ GE533.out) | exact HB.out)) hb); clear HO517; clear HO521; clear HO525; clear BK470; clear BK471; clear BK533; clear HB; have HO517 := n0_; have HO521 := n1_; have HO525 := n2_; have BK470 := n3_; have BK471 := n4_; have BK533 := n5_; have HB := n6_; clear n0_ n1_ n2_ n3_ n4_ n5_ n6_; (try clear hb)) | (go_at_call 24; (with_reducible refine (spec_AreThreads.calls kj37 _ _ t514 t547 _ ?side1 ?side2 A120.out).mono ?_); (case side1 => exact cu_ (Kd.R_reads' HO517.out).2.2); (case side2 => exact (Kd.R_reads' HO517.out).2.1); rintro e w145 ⟨rfl, hb⟩; have n0_ := Aside0.mk (Kd.R_below (ru_ HO517.out) hb); have n1_ := Aside0.mk (Kd.R_below (ru_ HO521.out) hb); have n2_ := Aside0.mk (Kd.R_below (ru_ HO525.out) hb); have n3_ := Aside0.mk (blk_below (g := gb470) (o := .cells #[.int .i64 t466, .int .i64 t467] 25 (0, 0)) (by (with_reducible repeat (first | refine blk_drewN ?_ _ | refine blk_drew ?_ | refine blk_alloc ?_ _)); exact BK470.out) hb); have n4_ := Aside0.mk (blk_below (g := gb471) (o := .cells #[.int .i64 t468, .int .i64 t469] 25 (0, 0)) (by (with_reducible repeat (first | refine blk_drewN ?_ _ | refine blk_drew ?_ | refine blk_alloc ?_ _)); exact BK471.out) hb); have n5_ := Aside0.mk (blk_below (g := gb533) (o := .cells #[.int .i64 t530, .int .i64 t531] 25 (0, 0)) (by (with_reducible repeat (first | refine blk_drewN ?_ _ | refine blk_drew ?_ | refine blk_alloc ?_ _)); exact BK533.out) hb); have n6_ := Aside0.mk (below_step (by repeat (first | (with_reducible first | apply below_alloc | apply pw_below_drewN | apply below_drew1 | refine below_set ?_ GE470.out | refine below_set ?_ GE471.out | refine below_set ?_ GE533.out) | exact HB.out)) hb); clear HO517; clear HO521; clear HO525; clear BK470; clear BK471; clear BK533; clear HB; have HO517 := n0_; have HO521 := n1_; have HO525 := n2_; have BK470 := n3_; have BK471 := n4_; have BK533 := n5_; have HB := n6_; clear n0_ n1_ n2_ n3_ n4_ n5_ n6_; (try clear hb)))
                    go_meet
                    case rel => exact ⟨_, (false), (by first | rfl | (simp; done) | (simp [*]; done)), H', ⟨by have := HJ9.out; have := HJ37.out; first | omega | exact Nat.le_refl _⟩, ⟨by (with_reducible repeat (first | apply Kd.R_alloc | apply Kd.R_drewN | apply Kd.R_drew)); exact Kd.R_mono HO517.out (fun _ hk => ⟨hk.1.1.2, ⟨hk.1.2, hk.2⟩⟩)⟩, ⟨by (with_reducible repeat (first | apply Kd.R_alloc | apply Kd.R_drewN | apply Kd.R_drew)); exact Kd.R_mono HO521.out (fun _ hk => trivial)⟩, ⟨by (with_reducible repeat (first | refine blk_drewN ?_ _ | refine blk_drew ?_ | refine blk_alloc ?_ _)); exact BK470.out⟩, ⟨by (with_reducible repeat (first | refine blk_drewN ?_ _ | refine blk_drew ?_ | refine blk_alloc ?_ _)); exact BK471.out⟩, ⟨by (with_reducible repeat (first | refine blk_drewN ?_ _ | refine blk_drew ?_ | refine blk_alloc ?_ _)); exact BK533.out⟩, ⟨by repeat (first | (with_reducible first | apply below_alloc | apply pw_below_drewN | apply below_drew1 | refine below_set ?_ GE470.out | refine below_set ?_ GE471.out | refine below_set ?_ GE533.out) | exact HB.out)⟩⟩
               ·rw [if_neg c116] at H
                exact absurd H (by simp)
             ·rw [if_neg c114] at H
              exact absurd H (by simp)
            ·rw [if_neg c113] at H
             exact absurd H (by simp)
          ·rw [if_neg c111] at H
           exact absurd H (by simp)
        ·replace c109 := Bool.eq_false_iff.mpr c109
         subst c109
         rw [if_neg (show ¬ (false = true) by decide)] at H
         exact absurd H (by simp)
      case rest =>
       as_aux_lemma =>
       clear HC88
       (try clear c1); (try clear c2); (try clear p2); (try clear c3); (try clear c4); (try clear c5); (try clear p5); (try clear q5); (try clear hx5); (try clear qi5); (try clear c6); (try clear c9); (try clear c10); (try clear c11); (try clear c12); (try clear c13); (try clear c14); (try clear c15); (try clear c16); (try clear c17); (try clear c18); (try clear c19); (try clear c20); (try clear c21); (try clear c22); (try clear c39); (try clear c42); (try clear c42b0); (try clear c42b1); (try clear c43); (try clear c44); (try clear c46); (try clear c47); (try clear c48); (try clear c50); (try clear p51); (try clear q51); (try clear hx51); (try clear qi51); (try clear c53); (try clear c55); (try clear c56); (try clear c58); (try clear c59); (try clear c60); (try clear c97); (try clear c98); (try clear c107); (try clear c107b0); (try clear c107b1); (try clear c107b2); (try clear c109); (try clear c110); (try clear c110b0); (try clear c110b1); (try clear c110b2); (try clear c111); (try clear c111b0); (try clear c111b1); (try clear c112); (try clear c112b0); (try clear c112b1); (try clear c112b2); (try clear c113); (try clear c113b0); (try clear c113b1); (try clear c114); (try clear c114b0); (try clear c114b1); (try clear c115); (try clear c115b0); (try clear c115b1); (try clear c115b2); (try clear c116); (try clear c116b0); (try clear c116b1); (try clear c118); (try clear c118b0); (try clear c118b1); (try clear c118b2); (try clear c121); (try clear c121b0); (try clear c121b1); (try clear c121b2); (try clear c122); (try clear c123); (try clear c124); (try clear c135); (try clear hcz101_0); (try clear hcz101_1); (try clear hcz103_0); (try clear hcz103_1); (try clear hcz105_0); (try clear hcz105_1); (try clear hcz76_0); (try clear hcz76_1); (try clear hcz77_0); (try clear hcz77_1); (try clear hcz99_0); (try clear hcz99_1); (try clear hfz101_0); (try clear hfz101_1); (try clear hfz103_0); (try clear hfz103_1); (try clear hfz105_0); (try clear hfz105_1); (try clear hfz76_0); (try clear hfz76_1); (try clear hfz77_0); (try clear hfz77_1); (try clear hfz99_0); (try clear hfz99_1); (try clear hx510_0); (try clear hx511_0); (try clear hx512_0); (try clear hx513_0); (try clear p2); (try clear p5); (try clear p51); (try clear p510); (try clear p511); (try clear p512); (try clear p513); (try clear q5); (try clear q51); (try clear q510); (try clear q511); (try clear q512); (try clear q513)
       obtain ⟨kq, x388_87, rfl, HA, HJ87, HO_23, HO_25, BK470, BK471, BK533, HB⟩ := hcut
       cases kq with
       | zero => exact absurd HA.out (by simp [laws_FnThreadsMeet.j2])
       | succ kj87 =>
        have H := HA.out
        clear HA
        simp only [laws_FnThreadsMeet.j2] at H
        by_cases c146 : x388_87 = true
        ·subst c146
         rw [if_pos rfl] at H
         exact absurd H (by simp)
        as_aux_lemma =>
        replace c146 := Bool.eq_false_iff.mpr c146
        subst c146
        rw [if_neg (show ¬ (false = true) by decide)] at H
        have HC147 := Aside0.mk H
        clear H
        go_upto_if 389 with (fail)
        go_cut [] from 100000 to 100000 (fun wc => ∃ (kq : Nat), Aside0 (laws_FnThreadsMeet.j5 kq t532 t534 t535 t536 t540 t530 t531 = some r) ∧ Aside0 (kq ≤ kj87) ∧ Aside0 (wc.heap[gb470]? = some (.cells #[.int .i64 t466, .int .i64 t467] 25 (0, 0))) ∧ Aside0 (wc.heap[gb471]? = some (.cells #[.int .i64 t468, .int .i64 t469] 25 (0, 0))) ∧ Aside0 (wc.heap[gb533]? = some (.cells #[.int .i64 t530, .int .i64 t531] 25 (0, 0))) ∧ Aside0 (Below w.heap.size w wc))
        case first =>
         as_aux_lemma =>
         have H := HC147.out
         clear HC147
         by_cases c148 : t519 = true
         ·as_aux_lemma =>
          subst c148
          rw [if_pos rfl] at H
          have H' := Aside0.mk H
          clear H
          go_wp2
          go_loopg [45, 392] kj87 (fun kq v45 v392 w' => ∃ (x45_4 : Int) (x392_4 : Int), v45 = .int .i64 x45_4 ∧ v392 = .int .i64 x392_4 ∧ Aside0 (laws_FnThreadsMeet.l0 kq t514 t515 t518 t526 t532 t534 t535 t536 t540 x45_4 (t514.length : Int) x392_4 t530 t531 = some r) ∧ Aside0 (kq ≤ kj87) ∧ Aside0 (Kd.R k25 25 w' w.heap.size (fun k_ => k_ ≠ gb470 ∧ k_ ≠ gb471 ∧ k_ ≠ gb533) (.slice Ao90 t514.length co90) t514) ∧ Aside0 (Kd.R (Kd.int .i64) 3 w' w.heap.size (fun _ => True) v520 t518) ∧ Aside0 (w'.heap[gb470]? = some (.cells #[.int .i64 t466, .int .i64 t467] 25 (0, 0))) ∧ Aside0 (w'.heap[gb471]? = some (.cells #[.int .i64 t468, .int .i64 t469] 25 (0, 0))) ∧ Aside0 (w'.heap[gb533]? = some (.cells #[.int .i64 t530, .int .i64 t531] 25 (0, 0))) ∧ Aside0 (Below w.heap.size w w'))
          case atStart => exact ⟨(0), (0), (by first | rfl | (simp; done) | (simp [*]; done)), (by first | rfl | (simp; done) | (simp [*]; done)), H', ⟨Nat.le_refl _⟩, ⟨by (with_reducible repeat (first | apply Kd.R_alloc | apply Kd.R_drewN | apply Kd.R_drew)); exact HO_23.out⟩, ⟨by (with_reducible repeat (first | apply Kd.R_alloc | apply Kd.R_drewN | apply Kd.R_drew)); exact HO_25.out⟩, ⟨by (with_reducible repeat (first | refine blk_drewN ?_ _ | refine blk_drew ?_ | refine blk_alloc ?_ _)); exact BK470.out⟩, ⟨by (with_reducible repeat (first | refine blk_drewN ?_ _ | refine blk_drew ?_ | refine blk_alloc ?_ _)); exact BK471.out⟩, ⟨by (with_reducible repeat (first | refine blk_drewN ?_ _ | refine blk_drew ?_ | refine blk_alloc ?_ _)); exact BK533.out⟩, ⟨by repeat (first | (with_reducible first | apply below_alloc | apply pw_below_drewN | apply below_drew1 | refine below_set ?_ GE470.out | refine below_set ?_ GE471.out | refine below_set ?_ GE533.out) | exact HB.out)⟩⟩
          case round =>
           as_aux_lemma =>
           clear H'
           (try clear c1); (try clear c2); (try clear p2); (try clear c3); (try clear c4); (try clear c5); (try clear p5); (try clear q5); (try clear hx5); (try clear qi5); (try clear c6); (try clear c9); (try clear c10); (try clear c11); (try clear c12); (try clear c13); (try clear c14); (try clear c15); (try clear c16); (try clear c17); (try clear c18); (try clear c19); (try clear c20); (try clear c21); (try clear c22); (try clear c39); (try clear c42); (try clear c42b0); (try clear c42b1); (try clear c43); (try clear c44); (try clear c46); (try clear c47); (try clear c48); (try clear c50); (try clear p51); (try clear q51); (try clear hx51); (try clear qi51); (try clear c53); (try clear c55); (try clear c56); (try clear c58); (try clear c59); (try clear c60); (try clear c97); (try clear c98); (try clear c107); (try clear c107b0); (try clear c107b1); (try clear c107b2); (try clear c109); (try clear c110); (try clear c110b0); (try clear c110b1); (try clear c110b2); (try clear c111); (try clear c111b0); (try clear c111b1); (try clear c112); (try clear c112b0); (try clear c112b1); (try clear c112b2); (try clear c113); (try clear c113b0); (try clear c113b1); (try clear c114); (try clear c114b0); (try clear c114b1); (try clear c115); (try clear c115b0); (try clear c115b1); (try clear c115b2); (try clear c116); (try clear c116b0); (try clear c116b1); (try clear c118); (try clear c118b0); (try clear c118b1); (try clear c118b2); (try clear c121); (try clear c121b0); (try clear c121b1); (try clear c121b2); (try clear c122); (try clear c123); (try clear c124); (try clear c135); (try clear c146); (try clear c148); (try clear hcz101_0); (try clear hcz101_1); (try clear hcz103_0); (try clear hcz103_1); (try clear hcz105_0); (try clear hcz105_1); (try clear hcz76_0); (try clear hcz76_1); (try clear hcz77_0); (try clear hcz77_1); (try clear hcz99_0); (try clear hcz99_1); (try clear hfz101_0); (try clear hfz101_1); (try clear hfz103_0); (try clear hfz103_1); (try clear hfz105_0); (try clear hfz105_1); (try clear hfz76_0); (try clear hfz76_1); (try clear hfz77_0); (try clear hfz77_1); (try clear hfz99_0); (try clear hfz99_1); (try clear hx510_0); (try clear hx511_0); (try clear hx512_0); (try clear hx513_0); (try clear p2); (try clear p5); (try clear p51); (try clear p510); (try clear p511); (try clear p512); (try clear p513); (try clear q5); (try clear q51); (try clear q510); (try clear q511); (try clear q512); (try clear q513)
           obtain ⟨x45_4, x392_4, rfl, rfl, HA, HK4, HO_23, HO_25, BK470, BK471, BK533, HB⟩ := hrel
           cases gk with
           | zero => exact absurd HA.out (by simp [laws_FnThreadsMeet.l0])
           | succ k4 =>
            have H := HA.out
            clear HA
            simp only [laws_FnThreadsMeet.l0] at H
            by_cases c149 : x392_4 < (t514.length : Int)
            ·rw [if_pos c149] at H
             have c149b0 : decide (x392_4 < (t514.length : Int)) = true := decide_eq_true c149
             clear c149
             (first | rw [c149b0] | (simp only [i64_w, i32_w]; rw [c149b0]) | skip)
             replace H := Option.bind_eq_some_iff.mp H
             obtain ⟨⟨t548, t549⟩, A1500, H⟩ := H
             (try dsimp only at H)
             have A150 := Aside0.mk A1500
             clear A1500
             by_cases c151 : t549 = true
             ·as_aux_lemma =>
              subst c151
              rw [if_pos rfl] at H
              have H' := Aside0.mk H
              clear H
              go_wp2_with (first | ((with_reducible refine gate_callee (f := 14) rfl ?_); refine gl_ (some 398) Try.func14 #[.slice Ao90 t514.length co90, .int .i64 x392_4] ?_; (with_reducible refine (impl_MeetingsOnThread.calls k4 _ _ t514 x392_4 t548 true _ ?side1 ?side2 A150.out).mono ?_); (case side1 => exact cu_ (Kd.R_reads' HO_23.out).2.2); (case side2 => exact (Kd.R_reads' HO_23.out).2.1); rintro e w152 ⟨v550, rfl, ho0, hb⟩; refine ⟨_, rfl, ?_⟩; have n0_ := Aside0.mk (Kd.R_below (ru_ HO_23.out) hb); have n1_ := Aside0.mk (Kd.R_elder' (ru_ HO_25.out) (Kd.R_base ho0) hb); have n2_ := Aside0.mk (Kd.R_lower (Kd.R_new' ho0 (Kd.R_lt (ru_ HO_25.out))) (below_size (by repeat (first | (with_reducible first | apply below_alloc | apply pw_below_drewN | apply below_drew1 | refine below_set ?_ GE470.out | refine below_set ?_ GE471.out | refine below_set ?_ GE533.out) | exact HB.out)))); have n3_ := Aside0.mk (blk_below (g := gb470) (o := .cells #[.int .i64 t466, .int .i64 t467] 25 (0, 0)) (by (with_reducible repeat (first | refine blk_drewN ?_ _ | refine blk_drew ?_ | refine blk_alloc ?_ _)); exact BK470.out) hb); have n4_ := Aside0.mk (blk_below (g := gb471) (o := .cells #[.int .i64 t468, .int .i64 t469] 25 (0, 0)) (by (with_reducible repeat (first | refine blk_drewN ?_ _ | refine blk_drew ?_ | refine blk_alloc ?_ _)); exact BK471.out) hb); have n5_ := Aside0.mk (blk_below (g := gb533) (o := .cells #[.int .i64 t530, .int .i64 t531] 25 (0, 0)) (by (with_reducible repeat (first | refine blk_drewN ?_ _ | refine blk_drew ?_ | refine blk_alloc ?_ _)); exact BK533.out) hb); have n6_ := Aside0.mk (below_step (by repeat (first | (with_reducible first | apply below_alloc | apply pw_below_drewN | apply below_drew1 | refine below_set ?_ GE470.out | refine below_set ?_ GE471.out | refine below_set ?_ GE533.out) | exact HB.out)) hb); clear HO_23; clear HO_25; clear BK470; clear BK471; clear BK533; clear HB; have HO_23 := n0_; have HO_25 := n1_; have HO551 := n2_; have BK470 := n3_; have BK471 := n4_; have BK533 := n5_; have HB := n6_; clear n0_ n1_ n2_ n3_ n4_ n5_ n6_; (try clear hb); (try clear ho0); obtain ⟨Ao153, co153, eo153⟩ := Kd.R_slice HO551.out; subst eo153))
              go_roundg k4
              case measure => have := HJ9.out; have := HJ37.out; have := HJ87.out; have := HK4.out; omega
              case rel => exact ⟨(wrap64 (x45_4 + (t548.length : Int))), (wrap64 (x392_4 + 1)), (by first | rfl | (simp; done) | (simp [*]; done)), (by first | rfl | (simp; done) | (simp [*]; done)), H', ⟨by have := HJ9.out; have := HJ37.out; have := HJ87.out; have := HK4.out; omega⟩, ⟨by (with_reducible repeat (first | apply Kd.R_alloc | apply Kd.R_drewN | apply Kd.R_drew)); exact HO_23.out⟩, ⟨by (with_reducible repeat (first | apply Kd.R_alloc | apply Kd.R_drewN | apply Kd.R_drew)); exact Kd.R_mono HO_25.out (fun _ hk => trivial)⟩, ⟨by (with_reducible repeat (first | refine blk_drewN ?_ _ | refine blk_drew ?_ | refine blk_alloc ?_ _)); exact BK470.out⟩, ⟨by (with_reducible repeat (first | refine blk_drewN ?_ _ | refine blk_drew ?_ | refine blk_alloc ?_ _)); exact BK471.out⟩, ⟨by (with_reducible repeat (first | refine blk_drewN ?_ _ | refine blk_drew ?_ | refine blk_alloc ?_ _)); exact BK533.out⟩, ⟨by repeat (first | (with_reducible first | apply below_alloc | apply pw_below_drewN | apply below_drew1 | refine below_set ?_ GE470.out | refine below_set ?_ GE471.out | refine below_set ?_ GE533.out) | exact HB.out)⟩⟩
             ·replace c151 := Bool.eq_false_iff.mpr c151
              subst c151
              rw [if_neg (show ¬ (false = true) by decide)] at H
              exact absurd H (by simp)
            ·rw [if_neg c149] at H
             have c149b0 : decide (x392_4 < (t514.length : Int)) = false := decide_eq_false c149
             clear c149
             (first | rw [c149b0] | (simp only [i64_w, i32_w]; rw [c149b0]) | skip)
             by_cases c154 : x45_4 = (wrap64 (2 * t526))
             ·as_aux_lemma =>
              rw [if_pos c154] at H
              have c154b0 : (x45_4 == (wrap64 (2 * t526))) = true := beq_iff_eq.mpr c154
              have c154b1 : (x45_4 != (wrap64 (2 * t526))) = false := bne_eq_false_iff_eq.mpr c154
              clear c154
              have H' := Aside0.mk H
              clear H
              obtain ⟨Ao155, co155, eo155⟩ := Kd.R_slice HO_25.out
              subst eo155
              go_wp2
              go_loopg [414] k4 (fun kq v414 w' => ∃ (x414_5 : Int), v414 = .int .i64 x414_5 ∧ Aside0 (laws_FnThreadsMeet.l1 kq t514 t515 t518 t532 t534 t535 t536 t540 t518 (t518.length : Int) x414_5 t530 t531 = some r) ∧ Aside0 (kq ≤ k4) ∧ Aside0 (Kd.R k25 25 w' w.heap.size (fun k_ => k_ ≠ gb470 ∧ k_ ≠ gb471 ∧ k_ ≠ gb533) (.slice Ao90 t514.length co90) t514) ∧ Aside0 (Kd.R (Kd.int .i64) 3 w' w.heap.size (fun _ => True) (.slice Ao155 t518.length co155) t518) ∧ Aside0 (Kd.R (Kd.int .i64) 3 w' w.heap.size (fun _ => True) (.slice Ao155 t518.length co155) t518) ∧ Aside0 (w'.heap[gb470]? = some (.cells #[.int .i64 t466, .int .i64 t467] 25 (0, 0))) ∧ Aside0 (w'.heap[gb471]? = some (.cells #[.int .i64 t468, .int .i64 t469] 25 (0, 0))) ∧ Aside0 (w'.heap[gb533]? = some (.cells #[.int .i64 t530, .int .i64 t531] 25 (0, 0))) ∧ Aside0 (Below w.heap.size w w'))
              case atStart => exact ⟨(0), (by first | rfl | (simp; done) | (simp [*]; done)), H', ⟨Nat.le_refl _⟩, ⟨by (with_reducible repeat (first | apply Kd.R_alloc | apply Kd.R_drewN | apply Kd.R_drew)); exact HO_23.out⟩, ⟨by (with_reducible repeat (first | apply Kd.R_alloc | apply Kd.R_drewN | apply Kd.R_drew)); exact HO_25.out⟩, ⟨by (with_reducible repeat (first | apply Kd.R_alloc | apply Kd.R_drewN | apply Kd.R_drew)); exact HO_25.out⟩, ⟨by (with_reducible repeat (first | refine blk_drewN ?_ _ | refine blk_drew ?_ | refine blk_alloc ?_ _)); exact BK470.out⟩, ⟨by (with_reducible repeat (first | refine blk_drewN ?_ _ | refine blk_drew ?_ | refine blk_alloc ?_ _)); exact BK471.out⟩, ⟨by (with_reducible repeat (first | refine blk_drewN ?_ _ | refine blk_drew ?_ | refine blk_alloc ?_ _)); exact BK533.out⟩, ⟨by repeat (first | (with_reducible first | apply below_alloc | apply pw_below_drewN | apply below_drew1 | refine below_set ?_ GE470.out | refine below_set ?_ GE471.out | refine below_set ?_ GE533.out) | exact HB.out)⟩⟩
              case round =>
               as_aux_lemma =>
               clear H'
               (try clear c1); (try clear c2); (try clear p2); (try clear c3); (try clear c4); (try clear c5); (try clear p5); (try clear q5); (try clear hx5); (try clear qi5); (try clear c6); (try clear p6); (try clear c9); (try clear c10); (try clear c11); (try clear c12); (try clear c13); (try clear c14); (try clear c15); (try clear c16); (try clear c17); (try clear c18); (try clear c19); (try clear c20); (try clear c21); (try clear c22); (try clear c39); (try clear c42); (try clear c42b0); (try clear c42b1); (try clear c43); (try clear c44); (try clear c46); (try clear c47); (try clear c48); (try clear c50); (try clear p51); (try clear q51); (try clear hx51); (try clear qi51); (try clear c53); (try clear c55); (try clear c56); (try clear c58); (try clear c59); (try clear c60); (try clear p64); (try clear c97); (try clear c98); (try clear c107); (try clear c107b0); (try clear c107b1); (try clear c107b2); (try clear c109); (try clear c110); (try clear c110b0); (try clear c110b1); (try clear c110b2); (try clear c111); (try clear c111b0); (try clear c111b1); (try clear c112); (try clear c112b0); (try clear c112b1); (try clear c112b2); (try clear c113); (try clear c113b0); (try clear c113b1); (try clear c114); (try clear c114b0); (try clear c114b1); (try clear c115); (try clear c115b0); (try clear c115b1); (try clear c115b2); (try clear c116); (try clear c116b0); (try clear c116b1); (try clear c118); (try clear c118b0); (try clear c118b1); (try clear c118b2); (try clear c121); (try clear c121b0); (try clear c121b1); (try clear c121b2); (try clear c122); (try clear c123); (try clear c124); (try clear c135); (try clear c146); (try clear c148); (try clear c149); (try clear c149b0); (try clear c151); (try clear c154); (try clear c154b0); (try clear c154b1); (try clear hcz101_0); (try clear hcz101_1); (try clear hcz103_0); (try clear hcz103_1); (try clear hcz105_0); (try clear hcz105_1); (try clear hcz76_0); (try clear hcz76_1); (try clear hcz77_0); (try clear hcz77_1); (try clear hcz99_0); (try clear hcz99_1); (try clear hfz101_0); (try clear hfz101_1); (try clear hfz103_0); (try clear hfz103_1); (try clear hfz105_0); (try clear hfz105_1); (try clear hfz76_0); (try clear hfz76_1); (try clear hfz77_0); (try clear hfz77_1); (try clear hfz99_0); (try clear hfz99_1); (try clear hx510_0); (try clear hx511_0); (try clear hx512_0); (try clear hx513_0); (try clear p2); (try clear p5); (try clear p51); (try clear p510); (try clear p511); (try clear p512); (try clear p513); (try clear q5); (try clear q51); (try clear q510); (try clear q511); (try clear q512); (try clear q513)
               obtain ⟨x414_5, rfl, HA, HK5, HO_23, HO_25, HO_412, BK470, BK471, BK533, HB⟩ := hrel
               cases gk with
               | zero => exact absurd HA.out (by simp [laws_FnThreadsMeet.l1])
               | succ k5 =>
                have H := HA.out
                clear HA
                simp only [laws_FnThreadsMeet.l1] at H
                by_cases c156 : x414_5 < (t518.length : Int)
                rotate_left
                ·as_aux_lemma =>
                 rw [if_neg c156] at H
                 have c156b0 : decide (x414_5 < (t518.length : Int)) = false := decide_eq_false c156
                 clear c156
                 have H' := Aside0.mk H
                 clear H
                 go_wp2
                 go_meet
                 case rel => exact ⟨_, H', ⟨by have := HJ9.out; have := HJ37.out; have := HJ87.out; have := HK4.out; have := HK5.out; first | omega | exact Nat.le_refl _⟩, ⟨by (with_reducible repeat (first | refine blk_drewN ?_ _ | refine blk_drew ?_ | refine blk_alloc ?_ _)); exact BK470.out⟩, ⟨by (with_reducible repeat (first | refine blk_drewN ?_ _ | refine blk_drew ?_ | refine blk_alloc ?_ _)); exact BK471.out⟩, ⟨by (with_reducible repeat (first | refine blk_drewN ?_ _ | refine blk_drew ?_ | refine blk_alloc ?_ _)); exact BK533.out⟩, ⟨by repeat (first | (with_reducible first | apply below_alloc | apply pw_below_drewN | apply below_drew1 | refine below_set ?_ GE470.out | refine below_set ?_ GE471.out | refine below_set ?_ GE533.out) | exact HB.out)⟩⟩
                rw [if_pos c156] at H
                have c156b0 : decide (x414_5 < (t518.length : Int)) = true := decide_eq_true c156
                clear c156
                by_cases c157 : 0 ≤ x414_5
                rotate_left
                ·rw [if_neg c157] at H
                 exact absurd H (by simp)
                rw [if_pos c157] at H
                have c157b0 : decide (0 ≤ x414_5) = true := decide_eq_true c157
                clear c157
                by_cases c158 : x414_5 < (t518.length : Int)
                rotate_left
                ·rw [if_neg c158] at H
                 exact absurd H (by simp)
                rw [if_pos c158] at H
                have c158b0 : decide (x414_5 < (t518.length : Int)) = true := decide_eq_true c158
                clear c158
                by_cases c159 : 0 ≤ t515
                rotate_left
                ·rw [if_neg c159] at H
                 exact absurd H (by simp)
                rw [if_pos c159] at H
                have c159b0 : decide (0 ≤ t515) = true := decide_eq_true c159
                clear c159
                by_cases c160 : t515 < (t514.length : Int)
                rotate_left
                ·rw [if_neg c160] at H
                 exact absurd H (by simp)
                rw [if_pos c160] at H
                have c160b0 : decide (t515 < (t514.length : Int)) = true := decide_eq_true c160
                clear c160
                by_cases c161 : 0 ≤ (rd t518 x414_5)
                rotate_left
                ·rw [if_neg c161] at H
                 exact absurd H (by simp)
                rw [if_pos c161] at H
                have c161b0 : decide (0 ≤ (rd t518 x414_5)) = true := decide_eq_true c161
                clear c161
                by_cases c162 : (rd t518 x414_5) < (t514.length : Int)
                rotate_left
                ·rw [if_neg c162] at H
                 exact absurd H (by simp)
                rw [if_pos c162] at H
                have c162b0 : decide ((rd t518 x414_5) < (t514.length : Int)) = true := decide_eq_true c162
                clear c162
                replace H := Option.bind_eq_some_iff.mp H
                obtain ⟨⟨t555, t558⟩, A1630, H⟩ := H
                (try dsimp only at H)
                have A163 := Aside0.mk A1630
                clear A1630
                by_cases c164 : t558 = true
                rotate_left
                ·replace c164 := Bool.eq_false_iff.mpr c164
                 subst c164
                 rw [if_neg (show ¬ (false = true) by decide)] at H
                 exact absurd H (by simp)
                subst c164
                rw [if_pos rfl] at H
                by_cases c165 : x414_5 > 0
                rotate_left
                ·rw [if_neg c165] at H
                 have c165b0 : decide (0 < x414_5) = false := decide_eq_false c165
                 clear c165
                 have H' := Aside0.mk H
                 clear H
                 have p552 : 0 ≤ (x414_5 : Int) := of_decide_eq_true (by assumption)
                 have q552 : x414_5 < (t518.length : Int) := of_decide_eq_true (by assumption)
                 obtain ⟨ad552, e552, hx552_0⟩ := Kd.at_int (Kd.R_reads' HO_412.out).2.2 x414_5 p552 q552
                 cases e552
                 replace p552 := eq_true p552
                 replace q552 := eq_true q552
                 try go_wp2
                 have n0_ := Aside0.mk (Kd.R_drew HO_23.out)
                 have n1_ := Aside0.mk (Kd.R_drew HO_25.out)
                 have n2_ := Aside0.mk (Kd.R_drew HO_412.out)
                 have n3_ := Aside0.mk (blk_drew BK470.out)
                 have n4_ := Aside0.mk (blk_drew BK471.out)
                 have n5_ := Aside0.mk (blk_drew BK533.out)
                 have n6_ := Aside0.mk (below_drew1 HB.out)
                 clear HO_23
                 clear HO_25
                 clear HO_412
                 clear BK470
                 clear BK471
                 clear BK533
                 clear HB
                 have HO_23 := n0_
                 have HO_25 := n1_
                 have HO_412 := n2_
                 have BK470 := n3_
                 have BK471 := n4_
                 have BK533 := n5_
                 have HB := n6_
                 clear n0_ n1_ n2_ n3_ n4_ n5_ n6_
                 have p553 : 0 ≤ (t515 : Int) := of_decide_eq_true (by assumption)
                 have q553 : t515 < (t514.length : Int) := of_decide_eq_true (by assumption)
                 obtain ⟨ad553, e553, hx553_0, hx553_1⟩ := at_T25 (Kd.R_reads' HO_23.out).2.2 t515 p553 q553
                 cases e553
                 replace p553 := eq_true p553
                 replace q553 := eq_true q553
                 have p554 : 0 ≤ ((rd t518 x414_5) : Int) := of_decide_eq_true (by assumption)
                 have q554 : (rd t518 x414_5) < (t514.length : Int) := of_decide_eq_true (by assumption)
                 obtain ⟨ad554, e554, hx554_0, hx554_1⟩ := at_T25 (Kd.R_reads' HO_23.out).2.2 (rd t518 x414_5) p554 q554
                 obtain rfl : ad553 = ad554 := (by injection e554)
                 replace p554 := eq_true p554
                 replace q554 := eq_true q554
                 refine start_ (n := 14) (S := fun w' => w'.cell? (ad553.add ((t515).toNat * 2)) = some (.int .i64 ((rd_T25 t514 t515).f0)) ∧ w'.cell? ⟨(ad553.add ((t515).toNat * 2)).block, (ad553.add ((t515).toNat * 2)).off + 1, none⟩ = some (.int .i64 ((rd_T25 t514 t515).f1)) ∧ w'.cell? (ad553.add (((rd t518 x414_5)).toNat * 2)) = some (.int .i64 ((rd_T25 t514 (rd t518 x414_5)).f0)) ∧ w'.cell? ⟨(ad553.add (((rd t518 x414_5)).toNat * 2)).block, (ad553.add (((rd t518 x414_5)).toNat * 2)).off + 1, none⟩ = some (.int .i64 ((rd_T25 t514 (rd t518 x414_5)).f1))) (ds := []) (bl_ 14 0x0) (by kernel_rfl) rfl rfl ⟨hx553_0, hx553_1, hx554_0, hx554_1⟩ (fun hHeld => ?_); refine with_tabW laws_FnThreadsMeet.tab45 laws_FnThreadsMeet.bits45 (fun HT_ HW_ => ?_)
                 generalize wr.drew = w195 at HO_23 HO_25 HO_412 BK470 BK471 BK533 HB hx553_0 hx553_1 hx554_0 hx554_1 hHeld ⊢
                 refine pz_ 0 420 (bl_ 14 0x1) HT_.out ?_
                 refine pz_ 1 421 (bl_ 14 0x3) HT_.out ?_
                 refine pz_ 2 422 (bl_ 14 0x7) HT_.out ?_
                 refine pz_ 4 424 (bl_ 14 0x17) HT_.out ?_
                 refine pz_ 5 425 (bl_ 14 0x37) HT_.out ?_
                 refine pz_ 6 426 (bl_ 14 0x77) HT_.out ?_
                 refine take_ (i := 3) (N := some 423) (v := ?_) (a' := ?_) (bl_ 14 0x7f) rfl rfl (take_ofW HT_.out HW_.out (by kernel_rfl)) (fun _ _ _ h => h) (Or.inl ⟨by rfl, ?_⟩) hHeld ?_ ?_
                 rotate_left
                 ·rintro w' ⟨s0, s1, s2, s3⟩
                  go_simp
                  with_reducible rfl
                 rotate_left
                 ·simp only [Act.put, sa_, sb_, sc_, i64_w, i32_w]
                  rfl
                 refine take_ (i := 7) (N := some 427) (v := ?_) (a' := ?_) (bl_ 14 0xff) rfl rfl (take_ofW HT_.out HW_.out (by kernel_rfl)) (fun _ _ _ h => h) (Or.inl ⟨by rfl, ?_⟩) hHeld ?_ ?_
                 rotate_left
                 ·rintro w' ⟨s0, s1, s2, s3⟩
                  go_simp
                  with_reducible rfl
                 rotate_left
                 ·simp only [Act.put, sa_, sb_, sc_, i64_w, i32_w]
                  rfl
                 refine one_ (i := 8) (N := some 428) (bl_ 14 0x1ff) rfl rfl (one_of HT_.out (by kernel_rfl)) (by decide) (fun K hK => ?_)
                 refine goes_ Try.func7 (by kernel_rfl) rfl #[.agg #[.int .i64 ((rd_T25 t514 t515).f0), .int .i64 ((rd_T25 t514 t515).f1)], .agg #[.int .i64 ((rd_T25 t514 (rd t518 x414_5)).f0), .int .i64 ((rd_T25 t514 (rd t518 x414_5)).f1)]] (by rfl) rfl rfl (by (try simp only [List.map_toArray, List.map_cons, List.map_nil]); first | done | rfl | (simp only [List.length_drop, List.length_take]; rfl)) ?_
                 with_reducible refine (impl_MeetingOf.calls ((rd_T25 t514 t515).f0) ((rd_T25 t514 t515).f1) ((rd_T25 t514 (rd t518 x414_5)).f0) ((rd_T25 t514 (rd t518 x414_5)).f1) t555 true _ A163.out).mono ?_
                 rintro e w196 ⟨v556, rfl, ho0, hb⟩
                 have HS0_ := (hb.cell (World.block_lt_of_cell? _ _ (hHeld.1))).trans (hHeld.1)
                 have HS1_ := (hb.cell (World.block_lt_of_cell? _ _ (hHeld.2.1))).trans (hHeld.2.1)
                 have HS2_ := (hb.cell (World.block_lt_of_cell? _ _ (hHeld.2.2.1))).trans (hHeld.2.2.1)
                 have HS3_ := (hb.cell (World.block_lt_of_cell? _ _ (hHeld.2.2.2))).trans (hHeld.2.2.2)
                 refine ⟨_, rfl, ?_⟩
                 have n0_ := Aside0.mk (Kd.R_below (ru_ HO_23.out) hb)
                 have n1_ := Aside0.mk (Kd.R_elder' (ru_ HO_25.out) (Kd.R_base ho0) hb)
                 have n2_ := Aside0.mk (Kd.R_elder' (ru_ HO_412.out) (Kd.R_base ho0) hb)
                 have n3_ := Aside0.mk (Kd.R_lower (Kd.R_new' (Kd.R_new' ho0 (Kd.R_lt (ru_ HO_25.out))) (Kd.R_lt (ru_ HO_412.out))) (below_size (by repeat (first | (with_reducible first | apply below_alloc | apply pw_below_drewN | apply below_drew1 | refine below_set ?_ GE470.out | refine below_set ?_ GE471.out | refine below_set ?_ GE533.out) | exact HB.out))))
                 have n4_ := Aside0.mk (blk_below (g := gb470) (o := .cells #[.int .i64 t466, .int .i64 t467] 25 (0, 0)) (by (with_reducible repeat (first | refine blk_drewN ?_ _ | refine blk_drew ?_ | refine blk_alloc ?_ _)); exact BK470.out) hb)
                 have n5_ := Aside0.mk (blk_below (g := gb471) (o := .cells #[.int .i64 t468, .int .i64 t469] 25 (0, 0)) (by (with_reducible repeat (first | refine blk_drewN ?_ _ | refine blk_drew ?_ | refine blk_alloc ?_ _)); exact BK471.out) hb)
                 have n6_ := Aside0.mk (blk_below (g := gb533) (o := .cells #[.int .i64 t530, .int .i64 t531] 25 (0, 0)) (by (with_reducible repeat (first | refine blk_drewN ?_ _ | refine blk_drew ?_ | refine blk_alloc ?_ _)); exact BK533.out) hb)
                 have n7_ := Aside0.mk (below_step (by repeat (first | (with_reducible first | apply below_alloc | apply pw_below_drewN | apply below_drew1 | refine below_set ?_ GE470.out | refine below_set ?_ GE471.out | refine below_set ?_ GE533.out) | exact HB.out)) hb)
                 clear HO_23
                 clear HO_25
                 clear HO_412
                 clear BK470
                 clear BK471
                 clear BK533
                 clear HB
                 have HO_23 := n0_
                 have HO_25 := n1_
                 have HO_412 := n2_
                 have HO557 := n3_
                 have BK470 := n4_
                 have BK471 := n5_
                 have BK533 := n6_
                 have HB := n7_
                 clear n0_ n1_ n2_ n3_ n4_ n5_ n6_ n7_
                 (try clear hb)
                 (try clear hb2)
                 (try clear hk)
                 (try clear hi)
                 (try clear ho0)
                 refine hK.out _ _ ⟨HS0_, HS1_, HS2_, HS3_⟩ (fun hHeld => ?_)
                 clear hK K
                 refine norm_ (a' := ?_) ?_ ?_
                 rotate_left
                 ·show Act.put _ (some 428) _ = _
                  simp only [Act.put, sa_, sb_, sc_, i64_w, i32_w]
                  rfl
                 refine pz_ 9 419 (bl_ 14 0x3ff) HT_.out ?_
                 refine pz_ 10 429 (bl_ 14 0x7ff) HT_.out ?_
                 refine pz_ 11 430 (bl_ 14 0xfff) HT_.out ?_
                 refine pz_ 12 51 (bl_ 14 0x1fff) HT_.out ?_
                 refine pz_ 13 52 (bl_ 14 0x3fff) HT_.out ?_
                 refine done_ (done_of HT_.out (by kernel_rfl)) ?_
                 try go_wp2
                 go_roundg k5
                 case measure => have := HJ9.out; have := HJ37.out; have := HJ87.out; have := HK4.out; have := HK5.out; omega
                 case rel => exact ⟨(wrap64 (x414_5 + 1)), (by first | rfl | (simp; done) | (simp [*]; done)), H', ⟨by have := HJ9.out; have := HJ37.out; have := HJ87.out; have := HK4.out; have := HK5.out; omega⟩, ⟨by (with_reducible repeat (first | apply Kd.R_alloc | apply Kd.R_drewN | apply Kd.R_drew)); exact HO_23.out⟩, ⟨by (with_reducible repeat (first | apply Kd.R_alloc | apply Kd.R_drewN | apply Kd.R_drew)); exact Kd.R_mono HO_25.out (fun _ hk => trivial)⟩, ⟨by (with_reducible repeat (first | apply Kd.R_alloc | apply Kd.R_drewN | apply Kd.R_drew)); exact Kd.R_mono HO_412.out (fun _ hk => trivial)⟩, ⟨by (with_reducible repeat (first | refine blk_drewN ?_ _ | refine blk_drew ?_ | refine blk_alloc ?_ _)); exact BK470.out⟩, ⟨by (with_reducible repeat (first | refine blk_drewN ?_ _ | refine blk_drew ?_ | refine blk_alloc ?_ _)); exact BK471.out⟩, ⟨by (with_reducible repeat (first | refine blk_drewN ?_ _ | refine blk_drew ?_ | refine blk_alloc ?_ _)); exact BK533.out⟩, ⟨by repeat (first | (with_reducible first | apply below_alloc | apply pw_below_drewN | apply below_drew1 | refine below_set ?_ GE470.out | refine below_set ?_ GE471.out | refine below_set ?_ GE533.out) | exact HB.out)⟩⟩
                rw [if_pos c165] at H
                have c165b0 : decide (0 < x414_5) = true := decide_eq_true c165
                clear c165
                obtain ⟨ji166, hji166⟩ : ∃ j_ : Int, (wrap64 (x414_5 - 1)) = j_ := ⟨_, rfl⟩
                replace H : (if 0 ≤ (ji166) then (if (ji166) < (t518.length : Int) then (if 0 ≤ (rd t518 (ji166)) then (if (rd t518 (ji166)) < (t514.length : Int) then ((impl_MeetingOf.f ((rd_T25 t514 t515).f0) ((rd_T25 t514 t515).f1) ((rd_T25 t514 (rd t518 (ji166))).f0) ((rd_T25 t514 (rd t518 (ji166))).f1)).bind fun bt562 => (if bt562.2 = true then (if 0 < (bt562.1.length : Int) then (if 1 < (t555.length : Int) then (if 0 < (t555.length : Int) then (if 1 < (bt562.1.length : Int) then (if (wrap64 ((rd bt562.1 0) * (rd t555 1))) > (wrap64 ((rd t555 0) * (rd bt562.1 1))) then (none) else ((laws_gSame.f k5 bt562.1 t555).bind fun t570 => (if t570 = true then (if (rd t518 (ji166)) > (rd t518 x414_5) then (none) else (laws_FnThreadsMeet.l1 k5 t514 t515 t518 t532 t534 t535 t536 t540 t518 (t518.length : Int) (wrap64 (x414_5 + 1)) t530 t531)) else (laws_FnThreadsMeet.l1 k5 t514 t515 t518 t532 t534 t535 t536 t540 t518 (t518.length : Int) (wrap64 (x414_5 + 1)) t530 t531)))) else (none)) else (none)) else (none)) else (none)) else (none))) else (none)) else (none)) else (none)) else (none)) = some r := by first | (rw [hji166] at H; exact H) | (simp only [hji166] at H ⊢; exact H)
                (try rw [hji166] at A163)
                have hji166w : (IntKind.i64.wrap (x414_5 - 1)) = ji166 := (i64_w _).trans hji166
                by_cases c167 : 0 ≤ (ji166)
                rotate_left
                ·rw [if_neg c167] at H
                 exact absurd H (by simp)
                rw [if_pos c167] at H
                have c167b0 : decide (0 ≤ (ji166)) = true := decide_eq_true c167
                clear c167
                by_cases c168 : (ji166) < (t518.length : Int)
                rotate_left
                ·rw [if_neg c168] at H
                 exact absurd H (by simp)
                rw [if_pos c168] at H
                have c168b0 : decide ((ji166) < (t518.length : Int)) = true := decide_eq_true c168
                clear c168
                by_cases c169 : 0 ≤ (rd t518 (ji166))
                rotate_left
                ·rw [if_neg c169] at H
                 exact absurd H (by simp)
                rw [if_pos c169] at H
                have c169b0 : decide (0 ≤ (rd t518 (ji166))) = true := decide_eq_true c169
                clear c169
                by_cases c170 : (rd t518 (ji166)) < (t514.length : Int)
                rotate_left
                ·rw [if_neg c170] at H
                 exact absurd H (by simp)
                rw [if_pos c170] at H
                have c170b0 : decide ((rd t518 (ji166)) < (t514.length : Int)) = true := decide_eq_true c170
                clear c170
                replace H := Option.bind_eq_some_iff.mp H
                obtain ⟨⟨t562, t565⟩, A1710, H⟩ := H
                (try dsimp only at H)
                have A171 := Aside0.mk A1710
                clear A1710
                by_cases c172 : t565 = true
                rotate_left
                ·replace c172 := Bool.eq_false_iff.mpr c172
                 subst c172
                 rw [if_neg (show ¬ (false = true) by decide)] at H
                 exact absurd H (by simp)
                subst c172
                rw [if_pos rfl] at H
                by_cases c173 : 0 < (t562.length : Int)
                rotate_left
                ·rw [if_neg c173] at H
                 exact absurd H (by simp)
                rw [if_pos c173] at H
                have c173b0 : decide (0 < (t562.length : Int)) = true := decide_eq_true c173
                have c173b1 : decide (0 < t562.length) = true := decide_eq_true (by omega)
                clear c173
                by_cases c174 : 1 < (t555.length : Int)
                rotate_left
                ·rw [if_neg c174] at H
                 exact absurd H (by simp)
                rw [if_pos c174] at H
                have c174b0 : decide (1 < (t555.length : Int)) = true := decide_eq_true c174
                have c174b1 : decide (1 < t555.length) = true := decide_eq_true (by omega)
                clear c174
                by_cases c175 : 0 < (t555.length : Int)
                rotate_left
                ·rw [if_neg c175] at H
                 exact absurd H (by simp)
                rw [if_pos c175] at H
                have c175b0 : decide (0 < (t555.length : Int)) = true := decide_eq_true c175
                have c175b1 : decide (0 < t555.length) = true := decide_eq_true (by omega)
                clear c175
                by_cases c176 : 1 < (t562.length : Int)
                rotate_left
                ·rw [if_neg c176] at H
                 exact absurd H (by simp)
                rw [if_pos c176] at H
                have c176b0 : decide (1 < (t562.length : Int)) = true := decide_eq_true c176
                have c176b1 : decide (1 < t562.length) = true := decide_eq_true (by omega)
                clear c176
                by_cases c177 : (wrap64 ((rd t562 0) * (rd t555 1))) > (wrap64 ((rd t555 0) * (rd t562 1)))
                ·rw [if_pos c177] at H
                 have c177b0 : decide ((wrap64 ((rd t555 0) * (rd t562 1))) < (wrap64 ((rd t562 0) * (rd t555 1)))) = true := decide_eq_true c177
                 clear c177
                 exact absurd H (by simp)
                rw [if_neg c177] at H
                have c177b0 : decide ((wrap64 ((rd t555 0) * (rd t562 1))) < (wrap64 ((rd t562 0) * (rd t555 1)))) = false := decide_eq_false c177
                clear c177
                replace H := Option.bind_eq_some_iff.mp H
                obtain ⟨t570, A1780, H⟩ := H
                (try dsimp only at H)
                have A178 := Aside0.mk A1780
                clear A1780
                by_cases c179 : t570 = true
                rotate_left
                ·replace c179 := Bool.eq_false_iff.mpr c179
                 subst c179
                 rw [if_neg (show ¬ (false = true) by decide)] at H
                 have H' := Aside0.mk H
                 clear H
                 have p552 : 0 ≤ (x414_5 : Int) := of_decide_eq_true (by assumption)
                 have q552 : x414_5 < (t518.length : Int) := of_decide_eq_true (by assumption)
                 obtain ⟨ad552, e552, hx552_0⟩ := Kd.at_int (Kd.R_reads' HO_412.out).2.2 x414_5 p552 q552
                 cases e552
                 replace p552 := eq_true p552
                 replace q552 := eq_true q552
                 try go_wp2
                 have n0_ := Aside0.mk (Kd.R_drew HO_23.out)
                 have n1_ := Aside0.mk (Kd.R_drew HO_25.out)
                 have n2_ := Aside0.mk (Kd.R_drew HO_412.out)
                 have n3_ := Aside0.mk (blk_drew BK470.out)
                 have n4_ := Aside0.mk (blk_drew BK471.out)
                 have n5_ := Aside0.mk (blk_drew BK533.out)
                 have n6_ := Aside0.mk (below_drew1 HB.out)
                 clear HO_23
                 clear HO_25
                 clear HO_412
                 clear BK470
                 clear BK471
                 clear BK533
                 clear HB
                 have HO_23 := n0_
                 have HO_25 := n1_
                 have HO_412 := n2_
                 have BK470 := n3_
                 have BK471 := n4_
                 have BK533 := n5_
                 have HB := n6_
                 clear n0_ n1_ n2_ n3_ n4_ n5_ n6_
                 have p553 : 0 ≤ (t515 : Int) := of_decide_eq_true (by assumption)
                 have q553 : t515 < (t514.length : Int) := of_decide_eq_true (by assumption)
                 obtain ⟨ad553, e553, hx553_0, hx553_1⟩ := at_T25 (Kd.R_reads' HO_23.out).2.2 t515 p553 q553
                 cases e553
                 replace p553 := eq_true p553
                 replace q553 := eq_true q553
                 have p554 : 0 ≤ ((rd t518 x414_5) : Int) := of_decide_eq_true (by assumption)
                 have q554 : (rd t518 x414_5) < (t514.length : Int) := of_decide_eq_true (by assumption)
                 obtain ⟨ad554, e554, hx554_0, hx554_1⟩ := at_T25 (Kd.R_reads' HO_23.out).2.2 (rd t518 x414_5) p554 q554
                 obtain rfl : ad553 = ad554 := (by injection e554)
                 replace p554 := eq_true p554
                 replace q554 := eq_true q554
                 refine start_ (n := 14) (S := fun w' => w'.cell? (ad553.add ((t515).toNat * 2)) = some (.int .i64 ((rd_T25 t514 t515).f0)) ∧ w'.cell? ⟨(ad553.add ((t515).toNat * 2)).block, (ad553.add ((t515).toNat * 2)).off + 1, none⟩ = some (.int .i64 ((rd_T25 t514 t515).f1)) ∧ w'.cell? (ad553.add (((rd t518 x414_5)).toNat * 2)) = some (.int .i64 ((rd_T25 t514 (rd t518 x414_5)).f0)) ∧ w'.cell? ⟨(ad553.add (((rd t518 x414_5)).toNat * 2)).block, (ad553.add (((rd t518 x414_5)).toNat * 2)).off + 1, none⟩ = some (.int .i64 ((rd_T25 t514 (rd t518 x414_5)).f1))) (ds := []) (bl_ 14 0x0) (by kernel_rfl) rfl rfl ⟨hx553_0, hx553_1, hx554_0, hx554_1⟩ (fun hHeld => ?_); refine with_tabW laws_FnThreadsMeet.tab45 laws_FnThreadsMeet.bits45 (fun HT_ HW_ => ?_)
                 generalize wr.drew = w188 at HO_23 HO_25 HO_412 BK470 BK471 BK533 HB hx553_0 hx553_1 hx554_0 hx554_1 hHeld ⊢
                 refine pz_ 0 420 (bl_ 14 0x1) HT_.out ?_
                 refine pz_ 1 421 (bl_ 14 0x3) HT_.out ?_
                 refine pz_ 2 422 (bl_ 14 0x7) HT_.out ?_
                 refine pz_ 4 424 (bl_ 14 0x17) HT_.out ?_
                 refine pz_ 5 425 (bl_ 14 0x37) HT_.out ?_
                 refine pz_ 6 426 (bl_ 14 0x77) HT_.out ?_
                 refine take_ (i := 3) (N := some 423) (v := ?_) (a' := ?_) (bl_ 14 0x7f) rfl rfl (take_ofW HT_.out HW_.out (by kernel_rfl)) (fun _ _ _ h => h) (Or.inl ⟨by rfl, ?_⟩) hHeld ?_ ?_
                 rotate_left
                 ·rintro w' ⟨s0, s1, s2, s3⟩
                  go_simp
                  with_reducible rfl
                 rotate_left
                 ·simp only [Act.put, sa_, sb_, sc_, i64_w, i32_w]
                  rfl
                 refine take_ (i := 7) (N := some 427) (v := ?_) (a' := ?_) (bl_ 14 0xff) rfl rfl (take_ofW HT_.out HW_.out (by kernel_rfl)) (fun _ _ _ h => h) (Or.inl ⟨by rfl, ?_⟩) hHeld ?_ ?_
                 rotate_left
                 ·rintro w' ⟨s0, s1, s2, s3⟩
                  go_simp
                  with_reducible rfl
                 rotate_left
                 ·simp only [Act.put, sa_, sb_, sc_, i64_w, i32_w]
                  rfl
                 refine one_ (i := 8) (N := some 428) (bl_ 14 0x1ff) rfl rfl (one_of HT_.out (by kernel_rfl)) (by decide) (fun K hK => ?_)
                 refine goes_ Try.func7 (by kernel_rfl) rfl #[.agg #[.int .i64 ((rd_T25 t514 t515).f0), .int .i64 ((rd_T25 t514 t515).f1)], .agg #[.int .i64 ((rd_T25 t514 (rd t518 x414_5)).f0), .int .i64 ((rd_T25 t514 (rd t518 x414_5)).f1)]] (by rfl) rfl rfl (by (try simp only [List.map_toArray, List.map_cons, List.map_nil]); first | done | rfl | (simp only [List.length_drop, List.length_take]; rfl)) ?_
                 with_reducible refine (impl_MeetingOf.calls ((rd_T25 t514 t515).f0) ((rd_T25 t514 t515).f1) ((rd_T25 t514 (rd t518 x414_5)).f0) ((rd_T25 t514 (rd t518 x414_5)).f1) t555 true _ A163.out).mono ?_
                 rintro e w189 ⟨v556, rfl, ho0, hb⟩
                 have HS0_ := (hb.cell (World.block_lt_of_cell? _ _ (hHeld.1))).trans (hHeld.1)
                 have HS1_ := (hb.cell (World.block_lt_of_cell? _ _ (hHeld.2.1))).trans (hHeld.2.1)
                 have HS2_ := (hb.cell (World.block_lt_of_cell? _ _ (hHeld.2.2.1))).trans (hHeld.2.2.1)
                 have HS3_ := (hb.cell (World.block_lt_of_cell? _ _ (hHeld.2.2.2))).trans (hHeld.2.2.2)
                 refine ⟨_, rfl, ?_⟩
                 have n0_ := Aside0.mk (Kd.R_below (ru_ HO_23.out) hb)
                 have n1_ := Aside0.mk (Kd.R_elder' (ru_ HO_25.out) (Kd.R_base ho0) hb)
                 have n2_ := Aside0.mk (Kd.R_elder' (ru_ HO_412.out) (Kd.R_base ho0) hb)
                 have n3_ := Aside0.mk (Kd.R_lower (Kd.R_new' (Kd.R_new' ho0 (Kd.R_lt (ru_ HO_25.out))) (Kd.R_lt (ru_ HO_412.out))) (below_size (by repeat (first | (with_reducible first | apply below_alloc | apply pw_below_drewN | apply below_drew1 | refine below_set ?_ GE470.out | refine below_set ?_ GE471.out | refine below_set ?_ GE533.out) | exact HB.out))))
                 have n4_ := Aside0.mk (blk_below (g := gb470) (o := .cells #[.int .i64 t466, .int .i64 t467] 25 (0, 0)) (by (with_reducible repeat (first | refine blk_drewN ?_ _ | refine blk_drew ?_ | refine blk_alloc ?_ _)); exact BK470.out) hb)
                 have n5_ := Aside0.mk (blk_below (g := gb471) (o := .cells #[.int .i64 t468, .int .i64 t469] 25 (0, 0)) (by (with_reducible repeat (first | refine blk_drewN ?_ _ | refine blk_drew ?_ | refine blk_alloc ?_ _)); exact BK471.out) hb)
                 have n6_ := Aside0.mk (blk_below (g := gb533) (o := .cells #[.int .i64 t530, .int .i64 t531] 25 (0, 0)) (by (with_reducible repeat (first | refine blk_drewN ?_ _ | refine blk_drew ?_ | refine blk_alloc ?_ _)); exact BK533.out) hb)
                 have n7_ := Aside0.mk (below_step (by repeat (first | (with_reducible first | apply below_alloc | apply pw_below_drewN | apply below_drew1 | refine below_set ?_ GE470.out | refine below_set ?_ GE471.out | refine below_set ?_ GE533.out) | exact HB.out)) hb)
                 clear HO_23
                 clear HO_25
                 clear HO_412
                 clear BK470
                 clear BK471
                 clear BK533
                 clear HB
                 have HO_23 := n0_
                 have HO_25 := n1_
                 have HO_412 := n2_
                 have HO557 := n3_
                 have BK470 := n4_
                 have BK471 := n5_
                 have BK533 := n6_
                 have HB := n7_
                 clear n0_ n1_ n2_ n3_ n4_ n5_ n6_ n7_
                 (try clear hb)
                 (try clear hb2)
                 (try clear hk)
                 (try clear hi)
                 (try clear ho0)
                 refine hK.out _ _ ⟨HS0_, HS1_, HS2_, HS3_⟩ (fun hHeld => ?_)
                 clear hK K
                 refine norm_ (a' := ?_) ?_ ?_
                 rotate_left
                 ·show Act.put _ (some 428) _ = _
                  simp only [Act.put, sa_, sb_, sc_, i64_w, i32_w]
                  rfl
                 refine pz_ 9 419 (bl_ 14 0x3ff) HT_.out ?_
                 refine pz_ 10 429 (bl_ 14 0x7ff) HT_.out ?_
                 refine pz_ 11 430 (bl_ 14 0xfff) HT_.out ?_
                 refine pz_ 12 51 (bl_ 14 0x1fff) HT_.out ?_
                 refine pz_ 13 52 (bl_ 14 0x3fff) HT_.out ?_
                 refine done_ (done_of HT_.out (by kernel_rfl)) ?_
                 try go_wp2
                 have n0_ := Aside0.mk (Kd.R_drew HO_23.out)
                 have n1_ := Aside0.mk (Kd.R_drew HO_25.out)
                 have n2_ := Aside0.mk (Kd.R_drew HO_412.out)
                 have n3_ := Aside0.mk (Kd.R_drew HO557.out)
                 have n4_ := Aside0.mk (blk_drew BK470.out)
                 have n5_ := Aside0.mk (blk_drew BK471.out)
                 have n6_ := Aside0.mk (blk_drew BK533.out)
                 have n7_ := Aside0.mk (below_drew1 HB.out)
                 clear HO_23
                 clear HO_25
                 clear HO_412
                 clear HO557
                 clear BK470
                 clear BK471
                 clear BK533
                 clear HB
                 have HO_23 := n0_
                 have HO_25 := n1_
                 have HO_412 := n2_
                 have HO557 := n3_
                 have BK470 := n4_
                 have BK471 := n5_
                 have BK533 := n6_
                 have HB := n7_
                 clear n0_ n1_ n2_ n3_ n4_ n5_ n6_ n7_
                 have p559 : 0 ≤ (t515 : Int) := of_decide_eq_true (by assumption)
                 have q559 : t515 < (t514.length : Int) := of_decide_eq_true (by assumption)
                 obtain ⟨ad559, e559, hx559_0, hx559_1⟩ := at_T25 (Kd.R_reads' HO_23.out).2.2 t515 p559 q559
                 obtain rfl : ad553 = ad559 := (by injection e559)
                 replace p559 := eq_true p559
                 replace q559 := eq_true q559
                 have p560 : 0 ≤ ((ji166) : Int) := of_decide_eq_true (by assumption)
                 have q560 : (ji166) < (t518.length : Int) := of_decide_eq_true (by assumption)
                 obtain ⟨ad560, e560, hx560_0⟩ := Kd.at_int (Kd.R_reads' HO_25.out).2.2 (ji166) p560 q560
                 obtain rfl : ad552 = ad560 := (by injection e560)
                 replace p560 := eq_true p560
                 replace q560 := eq_true q560
                 have p561 : 0 ≤ ((rd t518 (ji166)) : Int) := of_decide_eq_true (by assumption)
                 have q561 : (rd t518 (ji166)) < (t514.length : Int) := of_decide_eq_true (by assumption)
                 obtain ⟨ad561, e561, hx561_0, hx561_1⟩ := at_T25 (Kd.R_reads' HO_23.out).2.2 (rd t518 (ji166)) p561 q561
                 obtain rfl : ad553 = ad561 := (by injection e561)
                 replace p561 := eq_true p561
                 replace q561 := eq_true q561
                 refine start_ (n := 18) (S := fun w' => w'.cell? (ad553.add ((t515).toNat * 2)) = some (.int .i64 ((rd_T25 t514 t515).f0)) ∧ w'.cell? ⟨(ad553.add ((t515).toNat * 2)).block, (ad553.add ((t515).toNat * 2)).off + 1, none⟩ = some (.int .i64 ((rd_T25 t514 t515).f1)) ∧ w'.cell? (ad552.add ((ji166)).toNat) = some (.int .i64 (rd t518 (ji166))) ∧ w'.cell? (ad553.add (((rd t518 (ji166))).toNat * 2)) = some (.int .i64 ((rd_T25 t514 (rd t518 (ji166))).f0)) ∧ w'.cell? ⟨(ad553.add (((rd t518 (ji166))).toNat * 2)).block, (ad553.add (((rd t518 (ji166))).toNat * 2)).off + 1, none⟩ = some (.int .i64 ((rd_T25 t514 (rd t518 (ji166))).f1))) (ds := []) (bl_ 18 0x0) (by kernel_rfl) rfl rfl ⟨hx559_0, hx559_1, hx560_0, hx561_0, hx561_1⟩ (fun hHeld => ?_); refine with_tabW laws_FnThreadsMeet.tab49 laws_FnThreadsMeet.bits49 (fun HT_ HW_ => ?_)
                 generalize w189.drew = w190 at HO_23 HO_25 HO_412 HO557 BK470 BK471 BK533 HB hx559_0 hx559_1 hx560_0 hx561_0 hx561_1 hHeld ⊢
                 refine pz_ 0 436 (bl_ 18 0x1) HT_.out ?_
                 refine pz_ 1 437 (bl_ 18 0x3) HT_.out ?_
                 refine pz_ 2 438 (bl_ 18 0x7) HT_.out ?_
                 refine pz_ 4 440 (bl_ 18 0x17) HT_.out ?_
                 refine pz_ 5 441 (bl_ 18 0x37) HT_.out ?_
                 refine pz_ 6 442 (bl_ 18 0x77) HT_.out ?_
                 refine pz_ 7 443 (bl_ 18 0xf7) HT_.out ?_
                 refine pz_ 8 444 (bl_ 18 0x1f7) HT_.out ?_
                 refine take_ (i := 3) (N := some 439) (v := ?_) (a' := ?_) (bl_ 18 0x1ff) rfl rfl (take_ofW HT_.out HW_.out (by kernel_rfl)) (fun _ _ _ h => h) (Or.inl ⟨by rfl, ?_⟩) hHeld ?_ ?_
                 rotate_left
                 ·rintro w' ⟨s0, s1, s2, s3, s4⟩
                  go_simp
                  with_reducible rfl
                 rotate_left
                 ·simp only [Act.put, sa_, sb_, sc_, i64_w, i32_w]
                  rfl
                 refine take_ (i := 9) (N := some 445) (v := ?_) (a' := ?_) (bl_ 18 0x3ff) rfl rfl (take_ofW HT_.out HW_.out (by kernel_rfl)) (fun _ _ _ h => h) (Or.inl ⟨by rfl, ?_⟩) hHeld ?_ ?_
                 rotate_left
                 ·rintro w' ⟨s0, s1, s2, s3, s4⟩
                  go_simp
                  with_reducible rfl
                 rotate_left
                 ·simp only [Act.put, sa_, sb_, sc_, i64_w, i32_w]
                  rfl
                 refine pz_ 10 446 (bl_ 18 0x7ff) HT_.out ?_
                 refine take_ (i := 11) (N := some 447) (v := ?_) (a' := ?_) (bl_ 18 0xfff) rfl rfl (take_ofW HT_.out HW_.out (by kernel_rfl)) (fun _ _ _ h => h) (Or.inl ⟨by rfl, ?_⟩) hHeld ?_ ?_
                 rotate_left
                 ·rintro w' ⟨s0, s1, s2, s3, s4⟩
                  go_simp
                  with_reducible rfl
                 rotate_left
                 ·simp only [Act.put, sa_, sb_, sc_, i64_w, i32_w]
                  rfl
                 refine one_ (i := 12) (N := some 448) (bl_ 18 0x1fff) rfl rfl (one_of HT_.out (by kernel_rfl)) (by decide) (fun K hK => ?_)
                 refine goes_ Try.func7 (by kernel_rfl) rfl #[.agg #[.int .i64 ((rd_T25 t514 t515).f0), .int .i64 ((rd_T25 t514 t515).f1)], .agg #[.int .i64 ((rd_T25 t514 (rd t518 (ji166))).f0), .int .i64 ((rd_T25 t514 (rd t518 (ji166))).f1)]] (by rfl) rfl rfl (by (try simp only [List.map_toArray, List.map_cons, List.map_nil]); first | done | (simp only [hji166]; rfl) | rfl | (simp only [List.length_drop, List.length_take]; rfl)) ?_
                 with_reducible refine (impl_MeetingOf.calls ((rd_T25 t514 t515).f0) ((rd_T25 t514 t515).f1) ((rd_T25 t514 (rd t518 (ji166))).f0) ((rd_T25 t514 (rd t518 (ji166))).f1) t562 true _ A171.out).mono ?_
                 rintro e w191 ⟨v563, rfl, ho0, hb⟩
                 have HS0_ := (hb.cell (World.block_lt_of_cell? _ _ (hHeld.1))).trans (hHeld.1)
                 have HS1_ := (hb.cell (World.block_lt_of_cell? _ _ (hHeld.2.1))).trans (hHeld.2.1)
                 have HS2_ := (hb.cell (World.block_lt_of_cell? _ _ (hHeld.2.2.1))).trans (hHeld.2.2.1)
                 have HS3_ := (hb.cell (World.block_lt_of_cell? _ _ (hHeld.2.2.2.1))).trans (hHeld.2.2.2.1)
                 have HS4_ := (hb.cell (World.block_lt_of_cell? _ _ (hHeld.2.2.2.2))).trans (hHeld.2.2.2.2)
                 refine ⟨_, rfl, ?_⟩
                 have n0_ := Aside0.mk (Kd.R_below (ru_ HO_23.out) hb)
                 have n1_ := Aside0.mk (Kd.R_elder' (ru_ HO_25.out) (Kd.R_base ho0) hb)
                 have n2_ := Aside0.mk (Kd.R_elder' (ru_ HO_412.out) (Kd.R_base ho0) hb)
                 have n3_ := Aside0.mk (Kd.R_elder' (ru_ HO557.out) (Kd.R_base ho0) hb)
                 have n4_ := Aside0.mk (Kd.R_lower (Kd.R_new' (Kd.R_new' (Kd.R_new' ho0 (Kd.R_lt (ru_ HO_25.out))) (Kd.R_lt (ru_ HO_412.out))) (Kd.R_lt (ru_ HO557.out))) (below_size (by repeat (first | (with_reducible first | apply below_alloc | apply pw_below_drewN | apply below_drew1 | refine below_set ?_ GE470.out | refine below_set ?_ GE471.out | refine below_set ?_ GE533.out) | exact HB.out))))
                 have n5_ := Aside0.mk (blk_below (g := gb470) (o := .cells #[.int .i64 t466, .int .i64 t467] 25 (0, 0)) (by (with_reducible repeat (first | refine blk_drewN ?_ _ | refine blk_drew ?_ | refine blk_alloc ?_ _)); exact BK470.out) hb)
                 have n6_ := Aside0.mk (blk_below (g := gb471) (o := .cells #[.int .i64 t468, .int .i64 t469] 25 (0, 0)) (by (with_reducible repeat (first | refine blk_drewN ?_ _ | refine blk_drew ?_ | refine blk_alloc ?_ _)); exact BK471.out) hb)
                 have n7_ := Aside0.mk (blk_below (g := gb533) (o := .cells #[.int .i64 t530, .int .i64 t531] 25 (0, 0)) (by (with_reducible repeat (first | refine blk_drewN ?_ _ | refine blk_drew ?_ | refine blk_alloc ?_ _)); exact BK533.out) hb)
                 have n8_ := Aside0.mk (below_step (by repeat (first | (with_reducible first | apply below_alloc | apply pw_below_drewN | apply below_drew1 | refine below_set ?_ GE470.out | refine below_set ?_ GE471.out | refine below_set ?_ GE533.out) | exact HB.out)) hb)
                 clear HO_23
                 clear HO_25
                 clear HO_412
                 clear HO557
                 clear BK470
                 clear BK471
                 clear BK533
                 clear HB
                 have HO_23 := n0_
                 have HO_25 := n1_
                 have HO_412 := n2_
                 have HO557 := n3_
                 have HO564 := n4_
                 have BK470 := n5_
                 have BK471 := n6_
                 have BK533 := n7_
                 have HB := n8_
                 clear n0_ n1_ n2_ n3_ n4_ n5_ n6_ n7_ n8_
                 (try clear hb)
                 (try clear hb2)
                 (try clear hk)
                 (try clear hi)
                 (try clear ho0)
                 refine hK.out _ _ ⟨HS0_, HS1_, HS2_, HS3_, HS4_⟩ (fun hHeld => ?_)
                 clear hK K
                 refine norm_ (a' := ?_) ?_ ?_
                 rotate_left
                 ·show Act.put _ (some 448) _ = _
                  simp only [Act.put, sa_, sb_, sc_, i64_w, i32_w]
                  rfl
                 refine pz_ 13 435 (bl_ 18 0x3fff) HT_.out ?_
                 refine pz_ 14 449 (bl_ 18 0x7fff) HT_.out ?_
                 refine pz_ 15 450 (bl_ 18 0xffff) HT_.out ?_
                 refine pz_ 16 53 (bl_ 18 0x1ffff) HT_.out ?_
                 refine pz_ 17 54 (bl_ 18 0x3ffff) HT_.out ?_
                 refine done_ (done_of HT_.out (by kernel_rfl)) ?_
                 try go_wp2
                 have n0_ := Aside0.mk (Kd.R_drew HO_23.out)
                 have n1_ := Aside0.mk (Kd.R_drew HO_25.out)
                 have n2_ := Aside0.mk (Kd.R_drew HO_412.out)
                 have n3_ := Aside0.mk (Kd.R_drew HO557.out)
                 have n4_ := Aside0.mk (Kd.R_drew HO564.out)
                 have n5_ := Aside0.mk (blk_drew BK470.out)
                 have n6_ := Aside0.mk (blk_drew BK471.out)
                 have n7_ := Aside0.mk (blk_drew BK533.out)
                 have n8_ := Aside0.mk (below_drew1 HB.out)
                 clear HO_23
                 clear HO_25
                 clear HO_412
                 clear HO557
                 clear HO564
                 clear BK470
                 clear BK471
                 clear BK533
                 clear HB
                 have HO_23 := n0_
                 have HO_25 := n1_
                 have HO_412 := n2_
                 have HO557 := n3_
                 have HO564 := n4_
                 have BK470 := n5_
                 have BK471 := n6_
                 have BK533 := n7_
                 have HB := n8_
                 clear n0_ n1_ n2_ n3_ n4_ n5_ n6_ n7_ n8_
                 obtain ⟨Ao193, co193, eo193⟩ := Kd.R_slice HO564.out
                 (first | subst eo193 | (injection eo193 with f1_ f2_ f3_; have f4_ := f1_.symm; have f5_ := f3_.symm; clear f1_ f2_ f3_; subst f4_; subst f5_))
                 have p566 : 0 ≤ (0 : Int) := (by omega)
                 have q566 : 0 < (t562.length : Int) := of_decide_eq_true (by assumption)
                 obtain ⟨ad566, e566, hx566_0⟩ := Kd.at_int (Kd.R_reads' HO564.out).2.2 0 p566 q566
                 cases e566
                 have qi566 : (0 < t562.length) = True := eq_true (by omega)
                 (try rw [show ((0 : Int)).toNat = 0 from rfl] at hx566_0)
                 (try rw [Addr.add_zero'] at hx566_0)
                 replace p566 := eq_true p566
                 replace q566 := eq_true q566
                 obtain ⟨Ao194, co194, eo194⟩ := Kd.R_slice HO557.out
                 (first | subst eo194 | (injection eo194 with f1_ f2_ f3_; have f4_ := f1_.symm; have f5_ := f3_.symm; clear f1_ f2_ f3_; subst f4_; subst f5_))
                 have p567 : 0 ≤ (1 : Int) := (by omega)
                 have q567 : 1 < (t555.length : Int) := of_decide_eq_true (by assumption)
                 obtain ⟨ad567, e567, hx567_0⟩ := Kd.at_int (Kd.R_reads' HO557.out).2.2 1 p567 q567
                 cases e567
                 (try simp only [show (1 : Int).toNat = 1 from rfl, Nat.reduceMul, Nat.reduceEqDiff, Go.Addr.add, ↓reduceIte] at hx567_0)
                 have qi567 : (1 < t555.length) = True := eq_true (by omega)
                 (try rw [show ((1 : Int)).toNat = 1 from rfl] at hx567_0)
                 replace p567 := eq_true p567
                 replace q567 := eq_true q567
                 have p568 : 0 ≤ (0 : Int) := (by omega)
                 have q568 : 0 < (t555.length : Int) := of_decide_eq_true (by assumption)
                 obtain ⟨ad568, e568, hx568_0⟩ := Kd.at_int (Kd.R_reads' HO557.out).2.2 0 p568 q568
                 obtain rfl : ad567 = ad568 := (by injection e568)
                 have qi568 : (0 < t555.length) = True := eq_true (by omega)
                 (try rw [show ((0 : Int)).toNat = 0 from rfl] at hx568_0)
                 (try rw [Addr.add_zero'] at hx568_0)
                 replace p568 := eq_true p568
                 replace q568 := eq_true q568
                 have p569 : 0 ≤ (1 : Int) := (by omega)
                 have q569 : 1 < (t562.length : Int) := of_decide_eq_true (by assumption)
                 obtain ⟨ad569, e569, hx569_0⟩ := Kd.at_int (Kd.R_reads' HO564.out).2.2 1 p569 q569
                 obtain rfl : ad566 = ad569 := (by injection e569)
                 (try simp only [show (1 : Int).toNat = 1 from rfl, Nat.reduceMul, Nat.reduceEqDiff, Go.Addr.add, ↓reduceIte] at hx569_0)
                 have qi569 : (1 < t562.length) = True := eq_true (by omega)
                 (try rw [show ((1 : Int)).toNat = 1 from rfl] at hx569_0)
                 replace p569 := eq_true p569
                 replace q569 := eq_true q569
                 refine start_ (n := 33) (S := fun w' => w'.cell? ad566 = some (.int .i64 (rd t562 0)) ∧ w'.cell? ⟨ad567.block, ad567.off + 1, none⟩ = some (.int .i64 (rd t555 1)) ∧ w'.cell? ad567 = some (.int .i64 (rd t555 0)) ∧ w'.cell? ⟨ad566.block, ad566.off + 1, none⟩ = some (.int .i64 (rd t562 1))) (ds := []) (bl_ 33 0x0) (by kernel_rfl) rfl rfl ⟨hx566_0, hx567_0, hx568_0, hx569_0⟩ (fun hHeld => ?_); refine with_tabW laws_FnThreadsMeet.tab50 laws_FnThreadsMeet.bits50 (fun HT_ HW_ => ?_)
                 generalize w191.drew = w192 at HO_23 HO_25 HO_412 HO557 HO564 BK470 BK471 BK533 HB hx566_0 hx567_0 hx568_0 hx569_0 hHeld ⊢
                 refine pz_ 0 451 (bl_ 33 0x1) HT_.out ?_
                 refine pz_ 1 452 (bl_ 33 0x3) HT_.out ?_
                 refine pz_ 2 453 (bl_ 33 0x7) HT_.out ?_
                 refine pz_ 3 454 (bl_ 33 0xf) HT_.out ?_
                 refine pz_ 4 455 (bl_ 33 0x1f) HT_.out ?_
                 refine pz_ 6 457 (bl_ 33 0x5f) HT_.out ?_
                 refine pz_ 7 458 (bl_ 33 0xdf) HT_.out ?_
                 refine pz_ 10 461 (bl_ 33 0x4df) HT_.out ?_
                 refine pz_ 11 462 (bl_ 33 0xcdf) HT_.out ?_
                 refine pz_ 13 464 (bl_ 33 0x2cdf) HT_.out ?_
                 refine pz_ 14 465 (bl_ 33 0x6cdf) HT_.out ?_
                 refine take_ (i := 5) (N := some 456) (v := ?_) (a' := ?_) (bl_ 33 0x6cff) rfl rfl (take_ofW HT_.out HW_.out (by kernel_rfl)) (fun _ _ _ h => h) (Or.inl ⟨by rfl, ?_⟩) hHeld ?_ ?_
                 rotate_left
                 ·rintro w' ⟨s0, s1, s2, s3⟩
                  go_simp
                  with_reducible rfl
                 rotate_left
                 ·simp only [Act.put, sa_, sb_, sc_, i64_w, i32_w]
                  rfl
                 refine take_ (i := 8) (N := some 459) (v := ?_) (a' := ?_) (bl_ 33 0x6dff) rfl rfl (take_ofW HT_.out HW_.out (by kernel_rfl)) (fun _ _ _ h => h) (Or.inl ⟨by rfl, ?_⟩) hHeld ?_ ?_
                 rotate_left
                 ·rintro w' ⟨s0, s1, s2, s3⟩
                  go_simp
                  with_reducible rfl
                 rotate_left
                 ·simp only [Act.put, sa_, sb_, sc_, i64_w, i32_w]
                  rfl
                 refine pz_ 9 460 (bl_ 33 0x6fff) HT_.out ?_
                 refine take_ (i := 12) (N := some 463) (v := ?_) (a' := ?_) (bl_ 33 0x7fff) rfl rfl (take_ofW HT_.out HW_.out (by kernel_rfl)) (fun _ _ _ h => h) (Or.inl ⟨by rfl, ?_⟩) hHeld ?_ ?_
                 rotate_left
                 ·rintro w' ⟨s0, s1, s2, s3⟩
                  go_simp
                  with_reducible rfl
                 rotate_left
                 ·simp only [Act.put, sa_, sb_, sc_, i64_w, i32_w]
                  rfl
                 refine take_ (i := 15) (N := some 466) (v := ?_) (a' := ?_) (bl_ 33 0xffff) rfl rfl (take_ofW HT_.out HW_.out (by kernel_rfl)) (fun _ _ _ h => h) (Or.inl ⟨by rfl, ?_⟩) hHeld ?_ ?_
                 rotate_left
                 ·rintro w' ⟨s0, s1, s2, s3⟩
                  go_simp
                  with_reducible rfl
                 rotate_left
                 ·simp only [Act.put, sa_, sb_, sc_, i64_w, i32_w]
                  rfl
                 refine pz_ 16 467 (bl_ 33 0x1ffff) HT_.out ?_
                 refine pz_ 17 468 (bl_ 33 0x3ffff) HT_.out ?_
                 refine pz_ 18 469 (bl_ 33 0x7ffff) HT_.out ?_
                 refine pz_ 19 470 (bl_ 33 0xfffff) HT_.out ?_
                 refine pz_ 20 471 (bl_ 33 0x1fffff) HT_.out ?_
                 refine pz_ 21 472 (bl_ 33 0x3fffff) HT_.out ?_
                 refine one_ (i := 22) (N := some 473) (bl_ 33 0x7fffff) rfl rfl (one_of HT_.out (by kernel_rfl)) (by decide) (fun K hK => ?_)
                 refine goes_ Try.func11 (by kernel_rfl) rfl #[.slice (some ad566) t562.length co193, .slice (some ad567) t555.length co194] (by rfl) rfl rfl (by (try simp only [List.map_toArray, List.map_cons, List.map_nil]); first | done | rfl | (simp only [List.length_drop, List.length_take]; rfl)) ?_
                 with_reducible refine (laws_gSame.calls k5 _ _ t562 _ _ t555 false _ ?side1 ?side2 ?side3 ?side4 A178.out).mono ?_
                 (case side1 => exact cu_ (Kd.R_reads' HO564.out).2.2)
                 (case side2 => exact (Kd.R_reads' HO564.out).2.1)
                 (case side3 => exact cu_ (Kd.R_reads' HO557.out).2.2)
                 (case side4 => exact (Kd.R_reads' HO557.out).2.1)
                 rintro e w' ⟨rfl, ⟨nd, rfl⟩⟩
                 refine ⟨_, rfl, ?_⟩
                 refine hK.out _ _ ⟨hHeld.1, hHeld.2.1, hHeld.2.2.1, hHeld.2.2.2⟩ (fun hHeld => ?_)
                 clear hK K
                 refine norm_ (a' := ?_) ?_ ?_
                 rotate_left
                 ·show Act.put _ (some 473) _ = _
                  simp only [Act.put, sa_, sb_, sc_, i64_w, i32_w]
                  rfl
                 refine pz_ 23 474 (bl_ 33 0xffffff) HT_.out ?_
                 refine pu_ 24 475 (bl_ 33 0x1ffffff) HT_.out ?_
                 refine pu_ 25 476 (bl_ 33 0x3ffffff) HT_.out ?_
                 refine pu_ 26 477 (bl_ 33 0x7ffffff) HT_.out ?_
                 refine pu_ 27 478 (bl_ 33 0xfffffff) HT_.out ?_
                 refine pu_ 28 479 (bl_ 33 0x1fffffff) HT_.out ?_
                 refine pu_ 29 480 (bl_ 33 0x3fffffff) HT_.out ?_
                 refine pu_ 30 481 (bl_ 33 0x7fffffff) HT_.out ?_
                 refine pz_ 31 482 (bl_ 33 0xffffffff) HT_.out ?_
                 refine pz_ 32 483 (bl_ 33 0x1ffffffff) HT_.out ?_
                 refine done_ (done_of HT_.out (by kernel_rfl)) ?_
                 try go_wp2
                 go_roundg k5
                 case measure => have := HJ9.out; have := HJ37.out; have := HJ87.out; have := HK4.out; have := HK5.out; omega
                 case rel => exact ⟨(wrap64 (x414_5 + 1)), (by first | rfl | (simp; done) | (simp [*]; done)), H', ⟨by have := HJ9.out; have := HJ37.out; have := HJ87.out; have := HK4.out; have := HK5.out; omega⟩, ⟨by (with_reducible repeat (first | apply Kd.R_alloc | apply Kd.R_drewN | apply Kd.R_drew)); exact HO_23.out⟩, ⟨by (with_reducible repeat (first | apply Kd.R_alloc | apply Kd.R_drewN | apply Kd.R_drew)); exact Kd.R_mono HO_25.out (fun _ hk => trivial)⟩, ⟨by (with_reducible repeat (first | apply Kd.R_alloc | apply Kd.R_drewN | apply Kd.R_drew)); exact Kd.R_mono HO_412.out (fun _ hk => trivial)⟩, ⟨by (with_reducible repeat (first | refine blk_drewN ?_ _ | refine blk_drew ?_ | refine blk_alloc ?_ _)); exact BK470.out⟩, ⟨by (with_reducible repeat (first | refine blk_drewN ?_ _ | refine blk_drew ?_ | refine blk_alloc ?_ _)); exact BK471.out⟩, ⟨by (with_reducible repeat (first | refine blk_drewN ?_ _ | refine blk_drew ?_ | refine blk_alloc ?_ _)); exact BK533.out⟩, ⟨by repeat (first | (with_reducible first | apply below_alloc | apply pw_below_drewN | apply below_drew1 | refine below_set ?_ GE470.out | refine below_set ?_ GE471.out | refine below_set ?_ GE533.out) | exact HB.out)⟩⟩
                subst c179
                rw [if_pos rfl] at H
                by_cases c180 : (rd t518 (ji166)) > (rd t518 x414_5)
                ·rw [if_pos c180] at H
                 exact absurd H (by simp)
                rw [if_neg c180] at H
                have c180b0 : decide ((rd t518 x414_5) < (rd t518 (ji166))) = false := decide_eq_false c180
                clear c180
                have H' := Aside0.mk H
                clear H
                have p552 : 0 ≤ (x414_5 : Int) := of_decide_eq_true (by assumption)
                have q552 : x414_5 < (t518.length : Int) := of_decide_eq_true (by assumption)
                obtain ⟨ad552, e552, hx552_0⟩ := Kd.at_int (Kd.R_reads' HO_412.out).2.2 x414_5 p552 q552
                cases e552
                replace p552 := eq_true p552
                replace q552 := eq_true q552
                try go_wp2
                have n0_ := Aside0.mk (Kd.R_drew HO_23.out)
                have n1_ := Aside0.mk (Kd.R_drew HO_25.out)
                have n2_ := Aside0.mk (Kd.R_drew HO_412.out)
                have n3_ := Aside0.mk (blk_drew BK470.out)
                have n4_ := Aside0.mk (blk_drew BK471.out)
                have n5_ := Aside0.mk (blk_drew BK533.out)
                have n6_ := Aside0.mk (below_drew1 HB.out)
                clear HO_23
                clear HO_25
                clear HO_412
                clear BK470
                clear BK471
                clear BK533
                clear HB
                have HO_23 := n0_
                have HO_25 := n1_
                have HO_412 := n2_
                have BK470 := n3_
                have BK471 := n4_
                have BK533 := n5_
                have HB := n6_
                clear n0_ n1_ n2_ n3_ n4_ n5_ n6_
                have p553 : 0 ≤ (t515 : Int) := of_decide_eq_true (by assumption)
                have q553 : t515 < (t514.length : Int) := of_decide_eq_true (by assumption)
                obtain ⟨ad553, e553, hx553_0, hx553_1⟩ := at_T25 (Kd.R_reads' HO_23.out).2.2 t515 p553 q553
                cases e553
                replace p553 := eq_true p553
                replace q553 := eq_true q553
                have p554 : 0 ≤ ((rd t518 x414_5) : Int) := of_decide_eq_true (by assumption)
                have q554 : (rd t518 x414_5) < (t514.length : Int) := of_decide_eq_true (by assumption)
                obtain ⟨ad554, e554, hx554_0, hx554_1⟩ := at_T25 (Kd.R_reads' HO_23.out).2.2 (rd t518 x414_5) p554 q554
                obtain rfl : ad553 = ad554 := (by injection e554)
                replace p554 := eq_true p554
                replace q554 := eq_true q554
                refine start_ (n := 14) (S := fun w' => w'.cell? (ad553.add ((t515).toNat * 2)) = some (.int .i64 ((rd_T25 t514 t515).f0)) ∧ w'.cell? ⟨(ad553.add ((t515).toNat * 2)).block, (ad553.add ((t515).toNat * 2)).off + 1, none⟩ = some (.int .i64 ((rd_T25 t514 t515).f1)) ∧ w'.cell? (ad553.add (((rd t518 x414_5)).toNat * 2)) = some (.int .i64 ((rd_T25 t514 (rd t518 x414_5)).f0)) ∧ w'.cell? ⟨(ad553.add (((rd t518 x414_5)).toNat * 2)).block, (ad553.add (((rd t518 x414_5)).toNat * 2)).off + 1, none⟩ = some (.int .i64 ((rd_T25 t514 (rd t518 x414_5)).f1))) (ds := []) (bl_ 14 0x0) (by kernel_rfl) rfl rfl ⟨hx553_0, hx553_1, hx554_0, hx554_1⟩ (fun hHeld => ?_); refine with_tabW laws_FnThreadsMeet.tab45 laws_FnThreadsMeet.bits45 (fun HT_ HW_ => ?_)
                generalize wr.drew = w181 at HO_23 HO_25 HO_412 BK470 BK471 BK533 HB hx553_0 hx553_1 hx554_0 hx554_1 hHeld ⊢
                refine pz_ 0 420 (bl_ 14 0x1) HT_.out ?_
                refine pz_ 1 421 (bl_ 14 0x3) HT_.out ?_
                refine pz_ 2 422 (bl_ 14 0x7) HT_.out ?_
                refine pz_ 4 424 (bl_ 14 0x17) HT_.out ?_
                refine pz_ 5 425 (bl_ 14 0x37) HT_.out ?_
                refine pz_ 6 426 (bl_ 14 0x77) HT_.out ?_
                refine take_ (i := 3) (N := some 423) (v := ?_) (a' := ?_) (bl_ 14 0x7f) rfl rfl (take_ofW HT_.out HW_.out (by kernel_rfl)) (fun _ _ _ h => h) (Or.inl ⟨by rfl, ?_⟩) hHeld ?_ ?_
                rotate_left
                ·rintro w' ⟨s0, s1, s2, s3⟩
                 go_simp
                 with_reducible rfl
                rotate_left
                ·simp only [Act.put, sa_, sb_, sc_, i64_w, i32_w]
                 rfl
                refine take_ (i := 7) (N := some 427) (v := ?_) (a' := ?_) (bl_ 14 0xff) rfl rfl (take_ofW HT_.out HW_.out (by kernel_rfl)) (fun _ _ _ h => h) (Or.inl ⟨by rfl, ?_⟩) hHeld ?_ ?_
                rotate_left
                ·rintro w' ⟨s0, s1, s2, s3⟩
                 go_simp
                 with_reducible rfl
                rotate_left
                ·simp only [Act.put, sa_, sb_, sc_, i64_w, i32_w]
                 rfl
                refine one_ (i := 8) (N := some 428) (bl_ 14 0x1ff) rfl rfl (one_of HT_.out (by kernel_rfl)) (by decide) (fun K hK => ?_)
                refine goes_ Try.func7 (by kernel_rfl) rfl #[.agg #[.int .i64 ((rd_T25 t514 t515).f0), .int .i64 ((rd_T25 t514 t515).f1)], .agg #[.int .i64 ((rd_T25 t514 (rd t518 x414_5)).f0), .int .i64 ((rd_T25 t514 (rd t518 x414_5)).f1)]] (by rfl) rfl rfl (by (try simp only [List.map_toArray, List.map_cons, List.map_nil]); first | done | rfl | (simp only [List.length_drop, List.length_take]; rfl)) ?_
                with_reducible refine (impl_MeetingOf.calls ((rd_T25 t514 t515).f0) ((rd_T25 t514 t515).f1) ((rd_T25 t514 (rd t518 x414_5)).f0) ((rd_T25 t514 (rd t518 x414_5)).f1) t555 true _ A163.out).mono ?_
                rintro e w182 ⟨v556, rfl, ho0, hb⟩
                have HS0_ := (hb.cell (World.block_lt_of_cell? _ _ (hHeld.1))).trans (hHeld.1)
                have HS1_ := (hb.cell (World.block_lt_of_cell? _ _ (hHeld.2.1))).trans (hHeld.2.1)
                have HS2_ := (hb.cell (World.block_lt_of_cell? _ _ (hHeld.2.2.1))).trans (hHeld.2.2.1)
                have HS3_ := (hb.cell (World.block_lt_of_cell? _ _ (hHeld.2.2.2))).trans (hHeld.2.2.2)
                refine ⟨_, rfl, ?_⟩
                have n0_ := Aside0.mk (Kd.R_below (ru_ HO_23.out) hb)
                have n1_ := Aside0.mk (Kd.R_elder' (ru_ HO_25.out) (Kd.R_base ho0) hb)
                have n2_ := Aside0.mk (Kd.R_elder' (ru_ HO_412.out) (Kd.R_base ho0) hb)
                have n3_ := Aside0.mk (Kd.R_lower (Kd.R_new' (Kd.R_new' ho0 (Kd.R_lt (ru_ HO_25.out))) (Kd.R_lt (ru_ HO_412.out))) (below_size (by repeat (first | (with_reducible first | apply below_alloc | apply pw_below_drewN | apply below_drew1 | refine below_set ?_ GE470.out | refine below_set ?_ GE471.out | refine below_set ?_ GE533.out) | exact HB.out))))
                have n4_ := Aside0.mk (blk_below (g := gb470) (o := .cells #[.int .i64 t466, .int .i64 t467] 25 (0, 0)) (by (with_reducible repeat (first | refine blk_drewN ?_ _ | refine blk_drew ?_ | refine blk_alloc ?_ _)); exact BK470.out) hb)
                have n5_ := Aside0.mk (blk_below (g := gb471) (o := .cells #[.int .i64 t468, .int .i64 t469] 25 (0, 0)) (by (with_reducible repeat (first | refine blk_drewN ?_ _ | refine blk_drew ?_ | refine blk_alloc ?_ _)); exact BK471.out) hb)
                have n6_ := Aside0.mk (blk_below (g := gb533) (o := .cells #[.int .i64 t530, .int .i64 t531] 25 (0, 0)) (by (with_reducible repeat (first | refine blk_drewN ?_ _ | refine blk_drew ?_ | refine blk_alloc ?_ _)); exact BK533.out) hb)
                have n7_ := Aside0.mk (below_step (by repeat (first | (with_reducible first | apply below_alloc | apply pw_below_drewN | apply below_drew1 | refine below_set ?_ GE470.out | refine below_set ?_ GE471.out | refine below_set ?_ GE533.out) | exact HB.out)) hb)
                clear HO_23
                clear HO_25
                clear HO_412
                clear BK470
                clear BK471
                clear BK533
                clear HB
                have HO_23 := n0_
                have HO_25 := n1_
                have HO_412 := n2_
                have HO557 := n3_
                have BK470 := n4_
                have BK471 := n5_
                have BK533 := n6_
                have HB := n7_
                clear n0_ n1_ n2_ n3_ n4_ n5_ n6_ n7_
                (try clear hb)
                (try clear hb2)
                (try clear hk)
                (try clear hi)
                (try clear ho0)
                refine hK.out _ _ ⟨HS0_, HS1_, HS2_, HS3_⟩ (fun hHeld => ?_)
                clear hK K
                refine norm_ (a' := ?_) ?_ ?_
                rotate_left
                ·show Act.put _ (some 428) _ = _
                 simp only [Act.put, sa_, sb_, sc_, i64_w, i32_w]
                 rfl
                refine pz_ 9 419 (bl_ 14 0x3ff) HT_.out ?_
                refine pz_ 10 429 (bl_ 14 0x7ff) HT_.out ?_
                refine pz_ 11 430 (bl_ 14 0xfff) HT_.out ?_
                refine pz_ 12 51 (bl_ 14 0x1fff) HT_.out ?_
                refine pz_ 13 52 (bl_ 14 0x3fff) HT_.out ?_
                refine done_ (done_of HT_.out (by kernel_rfl)) ?_
                try go_wp2
                have n0_ := Aside0.mk (Kd.R_drew HO_23.out)
                have n1_ := Aside0.mk (Kd.R_drew HO_25.out)
                have n2_ := Aside0.mk (Kd.R_drew HO_412.out)
                have n3_ := Aside0.mk (Kd.R_drew HO557.out)
                have n4_ := Aside0.mk (blk_drew BK470.out)
                have n5_ := Aside0.mk (blk_drew BK471.out)
                have n6_ := Aside0.mk (blk_drew BK533.out)
                have n7_ := Aside0.mk (below_drew1 HB.out)
                clear HO_23
                clear HO_25
                clear HO_412
                clear HO557
                clear BK470
                clear BK471
                clear BK533
                clear HB
                have HO_23 := n0_
                have HO_25 := n1_
                have HO_412 := n2_
                have HO557 := n3_
                have BK470 := n4_
                have BK471 := n5_
                have BK533 := n6_
                have HB := n7_
                clear n0_ n1_ n2_ n3_ n4_ n5_ n6_ n7_
                have p559 : 0 ≤ (t515 : Int) := of_decide_eq_true (by assumption)
                have q559 : t515 < (t514.length : Int) := of_decide_eq_true (by assumption)
                obtain ⟨ad559, e559, hx559_0, hx559_1⟩ := at_T25 (Kd.R_reads' HO_23.out).2.2 t515 p559 q559
                obtain rfl : ad553 = ad559 := (by injection e559)
                replace p559 := eq_true p559
                replace q559 := eq_true q559
                have p560 : 0 ≤ ((ji166) : Int) := of_decide_eq_true (by assumption)
                have q560 : (ji166) < (t518.length : Int) := of_decide_eq_true (by assumption)
                obtain ⟨ad560, e560, hx560_0⟩ := Kd.at_int (Kd.R_reads' HO_25.out).2.2 (ji166) p560 q560
                obtain rfl : ad552 = ad560 := (by injection e560)
                replace p560 := eq_true p560
                replace q560 := eq_true q560
                have p561 : 0 ≤ ((rd t518 (ji166)) : Int) := of_decide_eq_true (by assumption)
                have q561 : (rd t518 (ji166)) < (t514.length : Int) := of_decide_eq_true (by assumption)
                obtain ⟨ad561, e561, hx561_0, hx561_1⟩ := at_T25 (Kd.R_reads' HO_23.out).2.2 (rd t518 (ji166)) p561 q561
                obtain rfl : ad553 = ad561 := (by injection e561)
                replace p561 := eq_true p561
                replace q561 := eq_true q561
                refine start_ (n := 18) (S := fun w' => w'.cell? (ad553.add ((t515).toNat * 2)) = some (.int .i64 ((rd_T25 t514 t515).f0)) ∧ w'.cell? ⟨(ad553.add ((t515).toNat * 2)).block, (ad553.add ((t515).toNat * 2)).off + 1, none⟩ = some (.int .i64 ((rd_T25 t514 t515).f1)) ∧ w'.cell? (ad552.add ((ji166)).toNat) = some (.int .i64 (rd t518 (ji166))) ∧ w'.cell? (ad553.add (((rd t518 (ji166))).toNat * 2)) = some (.int .i64 ((rd_T25 t514 (rd t518 (ji166))).f0)) ∧ w'.cell? ⟨(ad553.add (((rd t518 (ji166))).toNat * 2)).block, (ad553.add (((rd t518 (ji166))).toNat * 2)).off + 1, none⟩ = some (.int .i64 ((rd_T25 t514 (rd t518 (ji166))).f1))) (ds := []) (bl_ 18 0x0) (by kernel_rfl) rfl rfl ⟨hx559_0, hx559_1, hx560_0, hx561_0, hx561_1⟩ (fun hHeld => ?_); refine with_tabW laws_FnThreadsMeet.tab49 laws_FnThreadsMeet.bits49 (fun HT_ HW_ => ?_)
                generalize w182.drew = w183 at HO_23 HO_25 HO_412 HO557 BK470 BK471 BK533 HB hx559_0 hx559_1 hx560_0 hx561_0 hx561_1 hHeld ⊢
                refine pz_ 0 436 (bl_ 18 0x1) HT_.out ?_
                refine pz_ 1 437 (bl_ 18 0x3) HT_.out ?_
                refine pz_ 2 438 (bl_ 18 0x7) HT_.out ?_
                refine pz_ 4 440 (bl_ 18 0x17) HT_.out ?_
                refine pz_ 5 441 (bl_ 18 0x37) HT_.out ?_
                refine pz_ 6 442 (bl_ 18 0x77) HT_.out ?_
                refine pz_ 7 443 (bl_ 18 0xf7) HT_.out ?_
                refine pz_ 8 444 (bl_ 18 0x1f7) HT_.out ?_
                refine take_ (i := 3) (N := some 439) (v := ?_) (a' := ?_) (bl_ 18 0x1ff) rfl rfl (take_ofW HT_.out HW_.out (by kernel_rfl)) (fun _ _ _ h => h) (Or.inl ⟨by rfl, ?_⟩) hHeld ?_ ?_
                rotate_left
                ·rintro w' ⟨s0, s1, s2, s3, s4⟩
                 go_simp
                 with_reducible rfl
                rotate_left
                ·simp only [Act.put, sa_, sb_, sc_, i64_w, i32_w]
                 rfl
                refine take_ (i := 9) (N := some 445) (v := ?_) (a' := ?_) (bl_ 18 0x3ff) rfl rfl (take_ofW HT_.out HW_.out (by kernel_rfl)) (fun _ _ _ h => h) (Or.inl ⟨by rfl, ?_⟩) hHeld ?_ ?_
                rotate_left
                ·rintro w' ⟨s0, s1, s2, s3, s4⟩
                 go_simp
                 with_reducible rfl
                rotate_left
                ·simp only [Act.put, sa_, sb_, sc_, i64_w, i32_w]
                 rfl
                refine pz_ 10 446 (bl_ 18 0x7ff) HT_.out ?_
                refine take_ (i := 11) (N := some 447) (v := ?_) (a' := ?_) (bl_ 18 0xfff) rfl rfl (take_ofW HT_.out HW_.out (by kernel_rfl)) (fun _ _ _ h => h) (Or.inl ⟨by rfl, ?_⟩) hHeld ?_ ?_
                rotate_left
                ·rintro w' ⟨s0, s1, s2, s3, s4⟩
                 go_simp
                 with_reducible rfl
                rotate_left
                ·simp only [Act.put, sa_, sb_, sc_, i64_w, i32_w]
                 rfl
                refine one_ (i := 12) (N := some 448) (bl_ 18 0x1fff) rfl rfl (one_of HT_.out (by kernel_rfl)) (by decide) (fun K hK => ?_)
                refine goes_ Try.func7 (by kernel_rfl) rfl #[.agg #[.int .i64 ((rd_T25 t514 t515).f0), .int .i64 ((rd_T25 t514 t515).f1)], .agg #[.int .i64 ((rd_T25 t514 (rd t518 (ji166))).f0), .int .i64 ((rd_T25 t514 (rd t518 (ji166))).f1)]] (by rfl) rfl rfl (by (try simp only [List.map_toArray, List.map_cons, List.map_nil]); first | done | (simp only [hji166]; rfl) | rfl | (simp only [List.length_drop, List.length_take]; rfl)) ?_
                with_reducible refine (impl_MeetingOf.calls ((rd_T25 t514 t515).f0) ((rd_T25 t514 t515).f1) ((rd_T25 t514 (rd t518 (ji166))).f0) ((rd_T25 t514 (rd t518 (ji166))).f1) t562 true _ A171.out).mono ?_
                rintro e w184 ⟨v563, rfl, ho0, hb⟩
                have HS0_ := (hb.cell (World.block_lt_of_cell? _ _ (hHeld.1))).trans (hHeld.1)
                have HS1_ := (hb.cell (World.block_lt_of_cell? _ _ (hHeld.2.1))).trans (hHeld.2.1)
                have HS2_ := (hb.cell (World.block_lt_of_cell? _ _ (hHeld.2.2.1))).trans (hHeld.2.2.1)
                have HS3_ := (hb.cell (World.block_lt_of_cell? _ _ (hHeld.2.2.2.1))).trans (hHeld.2.2.2.1)
                have HS4_ := (hb.cell (World.block_lt_of_cell? _ _ (hHeld.2.2.2.2))).trans (hHeld.2.2.2.2)
                refine ⟨_, rfl, ?_⟩
                have n0_ := Aside0.mk (Kd.R_below (ru_ HO_23.out) hb)
                have n1_ := Aside0.mk (Kd.R_elder' (ru_ HO_25.out) (Kd.R_base ho0) hb)
                have n2_ := Aside0.mk (Kd.R_elder' (ru_ HO_412.out) (Kd.R_base ho0) hb)
                have n3_ := Aside0.mk (Kd.R_elder' (ru_ HO557.out) (Kd.R_base ho0) hb)
                have n4_ := Aside0.mk (Kd.R_lower (Kd.R_new' (Kd.R_new' (Kd.R_new' ho0 (Kd.R_lt (ru_ HO_25.out))) (Kd.R_lt (ru_ HO_412.out))) (Kd.R_lt (ru_ HO557.out))) (below_size (by repeat (first | (with_reducible first | apply below_alloc | apply pw_below_drewN | apply below_drew1 | refine below_set ?_ GE470.out | refine below_set ?_ GE471.out | refine below_set ?_ GE533.out) | exact HB.out))))
                have n5_ := Aside0.mk (blk_below (g := gb470) (o := .cells #[.int .i64 t466, .int .i64 t467] 25 (0, 0)) (by (with_reducible repeat (first | refine blk_drewN ?_ _ | refine blk_drew ?_ | refine blk_alloc ?_ _)); exact BK470.out) hb)
                have n6_ := Aside0.mk (blk_below (g := gb471) (o := .cells #[.int .i64 t468, .int .i64 t469] 25 (0, 0)) (by (with_reducible repeat (first | refine blk_drewN ?_ _ | refine blk_drew ?_ | refine blk_alloc ?_ _)); exact BK471.out) hb)
                have n7_ := Aside0.mk (blk_below (g := gb533) (o := .cells #[.int .i64 t530, .int .i64 t531] 25 (0, 0)) (by (with_reducible repeat (first | refine blk_drewN ?_ _ | refine blk_drew ?_ | refine blk_alloc ?_ _)); exact BK533.out) hb)
                have n8_ := Aside0.mk (below_step (by repeat (first | (with_reducible first | apply below_alloc | apply pw_below_drewN | apply below_drew1 | refine below_set ?_ GE470.out | refine below_set ?_ GE471.out | refine below_set ?_ GE533.out) | exact HB.out)) hb)
                clear HO_23
                clear HO_25
                clear HO_412
                clear HO557
                clear BK470
                clear BK471
                clear BK533
                clear HB
                have HO_23 := n0_
                have HO_25 := n1_
                have HO_412 := n2_
                have HO557 := n3_
                have HO564 := n4_
                have BK470 := n5_
                have BK471 := n6_
                have BK533 := n7_
                have HB := n8_
                clear n0_ n1_ n2_ n3_ n4_ n5_ n6_ n7_ n8_
                (try clear hb)
                (try clear hb2)
                (try clear hk)
                (try clear hi)
                (try clear ho0)
                refine hK.out _ _ ⟨HS0_, HS1_, HS2_, HS3_, HS4_⟩ (fun hHeld => ?_)
                clear hK K
                refine norm_ (a' := ?_) ?_ ?_
                rotate_left
                ·show Act.put _ (some 448) _ = _
                 simp only [Act.put, sa_, sb_, sc_, i64_w, i32_w]
                 rfl
                refine pz_ 13 435 (bl_ 18 0x3fff) HT_.out ?_
                refine pz_ 14 449 (bl_ 18 0x7fff) HT_.out ?_
                refine pz_ 15 450 (bl_ 18 0xffff) HT_.out ?_
                refine pz_ 16 53 (bl_ 18 0x1ffff) HT_.out ?_
                refine pz_ 17 54 (bl_ 18 0x3ffff) HT_.out ?_
                refine done_ (done_of HT_.out (by kernel_rfl)) ?_
                try go_wp2
                have n0_ := Aside0.mk (Kd.R_drew HO_23.out)
                have n1_ := Aside0.mk (Kd.R_drew HO_25.out)
                have n2_ := Aside0.mk (Kd.R_drew HO_412.out)
                have n3_ := Aside0.mk (Kd.R_drew HO557.out)
                have n4_ := Aside0.mk (Kd.R_drew HO564.out)
                have n5_ := Aside0.mk (blk_drew BK470.out)
                have n6_ := Aside0.mk (blk_drew BK471.out)
                have n7_ := Aside0.mk (blk_drew BK533.out)
                have n8_ := Aside0.mk (below_drew1 HB.out)
                clear HO_23
                clear HO_25
                clear HO_412
                clear HO557
                clear HO564
                clear BK470
                clear BK471
                clear BK533
                clear HB
                have HO_23 := n0_
                have HO_25 := n1_
                have HO_412 := n2_
                have HO557 := n3_
                have HO564 := n4_
                have BK470 := n5_
                have BK471 := n6_
                have BK533 := n7_
                have HB := n8_
                clear n0_ n1_ n2_ n3_ n4_ n5_ n6_ n7_ n8_
                obtain ⟨Ao186, co186, eo186⟩ := Kd.R_slice HO564.out
                (first | subst eo186 | (injection eo186 with f1_ f2_ f3_; have f4_ := f1_.symm; have f5_ := f3_.symm; clear f1_ f2_ f3_; subst f4_; subst f5_))
                have p566 : 0 ≤ (0 : Int) := (by omega)
                have q566 : 0 < (t562.length : Int) := of_decide_eq_true (by assumption)
                obtain ⟨ad566, e566, hx566_0⟩ := Kd.at_int (Kd.R_reads' HO564.out).2.2 0 p566 q566
                cases e566
                have qi566 : (0 < t562.length) = True := eq_true (by omega)
                (try rw [show ((0 : Int)).toNat = 0 from rfl] at hx566_0)
                (try rw [Addr.add_zero'] at hx566_0)
                replace p566 := eq_true p566
                replace q566 := eq_true q566
                obtain ⟨Ao187, co187, eo187⟩ := Kd.R_slice HO557.out
                (first | subst eo187 | (injection eo187 with f1_ f2_ f3_; have f4_ := f1_.symm; have f5_ := f3_.symm; clear f1_ f2_ f3_; subst f4_; subst f5_))
                have p567 : 0 ≤ (1 : Int) := (by omega)
                have q567 : 1 < (t555.length : Int) := of_decide_eq_true (by assumption)
                obtain ⟨ad567, e567, hx567_0⟩ := Kd.at_int (Kd.R_reads' HO557.out).2.2 1 p567 q567
                cases e567
                (try simp only [show (1 : Int).toNat = 1 from rfl, Nat.reduceMul, Nat.reduceEqDiff, Go.Addr.add, ↓reduceIte] at hx567_0)
                have qi567 : (1 < t555.length) = True := eq_true (by omega)
                (try rw [show ((1 : Int)).toNat = 1 from rfl] at hx567_0)
                replace p567 := eq_true p567
                replace q567 := eq_true q567
                have p568 : 0 ≤ (0 : Int) := (by omega)
                have q568 : 0 < (t555.length : Int) := of_decide_eq_true (by assumption)
                obtain ⟨ad568, e568, hx568_0⟩ := Kd.at_int (Kd.R_reads' HO557.out).2.2 0 p568 q568
                obtain rfl : ad567 = ad568 := (by injection e568)
                have qi568 : (0 < t555.length) = True := eq_true (by omega)
                (try rw [show ((0 : Int)).toNat = 0 from rfl] at hx568_0)
                (try rw [Addr.add_zero'] at hx568_0)
                replace p568 := eq_true p568
                replace q568 := eq_true q568
                have p569 : 0 ≤ (1 : Int) := (by omega)
                have q569 : 1 < (t562.length : Int) := of_decide_eq_true (by assumption)
                obtain ⟨ad569, e569, hx569_0⟩ := Kd.at_int (Kd.R_reads' HO564.out).2.2 1 p569 q569
                obtain rfl : ad566 = ad569 := (by injection e569)
                (try simp only [show (1 : Int).toNat = 1 from rfl, Nat.reduceMul, Nat.reduceEqDiff, Go.Addr.add, ↓reduceIte] at hx569_0)
                have qi569 : (1 < t562.length) = True := eq_true (by omega)
                (try rw [show ((1 : Int)).toNat = 1 from rfl] at hx569_0)
                replace p569 := eq_true p569
                replace q569 := eq_true q569
                have p571 : 0 ≤ ((ji166) : Int) := of_decide_eq_true (by assumption)
                have q571 : (ji166) < (t518.length : Int) := of_decide_eq_true (by assumption)
                obtain ⟨ad571, e571, hx571_0⟩ := Kd.at_int (Kd.R_reads' HO_25.out).2.2 (ji166) p571 q571
                obtain rfl : ad552 = ad571 := (by injection e571)
                replace p571 := eq_true p571
                replace q571 := eq_true q571
                refine start_ (n := 33) (S := fun w' => w'.cell? ad566 = some (.int .i64 (rd t562 0)) ∧ w'.cell? ⟨ad567.block, ad567.off + 1, none⟩ = some (.int .i64 (rd t555 1)) ∧ w'.cell? ad567 = some (.int .i64 (rd t555 0)) ∧ w'.cell? ⟨ad566.block, ad566.off + 1, none⟩ = some (.int .i64 (rd t562 1)) ∧ w'.cell? (ad552.add ((ji166)).toNat) = some (.int .i64 (rd t518 (ji166)))) (ds := []) (bl_ 33 0x0) (by kernel_rfl) rfl rfl ⟨hx566_0, hx567_0, hx568_0, hx569_0, hx571_0⟩ (fun hHeld => ?_); refine with_tabW laws_FnThreadsMeet.tab50 laws_FnThreadsMeet.bits50 (fun HT_ HW_ => ?_)
                generalize w184.drew = w185 at HO_23 HO_25 HO_412 HO557 HO564 BK470 BK471 BK533 HB hx566_0 hx567_0 hx568_0 hx569_0 hx571_0 hHeld ⊢
                refine pz_ 0 451 (bl_ 33 0x1) HT_.out ?_
                refine pz_ 1 452 (bl_ 33 0x3) HT_.out ?_
                refine pz_ 2 453 (bl_ 33 0x7) HT_.out ?_
                refine pz_ 3 454 (bl_ 33 0xf) HT_.out ?_
                refine pz_ 4 455 (bl_ 33 0x1f) HT_.out ?_
                refine pz_ 6 457 (bl_ 33 0x5f) HT_.out ?_
                refine pz_ 7 458 (bl_ 33 0xdf) HT_.out ?_
                refine pz_ 10 461 (bl_ 33 0x4df) HT_.out ?_
                refine pz_ 11 462 (bl_ 33 0xcdf) HT_.out ?_
                refine pz_ 13 464 (bl_ 33 0x2cdf) HT_.out ?_
                refine pz_ 14 465 (bl_ 33 0x6cdf) HT_.out ?_
                refine take_ (i := 5) (N := some 456) (v := ?_) (a' := ?_) (bl_ 33 0x6cff) rfl rfl (take_ofW HT_.out HW_.out (by kernel_rfl)) (fun _ _ _ h => h) (Or.inl ⟨by rfl, ?_⟩) hHeld ?_ ?_
                rotate_left
                ·rintro w' ⟨s0, s1, s2, s3, s4⟩
                 go_simp
                 with_reducible rfl
                rotate_left
                ·simp only [Act.put, sa_, sb_, sc_, i64_w, i32_w]
                 rfl
                refine take_ (i := 8) (N := some 459) (v := ?_) (a' := ?_) (bl_ 33 0x6dff) rfl rfl (take_ofW HT_.out HW_.out (by kernel_rfl)) (fun _ _ _ h => h) (Or.inl ⟨by rfl, ?_⟩) hHeld ?_ ?_
                rotate_left
                ·rintro w' ⟨s0, s1, s2, s3, s4⟩
                 go_simp
                 with_reducible rfl
                rotate_left
                ·simp only [Act.put, sa_, sb_, sc_, i64_w, i32_w]
                 rfl
                refine pz_ 9 460 (bl_ 33 0x6fff) HT_.out ?_
                refine take_ (i := 12) (N := some 463) (v := ?_) (a' := ?_) (bl_ 33 0x7fff) rfl rfl (take_ofW HT_.out HW_.out (by kernel_rfl)) (fun _ _ _ h => h) (Or.inl ⟨by rfl, ?_⟩) hHeld ?_ ?_
                rotate_left
                ·rintro w' ⟨s0, s1, s2, s3, s4⟩
                 go_simp
                 with_reducible rfl
                rotate_left
                ·simp only [Act.put, sa_, sb_, sc_, i64_w, i32_w]
                 rfl
                refine take_ (i := 15) (N := some 466) (v := ?_) (a' := ?_) (bl_ 33 0xffff) rfl rfl (take_ofW HT_.out HW_.out (by kernel_rfl)) (fun _ _ _ h => h) (Or.inl ⟨by rfl, ?_⟩) hHeld ?_ ?_
                rotate_left
                ·rintro w' ⟨s0, s1, s2, s3, s4⟩
                 go_simp
                 with_reducible rfl
                rotate_left
                ·simp only [Act.put, sa_, sb_, sc_, i64_w, i32_w]
                 rfl
                refine pz_ 16 467 (bl_ 33 0x1ffff) HT_.out ?_
                refine pz_ 17 468 (bl_ 33 0x3ffff) HT_.out ?_
                refine pz_ 18 469 (bl_ 33 0x7ffff) HT_.out ?_
                refine pz_ 19 470 (bl_ 33 0xfffff) HT_.out ?_
                refine pz_ 20 471 (bl_ 33 0x1fffff) HT_.out ?_
                refine pz_ 21 472 (bl_ 33 0x3fffff) HT_.out ?_
                refine one_ (i := 22) (N := some 473) (bl_ 33 0x7fffff) rfl rfl (one_of HT_.out (by kernel_rfl)) (by decide) (fun K hK => ?_)
                refine goes_ Try.func11 (by kernel_rfl) rfl #[.slice (some ad566) t562.length co186, .slice (some ad567) t555.length co187] (by rfl) rfl rfl (by (try simp only [List.map_toArray, List.map_cons, List.map_nil]); first | done | rfl | (simp only [List.length_drop, List.length_take]; rfl)) ?_
                with_reducible refine (laws_gSame.calls k5 _ _ t562 _ _ t555 true _ ?side1 ?side2 ?side3 ?side4 A178.out).mono ?_
                (case side1 => exact cu_ (Kd.R_reads' HO564.out).2.2)
                (case side2 => exact (Kd.R_reads' HO564.out).2.1)
                (case side3 => exact cu_ (Kd.R_reads' HO557.out).2.2)
                (case side4 => exact (Kd.R_reads' HO557.out).2.1)
                rintro e w' ⟨rfl, ⟨nd, rfl⟩⟩
                refine ⟨_, rfl, ?_⟩
                refine hK.out _ _ ⟨hHeld.1, hHeld.2.1, hHeld.2.2.1, hHeld.2.2.2.1, hHeld.2.2.2.2⟩ (fun hHeld => ?_)
                clear hK K
                refine norm_ (a' := ?_) ?_ ?_
                rotate_left
                ·show Act.put _ (some 473) _ = _
                 simp only [Act.put, sa_, sb_, sc_, i64_w, i32_w]
                 rfl
                refine pz_ 23 474 (bl_ 33 0xffffff) HT_.out ?_
                refine pz_ 24 475 (bl_ 33 0x1ffffff) HT_.out ?_
                refine pz_ 25 476 (bl_ 33 0x3ffffff) HT_.out ?_
                refine pz_ 26 477 (bl_ 33 0x7ffffff) HT_.out ?_
                refine pz_ 27 478 (bl_ 33 0xfffffff) HT_.out ?_
                refine pz_ 29 480 (bl_ 33 0x2fffffff) HT_.out ?_
                refine take_ (i := 28) (N := some 479) (v := ?_) (a' := ?_) (bl_ 33 0x3fffffff) rfl rfl (take_ofW HT_.out HW_.out (by kernel_rfl)) (fun _ _ _ h => h) (Or.inl ⟨by rfl, ?_⟩) hHeld ?_ ?_
                rotate_left
                ·rintro w' ⟨s0, s1, s2, s3, s4⟩
                 go_simp
                 with_reducible rfl
                rotate_left
                ·simp only [Act.put, sa_, sb_, sc_, i64_w, i32_w]
                 rfl
                refine pz_ 30 481 (bl_ 33 0x7fffffff) HT_.out ?_
                refine pz_ 31 482 (bl_ 33 0xffffffff) HT_.out ?_
                refine pz_ 32 483 (bl_ 33 0x1ffffffff) HT_.out ?_
                refine done_ (done_of HT_.out (by kernel_rfl)) ?_
                try go_wp2
                go_roundg k5
                case measure => have := HJ9.out; have := HJ37.out; have := HJ87.out; have := HK4.out; have := HK5.out; omega
                case rel => exact ⟨(wrap64 (x414_5 + 1)), (by first | rfl | (simp; done) | (simp [*]; done)), H', ⟨by have := HJ9.out; have := HJ37.out; have := HJ87.out; have := HK4.out; have := HK5.out; omega⟩, ⟨by (with_reducible repeat (first | apply Kd.R_alloc | apply Kd.R_drewN | apply Kd.R_drew)); exact HO_23.out⟩, ⟨by (with_reducible repeat (first | apply Kd.R_alloc | apply Kd.R_drewN | apply Kd.R_drew)); exact Kd.R_mono HO_25.out (fun _ hk => trivial)⟩, ⟨by (with_reducible repeat (first | apply Kd.R_alloc | apply Kd.R_drewN | apply Kd.R_drew)); exact Kd.R_mono HO_412.out (fun _ hk => trivial)⟩, ⟨by (with_reducible repeat (first | refine blk_drewN ?_ _ | refine blk_drew ?_ | refine blk_alloc ?_ _)); exact BK470.out⟩, ⟨by (with_reducible repeat (first | refine blk_drewN ?_ _ | refine blk_drew ?_ | refine blk_alloc ?_ _)); exact BK471.out⟩, ⟨by (with_reducible repeat (first | refine blk_drewN ?_ _ | refine blk_drew ?_ | refine blk_alloc ?_ _)); exact BK533.out⟩, ⟨by repeat (first | (with_reducible first | apply below_alloc | apply pw_below_drewN | apply below_drew1 | refine below_set ?_ GE470.out | refine below_set ?_ GE471.out | refine below_set ?_ GE533.out) | exact HB.out)⟩⟩
             ·rw [if_neg c154] at H
              exact absurd H (by simp)
         ·as_aux_lemma =>
          replace c148 := Bool.eq_false_iff.mpr c148
          subst c148
          rw [if_neg (show ¬ (false = true) by decide)] at H
          have H' := Aside0.mk H
          clear H
          go_wp2
          go_meet
          case rel => exact ⟨_, H', ⟨by have := HJ9.out; have := HJ37.out; have := HJ87.out; first | omega | exact Nat.le_refl _⟩, ⟨by (with_reducible repeat (first | refine blk_drewN ?_ _ | refine blk_drew ?_ | refine blk_alloc ?_ _)); exact BK470.out⟩, ⟨by (with_reducible repeat (first | refine blk_drewN ?_ _ | refine blk_drew ?_ | refine blk_alloc ?_ _)); exact BK471.out⟩, ⟨by (with_reducible repeat (first | refine blk_drewN ?_ _ | refine blk_drew ?_ | refine blk_alloc ?_ _)); exact BK533.out⟩, ⟨by repeat (first | (with_reducible first | apply below_alloc | apply pw_below_drewN | apply below_drew1 | refine below_set ?_ GE470.out | refine below_set ?_ GE471.out | refine below_set ?_ GE533.out) | exact HB.out)⟩⟩
        case rest =>
         as_aux_lemma =>
         clear HC147
         (try clear c1); (try clear p2); (try clear p5); (try clear q5); (try clear hx5); (try clear qi5); (try clear p6); (try clear c7); (try clear c11); (try clear c14); (try clear c15); (try clear c16); (try clear c17); (try clear p55); (try clear q55); (try clear hx55); (try clear p56); (try clear q56); (try clear hx56); (try clear qi56); (try clear p64); (try clear c148); (try clear c154); (try clear c156); (try clear c156b0); (try clear c157); (try clear c158); (try clear c159); (try clear c160); (try clear c161); (try clear c162); (try clear c164); (try clear c165); (try clear c165b0); (try clear c167); (try clear c168); (try clear c169); (try clear c170); (try clear c172); (try clear c173); (try clear c174); (try clear c175); (try clear c176); (try clear hx552_0); (try clear hx553_0); (try clear hx553_1); (try clear hx554_0); (try clear hx554_1); (try clear hx566_0); (try clear hx567_0); (try clear hx568_0); (try clear hx569_0); (try clear p552); (try clear p553); (try clear p554); (try clear p566); (try clear p567); (try clear p568); (try clear p569); (try clear q552); (try clear q553); (try clear q554); (try clear q566); (try clear q567); (try clear q568); (try clear q569)
         obtain ⟨kq, HA, HJ146, BK470, BK471, BK533, HB⟩ := hcut
         cases kq with
         | zero => exact absurd HA.out (by simp [laws_FnThreadsMeet.j5])
         | succ kj146 =>
          have H := HA.out
          clear HA
          simp only [laws_FnThreadsMeet.j5] at H
          by_cases c197 : t536 = true
          rotate_left
          ·as_aux_lemma =>
           replace c197 := Bool.eq_false_iff.mpr c197
           subst c197
           rw [if_neg (show ¬ (false = true) by decide)] at H
           obtain rfl := Option.some.inj H
           go_wp2
           go_ret
           exact ⟨by first | rfl | (simp [errW_none, errW_some] <;> rfl) | (simp [*, errW_none, errW_some] <;> rfl), by repeat (first | (with_reducible first | apply below_alloc | apply pw_below_drewN | apply below_drew1 | refine below_set ?_ GE470.out | refine below_set ?_ GE471.out | refine below_set ?_ GE533.out) | exact HB.out)⟩

          subst c197
          rw [if_pos rfl] at H
          replace H := Option.bind_eq_some_iff.mp H
          obtain ⟨t572, A1980, H⟩ := H
          (try dsimp only at H)
          have A198 := Aside0.mk A1980
          clear A1980
          by_cases c199 : t572 = true
          rotate_left
          ·replace c199 := Bool.eq_false_iff.mpr c199
           subst c199
           rw [if_neg (show ¬ (false = true) by decide)] at H
           exact absurd H (by simp)
          subst c199
          rw [if_pos rfl] at H
          by_cases c200 : (wrap64 (t534 * t530)) = (wrap64 ((wrap64 (t531 * (wrap64 (t530 - t532)))) * t535))
          rotate_left
          ·rw [if_neg c200] at H
           exact absurd H (by simp)
          rw [if_pos c200] at H
          have c200b0 : ((wrap64 (t534 * t530)) == (wrap64 ((wrap64 (t531 * (wrap64 (t530 - t532)))) * t535))) = true := beq_iff_eq.mpr c200
          have c200b1 : ((wrap64 (t534 * t530)) != (wrap64 ((wrap64 (t531 * (wrap64 (t530 - t532)))) * t535))) = false := bne_eq_false_iff_eq.mpr c200
          clear c200
          by_cases c201 : t540 = (wrap64 (t530 * t531))
          rotate_left
          ·rw [if_neg c201] at H
           exact absurd H (by simp)
          as_aux_lemma =>
          rw [if_pos c201] at H
          have c201b0 : (t540 == (wrap64 (t530 * t531))) = true := beq_iff_eq.mpr c201
          have c201b1 : (t540 != (wrap64 (t530 * t531))) = false := bne_eq_false_iff_eq.mpr c201
          clear c201
          obtain rfl := Option.some.inj H
          go_wp2_with (first | ((with_reducible refine gate_callee (f := 12) rfl ?_); refine gl_ (some 488) Try.func12 #[.int .i64 t534, .int .i64 t535] ?_; (with_reducible refine (laws_gLow.calls kj146 t534 t535 true _ A198.out).mono ?_); rintro e w' ⟨rfl, ⟨nd, rfl⟩⟩; refine ⟨_, rfl, ?_⟩; have hnb202 := NB533_470.out; have hnc202 := NB470_533.out; have hnb203 := NB533_471.out; have hnc203 := NB471_533.out; have hcz204_0 : wc.cell? ⟨gb533, 0, none⟩ = some (.int .i64 t530) := (blk_cell BK533.out 0).trans rfl; have hcz204_1 : wc.cell? ⟨gb533, 1, none⟩ = some (.int .i64 t531) := (blk_cell BK533.out 1).trans rfl; have hfz204_0 := blk_frozen BK533.out 0; have hfz204_1 := blk_frozen BK533.out 1))
          go_ret
          exact ⟨by first | rfl | (simp [errW_none, errW_some] <;> rfl) | (simp [*, errW_none, errW_some] <;> rfl), by repeat (first | (with_reducible first | apply below_alloc | apply pw_below_drewN | apply below_drew1 | refine below_set ?_ GE470.out | refine below_set ?_ GE471.out | refine below_set ?_ GE533.out) | exact HB.out)⟩
/-- THE ONE PURE STATEMENT of laws_FnThreadsMeet: yours. -/
def laws_FnThreadsMeet.Pure : Prop := ∀ (l0 : List Int) (l1 : List Int), l0.length ≤ maxLen → l0.length * 1 ≤ 140737488351232 → (∀ x ∈ l0, (Lit.int .u8 x).wf = true) → l1.length ≤ maxLen → l1.length * 1 ≤ 140737488351232 → (∀ x ∈ l1, (Lit.int .u8 x).wf = true) → ∃ k, laws_FnThreadsMeet.f k l0 l1 = some true
theorem laws_FnThreadsMeet.walk (P : laws_FnThreadsMeet.Pure) (a0 : Option Addr) (len0 cap0 : Nat) (z0 : List Int) (a1 : Option Addr) (len1 cap1 : Nat) (z1 : List Int) (w : World) (w0 : (a0 = none ∧ len0 = 0 ∧ cap0 = 0 ∧ z0 = []) ∨ ∃ x, a0 = some x ∧ len0 ≤ cap0 ∧ cap0 ≤ maxLen ∧ z0.length = cap0 ∧ (∀ i, i < z0.length → w.cell? (x.add i) = some (.int .u8 (z0.getD i 0))) ∧ ∀ n ∈ z0, (Lit.int .u8 n).wf = true) (y0 : len0 * 1 ≤ 140737488351232) (w1 : (a1 = none ∧ len1 = 0 ∧ cap1 = 0 ∧ z1 = []) ∨ ∃ x, a1 = some x ∧ len1 ≤ cap1 ∧ cap1 ≤ maxLen ∧ z1.length = cap1 ∧ (∀ i, i < z1.length → w.cell? (x.add i) = some (.int .u8 (z1.getD i 0))) ∧ ∀ n ∈ z1, (Lit.int .u8 n).wf = true) (y1 : len1 * 1 ≤ 140737488351232) :
  Calls Try.prog 3 #[.slice a0 len0 cap0, .slice a1 len1 cap1] w fun e w' => e = .returned (.bool true) ∧ Below w.heap.size w w' := by
 obtain ⟨l0, rfl, hr0, hm0, hw0, hc0⟩ := ReadsInt.ofRowC w0
 obtain ⟨l1, rfl, hr1, hm1, hw1, hc1⟩ := ReadsInt.ofRowC w1
 obtain ⟨k, h⟩ := P l0 l1 hm0 y0 hw0 hm1 y1 hw1
 refine (laws_FnThreadsMeet.calls k _ _ l0 _ _ l1 true w (Kd.C_of_reads (d := (0 : Int)) (h1 := fun _ => rfl) hr0) hc0 (Kd.C_of_reads (d := (0 : Int)) (h1 := fun _ => rfl) hr1) hc1 h).mono ?_
 rintro e w' ⟨rfl, hd⟩
 exact ⟨rfl, hd⟩

end Go.Proofs.Ytheijdpplihigaa.P
