/- A part of this seat's proofs: contracts of the translated functions, written by the session's own program (gp.py) out of the kit's print.py and the session's own contracts; no conditions of its own. -/
import Derived.Test.YtafjmkjljhiigaaPx0
import Derived.Test.YtafjmkjljhiigaaPx1
import Derived.Test.YtafjmkjljhiigaaPx2
namespace Go.Proofs.Ytafjmkjljhiigaa.P
open Go.RowKit Go.Proofs.YtafjmkjljhiigaaW.PrintWords Go.Proofs.YtafjmkjljhiigaaW.PrintLast Go.Proofs.YtafjmkjljhiigaaW.PrintMore
attribute [local go_sem] max2_int min2_int max_two min_two max_three min_three max_four min_four   -- for this text's walks alone
set_option linter.unusedVariables false
set_option linter.unusedSimpArgs false

/-! ### spec_AreInGear: function 31 -/
mutual
def spec_AreInGear.j0 : Nat → List Int → List Int → Bool → Option (Bool × Bool)
 | 0, _, _, _ => none
 | k + 1, x0, x1, x21 => if x21 = true then (some (false, false)) else (spec_AreInGear.l0 k x0 x1 x1 (x1.length : Int) 0)
def spec_AreInGear.l0 : Nat → List Int → List Int → List Int → Int → Int → Option (Bool × Bool)
 | 0, _, _, _, _, _ => none
 | k + 1, x0, x1, x22, x23, x24 => if x24 < x23 then (if 0 ≤ x24 then (if x24 < (x22.length : Int) then (if x24 < (x0.length : Int) then ((spec_l1In.f (rd x22 x24) 0 (wrap64 ((rd x0 x24) - 1))).bind fun t412 => (if t412 = true then (spec_AreInGear.l0 k x0 x1 x22 x23 (wrap64 (x24 + 1))) else (some (false, false)))) else (none)) else (none)) else (none)) else (spec_AreInGear.l1 k x0 x1 (x0.length : Int) 0)
def spec_AreInGear.l1 : Nat → List Int → List Int → Int → Int → Option (Bool × Bool)
 | 0, _, _, _, _ => none
 | k + 1, x0, x1, x39, x40 => if x40 < x39 then (if 0 ≤ x40 then (if x40 ≤ (x0.length : Int) then (spec_AreInGear.l2 k x0 x1 x40 x39 x40 ((x0.take (x40 : Int).toNat).length : Int) 0) else (none)) else (none)) else (some (true, true))
def spec_AreInGear.l2 : Nat → List Int → List Int → Int → Int → Int → Int → Int → Option (Bool × Bool)
 | 0, _, _, _, _, _, _, _ => none
 | k + 1, x0, x1, x8, x39, x40, x46, x47 => if x47 < x46 then (if 0 ≤ x8 then (if x8 < (x1.length : Int) then (if 0 ≤ x47 then (if x47 < (x1.length : Int) then (if (Int.tmod x8 2) = 1 then (spec_AreInGear.j4 k x0 x1 x8 x47 (wrap64 (-(rd x1 x8))) (rd x1 x47) x39 x40 x46 x47) else (spec_AreInGear.j4 k x0 x1 x8 x47 (rd x1 x8) (rd x1 x47) x39 x40 x46 x47)) else (none)) else (none)) else (none)) else (none)) else (spec_AreInGear.l1 k x0 x1 x39 (wrap64 (x40 + 1)))
def spec_AreInGear.j4 : Nat → List Int → List Int → Int → Int → Int → Int → Int → Int → Int → Int → Option (Bool × Bool)
 | 0, _, _, _, _, _, _, _, _, _, _ => none
 | k + 1, x0, x1, x8, x9, x10, x11, x39, x40, x46, x47 => if (Int.tmod x9 2) = 1 then (if 0 ≤ x8 then (if x8 < (x0.length : Int) then (if 0 ≤ x9 then (if x9 < (x0.length : Int) then ((spec_srCommon.f (rd x0 x8) (rd x0 x9)).bind fun t418 => (if t418 = 0 then (none) else (if (Int.tmod (wrap64 (x10 - (wrap64 (-x11)))) t418) = 0 then (spec_AreInGear.l2 k x0 x1 x8 x39 x40 x46 (wrap64 (x47 + 1))) else (some (false, true))))) else (none)) else (none)) else (none)) else (none)) else (if 0 ≤ x8 then (if x8 < (x0.length : Int) then (if 0 ≤ x9 then (if x9 < (x0.length : Int) then ((spec_srCommon.f (rd x0 x8) (rd x0 x9)).bind fun t421 => (if t421 = 0 then (none) else (if (Int.tmod (wrap64 (x10 - x11)) t421) = 0 then (spec_AreInGear.l2 k x0 x1 x8 x39 x40 x46 (wrap64 (x47 + 1))) else (some (false, true))))) else (none)) else (none)) else (none)) else (none))
end
def spec_AreInGear.f (k : Nat) (l0 : List Int) (l1 : List Int) : Option (Bool × Bool) := (spec_geTrain.f k l0).bind fun t409 => (if t409 = true then (spec_AreInGear.j0 k l0 l1 ((l1.length : Int) != (l0.length : Int))) else (spec_AreInGear.j0 k l0 l1 true))
theorem spec_AreInGear.mono_l : ∀ k, (∀ y0 y1 y2, LeO (spec_AreInGear.j0 k y0 y1 y2) (spec_AreInGear.j0 (k + 1) y0 y1 y2)) ∧ (∀ y0 y1 y2 y3 y4, LeO (spec_AreInGear.l0 k y0 y1 y2 y3 y4) (spec_AreInGear.l0 (k + 1) y0 y1 y2 y3 y4)) ∧ (∀ y0 y1 y2 y3, LeO (spec_AreInGear.l1 k y0 y1 y2 y3) (spec_AreInGear.l1 (k + 1) y0 y1 y2 y3)) ∧ (∀ y0 y1 y2 y3 y4 y5 y6, LeO (spec_AreInGear.l2 k y0 y1 y2 y3 y4 y5 y6) (spec_AreInGear.l2 (k + 1) y0 y1 y2 y3 y4 y5 y6)) ∧ (∀ y0 y1 y2 y3 y4 y5 y6 y7 y8 y9, LeO (spec_AreInGear.j4 k y0 y1 y2 y3 y4 y5 y6 y7 y8 y9) (spec_AreInGear.j4 (k + 1) y0 y1 y2 y3 y4 y5 y6 y7 y8 y9))
 | 0 => ⟨fun _ _ _ r h => by simp [spec_AreInGear.j0] at h, fun _ _ _ _ _ r h => by simp [spec_AreInGear.l0] at h, fun _ _ _ _ r h => by simp [spec_AreInGear.l1] at h, fun _ _ _ _ _ _ _ r h => by simp [spec_AreInGear.l2] at h, fun _ _ _ _ _ _ _ _ _ _ r h => by simp [spec_AreInGear.j4] at h⟩
 | k + 1 => by
  obtain ⟨ih0, ih1, ih2, ih3, ih4⟩ := spec_AreInGear.mono_l k
  refine ⟨?_, ?_, ?_, ?_, ?_⟩
  ·intro y0 y1 y2
   unfold spec_AreInGear.j0
   repeat' first
   | (with_reducible exact ih0 _ _ _)
   | (with_reducible exact ih1 _ _ _ _ _)
   | (with_reducible exact ih2 _ _ _ _)
   | (with_reducible exact ih3 _ _ _ _ _ _ _)
   | (with_reducible exact ih4 _ _ _ _ _ _ _ _ _ _)
   | (with_reducible exact spec_geTrain.mono _ _)
   | (with_reducible exact LeO.refl _)
   | (with_reducible exact LeO.none _)
   | (with_reducible refine LeO.ite ?_ ?_)
   | (with_reducible refine LeO.bind ?_ (fun _ => ?_))
   | exact ih0 _ _ _
   | exact ih1 _ _ _ _ _
   | exact ih2 _ _ _ _
   | exact ih3 _ _ _ _ _ _ _
   | exact ih4 _ _ _ _ _ _ _ _ _ _
   | exact spec_geTrain.mono _ _
   | exact LeO.none _
   | refine LeO.ite ?_ ?_
   | refine LeO.bind ?_ (fun _ => ?_)
  ·intro y0 y1 y2 y3 y4
   unfold spec_AreInGear.l0
   repeat' first
   | (with_reducible exact ih0 _ _ _)
   | (with_reducible exact ih1 _ _ _ _ _)
   | (with_reducible exact ih2 _ _ _ _)
   | (with_reducible exact ih3 _ _ _ _ _ _ _)
   | (with_reducible exact ih4 _ _ _ _ _ _ _ _ _ _)
   | (with_reducible exact spec_geTrain.mono _ _)
   | (with_reducible exact LeO.refl _)
   | (with_reducible exact LeO.none _)
   | (with_reducible refine LeO.ite ?_ ?_)
   | (with_reducible refine LeO.bind ?_ (fun _ => ?_))
   | exact ih0 _ _ _
   | exact ih1 _ _ _ _ _
   | exact ih2 _ _ _ _
   | exact ih3 _ _ _ _ _ _ _
   | exact ih4 _ _ _ _ _ _ _ _ _ _
   | exact spec_geTrain.mono _ _
   | exact LeO.none _
   | refine LeO.ite ?_ ?_
   | refine LeO.bind ?_ (fun _ => ?_)
  ·intro y0 y1 y2 y3
   unfold spec_AreInGear.l1
   repeat' first
   | (with_reducible exact ih0 _ _ _)
   | (with_reducible exact ih1 _ _ _ _ _)
   | (with_reducible exact ih2 _ _ _ _)
   | (with_reducible exact ih3 _ _ _ _ _ _ _)
   | (with_reducible exact ih4 _ _ _ _ _ _ _ _ _ _)
   | (with_reducible exact spec_geTrain.mono _ _)
   | (with_reducible exact LeO.refl _)
   | (with_reducible exact LeO.none _)
   | (with_reducible refine LeO.ite ?_ ?_)
   | (with_reducible refine LeO.bind ?_ (fun _ => ?_))
   | exact ih0 _ _ _
   | exact ih1 _ _ _ _ _
   | exact ih2 _ _ _ _
   | exact ih3 _ _ _ _ _ _ _
   | exact ih4 _ _ _ _ _ _ _ _ _ _
   | exact spec_geTrain.mono _ _
   | exact LeO.none _
   | refine LeO.ite ?_ ?_
   | refine LeO.bind ?_ (fun _ => ?_)
  ·intro y0 y1 y2 y3 y4 y5 y6
   unfold spec_AreInGear.l2
   repeat' first
   | (with_reducible exact ih0 _ _ _)
   | (with_reducible exact ih1 _ _ _ _ _)
   | (with_reducible exact ih2 _ _ _ _)
   | (with_reducible exact ih3 _ _ _ _ _ _ _)
   | (with_reducible exact ih4 _ _ _ _ _ _ _ _ _ _)
   | (with_reducible exact spec_geTrain.mono _ _)
   | (with_reducible exact LeO.refl _)
   | (with_reducible exact LeO.none _)
   | (with_reducible refine LeO.ite ?_ ?_)
   | (with_reducible refine LeO.bind ?_ (fun _ => ?_))
   | exact ih0 _ _ _
   | exact ih1 _ _ _ _ _
   | exact ih2 _ _ _ _
   | exact ih3 _ _ _ _ _ _ _
   | exact ih4 _ _ _ _ _ _ _ _ _ _
   | exact spec_geTrain.mono _ _
   | exact LeO.none _
   | refine LeO.ite ?_ ?_
   | refine LeO.bind ?_ (fun _ => ?_)
  ·intro y0 y1 y2 y3 y4 y5 y6 y7 y8 y9
   unfold spec_AreInGear.j4
   repeat' first
   | (with_reducible exact ih0 _ _ _)
   | (with_reducible exact ih1 _ _ _ _ _)
   | (with_reducible exact ih2 _ _ _ _)
   | (with_reducible exact ih3 _ _ _ _ _ _ _)
   | (with_reducible exact ih4 _ _ _ _ _ _ _ _ _ _)
   | (with_reducible exact spec_geTrain.mono _ _)
   | (with_reducible exact LeO.refl _)
   | (with_reducible exact LeO.none _)
   | (with_reducible refine LeO.ite ?_ ?_)
   | (with_reducible refine LeO.bind ?_ (fun _ => ?_))
   | exact ih0 _ _ _
   | exact ih1 _ _ _ _ _
   | exact ih2 _ _ _ _
   | exact ih3 _ _ _ _ _ _ _
   | exact ih4 _ _ _ _ _ _ _ _ _ _
   | exact spec_geTrain.mono _ _
   | exact LeO.none _
   | refine LeO.ite ?_ ?_
   | refine LeO.bind ?_ (fun _ => ?_)
theorem spec_AreInGear.mono : ∀ a0 a1 k, LeO (spec_AreInGear.f k a0 a1) (spec_AreInGear.f (k + 1) a0 a1) := by
 intro a0 a1 k
 obtain ⟨ih0, ih1, ih2, ih3, ih4⟩ := spec_AreInGear.mono_l k
 unfold spec_AreInGear.f
 repeat' first
   | (with_reducible exact ih0 _ _ _)
   | (with_reducible exact ih1 _ _ _ _ _)
   | (with_reducible exact ih2 _ _ _ _)
   | (with_reducible exact ih3 _ _ _ _ _ _ _)
   | (with_reducible exact ih4 _ _ _ _ _ _ _ _ _ _)
   | (with_reducible exact spec_geTrain.mono _ _)
   | (with_reducible exact LeO.refl _)
   | (with_reducible exact LeO.none _)
   | (with_reducible refine LeO.ite ?_ ?_)
   | (with_reducible refine LeO.bind ?_ (fun _ => ?_))
   | exact ih0 _ _ _
   | exact ih1 _ _ _ _ _
   | exact ih2 _ _ _ _
   | exact ih3 _ _ _ _ _ _ _
   | exact ih4 _ _ _ _ _ _ _ _ _ _
   | exact spec_geTrain.mono _ _
   | exact LeO.none _
   | refine LeO.ite ?_ ?_
   | refine LeO.bind ?_ (fun _ => ?_)
set_option maxHeartbeats 8000000 in
set_option maxRecDepth 100000 in
theorem spec_AreInGear.calls (k : Nat) (A0 : Option Addr) (c0 : Nat) (l0 : List Int) (A1 : Option Addr) (c1 : Nat) (l1 : List Int) (r1 : Bool) (r2 : Bool) (w : World) (hr0 : Kd.C (Kd.int .i64) w A0 l0.length l0) (hc0 : l0.length ≤ c0) (hr1 : Kd.C (Kd.int .i64) w A1 l1.length l1) (hc1 : l1.length ≤ c1) (h : spec_AreInGear.f k l0 l1 = some (r1, r2)) :
  Calls Try.prog 31 #[.slice A0 l0.length c0, .slice A1 l1.length c1] w fun e w' => e = .returned (.tuple #[.bool r1, .bool r2]) ∧ Drawn0 w w' := by
 have HR0 := Aside0.mk hr0
 have HC0 := Aside0.mk hc0
 clear hr0 hc0
 have HR1 := Aside0.mk hr1
 have HC1 := Aside0.mk hc1
 clear hr1 hc1
 have H : ((spec_geTrain.f k l0).bind fun t409 => (if t409 = true then (spec_AreInGear.j0 k l0 l1 ((l1.length : Int) != (l0.length : Int))) else (spec_AreInGear.j0 k l0 l1 true))) = some (r1, r2) := h
 clear h
 have HC3 := Aside0.mk H
 clear H
 go_enter Try.func31, Try.ntmps31
 go_upto_region 1 with (fail)
 repeat (go_quiet (fail); go_upto_region 1 with (fail))
 go_cut [21] (fun v21 wc => ∃ (kq : Nat) (x21_2 : Bool), v21 = .bool x21_2 ∧ Aside0 (spec_AreInGear.j0 kq l0 l1 x21_2 = some (r1, r2)) ∧ Aside0 (kq ≤ k) ∧ Drawn0 w wc)
 case first =>
  have H := HC3.out
  clear HC3
  replace H := Option.bind_eq_some_iff.mp H
  obtain ⟨t409, A40, H⟩ := H
  (try dsimp only at H)
  have A4 := Aside0.mk A40
  clear A40
  by_cases c5 : t409 = true
  ·subst c5
   rw [if_pos rfl] at H
   have H' := Aside0.mk H
   clear H
   go_wp2_with (first | (go_at_call 46; (with_reducible refine (spec_geTrain.calls k _ _ l0 true _ ?side1 ?side2 A4.out).mono ?_); (case side1 => repeat (first | exact HR0.out | (with_reducible refine Kd.C_alloc ?_ _) | (with_reducible refine Kd.C_drewN ?_ _) | (with_reducible refine Kd.C_drew ?_))); (case side2 => exact HC0.out); rintro e w' ⟨rfl, ⟨nd, rfl⟩⟩; (try first | exact ⟨rfl, _, World.drewN_drewN _ _ _⟩ | exact ⟨rfl, _, Eq.trans (World.drewN_drewN _ _ _) (congrArg (World.drewN _) (Nat.add_assoc _ _ _))⟩)))
   repeat (go_quiet (first | (go_at_call 46; (with_reducible refine (spec_geTrain.calls k _ _ l0 true _ ?side1 ?side2 A4.out).mono ?_); (case side1 => repeat (first | exact HR0.out | (with_reducible refine Kd.C_alloc ?_ _) | (with_reducible refine Kd.C_drewN ?_ _) | (with_reducible refine Kd.C_drew ?_))); (case side2 => exact HC0.out); rintro e w' ⟨rfl, ⟨nd, rfl⟩⟩; (try first | exact ⟨rfl, _, World.drewN_drewN _ _ _⟩ | exact ⟨rfl, _, Eq.trans (World.drewN_drewN _ _ _) (congrArg (World.drewN _) (Nat.add_assoc _ _ _))⟩))); try go_wp2_with (first | (go_at_call 46; (with_reducible refine (spec_geTrain.calls k _ _ l0 true _ ?side1 ?side2 A4.out).mono ?_); (case side1 => repeat (first | exact HR0.out | (with_reducible refine Kd.C_alloc ?_ _) | (with_reducible refine Kd.C_drewN ?_ _) | (with_reducible refine Kd.C_drew ?_))); (case side2 => exact HC0.out); rintro e w' ⟨rfl, ⟨nd, rfl⟩⟩; (try first | exact ⟨rfl, _, World.drewN_drewN _ _ _⟩ | exact ⟨rfl, _, Eq.trans (World.drewN_drewN _ _ _) (congrArg (World.drewN _) (Nat.add_assoc _ _ _))⟩))))
   go_meet
   case rel => exact ⟨_, (((l1.length : Int) != (l0.length : Int))), (by first | rfl | (simp; done) | (simp [*]; done)), H', ⟨by first | omega | exact Nat.le_refl _⟩, by repeat (first | exact Drawn0.refl _ | apply Drawn0.step)⟩
  ·replace c5 := Bool.eq_false_iff.mpr c5
   subst c5
   rw [if_neg (show ¬ (false = true) by decide)] at H
   have H' := Aside0.mk H
   clear H
   go_wp2_with (first | (go_at_call 46; (with_reducible refine (spec_geTrain.calls k _ _ l0 false _ ?side1 ?side2 A4.out).mono ?_); (case side1 => repeat (first | exact HR0.out | (with_reducible refine Kd.C_alloc ?_ _) | (with_reducible refine Kd.C_drewN ?_ _) | (with_reducible refine Kd.C_drew ?_))); (case side2 => exact HC0.out); rintro e w' ⟨rfl, ⟨nd, rfl⟩⟩; (try first | exact ⟨rfl, _, World.drewN_drewN _ _ _⟩ | exact ⟨rfl, _, Eq.trans (World.drewN_drewN _ _ _) (congrArg (World.drewN _) (Nat.add_assoc _ _ _))⟩)))
   repeat (go_quiet (first | (go_at_call 46; (with_reducible refine (spec_geTrain.calls k _ _ l0 false _ ?side1 ?side2 A4.out).mono ?_); (case side1 => repeat (first | exact HR0.out | (with_reducible refine Kd.C_alloc ?_ _) | (with_reducible refine Kd.C_drewN ?_ _) | (with_reducible refine Kd.C_drew ?_))); (case side2 => exact HC0.out); rintro e w' ⟨rfl, ⟨nd, rfl⟩⟩; (try first | exact ⟨rfl, _, World.drewN_drewN _ _ _⟩ | exact ⟨rfl, _, Eq.trans (World.drewN_drewN _ _ _) (congrArg (World.drewN _) (Nat.add_assoc _ _ _))⟩))); try go_wp2_with (first | (go_at_call 46; (with_reducible refine (spec_geTrain.calls k _ _ l0 false _ ?side1 ?side2 A4.out).mono ?_); (case side1 => repeat (first | exact HR0.out | (with_reducible refine Kd.C_alloc ?_ _) | (with_reducible refine Kd.C_drewN ?_ _) | (with_reducible refine Kd.C_drew ?_))); (case side2 => exact HC0.out); rintro e w' ⟨rfl, ⟨nd, rfl⟩⟩; (try first | exact ⟨rfl, _, World.drewN_drewN _ _ _⟩ | exact ⟨rfl, _, Eq.trans (World.drewN_drewN _ _ _) (congrArg (World.drewN _) (Nat.add_assoc _ _ _))⟩))))
   go_meet
   case rel => exact ⟨_, (true), (by first | rfl | (simp; done) | (simp [*]; done)), H', ⟨by first | omega | exact Nat.le_refl _⟩, by repeat (first | exact Drawn0.refl _ | apply Drawn0.step)⟩
 case rest =>
  clear HC3
  try clear c1
  try clear p2
  try clear c3
  try clear c5
  obtain ⟨kq, x21_2, rfl, HA, HJ2, ⟨mc2, rfl⟩⟩ := hcut
  cases kq with
  | zero => exact absurd HA.out (by simp [spec_AreInGear.j0])
  | succ kj2 =>
   have H := HA.out
   clear HA
   simp only [spec_AreInGear.j0] at H
   by_cases c6 : x21_2 = true
   ·subst c6
    rw [if_pos rfl] at H
    simp only [Option.some.injEq, Prod.mk.injEq] at H
    obtain ⟨rfl, rfl⟩ := H
    go_wp2
    repeat (go_quiet (fail); try go_wp2)
    go_ret2
    exact ⟨by first | rfl | (simp; done) | (simp [*]; done), by repeat (first | exact Drawn0.refl _ | apply Drawn0.step)⟩
   ·replace c6 := Bool.eq_false_iff.mpr c6
    subst c6
    rw [if_neg (show ¬ (false = true) by decide)] at H
    have H' := Aside0.mk H
    clear H
    go_wp2
    repeat (go_quiet (fail); try go_wp2)
    go_loopg [24] kj2 (fun kq v24 w' => ∃ (x24_2 : Int), v24 = .int .i64 x24_2 ∧ Aside0 (spec_AreInGear.l0 kq l0 l1 l1 (l1.length : Int) x24_2 = some (r1, r2)) ∧ Aside0 (kq ≤ kj2) ∧ Drawn0 w w')
    case atStart => exact ⟨(0), (by first | rfl | (simp; done) | (simp [*]; done)), H', ⟨Nat.le_refl _⟩, by repeat (first | exact Drawn0.refl _ | apply Drawn0.step)⟩
    case round =>
     clear H'
     try clear c1
     try clear c2
     try clear p2
     try clear c3
     try clear c5
     try clear c6
     try clear p2
     obtain ⟨x24_2, rfl, HA, HK2, ⟨m2, rfl⟩⟩ := hrel
     cases gk with
     | zero => exact absurd HA.out (by simp [spec_AreInGear.l0])
     | succ k2 =>
      have H := HA.out
      clear HA
      simp only [spec_AreInGear.l0] at H
      by_cases c7 : x24_2 < (l1.length : Int)
      ·rw [if_pos c7] at H
       have c7b0 : decide (x24_2 < (l1.length : Int)) = true := decide_eq_true c7
       clear c7
       by_cases c8 : 0 ≤ x24_2
       ·rw [if_pos c8] at H
        have c8b0 : decide (0 ≤ x24_2) = true := decide_eq_true c8
        clear c8
        by_cases c9 : x24_2 < (l1.length : Int)
        ·rw [if_pos c9] at H
         have c9b0 : decide (x24_2 < (l1.length : Int)) = true := decide_eq_true c9
         clear c9
         by_cases c10 : x24_2 < (l0.length : Int)
         ·rw [if_pos c10] at H
          have c10b0 : decide (x24_2 < (l0.length : Int)) = true := decide_eq_true c10
          clear c10
          replace H := Option.bind_eq_some_iff.mp H
          obtain ⟨t412, A110, H⟩ := H
          (try dsimp only at H)
          have A11 := Aside0.mk A110
          clear A110
          by_cases c12 : t412 = true
          ·subst c12
           rw [if_pos rfl] at H
           have H' := Aside0.mk H
           clear H
           have p410 : 0 ≤ (x24_2 : Int) := of_decide_eq_true (by assumption)
           have q410 : x24_2 < (l1.length : Int) := of_decide_eq_true (by assumption)
           obtain ⟨ad410, e410, hx410_0⟩ := Kd.at_int HR1.out x24_2 p410 q410
           cases e410
           replace p410 := eq_true p410
           replace q410 := eq_true q410
           have p411 : 0 ≤ (x24_2 : Int) := of_decide_eq_true (by assumption)
           have q411 : x24_2 < (l0.length : Int) := of_decide_eq_true (by assumption)
           obtain ⟨ad411, e411, hx411_0⟩ := Kd.at_int HR0.out x24_2 p411 q411
           cases e411
           replace p411 := eq_true p411
           replace q411 := eq_true q411
           go_wp2_with (first | (go_at_call 47; (with_reducible refine (spec_l1In.calls (rd l1 x24_2) 0 (wrap64 ((rd l0 x24_2) - 1)) true _ A11.out).mono ?_); rintro e w' ⟨rfl, ⟨nd, rfl⟩⟩; (try first | exact ⟨rfl, _, World.drewN_drewN _ _ _⟩ | exact ⟨rfl, _, Eq.trans (World.drewN_drewN _ _ _) (congrArg (World.drewN _) (Nat.add_assoc _ _ _))⟩)))
           repeat (go_quiet (first | (go_at_call 47; (with_reducible refine (spec_l1In.calls (rd l1 x24_2) 0 (wrap64 ((rd l0 x24_2) - 1)) true _ A11.out).mono ?_); rintro e w' ⟨rfl, ⟨nd, rfl⟩⟩; (try first | exact ⟨rfl, _, World.drewN_drewN _ _ _⟩ | exact ⟨rfl, _, Eq.trans (World.drewN_drewN _ _ _) (congrArg (World.drewN _) (Nat.add_assoc _ _ _))⟩))); try go_wp2_with (first | (go_at_call 47; (with_reducible refine (spec_l1In.calls (rd l1 x24_2) 0 (wrap64 ((rd l0 x24_2) - 1)) true _ A11.out).mono ?_); rintro e w' ⟨rfl, ⟨nd, rfl⟩⟩; (try first | exact ⟨rfl, _, World.drewN_drewN _ _ _⟩ | exact ⟨rfl, _, Eq.trans (World.drewN_drewN _ _ _) (congrArg (World.drewN _) (Nat.add_assoc _ _ _))⟩))))
           go_roundg k2
           case measure => have := HJ2.out; have := HK2.out; omega
           case rel => exact ⟨(wrap64 (x24_2 + 1)), (by first | rfl | (simp; done) | (simp [*]; done)), H', ⟨by have := HJ2.out; have := HK2.out; omega⟩, by repeat (first | exact Drawn0.refl _ | apply Drawn0.step)⟩
          ·replace c12 := Bool.eq_false_iff.mpr c12
           subst c12
           rw [if_neg (show ¬ (false = true) by decide)] at H
           simp only [Option.some.injEq, Prod.mk.injEq] at H
           obtain ⟨rfl, rfl⟩ := H
           have p410 : 0 ≤ (x24_2 : Int) := of_decide_eq_true (by assumption)
           have q410 : x24_2 < (l1.length : Int) := of_decide_eq_true (by assumption)
           obtain ⟨ad410, e410, hx410_0⟩ := Kd.at_int HR1.out x24_2 p410 q410
           cases e410
           replace p410 := eq_true p410
           replace q410 := eq_true q410
           have p411 : 0 ≤ (x24_2 : Int) := of_decide_eq_true (by assumption)
           have q411 : x24_2 < (l0.length : Int) := of_decide_eq_true (by assumption)
           obtain ⟨ad411, e411, hx411_0⟩ := Kd.at_int HR0.out x24_2 p411 q411
           cases e411
           replace p411 := eq_true p411
           replace q411 := eq_true q411
           go_wp2_with (first | (go_at_call 47; (with_reducible refine (spec_l1In.calls (rd l1 x24_2) 0 (wrap64 ((rd l0 x24_2) - 1)) false _ A11.out).mono ?_); rintro e w' ⟨rfl, ⟨nd, rfl⟩⟩; (try first | exact ⟨rfl, _, World.drewN_drewN _ _ _⟩ | exact ⟨rfl, _, Eq.trans (World.drewN_drewN _ _ _) (congrArg (World.drewN _) (Nat.add_assoc _ _ _))⟩)))
           repeat (go_quiet (first | (go_at_call 47; (with_reducible refine (spec_l1In.calls (rd l1 x24_2) 0 (wrap64 ((rd l0 x24_2) - 1)) false _ A11.out).mono ?_); rintro e w' ⟨rfl, ⟨nd, rfl⟩⟩; (try first | exact ⟨rfl, _, World.drewN_drewN _ _ _⟩ | exact ⟨rfl, _, Eq.trans (World.drewN_drewN _ _ _) (congrArg (World.drewN _) (Nat.add_assoc _ _ _))⟩))); try go_wp2_with (first | (go_at_call 47; (with_reducible refine (spec_l1In.calls (rd l1 x24_2) 0 (wrap64 ((rd l0 x24_2) - 1)) false _ A11.out).mono ?_); rintro e w' ⟨rfl, ⟨nd, rfl⟩⟩; (try first | exact ⟨rfl, _, World.drewN_drewN _ _ _⟩ | exact ⟨rfl, _, Eq.trans (World.drewN_drewN _ _ _) (congrArg (World.drewN _) (Nat.add_assoc _ _ _))⟩))))
           go_ret2
           exact ⟨by first | rfl | (simp; done) | (simp [*]; done), by repeat (first | exact Drawn0.refl _ | apply Drawn0.step)⟩
         ·rw [if_neg c10] at H
          exact absurd H (by simp)
        ·rw [if_neg c9] at H
         exact absurd H (by simp)
       ·rw [if_neg c8] at H
        exact absurd H (by simp)
      ·rw [if_neg c7] at H
       have c7b0 : decide (x24_2 < (l1.length : Int)) = false := decide_eq_false c7
       clear c7
       have H' := Aside0.mk H
       clear H
       go_wp2
       repeat (go_quiet (fail); try go_wp2)
       go_loopg [40] k2 (fun kq v40 w' => ∃ (x40_3 : Int), v40 = .int .i64 x40_3 ∧ Aside0 (spec_AreInGear.l1 kq l0 l1 (l0.length : Int) x40_3 = some (r1, r2)) ∧ Aside0 (kq ≤ k2) ∧ Drawn0 w w')
       case atStart => exact ⟨(0), (by first | rfl | (simp; done) | (simp [*]; done)), H', ⟨Nat.le_refl _⟩, by repeat (first | exact Drawn0.refl _ | apply Drawn0.step)⟩
       case round =>
        clear H'
        try clear c1
        try clear c2
        try clear p2
        try clear c3
        try clear p4
        try clear q4
        try clear hx4
        try clear c5
        try clear c6
        try clear p6
        try clear c7
        try clear c7b0
        try clear c8
        try clear c8b0
        try clear c9
        try clear c9b0
        try clear c10
        try clear c10b0
        try clear c12
        try clear hx410_0
        try clear hx411_0
        try clear p2
        try clear p410
        try clear p411
        try clear q410
        try clear q411
        obtain ⟨x40_3, rfl, HA, HK3, ⟨m3, rfl⟩⟩ := hrel
        cases gk with
        | zero => exact absurd HA.out (by simp [spec_AreInGear.l1])
        | succ k3 =>
         have H := HA.out
         clear HA
         simp only [spec_AreInGear.l1] at H
         by_cases c13 : x40_3 < (l0.length : Int)
         ·rw [if_pos c13] at H
          have c13b0 : decide (x40_3 < (l0.length : Int)) = true := decide_eq_true c13
          clear c13
          by_cases c14 : 0 ≤ x40_3
          ·rw [if_pos c14] at H
           have c14b0 := eq_true c14
           have c14b1 : decide (0 ≤ x40_3) = true := decide_eq_true c14
           clear c14
           by_cases c15 : x40_3 ≤ (l0.length : Int)
           ·rw [if_pos c15] at H
            have c15b0 := eq_true c15
            have c15b1 : decide (x40_3 ≤ (l0.length : Int)) = true := decide_eq_true c15
            clear c15
            have H' := Aside0.mk H
            clear H
            obtain ⟨i016, hi016, _, hsz16, _⟩ := info_parts info3
            have HM16 := Aside0.mk (show ((l0.take (x40_3 : Int).toNat).length : Int) = max x40_3 0 by (have h1 : 0 ≤ x40_3 := (of_decide_eq_true (by assumption))); (have h2 : x40_3 ≤ (l0.length : Int) := (of_decide_eq_true (by assumption))); rw [List.length_take]; omega)
            obtain ⟨hcut16, hA16, hC16⟩ := print_take_of (P := Try.prog) (Value.int .i64) 0 30 3 .i64 Try.underlying30 hi016 hsz16 A0 c0 l0 x40_3 (of_decide_eq_true (by assumption)) (of_decide_eq_true (by assumption)) HC0.out
            have HR413 := Aside0.mk (Kd.C_of_reads (h1 := fun _ => rfl) (hA16 _ (Kd.reads_of_C HR0.out)))
            have HC413 := Aside0.mk hC16
            clear hA16 hC16 hi016 hsz16
            go_wp2
            repeat (go_quiet (fail); try go_wp2)
            go_loopg [47] k3 (fun kq v47 w' => ∃ (x47_4 : Int), v47 = .int .i64 x47_4 ∧ Aside0 (spec_AreInGear.l2 kq l0 l1 x40_3 (l0.length : Int) x40_3 ((l0.take (x40_3 : Int).toNat).length : Int) x47_4 = some (r1, r2)) ∧ Aside0 (kq ≤ k3) ∧ Drawn0 w w')
            case atStart => exact ⟨(0), (by first | rfl | (simp; done) | (simp [*]; done)), H', ⟨Nat.le_refl _⟩, by repeat (first | exact Drawn0.refl _ | apply Drawn0.step)⟩
            case round =>
             clear H'
             try clear c1
             try clear c2
             try clear p2
             try clear c3
             try clear p4
             try clear q4
             try clear hx4
             try clear c5
             try clear c6
             try clear p6
             try clear c7
             try clear c7b0
             try clear c8
             try clear c8b0
             try clear c9
             try clear c9b0
             try clear c10
             try clear c10b0
             try clear c12
             try clear c13
             try clear c13b0
             try clear c14
             try clear c14b0
             try clear c14b1
             try clear c15
             try clear c15b0
             try clear c15b1
             try clear hx410_0
             try clear hx411_0
             try clear p2
             try clear p4
             try clear p410
             try clear p411
             try clear p6
             try clear q4
             try clear q410
             try clear q411
             obtain ⟨x47_4, rfl, HA, HK4, ⟨m4, rfl⟩⟩ := hrel
             cases gk with
             | zero => exact absurd HA.out (by simp [spec_AreInGear.l2])
             | succ k4 =>
              have H := HA.out
              clear HA
              simp only [spec_AreInGear.l2] at H
              by_cases c17 : x47_4 < ((l0.take (x40_3 : Int).toNat).length : Int)
              ·rw [if_pos c17] at H
               have c17b0 : decide (x47_4 < ((l0.take (x40_3 : Int).toNat).length : Int)) = true := decide_eq_true c17
               have c17b9 := c17b0; rw [(HM16).out] at c17b9
               clear c17
               by_cases c18 : 0 ≤ x40_3
               ·rw [if_pos c18] at H
                have c18b0 : decide (0 ≤ x40_3) = true := decide_eq_true c18
                clear c18
                by_cases c19 : x40_3 < (l1.length : Int)
                ·rw [if_pos c19] at H
                 have c19b0 : decide (x40_3 < (l1.length : Int)) = true := decide_eq_true c19
                 clear c19
                 by_cases c20 : 0 ≤ x47_4
                 ·rw [if_pos c20] at H
                  have c20b0 : decide (0 ≤ x47_4) = true := decide_eq_true c20
                  clear c20
                  by_cases c21 : x47_4 < (l1.length : Int)
                  ·rw [if_pos c21] at H
                   have c21b0 : decide (x47_4 < (l1.length : Int)) = true := decide_eq_true c21
                   clear c21
                   have HC22 := Aside0.mk H
                   clear H
                   have p414 : 0 ≤ (x40_3 : Int) := of_decide_eq_true (by assumption)
                   have q414 : x40_3 < (l1.length : Int) := of_decide_eq_true (by assumption)
                   obtain ⟨ad414, e414, hx414_0⟩ := Kd.at_int HR1.out x40_3 p414 q414
                   cases e414
                   replace p414 := eq_true p414
                   replace q414 := eq_true q414
                   have p415 : 0 ≤ (x47_4 : Int) := of_decide_eq_true (by assumption)
                   have q415 : x47_4 < (l1.length : Int) := of_decide_eq_true (by assumption)
                   obtain ⟨ad415, e415, hx415_0⟩ := Kd.at_int HR1.out x47_4 p415 q415
                   obtain rfl : ad414 = ad415 := (by injection e415)
                   replace p415 := eq_true p415
                   replace q415 := eq_true q415
                   go_upto_if 60 with (fail)
                   repeat (go_quiet (fail); go_upto_if 60 with (fail))
                   go_cut [10] (fun v10 wc => ∃ (kq : Nat) (x10_21 : Int), v10 = .int .i64 x10_21 ∧ Aside0 (spec_AreInGear.j4 kq l0 l1 x40_3 x47_4 x10_21 (rd l1 x47_4) (l0.length : Int) x40_3 ((l0.take (x40_3 : Int).toNat).length : Int) x47_4 = some (r1, r2)) ∧ Aside0 (kq ≤ k4) ∧ Drawn0 w wc)
                   case first =>
                    have H := HC22.out
                    clear HC22
                    by_cases c23 : (Int.tmod x40_3 2) = 1
                    ·rw [if_pos c23] at H
                     have c23b0 : ((Int.tmod x40_3 2) == 1) = true := beq_iff_eq.mpr c23
                     have c23b1 : ((Int.tmod x40_3 2) != 1) = false := bne_eq_false_iff_eq.mpr c23
                     clear c23
                     (first | rw [c23b0] | (simp only [i64_w, i32_w]; rw [c23b0]) | skip)
                     have H' := Aside0.mk H
                     clear H
                     go_wp2
                     repeat (go_quiet (fail); try go_wp2)
                     go_meet
                     case rel => exact ⟨_, (wrap64 (-(rd l1 x40_3))), (by first | rfl | (simp; done) | (simp [*]; done)), H', ⟨by have := HJ2.out; have := HK2.out; have := HK3.out; have := HK4.out; first | omega | exact Nat.le_refl _⟩, by repeat (first | exact Drawn0.refl _ | apply Drawn0.step)⟩
                    ·rw [if_neg c23] at H
                     have c23b0 : ((Int.tmod x40_3 2) == 1) = false := beq_eq_false_iff_ne.mpr c23
                     have c23b1 : ((Int.tmod x40_3 2) != 1) = true := bne_iff_ne.mpr c23
                     (first | rw [c23b0] | (simp only [i64_w, i32_w]; rw [c23b0]) | skip)
                     have H' := Aside0.mk H
                     clear H
                     go_wp2
                     repeat (go_quiet (fail); try go_wp2)
                     go_meet
                     case rel => exact ⟨_, (rd l1 x40_3), (by first | rfl | (simp; done) | (simp [*]; done)), H', ⟨by have := HJ2.out; have := HK2.out; have := HK3.out; have := HK4.out; first | omega | exact Nat.le_refl _⟩, by repeat (first | exact Drawn0.refl _ | apply Drawn0.step)⟩
                   case rest =>
                    clear HC22
                    try clear c1
                    try clear c2
                    try clear p2
                    try clear c3
                    try clear p4
                    try clear q4
                    try clear hx4
                    try clear c5
                    try clear c6
                    try clear p6
                    try clear c7
                    try clear c7b0
                    try clear c8
                    try clear c8b0
                    try clear c9
                    try clear c9b0
                    try clear c10
                    try clear c10b0
                    try clear c12
                    try clear c13
                    try clear c13b0
                    try clear c14
                    try clear c14b0
                    try clear c14b1
                    try clear c15
                    try clear c15b0
                    try clear c15b1
                    try clear c17
                    try clear c17b0
                    try clear c18
                    try clear c18b0
                    try clear c19
                    try clear c19b0
                    try clear c20
                    try clear c20b0
                    try clear c21
                    try clear c21b0
                    try clear c23
                    try clear c23b0
                    try clear c23b1
                    try clear hx410_0
                    try clear hx411_0
                    try clear hx414_0
                    try clear hx415_0
                    try clear p2
                    try clear p4
                    try clear p410
                    try clear p411
                    try clear p414
                    try clear p415
                    try clear p6
                    try clear q4
                    try clear q410
                    try clear q411
                    try clear q414
                    try clear q415
                    obtain ⟨kq, x10_21, rfl, HA, HJ21, ⟨mc21, rfl⟩⟩ := hcut
                    cases kq with
                    | zero => exact absurd HA.out (by simp [spec_AreInGear.j4])
                    | succ kj21 =>
                     have H := HA.out
                     clear HA
                     simp only [spec_AreInGear.j4] at H
                     by_cases c24 : (Int.tmod x47_4 2) = 1
                     ·rw [if_pos c24] at H
                      have c24b0 : ((Int.tmod x47_4 2) == 1) = true := beq_iff_eq.mpr c24
                      have c24b1 : ((Int.tmod x47_4 2) != 1) = false := bne_eq_false_iff_eq.mpr c24
                      clear c24
                      by_cases c25 : 0 ≤ x40_3
                      ·rw [if_pos c25] at H
                       have c25b0 : decide (0 ≤ x40_3) = true := decide_eq_true c25
                       clear c25
                       by_cases c26 : x40_3 < (l0.length : Int)
                       ·rw [if_pos c26] at H
                        have c26b0 : decide (x40_3 < (l0.length : Int)) = true := decide_eq_true c26
                        clear c26
                        by_cases c27 : 0 ≤ x47_4
                        ·rw [if_pos c27] at H
                         have c27b0 : decide (0 ≤ x47_4) = true := decide_eq_true c27
                         clear c27
                         by_cases c28 : x47_4 < (l0.length : Int)
                         ·rw [if_pos c28] at H
                          have c28b0 : decide (x47_4 < (l0.length : Int)) = true := decide_eq_true c28
                          clear c28
                          replace H := Option.bind_eq_some_iff.mp H
                          obtain ⟨t418, A290, H⟩ := H
                          (try dsimp only at H)
                          have A29 := Aside0.mk A290
                          clear A290
                          by_cases c30 : t418 = 0
                          ·rw [if_pos c30] at H
                           exact absurd H (by simp)
                          ·rw [if_neg c30] at H
                           have c30b0 : (t418 == 0) = false := beq_eq_false_iff_ne.mpr c30
                           have c30b1 : (t418 != 0) = true := bne_iff_ne.mpr c30
                           by_cases c31 : (Int.tmod (wrap64 (x10_21 - (wrap64 (-(rd l1 x47_4))))) t418) = 0
                           ·rw [if_pos c31] at H
                            have c31b0 : ((Int.tmod (wrap64 (x10_21 - (wrap64 (-(rd l1 x47_4))))) t418) == 0) = true := beq_iff_eq.mpr c31
                            have c31b1 : ((Int.tmod (wrap64 (x10_21 - (wrap64 (-(rd l1 x47_4))))) t418) != 0) = false := bne_eq_false_iff_eq.mpr c31
                            clear c31
                            have H' := Aside0.mk H
                            clear H
                            have p416 : 0 ≤ (x40_3 : Int) := of_decide_eq_true (by assumption)
                            have q416 : x40_3 < (l0.length : Int) := of_decide_eq_true (by assumption)
                            obtain ⟨ad416, e416, hx416_0⟩ := Kd.at_int HR0.out x40_3 p416 q416
                            cases e416
                            replace p416 := eq_true p416
                            replace q416 := eq_true q416
                            have p417 : 0 ≤ (x47_4 : Int) := of_decide_eq_true (by assumption)
                            have q417 : x47_4 < (l0.length : Int) := of_decide_eq_true (by assumption)
                            obtain ⟨ad417, e417, hx417_0⟩ := Kd.at_int HR0.out x47_4 p417 q417
                            obtain rfl : ad416 = ad417 := (by injection e417)
                            replace p417 := eq_true p417
                            replace q417 := eq_true q417
                            go_wp2_with (first | (go_at_call 48; (with_reducible refine (spec_srCommon.calls (rd l0 x40_3) (rd l0 x47_4) t418 _ A29.out).mono ?_); rintro e w' ⟨rfl, ⟨nd, rfl⟩⟩; (try first | exact ⟨rfl, _, World.drewN_drewN _ _ _⟩ | exact ⟨rfl, _, Eq.trans (World.drewN_drewN _ _ _) (congrArg (World.drewN _) (Nat.add_assoc _ _ _))⟩)))
                            repeat (go_quiet (first | (go_at_call 48; (with_reducible refine (spec_srCommon.calls (rd l0 x40_3) (rd l0 x47_4) t418 _ A29.out).mono ?_); rintro e w' ⟨rfl, ⟨nd, rfl⟩⟩; (try first | exact ⟨rfl, _, World.drewN_drewN _ _ _⟩ | exact ⟨rfl, _, Eq.trans (World.drewN_drewN _ _ _) (congrArg (World.drewN _) (Nat.add_assoc _ _ _))⟩))); try go_wp2_with (first | (go_at_call 48; (with_reducible refine (spec_srCommon.calls (rd l0 x40_3) (rd l0 x47_4) t418 _ A29.out).mono ?_); rintro e w' ⟨rfl, ⟨nd, rfl⟩⟩; (try first | exact ⟨rfl, _, World.drewN_drewN _ _ _⟩ | exact ⟨rfl, _, Eq.trans (World.drewN_drewN _ _ _) (congrArg (World.drewN _) (Nat.add_assoc _ _ _))⟩))))
                            go_roundg kj21
                            case measure => have := HJ2.out; have := HK2.out; have := HK3.out; have := HK4.out; have := HJ21.out; omega
                            case rel => exact ⟨(wrap64 (x47_4 + 1)), (by first | rfl | (simp; done) | (simp [*]; done)), H', ⟨by have := HJ2.out; have := HK2.out; have := HK3.out; have := HK4.out; have := HJ21.out; omega⟩, by repeat (first | exact Drawn0.refl _ | apply Drawn0.step)⟩
                           ·rw [if_neg c31] at H
                            have c31b0 : ((Int.tmod (wrap64 (x10_21 - (wrap64 (-(rd l1 x47_4))))) t418) == 0) = false := beq_eq_false_iff_ne.mpr c31
                            have c31b1 : ((Int.tmod (wrap64 (x10_21 - (wrap64 (-(rd l1 x47_4))))) t418) != 0) = true := bne_iff_ne.mpr c31
                            simp only [Option.some.injEq, Prod.mk.injEq] at H
                            obtain ⟨rfl, rfl⟩ := H
                            have p416 : 0 ≤ (x40_3 : Int) := of_decide_eq_true (by assumption)
                            have q416 : x40_3 < (l0.length : Int) := of_decide_eq_true (by assumption)
                            obtain ⟨ad416, e416, hx416_0⟩ := Kd.at_int HR0.out x40_3 p416 q416
                            cases e416
                            replace p416 := eq_true p416
                            replace q416 := eq_true q416
                            have p417 : 0 ≤ (x47_4 : Int) := of_decide_eq_true (by assumption)
                            have q417 : x47_4 < (l0.length : Int) := of_decide_eq_true (by assumption)
                            obtain ⟨ad417, e417, hx417_0⟩ := Kd.at_int HR0.out x47_4 p417 q417
                            obtain rfl : ad416 = ad417 := (by injection e417)
                            replace p417 := eq_true p417
                            replace q417 := eq_true q417
                            go_wp2_with (first | (go_at_call 48; (with_reducible refine (spec_srCommon.calls (rd l0 x40_3) (rd l0 x47_4) t418 _ A29.out).mono ?_); rintro e w' ⟨rfl, ⟨nd, rfl⟩⟩; (try first | exact ⟨rfl, _, World.drewN_drewN _ _ _⟩ | exact ⟨rfl, _, Eq.trans (World.drewN_drewN _ _ _) (congrArg (World.drewN _) (Nat.add_assoc _ _ _))⟩)))
                            repeat (go_quiet (first | (go_at_call 48; (with_reducible refine (spec_srCommon.calls (rd l0 x40_3) (rd l0 x47_4) t418 _ A29.out).mono ?_); rintro e w' ⟨rfl, ⟨nd, rfl⟩⟩; (try first | exact ⟨rfl, _, World.drewN_drewN _ _ _⟩ | exact ⟨rfl, _, Eq.trans (World.drewN_drewN _ _ _) (congrArg (World.drewN _) (Nat.add_assoc _ _ _))⟩))); try go_wp2_with (first | (go_at_call 48; (with_reducible refine (spec_srCommon.calls (rd l0 x40_3) (rd l0 x47_4) t418 _ A29.out).mono ?_); rintro e w' ⟨rfl, ⟨nd, rfl⟩⟩; (try first | exact ⟨rfl, _, World.drewN_drewN _ _ _⟩ | exact ⟨rfl, _, Eq.trans (World.drewN_drewN _ _ _) (congrArg (World.drewN _) (Nat.add_assoc _ _ _))⟩))))
                            go_ret2
                            exact ⟨by first | rfl | (simp; done) | (simp [*]; done), by repeat (first | exact Drawn0.refl _ | apply Drawn0.step)⟩
                         ·rw [if_neg c28] at H
                          exact absurd H (by simp)
                        ·rw [if_neg c27] at H
                         exact absurd H (by simp)
                       ·rw [if_neg c26] at H
                        exact absurd H (by simp)
                      ·rw [if_neg c25] at H
                       exact absurd H (by simp)
                     ·rw [if_neg c24] at H
                      have c24b0 : ((Int.tmod x47_4 2) == 1) = false := beq_eq_false_iff_ne.mpr c24
                      have c24b1 : ((Int.tmod x47_4 2) != 1) = true := bne_iff_ne.mpr c24
                      by_cases c32 : 0 ≤ x40_3
                      ·rw [if_pos c32] at H
                       have c32b0 : decide (0 ≤ x40_3) = true := decide_eq_true c32
                       clear c32
                       by_cases c33 : x40_3 < (l0.length : Int)
                       ·rw [if_pos c33] at H
                        have c33b0 : decide (x40_3 < (l0.length : Int)) = true := decide_eq_true c33
                        clear c33
                        by_cases c34 : 0 ≤ x47_4
                        ·rw [if_pos c34] at H
                         have c34b0 : decide (0 ≤ x47_4) = true := decide_eq_true c34
                         clear c34
                         by_cases c35 : x47_4 < (l0.length : Int)
                         ·rw [if_pos c35] at H
                          have c35b0 : decide (x47_4 < (l0.length : Int)) = true := decide_eq_true c35
                          clear c35
                          replace H := Option.bind_eq_some_iff.mp H
                          obtain ⟨t421, A360, H⟩ := H
                          (try dsimp only at H)
                          have A36 := Aside0.mk A360
                          clear A360
                          by_cases c37 : t421 = 0
                          ·rw [if_pos c37] at H
                           exact absurd H (by simp)
                          ·rw [if_neg c37] at H
                           have c37b0 : (t421 == 0) = false := beq_eq_false_iff_ne.mpr c37
                           have c37b1 : (t421 != 0) = true := bne_iff_ne.mpr c37
                           by_cases c38 : (Int.tmod (wrap64 (x10_21 - (rd l1 x47_4))) t421) = 0
                           ·rw [if_pos c38] at H
                            have c38b0 : ((Int.tmod (wrap64 (x10_21 - (rd l1 x47_4))) t421) == 0) = true := beq_iff_eq.mpr c38
                            have c38b1 : ((Int.tmod (wrap64 (x10_21 - (rd l1 x47_4))) t421) != 0) = false := bne_eq_false_iff_eq.mpr c38
                            clear c38
                            have H' := Aside0.mk H
                            clear H
                            have p419 : 0 ≤ (x40_3 : Int) := of_decide_eq_true (by assumption)
                            have q419 : x40_3 < (l0.length : Int) := of_decide_eq_true (by assumption)
                            obtain ⟨ad419, e419, hx419_0⟩ := Kd.at_int HR0.out x40_3 p419 q419
                            cases e419
                            replace p419 := eq_true p419
                            replace q419 := eq_true q419
                            have p420 : 0 ≤ (x47_4 : Int) := of_decide_eq_true (by assumption)
                            have q420 : x47_4 < (l0.length : Int) := of_decide_eq_true (by assumption)
                            obtain ⟨ad420, e420, hx420_0⟩ := Kd.at_int HR0.out x47_4 p420 q420
                            obtain rfl : ad419 = ad420 := (by injection e420)
                            replace p420 := eq_true p420
                            replace q420 := eq_true q420
                            go_wp2_with (first | (go_at_call 48; (with_reducible refine (spec_srCommon.calls (rd l0 x40_3) (rd l0 x47_4) t421 _ A36.out).mono ?_); rintro e w' ⟨rfl, ⟨nd, rfl⟩⟩; (try first | exact ⟨rfl, _, World.drewN_drewN _ _ _⟩ | exact ⟨rfl, _, Eq.trans (World.drewN_drewN _ _ _) (congrArg (World.drewN _) (Nat.add_assoc _ _ _))⟩)))
                            repeat (go_quiet (first | (go_at_call 48; (with_reducible refine (spec_srCommon.calls (rd l0 x40_3) (rd l0 x47_4) t421 _ A36.out).mono ?_); rintro e w' ⟨rfl, ⟨nd, rfl⟩⟩; (try first | exact ⟨rfl, _, World.drewN_drewN _ _ _⟩ | exact ⟨rfl, _, Eq.trans (World.drewN_drewN _ _ _) (congrArg (World.drewN _) (Nat.add_assoc _ _ _))⟩))); try go_wp2_with (first | (go_at_call 48; (with_reducible refine (spec_srCommon.calls (rd l0 x40_3) (rd l0 x47_4) t421 _ A36.out).mono ?_); rintro e w' ⟨rfl, ⟨nd, rfl⟩⟩; (try first | exact ⟨rfl, _, World.drewN_drewN _ _ _⟩ | exact ⟨rfl, _, Eq.trans (World.drewN_drewN _ _ _) (congrArg (World.drewN _) (Nat.add_assoc _ _ _))⟩))))
                            go_roundg kj21
                            case measure => have := HJ2.out; have := HK2.out; have := HK3.out; have := HK4.out; have := HJ21.out; omega
                            case rel => exact ⟨(wrap64 (x47_4 + 1)), (by first | rfl | (simp; done) | (simp [*]; done)), H', ⟨by have := HJ2.out; have := HK2.out; have := HK3.out; have := HK4.out; have := HJ21.out; omega⟩, by repeat (first | exact Drawn0.refl _ | apply Drawn0.step)⟩
                           ·rw [if_neg c38] at H
                            have c38b0 : ((Int.tmod (wrap64 (x10_21 - (rd l1 x47_4))) t421) == 0) = false := beq_eq_false_iff_ne.mpr c38
                            have c38b1 : ((Int.tmod (wrap64 (x10_21 - (rd l1 x47_4))) t421) != 0) = true := bne_iff_ne.mpr c38
                            simp only [Option.some.injEq, Prod.mk.injEq] at H
                            obtain ⟨rfl, rfl⟩ := H
                            have p419 : 0 ≤ (x40_3 : Int) := of_decide_eq_true (by assumption)
                            have q419 : x40_3 < (l0.length : Int) := of_decide_eq_true (by assumption)
                            obtain ⟨ad419, e419, hx419_0⟩ := Kd.at_int HR0.out x40_3 p419 q419
                            cases e419
                            replace p419 := eq_true p419
                            replace q419 := eq_true q419
                            have p420 : 0 ≤ (x47_4 : Int) := of_decide_eq_true (by assumption)
                            have q420 : x47_4 < (l0.length : Int) := of_decide_eq_true (by assumption)
                            obtain ⟨ad420, e420, hx420_0⟩ := Kd.at_int HR0.out x47_4 p420 q420
                            obtain rfl : ad419 = ad420 := (by injection e420)
                            replace p420 := eq_true p420
                            replace q420 := eq_true q420
                            go_wp2_with (first | (go_at_call 48; (with_reducible refine (spec_srCommon.calls (rd l0 x40_3) (rd l0 x47_4) t421 _ A36.out).mono ?_); rintro e w' ⟨rfl, ⟨nd, rfl⟩⟩; (try first | exact ⟨rfl, _, World.drewN_drewN _ _ _⟩ | exact ⟨rfl, _, Eq.trans (World.drewN_drewN _ _ _) (congrArg (World.drewN _) (Nat.add_assoc _ _ _))⟩)))
                            repeat (go_quiet (first | (go_at_call 48; (with_reducible refine (spec_srCommon.calls (rd l0 x40_3) (rd l0 x47_4) t421 _ A36.out).mono ?_); rintro e w' ⟨rfl, ⟨nd, rfl⟩⟩; (try first | exact ⟨rfl, _, World.drewN_drewN _ _ _⟩ | exact ⟨rfl, _, Eq.trans (World.drewN_drewN _ _ _) (congrArg (World.drewN _) (Nat.add_assoc _ _ _))⟩))); try go_wp2_with (first | (go_at_call 48; (with_reducible refine (spec_srCommon.calls (rd l0 x40_3) (rd l0 x47_4) t421 _ A36.out).mono ?_); rintro e w' ⟨rfl, ⟨nd, rfl⟩⟩; (try first | exact ⟨rfl, _, World.drewN_drewN _ _ _⟩ | exact ⟨rfl, _, Eq.trans (World.drewN_drewN _ _ _) (congrArg (World.drewN _) (Nat.add_assoc _ _ _))⟩))))
                            go_ret2
                            exact ⟨by first | rfl | (simp; done) | (simp [*]; done), by repeat (first | exact Drawn0.refl _ | apply Drawn0.step)⟩
                         ·rw [if_neg c35] at H
                          exact absurd H (by simp)
                        ·rw [if_neg c34] at H
                         exact absurd H (by simp)
                       ·rw [if_neg c33] at H
                        exact absurd H (by simp)
                      ·rw [if_neg c32] at H
                       exact absurd H (by simp)
                  ·rw [if_neg c21] at H
                   exact absurd H (by simp)
                 ·rw [if_neg c20] at H
                  exact absurd H (by simp)
                ·rw [if_neg c19] at H
                 exact absurd H (by simp)
               ·rw [if_neg c18] at H
                exact absurd H (by simp)
              ·rw [if_neg c17] at H
               have c17b0 : decide (x47_4 < ((l0.take (x40_3 : Int).toNat).length : Int)) = false := decide_eq_false c17
               have c17b9 := c17b0; rw [(HM16).out] at c17b9
               clear c17
               have H' := Aside0.mk H
               clear H
               go_wp2
               repeat (go_quiet (fail); try go_wp2)
               go_roundg k4
               case measure => have := HJ2.out; have := HK2.out; have := HK3.out; have := HK4.out; omega
               case rel => exact ⟨(wrap64 (x40_3 + 1)), (by first | rfl | (simp; done) | (simp [*]; done)), H', ⟨by have := HJ2.out; have := HK2.out; have := HK3.out; have := HK4.out; omega⟩, by repeat (first | exact Drawn0.refl _ | apply Drawn0.step)⟩
           ·rw [if_neg c15] at H
            exact absurd H (by simp)
          ·rw [if_neg c14] at H
           exact absurd H (by simp)
         ·rw [if_neg c13] at H
          have c13b0 : decide (x40_3 < (l0.length : Int)) = false := decide_eq_false c13
          clear c13
          simp only [Option.some.injEq, Prod.mk.injEq] at H
          obtain ⟨rfl, rfl⟩ := H
          go_wp2
          repeat (go_quiet (fail); try go_wp2)
          go_ret2
          exact ⟨by first | rfl | (simp; done) | (simp [*]; done), by repeat (first | exact Drawn0.refl _ | apply Drawn0.step)⟩

end Go.Proofs.Ytafjmkjljhiigaa.P
