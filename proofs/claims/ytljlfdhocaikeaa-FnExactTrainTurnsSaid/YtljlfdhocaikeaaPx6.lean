/- A part of this seat's proofs: contracts of the translated functions, written by the session's own program (gp.py) out of the kit's print.py and the session's own contracts; no conditions of its own. -/
import Derived.Test.YtljlfdhocaikeaaPx0
import Derived.Test.YtljlfdhocaikeaaPx1
namespace Go.Proofs.Ytljlfdhocaikeaa.P
open Go.RowKit Go.Proofs.YtljlfdhocaikeaaW.PrintWords Go.Proofs.YtljlfdhocaikeaaW.PrintLast Go.Proofs.YtljlfdhocaikeaaW.PrintMore
attribute [local go_sem] max2_int min2_int max_two min_two max_three min_three max_four min_four   -- for this text's walks alone
set_option linter.unusedVariables false
set_option linter.unusedSimpArgs false

/-! ### spec_AreInGear: function 18 -/
mutual
def spec_AreInGear.j0 : Nat → List Int → List Int → Bool → Option (Bool × Bool)
  | 0, _, _, _ => none
  | k + 1, x0, x1, x21 => if x21 = true then (some (false, false)) else (spec_AreInGear.l0 k x0 x1 x1 (x1.length : Int) 0)
def spec_AreInGear.l0 : Nat → List Int → List Int → List Int → Int → Int → Option (Bool × Bool)
  | 0, _, _, _, _, _ => none
  | k + 1, x0, x1, x22, x23, x24 => if x24 < x23 then (if 0 ≤ x24 then (if x24 < (x22.length : Int) then (if x24 < (x0.length : Int) then ((spec_l1In.f (rd x22 x24) 0 (wrap64 ((rd x0 x24) - 1))).bind fun t219 => (if t219 = true then (spec_AreInGear.l0 k x0 x1 x22 x23 (wrap64 (x24 + 1))) else (some (false, false)))) else (none)) else (none)) else (none)) else (spec_AreInGear.l1 k x0 x1 (x0.length : Int) 0)
def spec_AreInGear.l1 : Nat → List Int → List Int → Int → Int → Option (Bool × Bool)
  | 0, _, _, _, _ => none
  | k + 1, x0, x1, x39, x40 => if x40 < x39 then (if 0 ≤ x40 then (if x40 ≤ (x0.length : Int) then (spec_AreInGear.l2 k x0 x1 x40 x39 x40 ((x0.take (x40 : Int).toNat).length : Int) 0) else (none)) else (none)) else (some (true, true))
def spec_AreInGear.l2 : Nat → List Int → List Int → Int → Int → Int → Int → Int → Option (Bool × Bool)
  | 0, _, _, _, _, _, _, _ => none
  | k + 1, x0, x1, x8, x39, x40, x46, x47 => if x47 < x46 then (if 0 ≤ x8 then (if x8 < (x1.length : Int) then (if 0 ≤ x47 then (if x47 < (x1.length : Int) then (if (Int.tmod x8 2) = 1 then (spec_AreInGear.j4 k x0 x1 x8 x47 (wrap64 (-(rd x1 x8))) (rd x1 x47) x39 x40 x46 x47) else (spec_AreInGear.j4 k x0 x1 x8 x47 (rd x1 x8) (rd x1 x47) x39 x40 x46 x47)) else (none)) else (none)) else (none)) else (none)) else (spec_AreInGear.l1 k x0 x1 x39 (wrap64 (x40 + 1)))
def spec_AreInGear.j4 : Nat → List Int → List Int → Int → Int → Int → Int → Int → Int → Int → Int → Option (Bool × Bool)
  | 0, _, _, _, _, _, _, _, _, _, _ => none
  | k + 1, x0, x1, x8, x9, x10, x11, x39, x40, x46, x47 => if (Int.tmod x9 2) = 1 then (if 0 ≤ x8 then (if x8 < (x0.length : Int) then (if 0 ≤ x9 then (if x9 < (x0.length : Int) then ((spec_srCommon.f (rd x0 x8) (rd x0 x9)).bind fun t225 => (if t225 = 0 then (none) else (if (Int.tmod (wrap64 (x10 - (wrap64 (-x11)))) t225) = 0 then (spec_AreInGear.l2 k x0 x1 x8 x39 x40 x46 (wrap64 (x47 + 1))) else (some (false, true))))) else (none)) else (none)) else (none)) else (none)) else (if 0 ≤ x8 then (if x8 < (x0.length : Int) then (if 0 ≤ x9 then (if x9 < (x0.length : Int) then ((spec_srCommon.f (rd x0 x8) (rd x0 x9)).bind fun t228 => (if t228 = 0 then (none) else (if (Int.tmod (wrap64 (x10 - x11)) t228) = 0 then (spec_AreInGear.l2 k x0 x1 x8 x39 x40 x46 (wrap64 (x47 + 1))) else (some (false, true))))) else (none)) else (none)) else (none)) else (none))
end
def spec_AreInGear.f (k : Nat) (l0 : List Int) (l1 : List Int) : Option (Bool × Bool) := (spec_geTrain.f k l0).bind fun t216 => (if t216 = true then (spec_AreInGear.j0 k l0 l1 ((l1.length : Int) != (l0.length : Int))) else (spec_AreInGear.j0 k l0 l1 true))
theorem spec_AreInGear.mono_l : ∀ k, (∀ y0 y1 y2, LeO (spec_AreInGear.j0 k y0 y1 y2) (spec_AreInGear.j0 (k + 1) y0 y1 y2)) ∧ (∀ y0 y1 y2 y3 y4, LeO (spec_AreInGear.l0 k y0 y1 y2 y3 y4) (spec_AreInGear.l0 (k + 1) y0 y1 y2 y3 y4)) ∧ (∀ y0 y1 y2 y3, LeO (spec_AreInGear.l1 k y0 y1 y2 y3) (spec_AreInGear.l1 (k + 1) y0 y1 y2 y3)) ∧ (∀ y0 y1 y2 y3 y4 y5 y6, LeO (spec_AreInGear.l2 k y0 y1 y2 y3 y4 y5 y6) (spec_AreInGear.l2 (k + 1) y0 y1 y2 y3 y4 y5 y6)) ∧ (∀ y0 y1 y2 y3 y4 y5 y6 y7 y8 y9, LeO (spec_AreInGear.j4 k y0 y1 y2 y3 y4 y5 y6 y7 y8 y9) (spec_AreInGear.j4 (k + 1) y0 y1 y2 y3 y4 y5 y6 y7 y8 y9))
  | 0 => ⟨fun _ _ _ r h => by simp [spec_AreInGear.j0] at h, fun _ _ _ _ _ r h => by simp [spec_AreInGear.l0] at h, fun _ _ _ _ r h => by simp [spec_AreInGear.l1] at h, fun _ _ _ _ _ _ _ r h => by simp [spec_AreInGear.l2] at h, fun _ _ _ _ _ _ _ _ _ _ r h => by simp [spec_AreInGear.j4] at h⟩
  | k + 1 => by
    obtain ⟨ih0, ih1, ih2, ih3, ih4⟩ := spec_AreInGear.mono_l k
    refine ⟨?_, ?_, ?_, ?_, ?_⟩
    · intro y0 y1 y2
      unfold spec_AreInGear.j0
      repeat' first
      | (with_reducible exact ih0 _ _ _)
      | (with_reducible exact ih1 _ _ _ _ _)
      | (with_reducible exact ih2 _ _ _ _)
      | (with_reducible exact ih3 _ _ _ _ _ _ _)
      | (with_reducible exact ih4 _ _ _ _ _ _ _ _ _ _)
      | (with_reducible exact spec_geTrain.mono _ _)
      | (with_reducible exact LeO.refl _)
      | (with_reducible exact LeO.none _)
      | (with_reducible refine LeO.ite ?_ ?_)
      | (with_reducible refine LeO.bind ?_ (fun _ => ?_))
      | exact ih0 _ _ _
      | exact ih1 _ _ _ _ _
      | exact ih2 _ _ _ _
      | exact ih3 _ _ _ _ _ _ _
      | exact ih4 _ _ _ _ _ _ _ _ _ _
      | exact spec_geTrain.mono _ _
      | exact LeO.none _
      | refine LeO.ite ?_ ?_
      | refine LeO.bind ?_ (fun _ => ?_)
    · intro y0 y1 y2 y3 y4
      unfold spec_AreInGear.l0
      repeat' first
      | (with_reducible exact ih0 _ _ _)
      | (with_reducible exact ih1 _ _ _ _ _)
      | (with_reducible exact ih2 _ _ _ _)
      | (with_reducible exact ih3 _ _ _ _ _ _ _)
      | (with_reducible exact ih4 _ _ _ _ _ _ _ _ _ _)
      | (with_reducible exact spec_geTrain.mono _ _)
      | (with_reducible exact LeO.refl _)
      | (with_reducible exact LeO.none _)
      | (with_reducible refine LeO.ite ?_ ?_)
      | (with_reducible refine LeO.bind ?_ (fun _ => ?_))
      | exact ih0 _ _ _
      | exact ih1 _ _ _ _ _
      | exact ih2 _ _ _ _
      | exact ih3 _ _ _ _ _ _ _
      | exact ih4 _ _ _ _ _ _ _ _ _ _
      | exact spec_geTrain.mono _ _
      | exact LeO.none _
      | refine LeO.ite ?_ ?_
      | refine LeO.bind ?_ (fun _ => ?_)
    · intro y0 y1 y2 y3
      unfold spec_AreInGear.l1
      repeat' first
      | (with_reducible exact ih0 _ _ _)
      | (with_reducible exact ih1 _ _ _ _ _)
      | (with_reducible exact ih2 _ _ _ _)
      | (with_reducible exact ih3 _ _ _ _ _ _ _)
      | (with_reducible exact ih4 _ _ _ _ _ _ _ _ _ _)
      | (with_reducible exact spec_geTrain.mono _ _)
      | (with_reducible exact LeO.refl _)
      | (with_reducible exact LeO.none _)
      | (with_reducible refine LeO.ite ?_ ?_)
      | (with_reducible refine LeO.bind ?_ (fun _ => ?_))
      | exact ih0 _ _ _
      | exact ih1 _ _ _ _ _
      | exact ih2 _ _ _ _
      | exact ih3 _ _ _ _ _ _ _
      | exact ih4 _ _ _ _ _ _ _ _ _ _
      | exact spec_geTrain.mono _ _
      | exact LeO.none _
      | refine LeO.ite ?_ ?_
      | refine LeO.bind ?_ (fun _ => ?_)
    · intro y0 y1 y2 y3 y4 y5 y6
      unfold spec_AreInGear.l2
      repeat' first
      | (with_reducible exact ih0 _ _ _)
      | (with_reducible exact ih1 _ _ _ _ _)
      | (with_reducible exact ih2 _ _ _ _)
      | (with_reducible exact ih3 _ _ _ _ _ _ _)
      | (with_reducible exact ih4 _ _ _ _ _ _ _ _ _ _)
      | (with_reducible exact spec_geTrain.mono _ _)
      | (with_reducible exact LeO.refl _)
      | (with_reducible exact LeO.none _)
      | (with_reducible refine LeO.ite ?_ ?_)
      | (with_reducible refine LeO.bind ?_ (fun _ => ?_))
      | exact ih0 _ _ _
      | exact ih1 _ _ _ _ _
      | exact ih2 _ _ _ _
      | exact ih3 _ _ _ _ _ _ _
      | exact ih4 _ _ _ _ _ _ _ _ _ _
      | exact spec_geTrain.mono _ _
      | exact LeO.none _
      | refine LeO.ite ?_ ?_
      | refine LeO.bind ?_ (fun _ => ?_)
    · intro y0 y1 y2 y3 y4 y5 y6 y7 y8 y9
      unfold spec_AreInGear.j4
      repeat' first
      | (with_reducible exact ih0 _ _ _)
      | (with_reducible exact ih1 _ _ _ _ _)
      | (with_reducible exact ih2 _ _ _ _)
      | (with_reducible exact ih3 _ _ _ _ _ _ _)
      | (with_reducible exact ih4 _ _ _ _ _ _ _ _ _ _)
      | (with_reducible exact spec_geTrain.mono _ _)
      | (with_reducible exact LeO.refl _)
      | (with_reducible exact LeO.none _)
      | (with_reducible refine LeO.ite ?_ ?_)
      | (with_reducible refine LeO.bind ?_ (fun _ => ?_))
      | exact ih0 _ _ _
      | exact ih1 _ _ _ _ _
      | exact ih2 _ _ _ _
      | exact ih3 _ _ _ _ _ _ _
      | exact ih4 _ _ _ _ _ _ _ _ _ _
      | exact spec_geTrain.mono _ _
      | exact LeO.none _
      | refine LeO.ite ?_ ?_
      | refine LeO.bind ?_ (fun _ => ?_)
theorem spec_AreInGear.mono : ∀ a0 a1 k, LeO (spec_AreInGear.f k a0 a1) (spec_AreInGear.f (k + 1) a0 a1) := by
  intro a0 a1 k
  obtain ⟨ih0, ih1, ih2, ih3, ih4⟩ := spec_AreInGear.mono_l k
  unfold spec_AreInGear.f
  repeat' first
      | (with_reducible exact ih0 _ _ _)
      | (with_reducible exact ih1 _ _ _ _ _)
      | (with_reducible exact ih2 _ _ _ _)
      | (with_reducible exact ih3 _ _ _ _ _ _ _)
      | (with_reducible exact ih4 _ _ _ _ _ _ _ _ _ _)
      | (with_reducible exact spec_geTrain.mono _ _)
      | (with_reducible exact LeO.refl _)
      | (with_reducible exact LeO.none _)
      | (with_reducible refine LeO.ite ?_ ?_)
      | (with_reducible refine LeO.bind ?_ (fun _ => ?_))
      | exact ih0 _ _ _
      | exact ih1 _ _ _ _ _
      | exact ih2 _ _ _ _
      | exact ih3 _ _ _ _ _ _ _
      | exact ih4 _ _ _ _ _ _ _ _ _ _
      | exact spec_geTrain.mono _ _
      | exact LeO.none _
      | refine LeO.ite ?_ ?_
      | refine LeO.bind ?_ (fun _ => ?_)
set_option maxHeartbeats 8000000 in
set_option maxRecDepth 100000 in
theorem spec_AreInGear.calls (k : Nat) (A0 : Option Addr) (c0 : Nat) (l0 : List Int) (A1 : Option Addr) (c1 : Nat) (l1 : List Int) (r1 : Bool) (r2 : Bool) (w : World) (hr0 : Kd.C (Kd.int .i64) w A0 l0.length l0) (hc0 : l0.length ≤ c0) (hr1 : Kd.C (Kd.int .i64) w A1 l1.length l1) (hc1 : l1.length ≤ c1) (h : spec_AreInGear.f k l0 l1 = some (r1, r2)) :
    Calls Try.prog 18 #[.slice A0 l0.length c0, .slice A1 l1.length c1] w fun e w' => e = .returned (.tuple #[.bool r1, .bool r2]) ∧ Drawn0 w w' := by
  have HR0 := Aside0.mk hr0
  have HC0 := Aside0.mk hc0
  clear hr0 hc0
  have HR1 := Aside0.mk hr1
  have HC1 := Aside0.mk hc1
  clear hr1 hc1
  have H : ((spec_geTrain.f k l0).bind fun t216 => (if t216 = true then (spec_AreInGear.j0 k l0 l1 ((l1.length : Int) != (l0.length : Int))) else (spec_AreInGear.j0 k l0 l1 true))) = some (r1, r2) := h
  clear h
  have HC3 := Aside0.mk H
  clear H
  go_enter Try.func18, Try.ntmps18
  go_upto_region 1 with (fail)
  repeat (go_quiet (fail); go_upto_region 1 with (fail))
  go_cut [21] (fun v21 wc => ∃ (kq : Nat) (x21_2 : Bool), v21 = .bool x21_2 ∧ Aside0 (spec_AreInGear.j0 kq l0 l1 x21_2 = some (r1, r2)) ∧ Aside0 (kq ≤ k) ∧ Drawn0 w wc)
  case first =>
    have H := HC3.out
    clear HC3
    replace H := Option.bind_eq_some_iff.mp H
    obtain ⟨t216, A40, H⟩ := H
    replace H : (if t216 = true then (spec_AreInGear.j0 k l0 l1 ((l1.length : Int) != (l0.length : Int))) else (spec_AreInGear.j0 k l0 l1 true)) = some (r1, r2) := H
    have A4 := Aside0.mk A40
    clear A40
    by_cases c5 : t216 = true
    · subst c5
      have H1 : (spec_AreInGear.j0 k l0 l1 ((l1.length : Int) != (l0.length : Int))) = some (r1, r2) := by rw [if_pos rfl] at H; exact H
      clear H
      have H := H1
      clear H1
      have H' := Aside0.mk H
      clear H
      go_wp2_with (first | (go_at_call 22; (with_reducible refine (spec_geTrain.calls k _ _ l0 true _ ?side1 ?side2 A4.out).mono ?_); (case side1 => repeat (first | exact HR0.out | (with_reducible refine Kd.C_alloc ?_ _) | (with_reducible refine Kd.C_drewN ?_ _) | (with_reducible refine Kd.C_drew ?_))); (case side2 => exact HC0.out); rintro e w' ⟨rfl, ⟨nd, rfl⟩⟩; (try first | exact ⟨rfl, _, World.drewN_drewN _ _ _⟩ | exact ⟨rfl, _, Eq.trans (World.drewN_drewN _ _ _) (congrArg (World.drewN _) (Nat.add_assoc _ _ _))⟩)))
      repeat (go_quiet (first | (go_at_call 22; (with_reducible refine (spec_geTrain.calls k _ _ l0 true _ ?side1 ?side2 A4.out).mono ?_); (case side1 => repeat (first | exact HR0.out | (with_reducible refine Kd.C_alloc ?_ _) | (with_reducible refine Kd.C_drewN ?_ _) | (with_reducible refine Kd.C_drew ?_))); (case side2 => exact HC0.out); rintro e w' ⟨rfl, ⟨nd, rfl⟩⟩; (try first | exact ⟨rfl, _, World.drewN_drewN _ _ _⟩ | exact ⟨rfl, _, Eq.trans (World.drewN_drewN _ _ _) (congrArg (World.drewN _) (Nat.add_assoc _ _ _))⟩))); try go_wp2_with (first | (go_at_call 22; (with_reducible refine (spec_geTrain.calls k _ _ l0 true _ ?side1 ?side2 A4.out).mono ?_); (case side1 => repeat (first | exact HR0.out | (with_reducible refine Kd.C_alloc ?_ _) | (with_reducible refine Kd.C_drewN ?_ _) | (with_reducible refine Kd.C_drew ?_))); (case side2 => exact HC0.out); rintro e w' ⟨rfl, ⟨nd, rfl⟩⟩; (try first | exact ⟨rfl, _, World.drewN_drewN _ _ _⟩ | exact ⟨rfl, _, Eq.trans (World.drewN_drewN _ _ _) (congrArg (World.drewN _) (Nat.add_assoc _ _ _))⟩))))
      go_meet
      case rel => exact ⟨_, (((l1.length : Int) != (l0.length : Int))), (by first | rfl | (simp; done) | (simp [*]; done)), H', ⟨by first | omega | exact Nat.le_refl _⟩, by repeat (first | exact Drawn0.refl _ | apply Drawn0.step)⟩
    · replace c5 := Bool.eq_false_iff.mpr c5
      subst c5
      have H1 : (spec_AreInGear.j0 k l0 l1 true) = some (r1, r2) := by rw [if_neg (show ¬ (false = true) by decide)] at H; exact H
      clear H
      have H := H1
      clear H1
      have H' := Aside0.mk H
      clear H
      go_wp2_with (first | (go_at_call 22; (with_reducible refine (spec_geTrain.calls k _ _ l0 false _ ?side1 ?side2 A4.out).mono ?_); (case side1 => repeat (first | exact HR0.out | (with_reducible refine Kd.C_alloc ?_ _) | (with_reducible refine Kd.C_drewN ?_ _) | (with_reducible refine Kd.C_drew ?_))); (case side2 => exact HC0.out); rintro e w' ⟨rfl, ⟨nd, rfl⟩⟩; (try first | exact ⟨rfl, _, World.drewN_drewN _ _ _⟩ | exact ⟨rfl, _, Eq.trans (World.drewN_drewN _ _ _) (congrArg (World.drewN _) (Nat.add_assoc _ _ _))⟩)))
      repeat (go_quiet (first | (go_at_call 22; (with_reducible refine (spec_geTrain.calls k _ _ l0 false _ ?side1 ?side2 A4.out).mono ?_); (case side1 => repeat (first | exact HR0.out | (with_reducible refine Kd.C_alloc ?_ _) | (with_reducible refine Kd.C_drewN ?_ _) | (with_reducible refine Kd.C_drew ?_))); (case side2 => exact HC0.out); rintro e w' ⟨rfl, ⟨nd, rfl⟩⟩; (try first | exact ⟨rfl, _, World.drewN_drewN _ _ _⟩ | exact ⟨rfl, _, Eq.trans (World.drewN_drewN _ _ _) (congrArg (World.drewN _) (Nat.add_assoc _ _ _))⟩))); try go_wp2_with (first | (go_at_call 22; (with_reducible refine (spec_geTrain.calls k _ _ l0 false _ ?side1 ?side2 A4.out).mono ?_); (case side1 => repeat (first | exact HR0.out | (with_reducible refine Kd.C_alloc ?_ _) | (with_reducible refine Kd.C_drewN ?_ _) | (with_reducible refine Kd.C_drew ?_))); (case side2 => exact HC0.out); rintro e w' ⟨rfl, ⟨nd, rfl⟩⟩; (try first | exact ⟨rfl, _, World.drewN_drewN _ _ _⟩ | exact ⟨rfl, _, Eq.trans (World.drewN_drewN _ _ _) (congrArg (World.drewN _) (Nat.add_assoc _ _ _))⟩))))
      go_meet
      case rel => exact ⟨_, (true), (by first | rfl | (simp; done) | (simp [*]; done)), H', ⟨by first | omega | exact Nat.le_refl _⟩, by repeat (first | exact Drawn0.refl _ | apply Drawn0.step)⟩
  case rest =>
    clear HC3
    try clear c1
    try clear p2
    try clear c5
    obtain ⟨kq, x21_2, rfl, HA, HJ2, ⟨mc2, rfl⟩⟩ := hcut
    cases kq with
    | zero => exact absurd HA.out (by simp [spec_AreInGear.j0])
    | succ kj2 =>
      have H := HA.out
      clear HA
      simp only [spec_AreInGear.j0] at H
      by_cases c6 : x21_2 = true
      · subst c6
        have H1 : (some (false, false)) = some (r1, r2) := by rw [if_pos rfl] at H; exact H
        clear H
        have H := H1
        clear H1
        simp only [Option.some.injEq, Prod.mk.injEq] at H
        obtain ⟨rfl, rfl⟩ := H
        go_wp2
        repeat (go_quiet (fail); try go_wp2)
        go_ret2
        exact ⟨by first | rfl | (simp; done) | (simp [*]; done), by repeat (first | exact Drawn0.refl _ | apply Drawn0.step)⟩
      · replace c6 := Bool.eq_false_iff.mpr c6
        subst c6
        have H1 : (spec_AreInGear.l0 kj2 l0 l1 l1 (l1.length : Int) 0) = some (r1, r2) := by rw [if_neg (show ¬ (false = true) by decide)] at H; exact H
        clear H
        have H := H1
        clear H1
        have H' := Aside0.mk H
        clear H
        go_wp2
        repeat (go_quiet (fail); try go_wp2)
        go_loopg [24] kj2 (fun kq v24 w' => ∃ (x24_2 : Int), v24 = .int .i64 x24_2 ∧ Aside0 (spec_AreInGear.l0 kq l0 l1 l1 (l1.length : Int) x24_2 = some (r1, r2)) ∧ Aside0 (kq ≤ kj2) ∧ Drawn0 w w')
        case atStart => exact ⟨(0), (by first | rfl | (simp; done) | (simp [*]; done)), H', ⟨Nat.le_refl _⟩, by repeat (first | exact Drawn0.refl _ | apply Drawn0.step)⟩
        case round =>
          clear H'
          try clear c1
          try clear c2
          try clear p2
          try clear c5
          try clear c6
          try clear p2
          obtain ⟨x24_2, rfl, HA, HK2, ⟨m2, rfl⟩⟩ := hrel
          cases gk with
          | zero => exact absurd HA.out (by simp [spec_AreInGear.l0])
          | succ k2 =>
            have H := HA.out
            clear HA
            simp only [spec_AreInGear.l0] at H
            by_cases c7 : x24_2 < (l1.length : Int)
            · rw [if_pos c7] at H
              have c7b0 : decide (x24_2 < (l1.length : Int)) = true := decide_eq_true c7
              clear c7
              by_cases c8 : 0 ≤ x24_2
              · rw [if_pos c8] at H
                have c8b0 : decide (0 ≤ x24_2) = true := decide_eq_true c8
                clear c8
                by_cases c9 : x24_2 < (l1.length : Int)
                · rw [if_pos c9] at H
                  have c9b0 : decide (x24_2 < (l1.length : Int)) = true := decide_eq_true c9
                  clear c9
                  by_cases c10 : x24_2 < (l0.length : Int)
                  · rw [if_pos c10] at H
                    have c10b0 : decide (x24_2 < (l0.length : Int)) = true := decide_eq_true c10
                    clear c10
                    replace H := Option.bind_eq_some_iff.mp H
                    obtain ⟨t219, A110, H⟩ := H
                    replace H : (if t219 = true then (spec_AreInGear.l0 k2 l0 l1 l1 (l1.length : Int) (wrap64 (x24_2 + 1))) else (some (false, false))) = some (r1, r2) := H
                    have A11 := Aside0.mk A110
                    clear A110
                    by_cases c12 : t219 = true
                    · subst c12
                      have H1 : (spec_AreInGear.l0 k2 l0 l1 l1 (l1.length : Int) (wrap64 (x24_2 + 1))) = some (r1, r2) := by rw [if_pos rfl] at H; exact H
                      clear H
                      have H := H1
                      clear H1
                      have H' := Aside0.mk H
                      clear H
                      have p217 : 0 ≤ (x24_2 : Int) := of_decide_eq_true (by first | (with_reducible assumption) | assumption)
                      have q217 : x24_2 < (l1.length : Int) := of_decide_eq_true (by first | (with_reducible assumption) | assumption)
                      obtain ⟨ad217, e217, hx217_0⟩ := Kd.at_int HR1.out x24_2 p217 q217
                      cases e217
                      replace p217 := eq_true p217
                      replace q217 := eq_true q217
                      have p218 : 0 ≤ (x24_2 : Int) := of_decide_eq_true (by first | (with_reducible assumption) | assumption)
                      have q218 : x24_2 < (l0.length : Int) := of_decide_eq_true (by first | (with_reducible assumption) | assumption)
                      obtain ⟨ad218, e218, hx218_0⟩ := Kd.at_int HR0.out x24_2 p218 q218
                      cases e218
                      replace p218 := eq_true p218
                      replace q218 := eq_true q218
                      go_wp2_with (first | (go_at_call 26; (with_reducible refine (spec_l1In.calls (rd l1 x24_2) 0 (wrap64 ((rd l0 x24_2) - 1)) true _ A11.out).mono ?_); rintro e w' ⟨rfl, ⟨nd, rfl⟩⟩; (try first | exact ⟨rfl, _, World.drewN_drewN _ _ _⟩ | exact ⟨rfl, _, Eq.trans (World.drewN_drewN _ _ _) (congrArg (World.drewN _) (Nat.add_assoc _ _ _))⟩)))
                      repeat (go_quiet (first | (go_at_call 26; (with_reducible refine (spec_l1In.calls (rd l1 x24_2) 0 (wrap64 ((rd l0 x24_2) - 1)) true _ A11.out).mono ?_); rintro e w' ⟨rfl, ⟨nd, rfl⟩⟩; (try first | exact ⟨rfl, _, World.drewN_drewN _ _ _⟩ | exact ⟨rfl, _, Eq.trans (World.drewN_drewN _ _ _) (congrArg (World.drewN _) (Nat.add_assoc _ _ _))⟩))); try go_wp2_with (first | (go_at_call 26; (with_reducible refine (spec_l1In.calls (rd l1 x24_2) 0 (wrap64 ((rd l0 x24_2) - 1)) true _ A11.out).mono ?_); rintro e w' ⟨rfl, ⟨nd, rfl⟩⟩; (try first | exact ⟨rfl, _, World.drewN_drewN _ _ _⟩ | exact ⟨rfl, _, Eq.trans (World.drewN_drewN _ _ _) (congrArg (World.drewN _) (Nat.add_assoc _ _ _))⟩))))
                      go_roundg k2
                      case measure => have := HJ2.out; have := HK2.out; omega
                      case rel => exact ⟨(wrap64 (x24_2 + 1)), (by first | rfl | (simp; done) | (simp [*]; done)), H', ⟨by have := HJ2.out; have := HK2.out; omega⟩, by repeat (first | exact Drawn0.refl _ | apply Drawn0.step)⟩
                    · replace c12 := Bool.eq_false_iff.mpr c12
                      subst c12
                      have H1 : (some (false, false)) = some (r1, r2) := by rw [if_neg (show ¬ (false = true) by decide)] at H; exact H
                      clear H
                      have H := H1
                      clear H1
                      simp only [Option.some.injEq, Prod.mk.injEq] at H
                      obtain ⟨rfl, rfl⟩ := H
                      have p217 : 0 ≤ (x24_2 : Int) := of_decide_eq_true (by first | (with_reducible assumption) | assumption)
                      have q217 : x24_2 < (l1.length : Int) := of_decide_eq_true (by first | (with_reducible assumption) | assumption)
                      obtain ⟨ad217, e217, hx217_0⟩ := Kd.at_int HR1.out x24_2 p217 q217
                      cases e217
                      replace p217 := eq_true p217
                      replace q217 := eq_true q217
                      have p218 : 0 ≤ (x24_2 : Int) := of_decide_eq_true (by first | (with_reducible assumption) | assumption)
                      have q218 : x24_2 < (l0.length : Int) := of_decide_eq_true (by first | (with_reducible assumption) | assumption)
                      obtain ⟨ad218, e218, hx218_0⟩ := Kd.at_int HR0.out x24_2 p218 q218
                      cases e218
                      replace p218 := eq_true p218
                      replace q218 := eq_true q218
                      go_wp2_with (first | (go_at_call 26; (with_reducible refine (spec_l1In.calls (rd l1 x24_2) 0 (wrap64 ((rd l0 x24_2) - 1)) false _ A11.out).mono ?_); rintro e w' ⟨rfl, ⟨nd, rfl⟩⟩; (try first | exact ⟨rfl, _, World.drewN_drewN _ _ _⟩ | exact ⟨rfl, _, Eq.trans (World.drewN_drewN _ _ _) (congrArg (World.drewN _) (Nat.add_assoc _ _ _))⟩)))
                      repeat (go_quiet (first | (go_at_call 26; (with_reducible refine (spec_l1In.calls (rd l1 x24_2) 0 (wrap64 ((rd l0 x24_2) - 1)) false _ A11.out).mono ?_); rintro e w' ⟨rfl, ⟨nd, rfl⟩⟩; (try first | exact ⟨rfl, _, World.drewN_drewN _ _ _⟩ | exact ⟨rfl, _, Eq.trans (World.drewN_drewN _ _ _) (congrArg (World.drewN _) (Nat.add_assoc _ _ _))⟩))); try go_wp2_with (first | (go_at_call 26; (with_reducible refine (spec_l1In.calls (rd l1 x24_2) 0 (wrap64 ((rd l0 x24_2) - 1)) false _ A11.out).mono ?_); rintro e w' ⟨rfl, ⟨nd, rfl⟩⟩; (try first | exact ⟨rfl, _, World.drewN_drewN _ _ _⟩ | exact ⟨rfl, _, Eq.trans (World.drewN_drewN _ _ _) (congrArg (World.drewN _) (Nat.add_assoc _ _ _))⟩))))
                      go_ret2
                      exact ⟨by first | rfl | (simp; done) | (simp [*]; done), by repeat (first | exact Drawn0.refl _ | apply Drawn0.step)⟩
                  · rw [if_neg c10] at H
                    exact absurd H (by simp)
                · rw [if_neg c9] at H
                  exact absurd H (by simp)
              · rw [if_neg c8] at H
                exact absurd H (by simp)
            · rw [if_neg c7] at H
              have c7b0 : decide (x24_2 < (l1.length : Int)) = false := decide_eq_false c7
              clear c7
              have H' := Aside0.mk H
              clear H
              go_wp2
              repeat (go_quiet (fail); try go_wp2)
              go_loopg [40] k2 (fun kq v40 w' => ∃ (x40_3 : Int), v40 = .int .i64 x40_3 ∧ Aside0 (spec_AreInGear.l1 kq l0 l1 (l0.length : Int) x40_3 = some (r1, r2)) ∧ Aside0 (kq ≤ k2) ∧ Drawn0 w w')
              case atStart => exact ⟨(0), (by first | rfl | (simp; done) | (simp [*]; done)), H', ⟨Nat.le_refl _⟩, by repeat (first | exact Drawn0.refl _ | apply Drawn0.step)⟩
              case round =>
                clear H'
                try clear c1
                try clear c2
                try clear p2
                try clear q2
                try clear hx2
                try clear c5
                try clear c6
                try clear p6
                try clear c7
                try clear c7b0
                try clear c8
                try clear c8b0
                try clear c9
                try clear c9b0
                try clear c10
                try clear c10b0
                try clear c12
                try clear hx217_0
                try clear hx218_0
                try clear p2
                try clear p217
                try clear p218
                try clear q217
                try clear q218
                obtain ⟨x40_3, rfl, HA, HK3, ⟨m3, rfl⟩⟩ := hrel
                cases gk with
                | zero => exact absurd HA.out (by simp [spec_AreInGear.l1])
                | succ k3 =>
                  have H := HA.out
                  clear HA
                  simp only [spec_AreInGear.l1] at H
                  by_cases c13 : x40_3 < (l0.length : Int)
                  · rw [if_pos c13] at H
                    have c13b0 : decide (x40_3 < (l0.length : Int)) = true := decide_eq_true c13
                    clear c13
                    by_cases c14 : 0 ≤ x40_3
                    · rw [if_pos c14] at H
                      have c14b0 := eq_true c14
                      have c14b1 : decide (0 ≤ x40_3) = true := decide_eq_true c14
                      clear c14
                      by_cases c15 : x40_3 ≤ (l0.length : Int)
                      · rw [if_pos c15] at H
                        have c15b0 := eq_true c15
                        have c15b1 : decide (x40_3 ≤ (l0.length : Int)) = true := decide_eq_true c15
                        clear c15
                        have H' := Aside0.mk H
                        clear H
                        obtain ⟨i016, hi016, _, hsz16, _⟩ := info_parts info3
                        have HM16 := Aside0.mk (show ((l0.take (x40_3 : Int).toNat).length : Int) = max x40_3 0 by (have h1 : 0 ≤ x40_3 := (of_decide_eq_true (by first | (with_reducible assumption) | assumption))); (have h2 : x40_3 ≤ (l0.length : Int) := (of_decide_eq_true (by first | (with_reducible assumption) | assumption))); rw [List.length_take]; omega)
                        obtain ⟨hcut16, hA16, hC16⟩ := print_take_of (P := Try.prog) (Value.int .i64) 0 22 3 .i64 Try.underlying22 hi016 hsz16 A0 c0 l0 x40_3 (of_decide_eq_true (by first | (with_reducible assumption) | assumption)) (of_decide_eq_true (by first | (with_reducible assumption) | assumption)) HC0.out
                        have HR220 := Aside0.mk (Kd.C_of_reads (h1 := fun _ => rfl) (hA16 _ (Kd.reads_of_C HR0.out)))
                        have HC220 := Aside0.mk hC16
                        clear hA16 hC16 hi016 hsz16
                        go_wp2
                        repeat (go_quiet (fail); try go_wp2)
                        go_loopg [47] k3 (fun kq v47 w' => ∃ (x47_4 : Int), v47 = .int .i64 x47_4 ∧ Aside0 (spec_AreInGear.l2 kq l0 l1 x40_3 (l0.length : Int) x40_3 ((l0.take (x40_3 : Int).toNat).length : Int) x47_4 = some (r1, r2)) ∧ Aside0 (kq ≤ k3) ∧ Drawn0 w w')
                        case atStart => exact ⟨(0), (by first | rfl | (simp; done) | (simp [*]; done)), H', ⟨Nat.le_refl _⟩, by repeat (first | exact Drawn0.refl _ | apply Drawn0.step)⟩
                        case round =>
                          clear H'
                          try clear c1
                          try clear c2
                          try clear p2
                          try clear q2
                          try clear hx2
                          try clear c5
                          try clear c6
                          try clear p6
                          try clear c7
                          try clear c7b0
                          try clear c8
                          try clear c8b0
                          try clear c9
                          try clear c9b0
                          try clear c10
                          try clear c10b0
                          try clear c12
                          try clear c13
                          try clear c13b0
                          try clear c14
                          try clear c14b0
                          try clear c14b1
                          try clear c15
                          try clear c15b0
                          try clear c15b1
                          try clear hx217_0
                          try clear hx218_0
                          try clear p2
                          try clear p217
                          try clear p218
                          try clear p6
                          try clear q2
                          try clear q217
                          try clear q218
                          obtain ⟨x47_4, rfl, HA, HK4, ⟨m4, rfl⟩⟩ := hrel
                          cases gk with
                          | zero => exact absurd HA.out (by simp [spec_AreInGear.l2])
                          | succ k4 =>
                            have H := HA.out
                            clear HA
                            simp only [spec_AreInGear.l2] at H
                            by_cases c17 : x47_4 < ((l0.take (x40_3 : Int).toNat).length : Int)
                            · rw [if_pos c17] at H
                              have c17b0 : decide (x47_4 < ((l0.take (x40_3 : Int).toNat).length : Int)) = true := decide_eq_true c17
                              have c17b9 := c17b0; rw [(HM16).out] at c17b9
                              clear c17
                              by_cases c18 : 0 ≤ x40_3
                              · rw [if_pos c18] at H
                                have c18b0 : decide (0 ≤ x40_3) = true := decide_eq_true c18
                                clear c18
                                by_cases c19 : x40_3 < (l1.length : Int)
                                · rw [if_pos c19] at H
                                  have c19b0 : decide (x40_3 < (l1.length : Int)) = true := decide_eq_true c19
                                  clear c19
                                  by_cases c20 : 0 ≤ x47_4
                                  · rw [if_pos c20] at H
                                    have c20b0 : decide (0 ≤ x47_4) = true := decide_eq_true c20
                                    clear c20
                                    by_cases c21 : x47_4 < (l1.length : Int)
                                    · rw [if_pos c21] at H
                                      have c21b0 : decide (x47_4 < (l1.length : Int)) = true := decide_eq_true c21
                                      clear c21
                                      have HC22 := Aside0.mk H
                                      clear H
                                      have p221 : 0 ≤ (x40_3 : Int) := of_decide_eq_true (by first | (with_reducible assumption) | assumption)
                                      have q221 : x40_3 < (l1.length : Int) := of_decide_eq_true (by first | (with_reducible assumption) | assumption)
                                      obtain ⟨ad221, e221, hx221_0⟩ := Kd.at_int HR1.out x40_3 p221 q221
                                      cases e221
                                      replace p221 := eq_true p221
                                      replace q221 := eq_true q221
                                      have p222 : 0 ≤ (x47_4 : Int) := of_decide_eq_true (by first | (with_reducible assumption) | assumption)
                                      have q222 : x47_4 < (l1.length : Int) := of_decide_eq_true (by first | (with_reducible assumption) | assumption)
                                      obtain ⟨ad222, e222, hx222_0⟩ := Kd.at_int HR1.out x47_4 p222 q222
                                      obtain rfl : ad221 = ad222 := (by injection e222)
                                      replace p222 := eq_true p222
                                      replace q222 := eq_true q222
                                      go_upto_if 60 with (fail)
                                      repeat (go_quiet (fail); go_upto_if 60 with (fail))
                                      go_cut [10] (fun v10 wc => ∃ (kq : Nat) (x10_21 : Int), v10 = .int .i64 x10_21 ∧ Aside0 (spec_AreInGear.j4 kq l0 l1 x40_3 x47_4 x10_21 (rd l1 x47_4) (l0.length : Int) x40_3 ((l0.take (x40_3 : Int).toNat).length : Int) x47_4 = some (r1, r2)) ∧ Aside0 (kq ≤ k4) ∧ Drawn0 w wc)
                                      case first =>
                                        have H := HC22.out
                                        clear HC22
                                        by_cases c23 : (Int.tmod x40_3 2) = 1
                                        · rw [if_pos c23] at H
                                          have c23b0 : ((Int.tmod x40_3 2) == 1) = true := beq_iff_eq.mpr c23
                                          have c23b1 : ((Int.tmod x40_3 2) != 1) = false := bne_eq_false_iff_eq.mpr c23
                                          clear c23
                                          (first | rw [c23b0] | (simp only [i64_w, i32_w]; rw [c23b0]) | skip)
                                          have H' := Aside0.mk H
                                          clear H
                                          go_wp2
                                          repeat (go_quiet (fail); try go_wp2)
                                          go_meet
                                          case rel => exact ⟨_, (wrap64 (-(rd l1 x40_3))), (by first | rfl | (simp; done) | (simp [*]; done)), H', ⟨by have := HJ2.out; have := HK2.out; have := HK3.out; have := HK4.out; first | omega | exact Nat.le_refl _⟩, by repeat (first | exact Drawn0.refl _ | apply Drawn0.step)⟩
                                        · rw [if_neg c23] at H
                                          have c23b0 : ((Int.tmod x40_3 2) == 1) = false := beq_eq_false_iff_ne.mpr c23
                                          have c23b1 : ((Int.tmod x40_3 2) != 1) = true := bne_iff_ne.mpr c23
                                          (first | rw [c23b0] | (simp only [i64_w, i32_w]; rw [c23b0]) | skip)
                                          have H' := Aside0.mk H
                                          clear H
                                          go_wp2
                                          repeat (go_quiet (fail); try go_wp2)
                                          go_meet
                                          case rel => exact ⟨_, (rd l1 x40_3), (by first | rfl | (simp; done) | (simp [*]; done)), H', ⟨by have := HJ2.out; have := HK2.out; have := HK3.out; have := HK4.out; first | omega | exact Nat.le_refl _⟩, by repeat (first | exact Drawn0.refl _ | apply Drawn0.step)⟩
                                      case rest =>
                                        clear HC22
                                        try clear c1
                                        try clear c2
                                        try clear p2
                                        try clear q2
                                        try clear hx2
                                        try clear c5
                                        try clear c6
                                        try clear p6
                                        try clear c7
                                        try clear c7b0
                                        try clear c8
                                        try clear c8b0
                                        try clear c9
                                        try clear c9b0
                                        try clear c10
                                        try clear c10b0
                                        try clear c12
                                        try clear c13
                                        try clear c13b0
                                        try clear c14
                                        try clear c14b0
                                        try clear c14b1
                                        try clear c15
                                        try clear c15b0
                                        try clear c15b1
                                        try clear c17
                                        try clear c17b0
                                        try clear c18
                                        try clear c18b0
                                        try clear c19
                                        try clear c19b0
                                        try clear c20
                                        try clear c20b0
                                        try clear c21
                                        try clear c21b0
                                        try clear p21
                                        try clear q21
                                        try clear hx21
                                        try clear p22
                                        try clear q22
                                        try clear hx22
                                        try clear c23
                                        try clear c23b0
                                        try clear c23b1
                                        try clear hx217_0
                                        try clear hx218_0
                                        try clear hx221_0
                                        try clear hx222_0
                                        try clear p2
                                        try clear p217
                                        try clear p218
                                        try clear p221
                                        try clear p222
                                        try clear p6
                                        try clear q2
                                        try clear q217
                                        try clear q218
                                        try clear q221
                                        try clear q222
                                        obtain ⟨kq, x10_21, rfl, HA, HJ21, ⟨mc21, rfl⟩⟩ := hcut
                                        cases kq with
                                        | zero => exact absurd HA.out (by simp [spec_AreInGear.j4])
                                        | succ kj21 =>
                                          have H := HA.out
                                          clear HA
                                          simp only [spec_AreInGear.j4] at H
                                          by_cases c24 : (Int.tmod x47_4 2) = 1
                                          · rw [if_pos c24] at H
                                            have c24b0 : ((Int.tmod x47_4 2) == 1) = true := beq_iff_eq.mpr c24
                                            have c24b1 : ((Int.tmod x47_4 2) != 1) = false := bne_eq_false_iff_eq.mpr c24
                                            clear c24
                                            by_cases c25 : 0 ≤ x40_3
                                            · rw [if_pos c25] at H
                                              have c25b0 : decide (0 ≤ x40_3) = true := decide_eq_true c25
                                              clear c25
                                              by_cases c26 : x40_3 < (l0.length : Int)
                                              · rw [if_pos c26] at H
                                                have c26b0 : decide (x40_3 < (l0.length : Int)) = true := decide_eq_true c26
                                                clear c26
                                                by_cases c27 : 0 ≤ x47_4
                                                · rw [if_pos c27] at H
                                                  have c27b0 : decide (0 ≤ x47_4) = true := decide_eq_true c27
                                                  clear c27
                                                  by_cases c28 : x47_4 < (l0.length : Int)
                                                  · rw [if_pos c28] at H
                                                    have c28b0 : decide (x47_4 < (l0.length : Int)) = true := decide_eq_true c28
                                                    clear c28
                                                    replace H := Option.bind_eq_some_iff.mp H
                                                    obtain ⟨t225, A290, H⟩ := H
                                                    replace H : (if t225 = 0 then (none) else (if (Int.tmod (wrap64 (x10_21 - (wrap64 (-(rd l1 x47_4))))) t225) = 0 then (spec_AreInGear.l2 kj21 l0 l1 x40_3 (l0.length : Int) x40_3 ((l0.take (x40_3 : Int).toNat).length : Int) (wrap64 (x47_4 + 1))) else (some (false, true)))) = some (r1, r2) := H
                                                    have A29 := Aside0.mk A290
                                                    clear A290
                                                    by_cases c30 : t225 = 0
                                                    · rw [if_pos c30] at H
                                                      exact absurd H (by simp)
                                                    · rw [if_neg c30] at H
                                                      have c30b0 : (t225 == 0) = false := beq_eq_false_iff_ne.mpr c30
                                                      have c30b1 : (t225 != 0) = true := bne_iff_ne.mpr c30
                                                      by_cases c31 : (Int.tmod (wrap64 (x10_21 - (wrap64 (-(rd l1 x47_4))))) t225) = 0
                                                      · rw [if_pos c31] at H
                                                        have c31b0 : ((Int.tmod (wrap64 (x10_21 - (wrap64 (-(rd l1 x47_4))))) t225) == 0) = true := beq_iff_eq.mpr c31
                                                        have c31b1 : ((Int.tmod (wrap64 (x10_21 - (wrap64 (-(rd l1 x47_4))))) t225) != 0) = false := bne_eq_false_iff_eq.mpr c31
                                                        clear c31
                                                        have H' := Aside0.mk H
                                                        clear H
                                                        have p223 : 0 ≤ (x40_3 : Int) := of_decide_eq_true (by first | (with_reducible assumption) | assumption)
                                                        have q223 : x40_3 < (l0.length : Int) := of_decide_eq_true (by first | (with_reducible assumption) | assumption)
                                                        obtain ⟨ad223, e223, hx223_0⟩ := Kd.at_int HR0.out x40_3 p223 q223
                                                        cases e223
                                                        replace p223 := eq_true p223
                                                        replace q223 := eq_true q223
                                                        have p224 : 0 ≤ (x47_4 : Int) := of_decide_eq_true (by first | (with_reducible assumption) | assumption)
                                                        have q224 : x47_4 < (l0.length : Int) := of_decide_eq_true (by first | (with_reducible assumption) | assumption)
                                                        obtain ⟨ad224, e224, hx224_0⟩ := Kd.at_int HR0.out x47_4 p224 q224
                                                        obtain rfl : ad223 = ad224 := (by injection e224)
                                                        replace p224 := eq_true p224
                                                        replace q224 := eq_true q224
                                                        go_wp2_with (first | (go_at_call 29; (with_reducible refine (spec_srCommon.calls (rd l0 x40_3) (rd l0 x47_4) t225 _ A29.out).mono ?_); rintro e w' ⟨rfl, ⟨nd, rfl⟩⟩; (try first | exact ⟨rfl, _, World.drewN_drewN _ _ _⟩ | exact ⟨rfl, _, Eq.trans (World.drewN_drewN _ _ _) (congrArg (World.drewN _) (Nat.add_assoc _ _ _))⟩)))
                                                        repeat (go_quiet (first | (go_at_call 29; (with_reducible refine (spec_srCommon.calls (rd l0 x40_3) (rd l0 x47_4) t225 _ A29.out).mono ?_); rintro e w' ⟨rfl, ⟨nd, rfl⟩⟩; (try first | exact ⟨rfl, _, World.drewN_drewN _ _ _⟩ | exact ⟨rfl, _, Eq.trans (World.drewN_drewN _ _ _) (congrArg (World.drewN _) (Nat.add_assoc _ _ _))⟩))); try go_wp2_with (first | (go_at_call 29; (with_reducible refine (spec_srCommon.calls (rd l0 x40_3) (rd l0 x47_4) t225 _ A29.out).mono ?_); rintro e w' ⟨rfl, ⟨nd, rfl⟩⟩; (try first | exact ⟨rfl, _, World.drewN_drewN _ _ _⟩ | exact ⟨rfl, _, Eq.trans (World.drewN_drewN _ _ _) (congrArg (World.drewN _) (Nat.add_assoc _ _ _))⟩))))
                                                        go_roundg kj21
                                                        case measure => have := HJ2.out; have := HK2.out; have := HK3.out; have := HK4.out; have := HJ21.out; omega
                                                        case rel => exact ⟨(wrap64 (x47_4 + 1)), (by first | rfl | (simp; done) | (simp [*]; done)), H', ⟨by have := HJ2.out; have := HK2.out; have := HK3.out; have := HK4.out; have := HJ21.out; omega⟩, by repeat (first | exact Drawn0.refl _ | apply Drawn0.step)⟩
                                                      · rw [if_neg c31] at H
                                                        have c31b0 : ((Int.tmod (wrap64 (x10_21 - (wrap64 (-(rd l1 x47_4))))) t225) == 0) = false := beq_eq_false_iff_ne.mpr c31
                                                        have c31b1 : ((Int.tmod (wrap64 (x10_21 - (wrap64 (-(rd l1 x47_4))))) t225) != 0) = true := bne_iff_ne.mpr c31
                                                        simp only [Option.some.injEq, Prod.mk.injEq] at H
                                                        obtain ⟨rfl, rfl⟩ := H
                                                        have p223 : 0 ≤ (x40_3 : Int) := of_decide_eq_true (by first | (with_reducible assumption) | assumption)
                                                        have q223 : x40_3 < (l0.length : Int) := of_decide_eq_true (by first | (with_reducible assumption) | assumption)
                                                        obtain ⟨ad223, e223, hx223_0⟩ := Kd.at_int HR0.out x40_3 p223 q223
                                                        cases e223
                                                        replace p223 := eq_true p223
                                                        replace q223 := eq_true q223
                                                        have p224 : 0 ≤ (x47_4 : Int) := of_decide_eq_true (by first | (with_reducible assumption) | assumption)
                                                        have q224 : x47_4 < (l0.length : Int) := of_decide_eq_true (by first | (with_reducible assumption) | assumption)
                                                        obtain ⟨ad224, e224, hx224_0⟩ := Kd.at_int HR0.out x47_4 p224 q224
                                                        obtain rfl : ad223 = ad224 := (by injection e224)
                                                        replace p224 := eq_true p224
                                                        replace q224 := eq_true q224
                                                        go_wp2_with (first | (go_at_call 29; (with_reducible refine (spec_srCommon.calls (rd l0 x40_3) (rd l0 x47_4) t225 _ A29.out).mono ?_); rintro e w' ⟨rfl, ⟨nd, rfl⟩⟩; (try first | exact ⟨rfl, _, World.drewN_drewN _ _ _⟩ | exact ⟨rfl, _, Eq.trans (World.drewN_drewN _ _ _) (congrArg (World.drewN _) (Nat.add_assoc _ _ _))⟩)))
                                                        repeat (go_quiet (first | (go_at_call 29; (with_reducible refine (spec_srCommon.calls (rd l0 x40_3) (rd l0 x47_4) t225 _ A29.out).mono ?_); rintro e w' ⟨rfl, ⟨nd, rfl⟩⟩; (try first | exact ⟨rfl, _, World.drewN_drewN _ _ _⟩ | exact ⟨rfl, _, Eq.trans (World.drewN_drewN _ _ _) (congrArg (World.drewN _) (Nat.add_assoc _ _ _))⟩))); try go_wp2_with (first | (go_at_call 29; (with_reducible refine (spec_srCommon.calls (rd l0 x40_3) (rd l0 x47_4) t225 _ A29.out).mono ?_); rintro e w' ⟨rfl, ⟨nd, rfl⟩⟩; (try first | exact ⟨rfl, _, World.drewN_drewN _ _ _⟩ | exact ⟨rfl, _, Eq.trans (World.drewN_drewN _ _ _) (congrArg (World.drewN _) (Nat.add_assoc _ _ _))⟩))))
                                                        go_ret2
                                                        exact ⟨by first | rfl | (simp; done) | (simp [*]; done), by repeat (first | exact Drawn0.refl _ | apply Drawn0.step)⟩
                                                  · rw [if_neg c28] at H
                                                    exact absurd H (by simp)
                                                · rw [if_neg c27] at H
                                                  exact absurd H (by simp)
                                              · rw [if_neg c26] at H
                                                exact absurd H (by simp)
                                            · rw [if_neg c25] at H
                                              exact absurd H (by simp)
                                          · rw [if_neg c24] at H
                                            have c24b0 : ((Int.tmod x47_4 2) == 1) = false := beq_eq_false_iff_ne.mpr c24
                                            have c24b1 : ((Int.tmod x47_4 2) != 1) = true := bne_iff_ne.mpr c24
                                            by_cases c32 : 0 ≤ x40_3
                                            · rw [if_pos c32] at H
                                              have c32b0 : decide (0 ≤ x40_3) = true := decide_eq_true c32
                                              clear c32
                                              by_cases c33 : x40_3 < (l0.length : Int)
                                              · rw [if_pos c33] at H
                                                have c33b0 : decide (x40_3 < (l0.length : Int)) = true := decide_eq_true c33
                                                clear c33
                                                by_cases c34 : 0 ≤ x47_4
                                                · rw [if_pos c34] at H
                                                  have c34b0 : decide (0 ≤ x47_4) = true := decide_eq_true c34
                                                  clear c34
                                                  by_cases c35 : x47_4 < (l0.length : Int)
                                                  · rw [if_pos c35] at H
                                                    have c35b0 : decide (x47_4 < (l0.length : Int)) = true := decide_eq_true c35
                                                    clear c35
                                                    replace H := Option.bind_eq_some_iff.mp H
                                                    obtain ⟨t228, A360, H⟩ := H
                                                    replace H : (if t228 = 0 then (none) else (if (Int.tmod (wrap64 (x10_21 - (rd l1 x47_4))) t228) = 0 then (spec_AreInGear.l2 kj21 l0 l1 x40_3 (l0.length : Int) x40_3 ((l0.take (x40_3 : Int).toNat).length : Int) (wrap64 (x47_4 + 1))) else (some (false, true)))) = some (r1, r2) := H
                                                    have A36 := Aside0.mk A360
                                                    clear A360
                                                    by_cases c37 : t228 = 0
                                                    · rw [if_pos c37] at H
                                                      exact absurd H (by simp)
                                                    · rw [if_neg c37] at H
                                                      have c37b0 : (t228 == 0) = false := beq_eq_false_iff_ne.mpr c37
                                                      have c37b1 : (t228 != 0) = true := bne_iff_ne.mpr c37
                                                      by_cases c38 : (Int.tmod (wrap64 (x10_21 - (rd l1 x47_4))) t228) = 0
                                                      · rw [if_pos c38] at H
                                                        have c38b0 : ((Int.tmod (wrap64 (x10_21 - (rd l1 x47_4))) t228) == 0) = true := beq_iff_eq.mpr c38
                                                        have c38b1 : ((Int.tmod (wrap64 (x10_21 - (rd l1 x47_4))) t228) != 0) = false := bne_eq_false_iff_eq.mpr c38
                                                        clear c38
                                                        have H' := Aside0.mk H
                                                        clear H
                                                        have p226 : 0 ≤ (x40_3 : Int) := of_decide_eq_true (by first | (with_reducible assumption) | assumption)
                                                        have q226 : x40_3 < (l0.length : Int) := of_decide_eq_true (by first | (with_reducible assumption) | assumption)
                                                        obtain ⟨ad226, e226, hx226_0⟩ := Kd.at_int HR0.out x40_3 p226 q226
                                                        cases e226
                                                        replace p226 := eq_true p226
                                                        replace q226 := eq_true q226
                                                        have p227 : 0 ≤ (x47_4 : Int) := of_decide_eq_true (by first | (with_reducible assumption) | assumption)
                                                        have q227 : x47_4 < (l0.length : Int) := of_decide_eq_true (by first | (with_reducible assumption) | assumption)
                                                        obtain ⟨ad227, e227, hx227_0⟩ := Kd.at_int HR0.out x47_4 p227 q227
                                                        obtain rfl : ad226 = ad227 := (by injection e227)
                                                        replace p227 := eq_true p227
                                                        replace q227 := eq_true q227
                                                        go_wp2_with (first | (go_at_call 29; (with_reducible refine (spec_srCommon.calls (rd l0 x40_3) (rd l0 x47_4) t228 _ A36.out).mono ?_); rintro e w' ⟨rfl, ⟨nd, rfl⟩⟩; (try first | exact ⟨rfl, _, World.drewN_drewN _ _ _⟩ | exact ⟨rfl, _, Eq.trans (World.drewN_drewN _ _ _) (congrArg (World.drewN _) (Nat.add_assoc _ _ _))⟩)))
                                                        repeat (go_quiet (first | (go_at_call 29; (with_reducible refine (spec_srCommon.calls (rd l0 x40_3) (rd l0 x47_4) t228 _ A36.out).mono ?_); rintro e w' ⟨rfl, ⟨nd, rfl⟩⟩; (try first | exact ⟨rfl, _, World.drewN_drewN _ _ _⟩ | exact ⟨rfl, _, Eq.trans (World.drewN_drewN _ _ _) (congrArg (World.drewN _) (Nat.add_assoc _ _ _))⟩))); try go_wp2_with (first | (go_at_call 29; (with_reducible refine (spec_srCommon.calls (rd l0 x40_3) (rd l0 x47_4) t228 _ A36.out).mono ?_); rintro e w' ⟨rfl, ⟨nd, rfl⟩⟩; (try first | exact ⟨rfl, _, World.drewN_drewN _ _ _⟩ | exact ⟨rfl, _, Eq.trans (World.drewN_drewN _ _ _) (congrArg (World.drewN _) (Nat.add_assoc _ _ _))⟩))))
                                                        go_roundg kj21
                                                        case measure => have := HJ2.out; have := HK2.out; have := HK3.out; have := HK4.out; have := HJ21.out; omega
                                                        case rel => exact ⟨(wrap64 (x47_4 + 1)), (by first | rfl | (simp; done) | (simp [*]; done)), H', ⟨by have := HJ2.out; have := HK2.out; have := HK3.out; have := HK4.out; have := HJ21.out; omega⟩, by repeat (first | exact Drawn0.refl _ | apply Drawn0.step)⟩
                                                      · rw [if_neg c38] at H
                                                        have c38b0 : ((Int.tmod (wrap64 (x10_21 - (rd l1 x47_4))) t228) == 0) = false := beq_eq_false_iff_ne.mpr c38
                                                        have c38b1 : ((Int.tmod (wrap64 (x10_21 - (rd l1 x47_4))) t228) != 0) = true := bne_iff_ne.mpr c38
                                                        simp only [Option.some.injEq, Prod.mk.injEq] at H
                                                        obtain ⟨rfl, rfl⟩ := H
                                                        have p226 : 0 ≤ (x40_3 : Int) := of_decide_eq_true (by first | (with_reducible assumption) | assumption)
                                                        have q226 : x40_3 < (l0.length : Int) := of_decide_eq_true (by first | (with_reducible assumption) | assumption)
                                                        obtain ⟨ad226, e226, hx226_0⟩ := Kd.at_int HR0.out x40_3 p226 q226
                                                        cases e226
                                                        replace p226 := eq_true p226
                                                        replace q226 := eq_true q226
                                                        have p227 : 0 ≤ (x47_4 : Int) := of_decide_eq_true (by first | (with_reducible assumption) | assumption)
                                                        have q227 : x47_4 < (l0.length : Int) := of_decide_eq_true (by first | (with_reducible assumption) | assumption)
                                                        obtain ⟨ad227, e227, hx227_0⟩ := Kd.at_int HR0.out x47_4 p227 q227
                                                        obtain rfl : ad226 = ad227 := (by injection e227)
                                                        replace p227 := eq_true p227
                                                        replace q227 := eq_true q227
                                                        go_wp2_with (first | (go_at_call 29; (with_reducible refine (spec_srCommon.calls (rd l0 x40_3) (rd l0 x47_4) t228 _ A36.out).mono ?_); rintro e w' ⟨rfl, ⟨nd, rfl⟩⟩; (try first | exact ⟨rfl, _, World.drewN_drewN _ _ _⟩ | exact ⟨rfl, _, Eq.trans (World.drewN_drewN _ _ _) (congrArg (World.drewN _) (Nat.add_assoc _ _ _))⟩)))
                                                        repeat (go_quiet (first | (go_at_call 29; (with_reducible refine (spec_srCommon.calls (rd l0 x40_3) (rd l0 x47_4) t228 _ A36.out).mono ?_); rintro e w' ⟨rfl, ⟨nd, rfl⟩⟩; (try first | exact ⟨rfl, _, World.drewN_drewN _ _ _⟩ | exact ⟨rfl, _, Eq.trans (World.drewN_drewN _ _ _) (congrArg (World.drewN _) (Nat.add_assoc _ _ _))⟩))); try go_wp2_with (first | (go_at_call 29; (with_reducible refine (spec_srCommon.calls (rd l0 x40_3) (rd l0 x47_4) t228 _ A36.out).mono ?_); rintro e w' ⟨rfl, ⟨nd, rfl⟩⟩; (try first | exact ⟨rfl, _, World.drewN_drewN _ _ _⟩ | exact ⟨rfl, _, Eq.trans (World.drewN_drewN _ _ _) (congrArg (World.drewN _) (Nat.add_assoc _ _ _))⟩))))
                                                        go_ret2
                                                        exact ⟨by first | rfl | (simp; done) | (simp [*]; done), by repeat (first | exact Drawn0.refl _ | apply Drawn0.step)⟩
                                                  · rw [if_neg c35] at H
                                                    exact absurd H (by simp)
                                                · rw [if_neg c34] at H
                                                  exact absurd H (by simp)
                                              · rw [if_neg c33] at H
                                                exact absurd H (by simp)
                                            · rw [if_neg c32] at H
                                              exact absurd H (by simp)
                                    · rw [if_neg c21] at H
                                      exact absurd H (by simp)
                                  · rw [if_neg c20] at H
                                    exact absurd H (by simp)
                                · rw [if_neg c19] at H
                                  exact absurd H (by simp)
                              · rw [if_neg c18] at H
                                exact absurd H (by simp)
                            · rw [if_neg c17] at H
                              have c17b0 : decide (x47_4 < ((l0.take (x40_3 : Int).toNat).length : Int)) = false := decide_eq_false c17
                              have c17b9 := c17b0; rw [(HM16).out] at c17b9
                              clear c17
                              have H' := Aside0.mk H
                              clear H
                              go_wp2
                              repeat (go_quiet (fail); try go_wp2)
                              go_roundg k4
                              case measure => have := HJ2.out; have := HK2.out; have := HK3.out; have := HK4.out; omega
                              case rel => exact ⟨(wrap64 (x40_3 + 1)), (by first | rfl | (simp; done) | (simp [*]; done)), H', ⟨by have := HJ2.out; have := HK2.out; have := HK3.out; have := HK4.out; omega⟩, by repeat (first | exact Drawn0.refl _ | apply Drawn0.step)⟩
                      · rw [if_neg c15] at H
                        exact absurd H (by simp)
                    · rw [if_neg c14] at H
                      exact absurd H (by simp)
                  · rw [if_neg c13] at H
                    have c13b0 : decide (x40_3 < (l0.length : Int)) = false := decide_eq_false c13
                    clear c13
                    simp only [Option.some.injEq, Prod.mk.injEq] at H
                    obtain ⟨rfl, rfl⟩ := H
                    go_wp2
                    repeat (go_quiet (fail); try go_wp2)
                    go_ret2
                    exact ⟨by first | rfl | (simp; done) | (simp [*]; done), by repeat (first | exact Drawn0.refl _ | apply Drawn0.step)⟩

end Go.Proofs.Ytljlfdhocaikeaa.P
