/- A part of this seat's proofs: contracts of the translated functions, written by the session's own program (gp.py) out of the kit's print.py and the session's own contracts; no conditions of its own. -/
import Derived.Test.YtfpjakkjkakjoaaGreatDoorPx0
import Derived.Test.YtfpjakkjkakjoaaGreatDoorPx2
import Derived.Test.YtfpjakkjkakjoaaGreatDoorPx4
import Derived.Test.YtfpjakkjkakjoaaGreatDoorPx6
namespace Go.Proofs.YtfpjakkjkakjoaaGreatDoor.P
open Go.RowKit Go.Proofs.YtfpjakkjkakjoaaGreatDoorW.PrintWords Go.Proofs.YtfpjakkjkakjoaaGreatDoorW.PrintLast Go.Proofs.YtfpjakkjkakjoaaGreatDoorW.PrintMore
attribute [local go_sem] max2_int min2_int max_two min_two max_three min_three max_four min_four   -- for this text's walks alone
set_option linter.unusedVariables false
set_option linter.unusedSimpArgs false

/-! ### spec_DoubleArea: function 9 -/
mutual
def spec_DoubleArea.j0 : Nat → Int → ByteArray → Bool → Option (Int × Bool)
 | 0, _, _, _ => none
 | k + 1, x0, x1, x21 => if x21 = true then (some (0, false)) else ((spec_paPath.f k x0 x1).bind fun bt295 => (spec_DoubleArea.l0 k bt295.1 0 1))
def spec_DoubleArea.l0 : Nat → List (List Int) → Int → Int → Option (Int × Bool)
 | 0, _, _, _ => none
 | k + 1, x6, x8, x9 => if x9 < (x6.length : Int) then (if 0 ≤ (wrap64 (x9 - 1)) then (if (wrap64 (x9 - 1)) < (x6.length : Int) then (if 0 ≤ x9 then (if 0 < ((rd_L2 x6 (wrap64 (x9 - 1))).length : Int) then (if 1 < ((rd_L2 x6 x9).length : Int) then (if 0 < ((rd_L2 x6 x9).length : Int) then (if 1 < ((rd_L2 x6 (wrap64 (x9 - 1))).length : Int) then (spec_DoubleArea.l0 k x6 (wrap64 (x8 + (wrap64 ((wrap64 ((rd (rd_L2 x6 (wrap64 (x9 - 1))) 0) * (rd (rd_L2 x6 x9) 1))) - (wrap64 ((rd (rd_L2 x6 x9) 0) * (rd (rd_L2 x6 (wrap64 (x9 - 1))) 1))))))) (wrap64 (x9 + 1))) else (none)) else (none)) else (none)) else (none)) else (none)) else (none)) else (none)) else (some (x8, true))
end
def spec_DoubleArea.f (k : Nat) (a0 : Int) (a1 : ByteArray) : Option (Int × Bool) := (spec_paAsked.f k a0 a1).bind fun t293 => (if t293 = true then ((spec_paClosed.f k a0 a1).bind fun t294 => (spec_DoubleArea.j0 k a0 a1 (!t294))) else (spec_DoubleArea.j0 k a0 a1 true))
theorem spec_DoubleArea.mono_l : ∀ k, (∀ y0 y1 y2, LeO (spec_DoubleArea.j0 k y0 y1 y2) (spec_DoubleArea.j0 (k + 1) y0 y1 y2)) ∧ (∀ y0 y1 y2, LeO (spec_DoubleArea.l0 k y0 y1 y2) (spec_DoubleArea.l0 (k + 1) y0 y1 y2))
 | 0 => ⟨fun _ _ _ r h => by simp [spec_DoubleArea.j0] at h, fun _ _ _ r h => by simp [spec_DoubleArea.l0] at h⟩
 | k + 1 => by
  obtain ⟨ih0, ih1⟩ := spec_DoubleArea.mono_l k
  refine ⟨?_, ?_⟩
  all_goals (intros; first | unfold spec_DoubleArea.j0 | unfold spec_DoubleArea.l0)
  all_goals repeat' with_reducible first | apply ih0 | apply ih1 | apply spec_paAsked.mono | apply spec_paClosed.mono | apply spec_paPath.mono | exact LeO.refl _ | exact LeO.none _ | refine LeO.ite ?_ ?_ | refine LeO.bind ?_ (fun _ => ?_)
theorem spec_DoubleArea.mono : ∀ a0 a1 k, LeO (spec_DoubleArea.f k a0 a1) (spec_DoubleArea.f (k + 1) a0 a1) := by
 intro a0 a1 k
 obtain ⟨ih0, ih1⟩ := spec_DoubleArea.mono_l k
 unfold spec_DoubleArea.f
 repeat' with_reducible first | apply ih0 | apply ih1 | apply spec_paAsked.mono | apply spec_paClosed.mono | apply spec_paPath.mono | exact LeO.refl _ | exact LeO.none _ | refine LeO.ite ?_ ?_ | refine LeO.bind ?_ (fun _ => ?_)
set_option maxHeartbeats 8000000 in
set_option maxRecDepth 100000 in
theorem spec_DoubleArea.calls (k : Nat) (a0 : Int) (a1 : ByteArray) (r1 : Int) (r2 : Bool) (w : World) (h : spec_DoubleArea.f k a0 a1 = some (r1, r2)) :
  Calls Tryz.prog 9 #[.int .i64 a0, .string a1] w fun e w' => e = .returned (.tuple #[.int .i64 r1, .bool r2]) ∧ Below w.heap.size w w' := by
 have HB := Aside0.mk (Below.refl w.heap.size w)
 have H : ((spec_paAsked.f k a0 a1).bind fun t293 => (if t293 = true then ((spec_paClosed.f k a0 a1).bind fun t294 => (spec_DoubleArea.j0 k a0 a1 (!t294))) else (spec_DoubleArea.j0 k a0 a1 true))) = some (r1, r2) := h
 clear h
 have HC3 := Aside0.mk H
 clear H
 go_enter Tryz.func9, Tryz.ntmps9
 go_upto_region 1 with (fail)
 repeat (go_quiet (fail); go_upto_region 1 with (fail))
 go_cut [21] (fun v21 wc => ∃ (kq : Nat) (x21_2 : Bool), v21 = .bool x21_2 ∧ Aside0 (spec_DoubleArea.j0 kq a0 a1 x21_2 = some (r1, r2)) ∧ Aside0 (kq ≤ k) ∧ Aside0 (Below w.heap.size w wc))
 case first =>
  have H := HC3.out
  clear HC3
  replace H := Option.bind_eq_some_iff.mp H
  obtain ⟨t293, A40, H⟩ := H
  (try dsimp only at H)
  have A4 := Aside0.mk A40
  clear A40
  by_cases c5 : t293 = true
  ·subst c5
   rw [if_pos rfl] at H
   replace H := Option.bind_eq_some_iff.mp H
   obtain ⟨t294, A60, H⟩ := H
   replace H : (spec_DoubleArea.j0 k a0 a1 (!t294)) = some (r1, r2) := H
   have A6 := Aside0.mk A60
   clear A60
   have H' := Aside0.mk H
   clear H
   go_wp2_with (first | (go_at_call 29; (with_reducible refine (spec_paAsked.calls k a0 a1 true _ A4.out).mono ?_); rintro e w' ⟨rfl, ⟨nd, rfl⟩⟩; (try first | exact ⟨rfl, _, dn_⟩ | exact ⟨rfl, _, dm_⟩)) | (go_at_call 33; (with_reducible refine (spec_paClosed.calls k a0 a1 t294 _ A6.out).mono ?_); rintro e w7 ⟨rfl, hb⟩; have n0_ := Aside0.mk (bs_ hb); clear HB; have HB := n0_; clear n0_; (try clear hb)))
   repeat (go_quiet (first | (go_at_call 29; (with_reducible refine (spec_paAsked.calls k a0 a1 true _ A4.out).mono ?_); rintro e w' ⟨rfl, ⟨nd, rfl⟩⟩; (try first | exact ⟨rfl, _, dn_⟩ | exact ⟨rfl, _, dm_⟩)) | (go_at_call 33; (with_reducible refine (spec_paClosed.calls k a0 a1 t294 _ A6.out).mono ?_); rintro e w7 ⟨rfl, hb⟩; have n0_ := Aside0.mk (bs_ hb); clear HB; have HB := n0_; clear n0_; (try clear hb))); try go_wp2_with (first | (go_at_call 29; (with_reducible refine (spec_paAsked.calls k a0 a1 true _ A4.out).mono ?_); rintro e w' ⟨rfl, ⟨nd, rfl⟩⟩; (try first | exact ⟨rfl, _, dn_⟩ | exact ⟨rfl, _, dm_⟩)) | (go_at_call 33; (with_reducible refine (spec_paClosed.calls k a0 a1 t294 _ A6.out).mono ?_); rintro e w7 ⟨rfl, hb⟩; have n0_ := Aside0.mk (bs_ hb); clear HB; have HB := n0_; clear n0_; (try clear hb))))
   go_meet
   case rel => exact ⟨_, (!t294), (by first | rfl | (simp; done) | (simp [*]; done)), H', ⟨by first | omega | exact Nat.le_refl _⟩, ⟨bb_⟩⟩
  ·replace c5 := Bool.eq_false_iff.mpr c5
   subst c5
   rw [if_neg (show ¬ (false = true) by decide)] at H
   have H' := Aside0.mk H
   clear H
   go_wp2_with (first | (go_at_call 29; (with_reducible refine (spec_paAsked.calls k a0 a1 false _ A4.out).mono ?_); rintro e w' ⟨rfl, ⟨nd, rfl⟩⟩; (try first | exact ⟨rfl, _, dn_⟩ | exact ⟨rfl, _, dm_⟩)))
   repeat (go_quiet (first | (go_at_call 29; (with_reducible refine (spec_paAsked.calls k a0 a1 false _ A4.out).mono ?_); rintro e w' ⟨rfl, ⟨nd, rfl⟩⟩; (try first | exact ⟨rfl, _, dn_⟩ | exact ⟨rfl, _, dm_⟩))); try go_wp2_with (first | (go_at_call 29; (with_reducible refine (spec_paAsked.calls k a0 a1 false _ A4.out).mono ?_); rintro e w' ⟨rfl, ⟨nd, rfl⟩⟩; (try first | exact ⟨rfl, _, dn_⟩ | exact ⟨rfl, _, dm_⟩))))
   go_meet
   case rel => exact ⟨_, (true), (by first | rfl | (simp; done) | (simp [*]; done)), H', ⟨by first | omega | exact Nat.le_refl _⟩, ⟨bb_⟩⟩
 case rest =>
  clear HC3
  (try clear p2); (try clear c5)
  obtain ⟨kq, x21_2, rfl, HA, HJ2, HB⟩ := hcut
  cases kq with
  | zero => exact absurd HA.out (by simp [spec_DoubleArea.j0])
  | succ kj2 =>
   have H := HA.out
   clear HA
   simp only [spec_DoubleArea.j0] at H
   by_cases c8 : x21_2 = true
   ·subst c8
    rw [if_pos rfl] at H
    simp only [Option.some.injEq, Prod.mk.injEq] at H
    obtain ⟨rfl, rfl⟩ := H
    go_wp2
    repeat (go_quiet (fail); try go_wp2)
    go_ret2
    exact ⟨by first | rfl | (simp [errW_none, errW_some] <;> rfl) | (simp [*, errW_none, errW_some] <;> rfl), bb_⟩
   replace c8 := Bool.eq_false_iff.mpr c8
   subst c8
   rw [if_neg (show ¬ (false = true) by decide)] at H
   replace H := Option.bind_eq_some_iff.mp H
   obtain ⟨⟨t295, t298⟩, A90, H⟩ := H
   replace H : (spec_DoubleArea.l0 kj2 t295 0 1) = some (r1, r2) := H
   have A9 := Aside0.mk A90
   clear A90
   have H' := Aside0.mk H
   clear H
   go_wp2_with (first | (go_at_call 34; (with_reducible refine (spec_paPath.calls kj2 a0 a1 t295 t298 _ A9.out).mono ?_); rintro e w10 ⟨v296, rfl, ho0, hb⟩; have n0_ := Aside0.mk (Kd.N_lower (Kd.N_mono (ok' := fun k_ => True) ho0 (fun k_ hk_ => trivial)) bz_); have n1_ := Aside0.mk (bs_ hb); clear HB; have HO297 := n0_; have HB := n1_; clear n0_ n1_; (try clear hb); (try clear ho0)))
   repeat (go_quiet (first | (go_at_call 34; (with_reducible refine (spec_paPath.calls kj2 a0 a1 t295 t298 _ A9.out).mono ?_); rintro e w10 ⟨v296, rfl, ho0, hb⟩; have n0_ := Aside0.mk (Kd.N_lower (Kd.N_mono (ok' := fun k_ => True) ho0 (fun k_ hk_ => trivial)) bz_); have n1_ := Aside0.mk (bs_ hb); clear HB; have HO297 := n0_; have HB := n1_; clear n0_ n1_; (try clear hb); (try clear ho0))); try go_wp2_with (first | (go_at_call 34; (with_reducible refine (spec_paPath.calls kj2 a0 a1 t295 t298 _ A9.out).mono ?_); rintro e w10 ⟨v296, rfl, ho0, hb⟩; have n0_ := Aside0.mk (Kd.N_lower (Kd.N_mono (ok' := fun k_ => True) ho0 (fun k_ hk_ => trivial)) bz_); have n1_ := Aside0.mk (bs_ hb); clear HB; have HO297 := n0_; have HB := n1_; clear n0_ n1_; (try clear hb); (try clear ho0))))
   go_loopg [8, 9] kj2 (fun kq v8 v9 w' => ∃ (x8_2 : Int) (x9_2 : Int), v8 = .int .i64 x8_2 ∧ v9 = .int .i64 x9_2 ∧ Aside0 (spec_DoubleArea.l0 kq t295 x8_2 x9_2 = some (r1, r2)) ∧ Aside0 (kq ≤ kj2) ∧ Aside0 (Kd.N (Kd.slice 3 (Kd.int .i64)) 54 w' w.heap.size (fun _ => True) v296 t295) ∧ Aside0 (Below w.heap.size w w'))
   case atStart => exact ⟨(0), (1), (by first | rfl | (simp; done) | (simp [*]; done)), (by first | rfl | (simp; done) | (simp [*]; done)), H', ⟨Nat.le_refl _⟩, ⟨by (with_reducible repeat (first | apply Kd.N_alloc | apply Kd.N_drewN | apply Kd.N_drew)); exact HO297.out⟩, ⟨bb_⟩⟩
   case round =>
    clear H'
    (try clear p2); (try clear c5); (try clear c8); (try clear c9); (try clear p2)
    obtain ⟨x8_2, x9_2, rfl, rfl, HA, HK2, HO_6, HB⟩ := hrel
    cases gk with
    | zero => exact absurd HA.out (by simp [spec_DoubleArea.l0])
    | succ k2 =>
     have H := HA.out
     clear HA
     simp only [spec_DoubleArea.l0] at H
     by_cases c11 : x9_2 < (t295.length : Int)
     rotate_left
     ·rw [if_neg c11] at H
      have c11b0 : decide (x9_2 < (t295.length : Int)) = false := decide_eq_false c11
      clear c11
      simp only [Option.some.injEq, Prod.mk.injEq] at H
      obtain ⟨rfl, rfl⟩ := H
      obtain ⟨Ao21, co21, eo21⟩ := Kd.N_slice HO_6.out
      subst eo21
      go_wp2
      repeat (go_quiet (fail); try go_wp2)
      go_ret2
      exact ⟨by first | rfl | (simp [errW_none, errW_some] <;> rfl) | (simp [*, errW_none, errW_some] <;> rfl), bb_⟩

     rw [if_pos c11] at H
     have c11b0 : decide (x9_2 < (t295.length : Int)) = true := decide_eq_true c11
     clear c11
     obtain ⟨ji12, hji12⟩ : ∃ j_ : Int, (wrap64 (x9_2 - 1)) = j_ := ⟨_, rfl⟩
     replace H : (if 0 ≤ (ji12) then (if (ji12) < (t295.length : Int) then (if 0 ≤ x9_2 then (if 0 < ((rd_L2 t295 (ji12)).length : Int) then (if 1 < ((rd_L2 t295 x9_2).length : Int) then (if 0 < ((rd_L2 t295 x9_2).length : Int) then (if 1 < ((rd_L2 t295 (ji12)).length : Int) then (spec_DoubleArea.l0 k2 t295 (wrap64 (x8_2 + (wrap64 ((wrap64 ((rd (rd_L2 t295 (ji12)) 0) * (rd (rd_L2 t295 x9_2) 1))) - (wrap64 ((rd (rd_L2 t295 x9_2) 0) * (rd (rd_L2 t295 (ji12)) 1))))))) (wrap64 (x9_2 + 1))) else (none)) else (none)) else (none)) else (none)) else (none)) else (none)) else (none)) = some (r1, r2) := by first | (rw [hji12] at H; exact H) | (simp only [hji12] at H ⊢; exact H)
     have hji12w : (IntKind.i64.wrap (x9_2 - 1)) = ji12 := (i64_w _).trans hji12
     by_cases c13 : 0 ≤ (ji12)
     rotate_left
     ·rw [if_neg c13] at H
      exact absurd H (by simp)
     rw [if_pos c13] at H
     have c13b0 : decide (0 ≤ (ji12)) = true := decide_eq_true c13
     clear c13
     by_cases c14 : (ji12) < (t295.length : Int)
     rotate_left
     ·rw [if_neg c14] at H
      exact absurd H (by simp)
     rw [if_pos c14] at H
     have c14b0 : decide ((ji12) < (t295.length : Int)) = true := decide_eq_true c14
     clear c14
     by_cases c15 : 0 ≤ x9_2
     rotate_left
     ·rw [if_neg c15] at H
      exact absurd H (by simp)
     rw [if_pos c15] at H
     have c15b0 : decide (0 ≤ x9_2) = true := decide_eq_true c15
     clear c15
     by_cases c16 : 0 < ((rd_L2 t295 (ji12)).length : Int)
     rotate_left
     ·rw [if_neg c16] at H
      exact absurd H (by simp)
     rw [if_pos c16] at H
     have c16b0 : decide (0 < ((rd_L2 t295 (ji12)).length : Int)) = true := decide_eq_true c16
     have c16b1 : decide (0 < (rd_L2 t295 (ji12)).length) = true := decide_eq_true (by omega)
     clear c16
     by_cases c17 : 1 < ((rd_L2 t295 x9_2).length : Int)
     rotate_left
     ·rw [if_neg c17] at H
      exact absurd H (by simp)
     rw [if_pos c17] at H
     have c17b0 : decide (1 < ((rd_L2 t295 x9_2).length : Int)) = true := decide_eq_true c17
     have c17b1 : decide (1 < (rd_L2 t295 x9_2).length) = true := decide_eq_true (by omega)
     clear c17
     by_cases c18 : 0 < ((rd_L2 t295 x9_2).length : Int)
     rotate_left
     ·rw [if_neg c18] at H
      exact absurd H (by simp)
     rw [if_pos c18] at H
     have c18b0 : decide (0 < ((rd_L2 t295 x9_2).length : Int)) = true := decide_eq_true c18
     have c18b1 : decide (0 < (rd_L2 t295 x9_2).length) = true := decide_eq_true (by omega)
     clear c18
     by_cases c19 : 1 < ((rd_L2 t295 (ji12)).length : Int)
     rotate_left
     ·rw [if_neg c19] at H
      exact absurd H (by simp)
     rw [if_pos c19] at H
     have c19b0 : decide (1 < ((rd_L2 t295 (ji12)).length : Int)) = true := decide_eq_true c19
     have c19b1 : decide (1 < (rd_L2 t295 (ji12)).length) = true := decide_eq_true (by omega)
     clear c19
     have H' := Aside0.mk H
     clear H
     obtain ⟨Ao20, co20, eo20⟩ := Kd.N_slice HO_6.out
     subst eo20
     have p299 : 0 ≤ ((ji12) : Int) := of_decide_eq_true (by assumption)
     have q299 : (ji12) < (t295.length : Int) := of_decide_eq_true (by assumption)
     obtain ⟨ad299, A299_0, c299_0, e299, hx299_0, hl299_0, hi299_0⟩ := at_L2 (Kd.N_reads' HO_6.out).2.2 (ji12) p299 q299
     cases e299
     obtain ⟨ce299, hce299, hMe299, hcc299⟩ := Kd.N_get HO_6.out [] (ji12) p299 (by first | exact q299 | exact of_decide_eq_true (by assumption) | (have e_ := (Kd.N_reads' HO_6.out).1; omega))
     obtain ⟨ua299_0, uc299_0, rfl, ul299_0, ge299_0⟩ := Kd.FK_slice_open hMe299
     have hv299_0 := hcc299 0 _ rfl
     rw [Nat.add_zero, show ((Kd.slice 3 (Kd.int .i64))).sz = 1 from rfl, Nat.mul_one] at hv299_0
     replace hv299_0 := Option.some.inj (hv299_0.symm.trans hx299_0)
     injection hv299_0 with hva_ hvn_ hvc_
     rw [hva_] at ge299_0
     rw [hvc_] at ul299_0
     have HL299_0 := Aside0.mk (show Kd.V (Kd.int .i64) 3 _ w.heap.size _ _ (rd_L2 t295 (ji12)) from Kd.V_mk ul299_0 ge299_0)
     clear hva_ hvn_ hvc_ ge299_0 ul299_0
     clear hcc299 hce299
     have HR299_0 := Aside0.mk hi299_0
     have HC299_0 := Aside0.mk hl299_0
     clear hi299_0 hl299_0
     replace p299 := eq_true p299
     replace q299 := eq_true q299
     have p300 : 0 ≤ (x9_2 : Int) := of_decide_eq_true (by assumption)
     have q300 : x9_2 < (t295.length : Int) := of_decide_eq_true (by assumption)
     obtain ⟨ad300, A300_0, c300_0, e300, hx300_0, hl300_0, hi300_0⟩ := at_L2 (Kd.N_reads' HO_6.out).2.2 x9_2 p300 q300
     obtain rfl : ad299 = ad300 := (by injection e300)
     obtain ⟨ce300, hce300, hMe300, hcc300⟩ := Kd.N_get HO_6.out [] x9_2 p300 (by first | exact q300 | exact of_decide_eq_true (by assumption) | (have e_ := (Kd.N_reads' HO_6.out).1; omega))
     obtain ⟨ua300_0, uc300_0, rfl, ul300_0, ge300_0⟩ := Kd.FK_slice_open hMe300
     have hv300_0 := hcc300 0 _ rfl
     rw [Nat.add_zero, show ((Kd.slice 3 (Kd.int .i64))).sz = 1 from rfl, Nat.mul_one] at hv300_0
     replace hv300_0 := Option.some.inj (hv300_0.symm.trans hx300_0)
     injection hv300_0 with hva_ hvn_ hvc_
     rw [hva_] at ge300_0
     rw [hvc_] at ul300_0
     have HL300_0 := Aside0.mk (show Kd.V (Kd.int .i64) 3 _ w.heap.size _ _ (rd_L2 t295 x9_2) from Kd.V_mk ul300_0 ge300_0)
     clear hva_ hvn_ hvc_ ge300_0 ul300_0
     clear hcc300 hce300
     have HR300_0 := Aside0.mk hi300_0
     have HC300_0 := Aside0.mk hl300_0
     clear hi300_0 hl300_0
     replace p300 := eq_true p300
     replace q300 := eq_true q300
     have p301 : 0 ≤ (0 : Int) := (by omega)
     have q301 : 0 < ((rd_L2 t295 (ji12)).length : Int) := of_decide_eq_true (by assumption)
     obtain ⟨ad301, e301, hx301_0⟩ := Kd.at_int (by repeat (first | (with_reducible exact HR299_0.out) | (with_reducible refine Kd.C_alloc ?_ _) | (with_reducible refine Kd.C_drewN ?_ _) | (with_reducible refine Kd.C_drew ?_) | exact HR299_0.out)) 0 p301 q301
     cases e301
     have qi301 : (0 < (rd_L2 t295 (ji12)).length) = True := eq_true (by omega)
     (try rw [show ((0 : Int)).toNat = 0 from rfl] at hx301_0)
     (try rw [Addr.add_zero'] at hx301_0)
     replace p301 := eq_true p301
     replace q301 := eq_true q301
     have p302 : 0 ≤ (1 : Int) := (by omega)
     have q302 : 1 < ((rd_L2 t295 x9_2).length : Int) := of_decide_eq_true (by assumption)
     obtain ⟨ad302, e302, hx302_0⟩ := Kd.at_int (by repeat (first | (with_reducible exact HR300_0.out) | (with_reducible refine Kd.C_alloc ?_ _) | (with_reducible refine Kd.C_drewN ?_ _) | (with_reducible refine Kd.C_drew ?_) | exact HR300_0.out)) 1 p302 q302
     cases e302
     (try simp only [show (1 : Int).toNat = 1 from rfl, Nat.reduceMul, Nat.reduceEqDiff, Go.Addr.add, ↓reduceIte] at hx302_0)
     have qi302 : (1 < (rd_L2 t295 x9_2).length) = True := eq_true (by omega)
     (try rw [show ((1 : Int)).toNat = 1 from rfl] at hx302_0)
     replace p302 := eq_true p302
     replace q302 := eq_true q302
     have p303 : 0 ≤ (0 : Int) := (by omega)
     have q303 : 0 < ((rd_L2 t295 x9_2).length : Int) := of_decide_eq_true (by assumption)
     obtain ⟨ad303, e303, hx303_0⟩ := Kd.at_int (by repeat (first | (with_reducible exact HR300_0.out) | (with_reducible refine Kd.C_alloc ?_ _) | (with_reducible refine Kd.C_drewN ?_ _) | (with_reducible refine Kd.C_drew ?_) | exact HR300_0.out)) 0 p303 q303
     obtain rfl : ad302 = ad303 := (by injection e303)
     have qi303 : (0 < (rd_L2 t295 x9_2).length) = True := eq_true (by omega)
     (try rw [show ((0 : Int)).toNat = 0 from rfl] at hx303_0)
     (try rw [Addr.add_zero'] at hx303_0)
     replace p303 := eq_true p303
     replace q303 := eq_true q303
     have p304 : 0 ≤ (1 : Int) := (by omega)
     have q304 : 1 < ((rd_L2 t295 (ji12)).length : Int) := of_decide_eq_true (by assumption)
     obtain ⟨ad304, e304, hx304_0⟩ := Kd.at_int (by repeat (first | (with_reducible exact HR299_0.out) | (with_reducible refine Kd.C_alloc ?_ _) | (with_reducible refine Kd.C_drewN ?_ _) | (with_reducible refine Kd.C_drew ?_) | exact HR299_0.out)) 1 p304 q304
     obtain rfl : ad301 = ad304 := (by injection e304)
     (try simp only [show (1 : Int).toNat = 1 from rfl, Nat.reduceMul, Nat.reduceEqDiff, Go.Addr.add, ↓reduceIte] at hx304_0)
     have qi304 : (1 < (rd_L2 t295 (ji12)).length) = True := eq_true (by omega)
     (try rw [show ((1 : Int)).toNat = 1 from rfl] at hx304_0)
     replace p304 := eq_true p304
     replace q304 := eq_true q304
     go_wp2
     repeat (go_quiet (fail); try go_wp2)
     go_roundg k2
     case measure => have := HJ2.out; have := HK2.out; omega
     case rel => exact ⟨(wrap64 (x8_2 + (wrap64 ((wrap64 ((rd (rd_L2 t295 (ji12)) 0) * (rd (rd_L2 t295 x9_2) 1))) - (wrap64 ((rd (rd_L2 t295 x9_2) 0) * (rd (rd_L2 t295 (ji12)) 1))))))), (wrap64 (x9_2 + 1)), (by first | rfl | (simp; done) | (simp only [← hji12] <;> (first | rfl | simp)) | (simp [*]; done)), (by first | rfl | (simp; done) | (simp [*]; done)), H', ⟨by have := HJ2.out; have := HK2.out; omega⟩, ⟨by (with_reducible repeat (first | apply Kd.N_alloc | apply Kd.N_drewN | apply Kd.N_drew)); exact HO_6.out⟩, ⟨bb_⟩⟩
/-! ### given: 71a_turn.tpl -/
theorem bm_irr : ∀ l : List UInt8, Go.Op.bytesLess l l = false
  | [] => rfl
  | a :: l => by
    rw [Go.Op.bytesLess, bm_irr l]
    simp
theorem bm_tot : ∀ {a b : List UInt8}, Go.Op.bytesLess a b = false → Go.Op.bytesLess b a = false → a = b
  | [], [], _, _ => rfl
  | [], b :: y, h, _ => by rw [Go.Op.bytesLess] at h; cases h
  | a :: x, [], _, h => by rw [Go.Op.bytesLess] at h; cases h
  | a :: x, b :: y, h1, h2 => by
    rw [Go.Op.bytesLess, Bool.or_eq_false_iff] at h1 h2
    have e : a = b := by
      have q1 : ¬ a < b := by simpa using h1.1
      have q2 : ¬ b < a := by simpa using h2.1
      exact UInt8.le_antisymm (UInt8.not_lt.1 q2) (UInt8.not_lt.1 q1)
    subst e
    have e2 : x = y := bm_tot (by simpa using h1.2) (by simpa using h2.2)
    rw [e2]
theorem bm_asy : ∀ {a b : List UInt8}, Go.Op.bytesLess a b = true → Go.Op.bytesLess b a = false
  | a, [], h => by cases a <;> simp [Go.Op.bytesLess] at h
  | [], b :: y, _ => by rw [Go.Op.bytesLess]
  | a :: x, b :: y, h => by
    rw [Go.Op.bytesLess, Bool.or_eq_true] at h
    rw [Go.Op.bytesLess, Bool.or_eq_false_iff]
    rcases h with h | h
    · have h1 : a < b := by simpa using h
      have h2 : ¬ b < a := UInt8.not_lt.2 (UInt8.le_of_lt h1)
      have h3 : ¬ b = a := fun e => by subst e; exact absurd h1 (UInt8.lt_irrefl b)
      exact ⟨by simpa using h2, by simp [h3]⟩
    · have h1 : a = b := by simpa using (Bool.and_eq_true_iff.1 h).1
      subst h1
      have h2 := bm_asy (Bool.and_eq_true_iff.1 h).2
      exact ⟨by simp, by simp [h2]⟩
/-- A word told from its i-th sign on, then what stands ahead of it. -/
def rotZ (w : ByteArray) (i : Int) : ByteArray := w.extract i.toNat w.size ++ w.extract 0 i.toNat
/-- The least of a word and its turns (d of them, from the i-th on). -/
def lsZ (w : ByteArray) : Nat → Int → ByteArray → ByteArray
  | 0, _, b => b
  | d + 1, i, b => lsZ w d (i + 1) (if Go.Op.bytesLess (rotZ w i).data.toList b.data.toList = true then rotZ w i else b)
theorem minS_less (x y : ByteArray) : Go.Lib.minS x y = if Go.Op.bytesLess y.data.toList x.data.toList = true then y else x := by
  unfold Go.Lib.minS
  by_cases h : Go.Op.bytesLess y.data.toList x.data.toList = true
  · rw [if_pos h]
    have h1 := bm_asy h
    rw [Go.Proofs.bytesLess_eq] at h1 h
    rw [if_neg]
    rintro (h2 | h2)
    · exact of_decide_eq_false h1 h2
    · rw [h2] at h
      have h3 := bm_irr y.data.toList
      rw [Go.Proofs.bytesLess_eq] at h3
      rw [h3] at h
      cases h
  · rw [if_neg h]
    cases h1 : Go.Op.bytesLess x.data.toList y.data.toList with
    | true =>
      rw [Go.Proofs.bytesLess_eq] at h1
      rw [if_pos (Or.inl (of_decide_eq_true h1))]
    | false => rw [if_pos (Or.inr (bm_tot h1 (by simpa using h)))]
theorem rotZ_size (w : ByteArray) {i : Int} (h : i ≤ (w.size : Int)) : (w.extract i.toNat w.size).size + (w.extract 0 i.toNat).size = w.size := by
  rw [ByteArray.size_extract, ByteArray.size_extract]
  omega
theorem bm_ge {a b : List UInt8} (h : Go.Op.bytesLess b a = false) : (Go.Op.bytesLess a b || a == b) = true := by
  cases h1 : Go.Op.bytesLess a b with
  | true => rfl
  | false => rw [bm_tot h1 h]; simp
theorem gtr_run {P : Program} {a b : ByteArray} {t : TypeId} (hu : P.underlying t = some .string) (h : Go.Op.bytesLess b.toList a.toList = false) (W : World) : (binOp .gtr t (.string a) (.string b)).run P W = .ok (.bool false) W := by
  have g := bm_ge h
  simp [binOp, Op.stringOp, run_underlying hu, g, Result.andThen]

/-! ### given: 71b_leastShift.tpl -/
def impl_LeastShift.f (a0 : Int) (a1 : ByteArray) : Option (ByteArray × Bool) := (impl_isWord.f a0 a1).bind fun t => if t = true then (if a1.size ≤ 1000000 then some (lsZ a1 a1.size 0 a1, true) else none) else some (⟨#[]⟩, false)
theorem run_min2_strs {P : Program} (W : World) (x y : ByteArray) : (Builtin.min2 (.string x) (.string y)).run P W = .ok (.string (Go.Lib.minS x y)) W := by
  have h := Go.Lib.run_min_strs (P := P) W #[] 0 x y
  simpa [Builtin.min_] using h
set_option maxHeartbeats 8000000 in
set_option maxRecDepth 100000 in
theorem impl_LeastShift.calls (a0 : Int) (a1 : ByteArray) (r1 : ByteArray) (r2 : Bool) (w : World) (h : impl_LeastShift.f a0 a1 = some (r1, r2)) :
    Calls Tryz.prog 10 #[.int .i64 a0, .string a1] w fun e w' => e = .returned (.tuple #[.string r1, .bool r2]) ∧ Below w.heap.size w w' := by
  have hmn : ∀ (W : World) (x y : ByteArray), (Builtin.min2 (.string x) (.string y)).run Tryz.prog W = .ok (.string (Go.Lib.minS x y)) W := run_min2_strs
  obtain ⟨t, ht, h⟩ := Option.bind_eq_some_iff.mp h
  have HI := Aside0.mk ht
  clear ht
  by_cases hc : t = true
  · subst hc
    rw [if_pos rfl] at h
    by_cases hs : a1.size ≤ 1000000
    · rw [if_pos hs] at h
      simp only [Option.some.injEq, Prod.mk.injEq] at h
      obtain ⟨hr, rfl⟩ := h
      have HR := Aside0.mk hr
      clear hr
      go_enter Tryz.func10, Tryz.ntmps10
      go_wp2_with (first
        | (go_at_call 27; refine (impl_isWord.calls _ _ _ _ HI.out).mono ?_; rintro e w1 ⟨rfl, hb⟩; have HB1 := Aside0.mk hb; clear hb))
      go_loopg [6, 7, 15] a1.size (fun gg s6 _ s15 wr => ∃ (d : Nat) (ix : Int) (b : ByteArray), 0 ≤ ix ∧ ix + d = (a1.size : Int) ∧ d ≤ gg ∧ s6 = .string b ∧ s15 = .int .i64 ix ∧ Aside0 (lsZ a1 d ix b = r1) ∧ Aside0 (Below w.heap.size w wr))
      case atStart => exact ⟨a1.size, 0, a1, by omega, by omega, Nat.le_refl _, rfl, rfl, HR, HB1⟩
      case round =>
        obtain ⟨d, ix, b, h0, hd, hg, rfl, rfl, HL, HB⟩ := hrel
        by_cases hdz : d = 0
        · subst hdz
          have c1 : decide (ix < (a1.size : Int)) = false := decide_eq_false (by omega)
          have HE := Aside0.mk (show b = r1 from HL.out)
          clear HL hg h0 hd
          go_wp2
          go_ret2
          exact ⟨by rw [HE.out]; rfl, HB.out⟩
        · obtain ⟨d, rfl⟩ : ∃ n, d = n + 1 := ⟨d - 1, by omega⟩
          have c1 : decide (ix < (a1.size : Int)) = true := decide_eq_true (by omega)
          have c2 : decide (0 ≤ ix) = true := decide_eq_true h0
          have c3 : decide (ix ≤ (a1.size : Int)) = true := decide_eq_true (by omega)
          have c2b := eq_true h0
          have c3b : (ix ≤ (a1.size : Int)) = True := eq_true (by omega)
          have hz := rotZ_size a1 (i := ix) (by omega)
          have c4 : decide ((a1.extract (ix : Int).toNat a1.size).size + (a1.extract 0 (ix : Int).toNat).size ≤ 9223372036854775807) = true := decide_eq_true (by omega)
          have c5 : (9223372036854775807 < (a1.extract (ix : Int).toNat a1.size).size + (a1.extract 0 (ix : Int).toNat).size) = False := eq_false (by omega)
          have c6 : (9223372036854775807 < a1.size - ix.toNat + min ix.toNat a1.size) = False := eq_false (by omega)
          have c7 : (9223372036854775807 < a1.size) = False := eq_false (by omega)
          have cw : wrap64 (ix + 1) = ix + 1 := by unfold wrap64; omega
          have HH := Aside0.mk (And.intro h0 (And.intro hd hg))
          clear hz hd hg h0 hdz
          go_wp2
          go_quiet (fail)
          go_wp2
          obtain ⟨h0, hd, hg⟩ := HH.out
          go_roundg d
          case measure => omega
          case rel => exact ⟨d, ix + 1, Go.Lib.minS b (rotZ a1 ix), by omega, by omega, Nat.le_refl _, rfl, (by first | rfl | exact congrArg (Value.int .i64) cw), ⟨by rw [minS_less]; exact HL.out⟩, ⟨by (with_reducible repeat (first | apply pw_below_drewN | apply below_drew1)); exact HB.out⟩⟩
    · rw [if_neg hs] at h; cases h
  · obtain rfl : t = false := by simpa using hc
    rw [if_neg hc] at h
    simp only [Option.some.injEq, Prod.mk.injEq] at h
    obtain ⟨rfl, rfl⟩ := h
    go_enter Tryz.func10, Tryz.ntmps10
    go_wp2_with (first
      | (go_at_call 27; refine (impl_isWord.calls _ _ _ _ HI.out).mono ?_; rintro e w1 ⟨rfl, hb⟩; have HB1 := Aside0.mk hb; clear hb))
    go_ret2
    exact ⟨rfl, HB1.out⟩

end Go.Proofs.YtfpjakkjkakjoaaGreatDoor.P
