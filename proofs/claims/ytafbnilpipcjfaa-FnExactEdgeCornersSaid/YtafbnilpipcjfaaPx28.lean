/- A part of this seat's proofs: contracts of the translated functions, written by the session's own program (gp.py) out of the kit's print.py and the session's own contracts; no conditions of its own. -/
import Derived.Test.YtafbnilpipcjfaaPx0
import Derived.Test.YtafbnilpipcjfaaPx8
namespace Go.Proofs.Ytafbnilpipcjfaa.P
open Go.RowKit Go.Proofs.YtafbnilpipcjfaaW.PrintWords Go.Proofs.YtafbnilpipcjfaaW.PrintLast Go.Proofs.YtafbnilpipcjfaaW.PrintMore
attribute [local go_sem] max2_int min2_int max_two min_two max_three min_three max_four min_four   -- for this text's walks alone
set_option linter.unusedVariables false
set_option linter.unusedSimpArgs false

/-! ### impl_compareMeetings: function 60 -/
def impl_compareMeetings.f (l0 : List Int) (l1 : List Int) : Option (Int) := if 0 < (l0.length : Int) then (if 1 < (l1.length : Int) then (if 0 < (l1.length : Int) then (if 1 < (l0.length : Int) then ((cmp_Compare_int.f (wrap64 ((rd l0 0) * (rd l1 1))) (wrap64 ((rd l1 0) * (rd l0 1)))).bind fun t288 => (some t288)) else (none)) else (none)) else (none)) else (none)
set_option maxHeartbeats 8000000 in
set_option maxRecDepth 100000 in
theorem impl_compareMeetings.calls (A0 : Option Addr) (c0 : Nat) (l0 : List Int) (A1 : Option Addr) (c1 : Nat) (l1 : List Int) (r : Int) (w : World) (hr0 : Kd.C (Kd.int .i64) w A0 l0.length l0) (hc0 : l0.length ≤ c0) (hr1 : Kd.C (Kd.int .i64) w A1 l1.length l1) (hc1 : l1.length ≤ c1) (h : impl_compareMeetings.f l0 l1 = some r) :
  Calls Try.prog 60 #[.slice A0 l0.length c0, .slice A1 l1.length c1] w fun e w' => e = .returned (.int .i64 r) ∧ Drawn0 w w' := by
 have HR0 := Aside0.mk hr0
 have HC0 := Aside0.mk hc0
 clear hr0 hc0
 have HR1 := Aside0.mk hr1
 have HC1 := Aside0.mk hc1
 clear hr1 hc1
 have H : (if 0 < (l0.length : Int) then (if 1 < (l1.length : Int) then (if 0 < (l1.length : Int) then (if 1 < (l0.length : Int) then ((cmp_Compare_int.f (wrap64 ((rd l0 0) * (rd l1 1))) (wrap64 ((rd l1 0) * (rd l0 1)))).bind fun t288 => (some t288)) else (none)) else (none)) else (none)) else (none)) = some r := h
 clear h
 by_cases c3 : 0 < (l0.length : Int)
 rotate_left
 ·rw [if_neg c3] at H
  exact absurd H (by simp)

 rw [if_pos c3] at H
 have c3b0 : decide (0 < (l0.length : Int)) = true := decide_eq_true c3
 have c3b1 : decide (0 < l0.length) = true := decide_eq_true (by omega)
 clear c3
 by_cases c4 : 1 < (l1.length : Int)
 rotate_left
 ·rw [if_neg c4] at H
  exact absurd H (by simp)
 rw [if_pos c4] at H
 have c4b0 : decide (1 < (l1.length : Int)) = true := decide_eq_true c4
 have c4b1 : decide (1 < l1.length) = true := decide_eq_true (by omega)
 clear c4
 by_cases c5 : 0 < (l1.length : Int)
 rotate_left
 ·rw [if_neg c5] at H
  exact absurd H (by simp)
 rw [if_pos c5] at H
 have c5b0 : decide (0 < (l1.length : Int)) = true := decide_eq_true c5
 have c5b1 : decide (0 < l1.length) = true := decide_eq_true (by omega)
 clear c5
 by_cases c6 : 1 < (l0.length : Int)
 rotate_left
 ·rw [if_neg c6] at H
  exact absurd H (by simp)
 rw [if_pos c6] at H
 have c6b0 : decide (1 < (l0.length : Int)) = true := decide_eq_true c6
 have c6b1 : decide (1 < l0.length) = true := decide_eq_true (by omega)
 clear c6
 replace H := Option.bind_eq_some_iff.mp H
 obtain ⟨t288, A70, H⟩ := H
 replace H : (some t288) = some r := H
 have A7 := Aside0.mk A70
 clear A70
 obtain rfl := Option.some.inj H
 have p284 : 0 ≤ (0 : Int) := (by omega)
 have q284 : 0 < (l0.length : Int) := of_decide_eq_true (by assumption)
 obtain ⟨ad284, e284, hx284_0⟩ := Kd.at_int HR0.out 0 p284 q284
 cases e284
 have qi284 : (0 < l0.length) = True := eq_true (by omega)
 (try rw [show ((0 : Int)).toNat = 0 from rfl] at hx284_0)
 (try rw [Addr.add_zero'] at hx284_0)
 replace p284 := eq_true p284
 replace q284 := eq_true q284
 have p285 : 0 ≤ (1 : Int) := (by omega)
 have q285 : 1 < (l1.length : Int) := of_decide_eq_true (by assumption)
 obtain ⟨ad285, e285, hx285_0⟩ := Kd.at_int HR1.out 1 p285 q285
 cases e285
 (try simp only [show (1 : Int).toNat = 1 from rfl, Nat.reduceMul, Nat.reduceEqDiff, Go.Addr.add, ↓reduceIte] at hx285_0)
 have qi285 : (1 < l1.length) = True := eq_true (by omega)
 (try rw [show ((1 : Int)).toNat = 1 from rfl] at hx285_0)
 replace p285 := eq_true p285
 replace q285 := eq_true q285
 have p286 : 0 ≤ (0 : Int) := (by omega)
 have q286 : 0 < (l1.length : Int) := of_decide_eq_true (by assumption)
 obtain ⟨ad286, e286, hx286_0⟩ := Kd.at_int HR1.out 0 p286 q286
 obtain rfl : ad285 = ad286 := (by injection e286)
 have qi286 : (0 < l1.length) = True := eq_true (by omega)
 (try rw [show ((0 : Int)).toNat = 0 from rfl] at hx286_0)
 (try rw [Addr.add_zero'] at hx286_0)
 replace p286 := eq_true p286
 replace q286 := eq_true q286
 have p287 : 0 ≤ (1 : Int) := (by omega)
 have q287 : 1 < (l0.length : Int) := of_decide_eq_true (by assumption)
 obtain ⟨ad287, e287, hx287_0⟩ := Kd.at_int HR0.out 1 p287 q287
 obtain rfl : ad284 = ad287 := (by injection e287)
 (try simp only [show (1 : Int).toNat = 1 from rfl, Nat.reduceMul, Nat.reduceEqDiff, Go.Addr.add, ↓reduceIte] at hx287_0)
 have qi287 : (1 < l0.length) = True := eq_true (by omega)
 (try rw [show ((1 : Int)).toNat = 1 from rfl] at hx287_0)
 replace p287 := eq_true p287
 replace q287 := eq_true q287
 go_enter Try.func60, Try.ntmps60
 go_wp2_with (first | (go_at_call 66; (with_reducible refine (cmp_Compare_int.calls (wrap64 ((rd l0 0) * (rd l1 1))) (wrap64 ((rd l1 0) * (rd l0 1))) t288 _ A7.out).mono ?_); rintro e w' ⟨rfl, ⟨nd, rfl⟩⟩; (try first | exact ⟨rfl, _, World.drewN_drewN _ _ _⟩ | exact ⟨rfl, _, Eq.trans (World.drewN_drewN _ _ _) (congrArg (World.drewN _) (Nat.add_assoc _ _ _))⟩)))
 repeat (go_quiet (first | (go_at_call 66; (with_reducible refine (cmp_Compare_int.calls (wrap64 ((rd l0 0) * (rd l1 1))) (wrap64 ((rd l1 0) * (rd l0 1))) t288 _ A7.out).mono ?_); rintro e w' ⟨rfl, ⟨nd, rfl⟩⟩; (try first | exact ⟨rfl, _, World.drewN_drewN _ _ _⟩ | exact ⟨rfl, _, Eq.trans (World.drewN_drewN _ _ _) (congrArg (World.drewN _) (Nat.add_assoc _ _ _))⟩))); try go_wp2_with (first | (go_at_call 66; (with_reducible refine (cmp_Compare_int.calls (wrap64 ((rd l0 0) * (rd l1 1))) (wrap64 ((rd l1 0) * (rd l0 1))) t288 _ A7.out).mono ?_); rintro e w' ⟨rfl, ⟨nd, rfl⟩⟩; (try first | exact ⟨rfl, _, World.drewN_drewN _ _ _⟩ | exact ⟨rfl, _, Eq.trans (World.drewN_drewN _ _ _) (congrArg (World.drewN _) (Nat.add_assoc _ _ _))⟩))))
 go_ret
 exact ⟨by first | rfl | (simp; done) | (simp [*]; done), by repeat (first | exact Drawn0.refl _ | apply Drawn0.step)⟩
end Go.Proofs.Ytafbnilpipcjfaa.P
