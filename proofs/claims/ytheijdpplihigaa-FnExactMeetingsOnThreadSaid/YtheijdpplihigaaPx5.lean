/- A part of this seat's proofs: contracts of the translated functions, written by the session's own program (gp.py) out of the kit's print.py and the session's own contracts; no conditions of its own. -/
import Derived.Test.YtheijdpplihigaaPx0
import Derived.Test.YtheijdpplihigaaPx1
namespace Go.Proofs.Ytheijdpplihigaa.P
open Go.RowKit Go.Proofs.YtheijdpplihigaaW.PrintWords Go.Proofs.YtheijdpplihigaaW.PrintLast Go.Proofs.YtheijdpplihigaaW.PrintMore
attribute [local go_sem] max2_int min2_int max_two min_two max_three min_three max_four min_four   -- for this text's walks alone
set_option linter.unusedVariables false
set_option linter.unusedSimpArgs false

/-! ### impl_compareMeetings: function 46 -/
def impl_compareMeetings.f (l0 : List Int) (l1 : List Int) : Option (Int) := if 0 < (l0.length : Int) then (if 1 < (l1.length : Int) then (if 0 < (l1.length : Int) then (if 1 < (l0.length : Int) then ((cmp_Compare_int.f (wrap64 ((rd l0 0) * (rd l1 1))) (wrap64 ((rd l1 0) * (rd l0 1)))).bind fun t138 => (some t138)) else (none)) else (none)) else (none)) else (none)
set_option maxHeartbeats 8000000 in
set_option maxRecDepth 100000 in
theorem impl_compareMeetings.calls (A0 : Option Addr) (c0 : Nat) (l0 : List Int) (A1 : Option Addr) (c1 : Nat) (l1 : List Int) (r : Int) (w : World) (hr0 : Kd.C (Kd.int .i64) w A0 l0.length l0) (hc0 : l0.length ≤ c0) (hr1 : Kd.C (Kd.int .i64) w A1 l1.length l1) (hc1 : l1.length ≤ c1) (h : impl_compareMeetings.f l0 l1 = some r) :
  Calls Try.prog 46 #[.slice A0 l0.length c0, .slice A1 l1.length c1] w fun e w' => e = .returned (.int .i64 r) ∧ Drawn0 w w' := by
 have HR0 := Aside0.mk hr0
 have HC0 := Aside0.mk hc0
 clear hr0 hc0
 have HR1 := Aside0.mk hr1
 have HC1 := Aside0.mk hc1
 clear hr1 hc1
 have H : (if 0 < (l0.length : Int) then (if 1 < (l1.length : Int) then (if 0 < (l1.length : Int) then (if 1 < (l0.length : Int) then ((cmp_Compare_int.f (wrap64 ((rd l0 0) * (rd l1 1))) (wrap64 ((rd l1 0) * (rd l0 1)))).bind fun t138 => (some t138)) else (none)) else (none)) else (none)) else (none)) = some r := h
 clear h
 by_cases c3 : 0 < (l0.length : Int)
 rotate_left
 ·rw [if_neg c3] at H
  exact absurd H (by simp)

 rw [if_pos c3] at H
 have c3b0 : decide (0 < (l0.length : Int)) = true := decide_eq_true c3
 have c3b1 : decide (0 < l0.length) = true := decide_eq_true (by omega)
 clear c3
 by_cases c4 : 1 < (l1.length : Int)
 rotate_left
 ·rw [if_neg c4] at H
  exact absurd H (by simp)
 rw [if_pos c4] at H
 have c4b0 : decide (1 < (l1.length : Int)) = true := decide_eq_true c4
 have c4b1 : decide (1 < l1.length) = true := decide_eq_true (by omega)
 clear c4
 by_cases c5 : 0 < (l1.length : Int)
 rotate_left
 ·rw [if_neg c5] at H
  exact absurd H (by simp)
 rw [if_pos c5] at H
 have c5b0 : decide (0 < (l1.length : Int)) = true := decide_eq_true c5
 have c5b1 : decide (0 < l1.length) = true := decide_eq_true (by omega)
 clear c5
 by_cases c6 : 1 < (l0.length : Int)
 rotate_left
 ·rw [if_neg c6] at H
  exact absurd H (by simp)
 rw [if_pos c6] at H
 have c6b0 : decide (1 < (l0.length : Int)) = true := decide_eq_true c6
 have c6b1 : decide (1 < l0.length) = true := decide_eq_true (by omega)
 clear c6
 replace H := Option.bind_eq_some_iff.mp H
 obtain ⟨t138, A70, H⟩ := H
 replace H : (some t138) = some r := H
 have A7 := Aside0.mk A70
 clear A70
 obtain rfl := Option.some.inj H
 have p134 : 0 ≤ (0 : Int) := (by omega)
 have q134 : 0 < (l0.length : Int) := of_decide_eq_true (by assumption)
 obtain ⟨ad134, e134, hx134_0⟩ := Kd.at_int HR0.out 0 p134 q134
 cases e134
 have qi134 : (0 < l0.length) = True := eq_true (by omega)
 (try rw [show ((0 : Int)).toNat = 0 from rfl] at hx134_0)
 (try rw [Addr.add_zero'] at hx134_0)
 replace p134 := eq_true p134
 replace q134 := eq_true q134
 have p135 : 0 ≤ (1 : Int) := (by omega)
 have q135 : 1 < (l1.length : Int) := of_decide_eq_true (by assumption)
 obtain ⟨ad135, e135, hx135_0⟩ := Kd.at_int HR1.out 1 p135 q135
 cases e135
 (try simp only [show (1 : Int).toNat = 1 from rfl, Nat.reduceMul, Nat.reduceEqDiff, Go.Addr.add, ↓reduceIte] at hx135_0)
 have qi135 : (1 < l1.length) = True := eq_true (by omega)
 (try rw [show ((1 : Int)).toNat = 1 from rfl] at hx135_0)
 replace p135 := eq_true p135
 replace q135 := eq_true q135
 have p136 : 0 ≤ (0 : Int) := (by omega)
 have q136 : 0 < (l1.length : Int) := of_decide_eq_true (by assumption)
 obtain ⟨ad136, e136, hx136_0⟩ := Kd.at_int HR1.out 0 p136 q136
 obtain rfl : ad135 = ad136 := (by injection e136)
 have qi136 : (0 < l1.length) = True := eq_true (by omega)
 (try rw [show ((0 : Int)).toNat = 0 from rfl] at hx136_0)
 (try rw [Addr.add_zero'] at hx136_0)
 replace p136 := eq_true p136
 replace q136 := eq_true q136
 have p137 : 0 ≤ (1 : Int) := (by omega)
 have q137 : 1 < (l0.length : Int) := of_decide_eq_true (by assumption)
 obtain ⟨ad137, e137, hx137_0⟩ := Kd.at_int HR0.out 1 p137 q137
 obtain rfl : ad134 = ad137 := (by injection e137)
 (try simp only [show (1 : Int).toNat = 1 from rfl, Nat.reduceMul, Nat.reduceEqDiff, Go.Addr.add, ↓reduceIte] at hx137_0)
 have qi137 : (1 < l0.length) = True := eq_true (by omega)
 (try rw [show ((1 : Int)).toNat = 1 from rfl] at hx137_0)
 replace p137 := eq_true p137
 replace q137 := eq_true q137
 go_enter Try.func46, Try.ntmps46
 go_wp2_with (first | (go_at_call 62; (with_reducible refine (cmp_Compare_int.calls (wrap64 ((rd l0 0) * (rd l1 1))) (wrap64 ((rd l1 0) * (rd l0 1))) t138 _ A7.out).mono ?_); rintro e w' ⟨rfl, ⟨nd, rfl⟩⟩; (try first | exact ⟨rfl, _, dn_⟩ | exact ⟨rfl, _, dm_⟩)))
 repeat (go_quiet (first | (go_at_call 62; (with_reducible refine (cmp_Compare_int.calls (wrap64 ((rd l0 0) * (rd l1 1))) (wrap64 ((rd l1 0) * (rd l0 1))) t138 _ A7.out).mono ?_); rintro e w' ⟨rfl, ⟨nd, rfl⟩⟩; (try first | exact ⟨rfl, _, dn_⟩ | exact ⟨rfl, _, dm_⟩))); try go_wp2_with (first | (go_at_call 62; (with_reducible refine (cmp_Compare_int.calls (wrap64 ((rd l0 0) * (rd l1 1))) (wrap64 ((rd l1 0) * (rd l0 1))) t138 _ A7.out).mono ?_); rintro e w' ⟨rfl, ⟨nd, rfl⟩⟩; (try first | exact ⟨rfl, _, dn_⟩ | exact ⟨rfl, _, dm_⟩))))
 go_ret
 exact ⟨by first | rfl | (simp; done) | (simp [*]; done), by repeat (first | exact Drawn0.refl _ | apply Drawn0.step)⟩
end Go.Proofs.Ytheijdpplihigaa.P
