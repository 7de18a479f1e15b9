/- A part of this seat's proofs: contracts of the translated functions, written by the session's own program (gp.py) out of the kit's print.py and the session's own contracts; no conditions of its own. -/
import Derived.Test.YtdellbpjfbggaaaPx0
import Derived.Test.YtdellbpjfbggaaaPx1
import Derived.Test.YtdellbpjfbggaaaPx2
import Derived.Test.YtdellbpjfbggaaaPx3
import Derived.Test.YtdellbpjfbggaaaPx4
namespace Go.Proofs.Ytdellbpjfbggaaa.P
open Go.RowKit Go.Proofs.YtdellbpjfbggaaaW.PrintWords Go.Proofs.YtdellbpjfbggaaaW.PrintLast Go.Proofs.YtdellbpjfbggaaaW.PrintMore
attribute [local go_sem] max2_int min2_int max_two min_two max_three min_three max_four min_four   -- for this text's walks alone
set_option linter.unusedVariables false
set_option linter.unusedSimpArgs false

/-! ### impl_loopOfRank: function 18 -/
mutual
def impl_loopOfRank.l0 : Nat → Int → Int → ByteArray → Option (ByteArray)
 | 0, _, _, _ => none
 | k + 1, x0, x1, x5 => if (x5.size : Int) < (wrap64 (2 * x0)) then ((impl_onward.f k x0 x5).bind fun bt112 => (impl_loopOfRank.l1 k x0 x1 x5 bt112.1 bt112.2 0)) else (some x5)
def impl_loopOfRank.l1 : Nat → Int → Int → ByteArray → List Int → List Int → Int → Option (ByteArray)
 | 0, _, _, _, _, _, _ => none
 | k + 1, x0, x1, x5, x6, x7, x8 => if 0 ≤ x8 then (if x8 < (x7.length : Int) then (if x1 ≥ (rd x7 x8) then (impl_loopOfRank.l1 k x0 (wrap64 (x1 - (rd x7 x8))) x5 x6 x7 (wrap64 (x8 + 1))) else (if x8 < (x6.length : Int) then (if x5.size + (Utf8.encode (wrap32 (rd x6 x8))).size ≤ 9223372036854775807 then (impl_loopOfRank.l0 k x0 x1 (x5 ++ (Utf8.encode (wrap32 (rd x6 x8))))) else (none)) else (none))) else (none)) else (none)
end
def impl_loopOfRank.f (k : Nat) (a0 : Int) (a1 : Int) : Option (ByteArray) := impl_loopOfRank.l0 k a0 a1 (⟨#[]⟩ : ByteArray)
theorem impl_loopOfRank.mono_l : ∀ k, (∀ y0 y1 y2, LeO (impl_loopOfRank.l0 k y0 y1 y2) (impl_loopOfRank.l0 (k + 1) y0 y1 y2)) ∧ (∀ y0 y1 y2 y3 y4 y5, LeO (impl_loopOfRank.l1 k y0 y1 y2 y3 y4 y5) (impl_loopOfRank.l1 (k + 1) y0 y1 y2 y3 y4 y5))
 | 0 => ⟨fun _ _ _ r h => by simp [impl_loopOfRank.l0] at h, fun _ _ _ _ _ _ r h => by simp [impl_loopOfRank.l1] at h⟩
 | k + 1 => by
  obtain ⟨ih0, ih1⟩ := impl_loopOfRank.mono_l k
  refine ⟨?_, ?_⟩
  all_goals (intros; first | unfold impl_loopOfRank.l0 | unfold impl_loopOfRank.l1)
  all_goals repeat' with_reducible first | apply ih0 | apply ih1 | apply impl_onward.mono | exact LeO.refl _ | exact LeO.none _ | refine LeO.ite ?_ ?_ | refine LeO.bind ?_ (fun _ => ?_)
theorem impl_loopOfRank.mono : ∀ a0 a1 k, LeO (impl_loopOfRank.f k a0 a1) (impl_loopOfRank.f (k + 1) a0 a1) := by
 intro a0 a1 k
 obtain ⟨ih0, ih1⟩ := impl_loopOfRank.mono_l k
 unfold impl_loopOfRank.f
 repeat' with_reducible first | apply ih0 | apply ih1 | apply impl_onward.mono | exact LeO.refl _ | exact LeO.none _ | refine LeO.ite ?_ ?_ | refine LeO.bind ?_ (fun _ => ?_)
set_option maxHeartbeats 8000000 in
set_option maxRecDepth 100000 in
theorem impl_loopOfRank.calls (k : Nat) (a0 : Int) (a1 : Int) (r : ByteArray) (w : World) (h : impl_loopOfRank.f k a0 a1 = some r) :
  Calls Try.prog 18 #[.int .i64 a0, .int .i64 a1] w fun e w' => e = .returned (.string r) ∧ Below w.heap.size w w' := by
 have HB := Aside0.mk (Below.refl w.heap.size w)
 have H : (impl_loopOfRank.l0 k a0 a1 (⟨#[]⟩ : ByteArray)) = some r := h
 clear h
 have H' := Aside0.mk H
 clear H
 go_enter Try.func18, Try.ntmps18
 go_wp2
 go_loopg [1, 5] k (fun kq v1 v5 w' => ∃ (x1_1 : Int) (x5_1 : ByteArray), v1 = .int .i64 x1_1 ∧ v5 = .string x5_1 ∧ Aside0 (impl_loopOfRank.l0 kq a0 x1_1 x5_1 = some r) ∧ Aside0 (kq ≤ k) ∧ Aside0 (Below w.heap.size w w'))
 case atStart => exact ⟨(a1), ((⟨#[]⟩ : ByteArray)), (by first | rfl | (simp; done) | (simp [*]; done)), (by first | rfl | (simp; done) | (simp [*]; done)), H', ⟨Nat.le_refl _⟩, ⟨bb_⟩⟩
 case round =>
  clear H'
  (try clear c1); (try clear p2)
  obtain ⟨x1_1, x5_1, rfl, rfl, HA, HK1, HB⟩ := hrel
  cases gk with
  | zero => exact absurd HA.out (by simp [impl_loopOfRank.l0])
  | succ k1 =>
   have H := HA.out
   clear HA
   simp only [impl_loopOfRank.l0] at H
   by_cases c3 : (x5_1.size : Int) < (wrap64 (2 * a0))
   rotate_left
   ·rw [if_neg c3] at H
    have c3b0 : decide ((x5_1.size : Int) < (wrap64 (2 * a0))) = false := decide_eq_false c3
    clear c3
    obtain rfl := Option.some.inj H
    go_wp2
    go_ret
    exact ⟨by first | rfl | (simp [errW_none, errW_some] <;> rfl) | (simp [*, errW_none, errW_some] <;> rfl), bb_⟩

   rw [if_pos c3] at H
   have c3b0 : decide ((x5_1.size : Int) < (wrap64 (2 * a0))) = true := decide_eq_true c3
   clear c3
   replace H := Option.bind_eq_some_iff.mp H
   obtain ⟨⟨t112, t113⟩, A40, H⟩ := H
   replace H : (impl_loopOfRank.l1 k1 a0 x1_1 x5_1 t112 t113 0) = some r := H
   have A4 := Aside0.mk A40
   clear A40
   have H' := Aside0.mk H
   clear H
   go_wp2_with (first | ((with_reducible refine gate_callee (f := 22) rfl ?_); refine gl_ (some 17) Try.func22 #[.int .i64 a0, .string x5_1] ?_; (with_reducible refine (impl_onward.calls k1 a0 x5_1 t112 t113 _ A4.out).mono ?_); rintro e w5 ⟨v114, v116, rfl, ho0, ho1, hb⟩; refine ⟨_, rfl, ?_⟩; have n0_ := Aside0.mk (Kd.R_lower ho0 bz_); have n1_ := Aside0.mk (Kd.R_lower ho1 bz_); have n2_ := Aside0.mk (bs_ hb); clear HB; have HO115 := n0_; have HO117 := n1_; have HB := n2_; clear n0_ n1_ n2_; (try clear hb); (try clear ho0); (try clear ho1)))
   go_loopg [1, 8] k1 (fun kq v1 v8 w' => ∃ (x1_2 : Int) (x8_2 : Int), v1 = .int .i64 x1_2 ∧ v8 = .int .i64 x8_2 ∧ Aside0 (impl_loopOfRank.l1 kq a0 x1_2 x5_1 t112 t113 x8_2 = some r) ∧ Aside0 (kq ≤ k1) ∧ Aside0 (Kd.R (Kd.int .u8) 5 w' w.heap.size (fun _ => True) v114 t112) ∧ Aside0 (Kd.R (Kd.int .i64) 3 w' w.heap.size (fun _ => True) v116 t113) ∧ Aside0 (Below w.heap.size w w'))
   case atStart => exact ⟨(x1_1), (0), (by first | rfl | (simp; done) | (simp [*]; done)), (by first | rfl | (simp; done) | (simp [*]; done)), H', ⟨Nat.le_refl _⟩, ⟨by (with_reducible repeat (first | apply Kd.R_alloc | apply Kd.R_drewN | apply Kd.R_drew)); exact HO115.out⟩, ⟨by (with_reducible repeat (first | apply Kd.R_alloc | apply Kd.R_drewN | apply Kd.R_drew)); exact HO117.out⟩, ⟨bb_⟩⟩
   case round =>
    clear H'
    (try clear c1); (try clear c2); (try clear p2); (try clear c3); (try clear c3b0); (try clear p2)
    obtain ⟨x1_2, x8_2, rfl, rfl, HA, HK2, HO_6, HO_7, HB⟩ := hrel
    cases gk with
    | zero => exact absurd HA.out (by simp [impl_loopOfRank.l1])
    | succ k2 =>
     have H := HA.out
     clear HA
     simp only [impl_loopOfRank.l1] at H
     by_cases c6 : 0 ≤ x8_2
     rotate_left
     ·rw [if_neg c6] at H
      exact absurd H (by simp)
     rw [if_pos c6] at H
     have c6b0 : decide (0 ≤ x8_2) = true := decide_eq_true c6
     clear c6
     by_cases c7 : x8_2 < (t113.length : Int)
     rotate_left
     ·rw [if_neg c7] at H
      exact absurd H (by simp)
     rw [if_pos c7] at H
     have c7b0 : decide (x8_2 < (t113.length : Int)) = true := decide_eq_true c7
     clear c7
     by_cases c8 : x1_2 ≥ (rd t113 x8_2)
     ·rw [if_pos c8] at H
      have c8b0 : decide ((rd t113 x8_2) ≤ x1_2) = true := decide_eq_true c8
      clear c8
      have H' := Aside0.mk H
      clear H
      obtain ⟨Ao9, co9, eo9⟩ := Kd.R_slice HO_7.out
      subst eo9
      have p118 : 0 ≤ (x8_2 : Int) := of_decide_eq_true (by assumption)
      have q118 : x8_2 < (t113.length : Int) := of_decide_eq_true (by assumption)
      obtain ⟨ad118, e118, hx118_0⟩ := Kd.at_int (Kd.R_reads' HO_7.out).2.2 x8_2 p118 q118
      cases e118
      replace p118 := eq_true p118
      replace q118 := eq_true q118
      have p119 : 0 ≤ (x8_2 : Int) := of_decide_eq_true (by assumption)
      have q119 : x8_2 < (t113.length : Int) := of_decide_eq_true (by assumption)
      obtain ⟨ad119, e119, hx119_0⟩ := Kd.at_int (Kd.R_reads' HO_7.out).2.2 x8_2 p119 q119
      obtain rfl : ad118 = ad119 := (by injection e119)
      replace p119 := eq_true p119
      replace q119 := eq_true q119
      go_wp2
      go_roundg k2
      case measure => have := HK1.out; have := HK2.out; omega
      case rel => exact ⟨(wrap64 (x1_2 - (rd t113 x8_2))), (wrap64 (x8_2 + 1)), (by first | rfl | (simp; done) | (simp [*]; done)), (by first | rfl | (simp; done) | (simp [*]; done)), H', ⟨by have := HK1.out; have := HK2.out; omega⟩, ⟨by (with_reducible repeat (first | apply Kd.R_alloc | apply Kd.R_drewN | apply Kd.R_drew)); exact HO_6.out⟩, ⟨by (with_reducible repeat (first | apply Kd.R_alloc | apply Kd.R_drewN | apply Kd.R_drew)); exact HO_7.out⟩, ⟨bb_⟩⟩
     rw [if_neg c8] at H
     have c8b0 : decide ((rd t113 x8_2) ≤ x1_2) = false := decide_eq_false c8
     clear c8
     by_cases c10 : x8_2 < (t112.length : Int)
     rotate_left
     ·rw [if_neg c10] at H
      exact absurd H (by simp)
     rw [if_pos c10] at H
     have c10b0 : decide (x8_2 < (t112.length : Int)) = true := decide_eq_true c10
     clear c10
     by_cases c11 : x5_1.size + (Utf8.encode (wrap32 (rd t112 x8_2))).size ≤ 9223372036854775807
     rotate_left
     ·rw [if_neg c11] at H
      exact absurd H (by simp)
     rw [if_pos c11] at H
     have c11b0 := eq_true c11
     have c11b1 : decide (x5_1.size + (Utf8.encode (wrap32 (rd t112 x8_2))).size ≤ 9223372036854775807) = true := decide_eq_true c11
     try have c11b2 : (9223372036854775807 < x5_1.size + (Utf8.encode (wrap32 (rd t112 x8_2))).size) = False := eq_false (Nat.not_lt.2 c11)
     have H' := Aside0.mk H
     clear H
     obtain ⟨Ao12, co12, eo12⟩ := Kd.R_slice HO_7.out
     subst eo12
     have p118 : 0 ≤ (x8_2 : Int) := of_decide_eq_true (by assumption)
     have q118 : x8_2 < (t113.length : Int) := of_decide_eq_true (by assumption)
     obtain ⟨ad118, e118, hx118_0⟩ := Kd.at_int (Kd.R_reads' HO_7.out).2.2 x8_2 p118 q118
     cases e118
     replace p118 := eq_true p118
     replace q118 := eq_true q118
     obtain ⟨Ao13, co13, eo13⟩ := Kd.R_slice HO_6.out
     subst eo13
     have p120 : 0 ≤ (x8_2 : Int) := of_decide_eq_true (by assumption)
     have q120 : x8_2 < (t112.length : Int) := of_decide_eq_true (by assumption)
     obtain ⟨ad120, e120, hx120_0⟩ := Kd.at_int (Kd.R_reads' HO_6.out).2.2 x8_2 p120 q120
     cases e120
     replace p120 := eq_true p120
     replace q120 := eq_true q120
     go_wp2
     go_roundg k2
     case measure => have := HK1.out; have := HK2.out; omega
     case rel => exact ⟨(x1_2), (x5_1 ++ (Utf8.encode (wrap32 (rd t112 x8_2)))), (by first | rfl | (simp; done) | (simp [*]; done)), (by first | rfl | (simp; done) | (simp [*]; done)), H', ⟨by have := HK1.out; have := HK2.out; omega⟩, ⟨bb_⟩⟩
/-! ### impl_LoopOfRank: function 6 -/
def impl_LoopOfRank.f (k : Nat) (a0 : Int) (a1 : Int) : Option (ByteArray × Bool) := (impl_isCrossings.f a0).bind fun t121 => (if t121 = true then ((impl_countOn.f k 0 a0).bind fun t122 => ((impl_within.f a1 0 (wrap64 (t122 - 1))).bind fun t123 => (if t123 = true then ((impl_loopOfRank.f k a0 a1).bind fun t124 => (some (t124, true))) else (some ((⟨#[]⟩ : ByteArray), false))))) else (some ((⟨#[]⟩ : ByteArray), false)))
theorem impl_LoopOfRank.mono : ∀ a0 a1 k, LeO (impl_LoopOfRank.f k a0 a1) (impl_LoopOfRank.f (k + 1) a0 a1) := by
 intro a0 a1 k
 unfold impl_LoopOfRank.f
 repeat' with_reducible first | apply impl_countOn.mono | apply impl_loopOfRank.mono | exact LeO.refl _ | exact LeO.none _ | refine LeO.ite ?_ ?_ | refine LeO.bind ?_ (fun _ => ?_)
set_option maxHeartbeats 8000000 in
set_option maxRecDepth 100000 in
theorem impl_LoopOfRank.calls (k : Nat) (a0 : Int) (a1 : Int) (r1 : ByteArray) (r2 : Bool) (w : World) (h : impl_LoopOfRank.f k a0 a1 = some (r1, r2)) :
  Calls Try.prog 6 #[.int .i64 a0, .int .i64 a1] w fun e w' => e = .returned (.tuple #[.string r1, .bool r2]) ∧ Below w.heap.size w w' := by
 have HB := Aside0.mk (Below.refl w.heap.size w)
 have H : ((impl_isCrossings.f a0).bind fun t121 => (if t121 = true then ((impl_countOn.f k 0 a0).bind fun t122 => ((impl_within.f a1 0 (wrap64 (t122 - 1))).bind fun t123 => (if t123 = true then ((impl_loopOfRank.f k a0 a1).bind fun t124 => (some (t124, true))) else (some ((⟨#[]⟩ : ByteArray), false))))) else (some ((⟨#[]⟩ : ByteArray), false)))) = some (r1, r2) := h
 clear h
 replace H := Option.bind_eq_some_iff.mp H
 obtain ⟨t121, A30, H⟩ := H
 (try dsimp only at H)
 have A3 := Aside0.mk A30
 clear A30
 by_cases c4 : t121 = true
 rotate_left
 ·replace c4 := Bool.eq_false_iff.mpr c4
  subst c4
  rw [if_neg (show ¬ (false = true) by decide)] at H
  simp only [Option.some.injEq, Prod.mk.injEq] at H
  obtain ⟨rfl, rfl⟩ := H
  go_enter Try.func6, Try.ntmps6
  go_wp2_with (first | ((with_reducible refine gate_callee (f := 15) rfl ?_); refine gl_ (some 7) Try.func15 #[.int .i64 a0] ?_; (with_reducible refine (impl_isCrossings.calls a0 false _ A3.out).mono ?_); rintro e w' ⟨rfl, ⟨nd, rfl⟩⟩; refine ⟨_, rfl, ?_⟩))
  go_ret2
  exact ⟨by first | rfl | (simp [errW_none, errW_some] <;> rfl) | (simp [*, errW_none, errW_some] <;> rfl), bb_⟩

 subst c4
 rw [if_pos rfl] at H
 replace H := Option.bind_eq_some_iff.mp H
 obtain ⟨t122, A50, H⟩ := H
 (try dsimp only at H)
 have A5 := Aside0.mk A50
 clear A50
 replace H := Option.bind_eq_some_iff.mp H
 obtain ⟨t123, A60, H⟩ := H
 (try dsimp only at H)
 have A6 := Aside0.mk A60
 clear A60
 by_cases c7 : t123 = true
 rotate_left
 ·replace c7 := Bool.eq_false_iff.mpr c7
  subst c7
  rw [if_neg (show ¬ (false = true) by decide)] at H
  simp only [Option.some.injEq, Prod.mk.injEq] at H
  obtain ⟨rfl, rfl⟩ := H
  go_enter Try.func6, Try.ntmps6
  go_wp2_with (first | ((with_reducible refine gate_callee (f := 15) rfl ?_); refine gl_ (some 7) Try.func15 #[.int .i64 a0] ?_; (with_reducible refine (impl_isCrossings.calls a0 true _ A3.out).mono ?_); rintro e w' ⟨rfl, ⟨nd, rfl⟩⟩; refine ⟨_, rfl, ?_⟩) | (go_at_call 17; (with_reducible refine (impl_countOn.calls k 0 a0 t122 _ A5.out).mono ?_); rintro e w' ⟨rfl, ⟨nd, rfl⟩⟩) | (go_at_call 16; (with_reducible refine (impl_within.calls a1 0 (wrap64 (t122 - 1)) false _ A6.out).mono ?_); rintro e w' ⟨rfl, ⟨nd, rfl⟩⟩))
  go_ret2
  exact ⟨by first | rfl | (simp [errW_none, errW_some] <;> rfl) | (simp [*, errW_none, errW_some] <;> rfl), bb_⟩
 subst c7
 rw [if_pos rfl] at H
 replace H := Option.bind_eq_some_iff.mp H
 obtain ⟨t124, A80, H⟩ := H
 replace H : (some (t124, true)) = some (r1, r2) := H
 have A8 := Aside0.mk A80
 clear A80
 simp only [Option.some.injEq, Prod.mk.injEq] at H
 obtain ⟨rfl, rfl⟩ := H
 go_enter Try.func6, Try.ntmps6
 go_wp2_with (first | ((with_reducible refine gate_callee (f := 15) rfl ?_); refine gl_ (some 7) Try.func15 #[.int .i64 a0] ?_; (with_reducible refine (impl_isCrossings.calls a0 true _ A3.out).mono ?_); rintro e w' ⟨rfl, ⟨nd, rfl⟩⟩; refine ⟨_, rfl, ?_⟩) | (go_at_call 17; (with_reducible refine (impl_countOn.calls k 0 a0 t122 _ A5.out).mono ?_); rintro e w' ⟨rfl, ⟨nd, rfl⟩⟩) | (go_at_call 16; (with_reducible refine (impl_within.calls a1 0 (wrap64 (t122 - 1)) true _ A6.out).mono ?_); rintro e w' ⟨rfl, ⟨nd, rfl⟩⟩) | ((with_reducible refine gate_callee (f := 18) rfl ?_); refine gl_ (some 19) Try.func18 #[.int .i64 a0, .int .i64 a1] ?_; (with_reducible refine (impl_loopOfRank.calls k a0 a1 t124 _ A8.out).mono ?_); rintro e w9 ⟨rfl, hb⟩; refine ⟨_, rfl, ?_⟩; have n0_ := Aside0.mk (bs_ hb); clear HB; have HB := n0_; clear n0_; (try clear hb)))
 go_ret2
 exact ⟨by first | rfl | (simp [errW_none, errW_some] <;> rfl) | (simp [*, errW_none, errW_some] <;> rfl), bb_⟩
/-! ### laws_FnExactLoopOfRank: function 3 -/
def laws_FnExactLoopOfRank.f (k : Nat) (a0 : Int) (a1 : Int) : Option (Bool) := (spec_LoopOfRank.f k a0 a1).bind fun bt125 => ((impl_LoopOfRank.f k a0 a1).bind fun bt127 => (if bt127.1.toList = bt125.1.toList then (if (bt127.2 != bt125.2) = true then (none) else (some true)) else (none)))
theorem laws_FnExactLoopOfRank.mono : ∀ a0 a1 k, LeO (laws_FnExactLoopOfRank.f k a0 a1) (laws_FnExactLoopOfRank.f (k + 1) a0 a1) := by
 intro a0 a1 k
 unfold laws_FnExactLoopOfRank.f
 repeat' with_reducible first | apply impl_LoopOfRank.mono | apply spec_LoopOfRank.mono | exact LeO.refl _ | exact LeO.none _ | refine LeO.ite ?_ ?_ | refine LeO.bind ?_ (fun _ => ?_)
set_option maxHeartbeats 8000000 in
set_option maxRecDepth 100000 in
theorem laws_FnExactLoopOfRank.calls (k : Nat) (a0 : Int) (a1 : Int) (r : Bool) (w : World) (h : laws_FnExactLoopOfRank.f k a0 a1 = some r) :
  Calls Try.prog 3 #[.int .i64 a0, .int .i64 a1] w fun e w' => e = .returned (.bool r) ∧ Below w.heap.size w w' := by
 have HB := Aside0.mk (Below.refl w.heap.size w)
 have H : ((spec_LoopOfRank.f k a0 a1).bind fun bt125 => ((impl_LoopOfRank.f k a0 a1).bind fun bt127 => (if bt127.1.toList = bt125.1.toList then (if (bt127.2 != bt125.2) = true then (none) else (some true)) else (none)))) = some r := h
 clear h
 replace H := Option.bind_eq_some_iff.mp H
 obtain ⟨⟨t125, t126⟩, A30, H⟩ := H
 (try dsimp only at H)
 have A3 := Aside0.mk A30
 clear A30
 replace H := Option.bind_eq_some_iff.mp H
 obtain ⟨⟨t127, t128⟩, A40, H⟩ := H
 (try dsimp only at H)
 have A4 := Aside0.mk A40
 clear A40
 by_cases c5 : t127.toList = t125.toList
 ·rw [if_pos c5] at H
  have c5b0 : (t127.toList == t125.toList) = true := beq_iff_eq.mpr c5
  have c5b1 : (t127.toList != t125.toList) = false := bne_eq_false_iff_eq.mpr c5
  clear c5
  by_cases c6 : (t128 != t126) = true
  ·rw [if_pos c6] at H
   exact absurd H (by simp)
  ·as_aux_lemma =>
   rw [if_neg c6] at H
   have c6b0 : (t128 != t126) = false := by simpa using c6
   (try (have c6b1 : decide (t128 = t126) = true := by simpa using c6))
   (try (have c6b2 : (t128 == t126) = true := by simpa using c6))
   clear c6
   obtain rfl := Option.some.inj H
   go_enter Try.func3, Try.ntmps3
   go_wp2_with (first | ((with_reducible refine gate_callee (f := 5) rfl ?_); refine gl_ (some 12) Try.func5 #[.int .i64 a0, .int .i64 a1] ?_; (with_reducible refine (spec_LoopOfRank.calls k a0 a1 t125 t126 _ A3.out).mono ?_); rintro e w' ⟨rfl, ⟨nd, rfl⟩⟩; refine ⟨_, rfl, ?_⟩) | ((with_reducible refine gate_callee (f := 6) rfl ?_); refine gl_ (some 18) Try.func6 #[.int .i64 a0, .int .i64 a1] ?_; (with_reducible refine (impl_LoopOfRank.calls k a0 a1 t127 t128 _ A4.out).mono ?_); rintro e w7 ⟨rfl, hb⟩; refine ⟨_, rfl, ?_⟩; have n0_ := Aside0.mk (bs_ hb); clear HB; have HB := n0_; clear n0_; (try clear hb)))
   go_ret
   exact ⟨by first | rfl | (simp [errW_none, errW_some] <;> rfl) | (simp [*, errW_none, errW_some] <;> rfl), bb_⟩
 ·rw [if_neg c5] at H
  exact absurd H (by simp)

/-- THE ONE PURE STATEMENT of laws_FnExactLoopOfRank: yours. -/
def laws_FnExactLoopOfRank.Pure : Prop := ∀ (a0 : Int) (a1 : Int), (Lit.int .i64 a0).wf = true → (Lit.int .i64 a1).wf = true → ∃ k, laws_FnExactLoopOfRank.f k a0 a1 = some true
theorem laws_FnExactLoopOfRank.walk (P : laws_FnExactLoopOfRank.Pure) (a0 : Int) (a1 : Int) (w : World) (w0 : (Lit.int .i64 a0).wf = true) (w1 : (Lit.int .i64 a1).wf = true) :
  Calls Try.prog 3 #[.int .i64 a0, .int .i64 a1] w fun e w' => e = .returned (.bool true) ∧ Below w.heap.size w w' := by
 obtain ⟨k, h⟩ := P a0 a1 w0 w1
 refine (laws_FnExactLoopOfRank.calls k a0 a1 true w h).mono ?_
 rintro e w' ⟨rfl, hd⟩
 exact ⟨rfl, hd⟩

/-! ### spec_AllLoops: function 7 -/
def spec_AllLoops.l0 : Nat → Int → List ByteArray → Int → Option (List ByteArray × Bool)
 | 0, _, _, _ => none
 | k + 1, x0, x4, x5 => (spec_loCount.f k x0).bind fun t130 => (if x5 < t130 then ((spec_loRanked.f k x0 x5).bind fun t131 => (if x4.length < 8796093022208 then (spec_AllLoops.l0 k x0 (x4 ++ [t131]) (wrap64 (x5 + 1))) else (none))) else (some (x4, true)))
def spec_AllLoops.f (k : Nat) (a0 : Int) : Option (List ByteArray × Bool) := (spec_l1In.f a0 0 4).bind fun t129 => (if t129 = true then (spec_AllLoops.l0 k a0 ([] : List ByteArray) 0) else (some (([] : List ByteArray), false)))
theorem spec_AllLoops.mono_l : ∀ k, (∀ y0 y1 y2, LeO (spec_AllLoops.l0 k y0 y1 y2) (spec_AllLoops.l0 (k + 1) y0 y1 y2))
 | 0 => fun _ _ _ r h => by simp [spec_AllLoops.l0] at h
 | k + 1 => by
  have ih0 := spec_AllLoops.mono_l k
  ·intro y0 y1 y2
   unfold spec_AllLoops.l0
   repeat' with_reducible first | apply ih0 | apply spec_loCount.mono | apply spec_loRanked.mono | exact LeO.refl _ | exact LeO.none _ | refine LeO.ite ?_ ?_ | refine LeO.bind ?_ (fun _ => ?_)
theorem spec_AllLoops.mono : ∀ a0 k, LeO (spec_AllLoops.f k a0) (spec_AllLoops.f (k + 1) a0) := by
 intro a0 k
 have ih0 := spec_AllLoops.mono_l k
 unfold spec_AllLoops.f
 repeat' with_reducible first | apply ih0 | apply spec_loCount.mono | apply spec_loRanked.mono | exact LeO.refl _ | exact LeO.none _ | refine LeO.ite ?_ ?_ | refine LeO.bind ?_ (fun _ => ?_)
set_option maxHeartbeats 8000000 in
set_option maxRecDepth 100000 in
theorem spec_AllLoops.calls (k : Nat) (a0 : Int) (r1 : List ByteArray) (r2 : Bool) (w : World) (h : spec_AllLoops.f k a0 = some (r1, r2)) :
  Calls Try.prog 7 #[.int .i64 a0] w fun e w' => ∃ v0_ : Value, e = .returned (.tuple #[v0_, .bool r2]) ∧ Kd.R Kd.string 9 w' w.heap.size (fun _ => True) v0_ r1 ∧ Below w.heap.size w w' := by
 have HB := Aside0.mk (Below.refl w.heap.size w)
 have H : ((spec_l1In.f a0 0 4).bind fun t129 => (if t129 = true then (spec_AllLoops.l0 k a0 ([] : List ByteArray) 0) else (some (([] : List ByteArray), false)))) = some (r1, r2) := h
 clear h
 replace H := Option.bind_eq_some_iff.mp H
 obtain ⟨t129, A20, H⟩ := H
 (try dsimp only at H)
 have A2 := Aside0.mk A20
 clear A20
 by_cases c3 : t129 = true
 rotate_left
 ·replace c3 := Bool.eq_false_iff.mpr c3
  subst c3
  rw [if_neg (show ¬ (false = true) by decide)] at H
  simp only [Option.some.injEq, Prod.mk.injEq] at H
  obtain ⟨rfl, rfl⟩ := H
  go_enter Try.func7, Try.ntmps7
  go_wp2_with (first | ((with_reducible refine gate_callee (f := 12) rfl ?_); refine gl_ (some 7) Try.func12 #[.int .i64 a0, .int .i64 0, .int .i64 4] ?_; (with_reducible refine (spec_l1In.calls a0 0 4 false _ A2.out).mono ?_); rintro e w' ⟨rfl, ⟨nd, rfl⟩⟩; refine ⟨_, rfl, ?_⟩))
  go_ret2
  exact ⟨_, by first | rfl | (simp [errW_none, errW_some] <;> rfl) | (simp [*, errW_none, errW_some] <;> rfl), by first | exact Kd.R_nil _ _ _ _ _ | exact Kd.N_nil _ _ _ _ _ | exact Kd.V_nil _ _ _ _ _ | exact Kd.Q_nil _ _ _ _ _ | exact Kd.S_nil _ _ _ _ _, bb_⟩

 subst c3
 rw [if_pos rfl] at H
 have H' := Aside0.mk H
 clear H
 go_enter Try.func7, Try.ntmps7
 go_wp2_with (first | ((with_reducible refine gate_callee (f := 12) rfl ?_); refine gl_ (some 7) Try.func12 #[.int .i64 a0, .int .i64 0, .int .i64 4] ?_; (with_reducible refine (spec_l1In.calls a0 0 4 true _ A2.out).mono ?_); rintro e w' ⟨rfl, ⟨nd, rfl⟩⟩; refine ⟨_, rfl, ?_⟩))
 go_loopg [4, 5] k (fun kq v4 v5 w' => ∃ (x4_1 : List ByteArray) (x5_1 : Int), v5 = .int .i64 x5_1 ∧ Aside0 (spec_AllLoops.l0 kq a0 x4_1 x5_1 = some (r1, r2)) ∧ Aside0 (kq ≤ k) ∧ Aside0 (Kd.R Kd.string 9 w' w.heap.size (fun _ => True) v4 x4_1) ∧ Aside0 (Below w.heap.size w w'))
 case atStart => exact ⟨(([] : List ByteArray)), (0), (by first | rfl | (simp; done) | (simp [*]; done)), H', ⟨Nat.le_refl _⟩, ⟨by first | exact Kd.R_nil _ _ _ _ _ | exact Kd.N_nil _ _ _ _ _ | exact Kd.V_nil _ _ _ _ _ | exact Kd.Q_nil _ _ _ _ _ | exact Kd.S_nil _ _ _ _ _⟩, ⟨bb_⟩⟩
 case round =>
  clear H'
  (try clear c1); (try clear p2); (try clear c3)
  obtain ⟨x4_1, x5_1, rfl, HA, HK1, HO_4, HB⟩ := hrel
  cases gk with
  | zero => exact absurd HA.out (by simp [spec_AllLoops.l0])
  | succ k1 =>
   have H := HA.out
   clear HA
   simp only [spec_AllLoops.l0] at H
   replace H := Option.bind_eq_some_iff.mp H
   obtain ⟨t130, A40, H⟩ := H
   (try dsimp only at H)
   have A4 := Aside0.mk A40
   clear A40
   by_cases c5 : x5_1 < t130
   rotate_left
   ·rw [if_neg c5] at H
    have c5b0 : decide (x5_1 < t130) = false := decide_eq_false c5
    clear c5
    simp only [Option.some.injEq, Prod.mk.injEq] at H
    obtain ⟨rfl, rfl⟩ := H
    go_wp2_with (first | ((with_reducible refine gate_callee (f := 13) rfl ?_); refine gl_ (some 11) Try.func13 #[.int .i64 a0] ?_; (with_reducible refine (spec_loCount.calls k1 a0 t130 _ A4.out).mono ?_); rintro e w' ⟨rfl, ⟨nd, rfl⟩⟩; refine ⟨_, rfl, ?_⟩))
    go_ret2
    exact ⟨_, by first | rfl | (simp [errW_none, errW_some] <;> rfl) | (simp [*, errW_none, errW_some] <;> rfl), by (with_reducible repeat (first | apply Kd.R_alloc | apply Kd.R_drewN | apply Kd.R_drew)); exact HO_4.out, bb_⟩
   rw [if_pos c5] at H
   have c5b0 : decide (x5_1 < t130) = true := decide_eq_true c5
   clear c5
   replace H := Option.bind_eq_some_iff.mp H
   obtain ⟨t131, A60, H⟩ := H
   (try dsimp only at H)
   have A6 := Aside0.mk A60
   clear A60
   by_cases c7 : x4_1.length < 8796093022208
   rotate_left
   ·rw [if_neg c7] at H
    exact absurd H (by simp)
   rw [if_pos c7] at H
   have LMc7 := Aside0.mk c7
   clear c7
   obtain ⟨y132, hy132⟩ : ∃ y_ : List ByteArray, y_ = (x4_1 ++ [t131]) := ⟨_, rfl⟩
   replace H : (spec_AllLoops.l0 k1 a0 y132 (wrap64 (x5_1 + 1))) = some (r1, r2) := by first | (rw [hy132]; with_reducible exact H) | (have H2_ := (Option.bind_some _ _).symm.trans H; rw [hy132]; with_reducible exact H2_) | (have H2_ := (Option.bind_some _ _).symm.trans H; with_reducible exact H2_) | with_reducible exact H | (rw [hy132]; exact H) | exact H
   have Ny132 := Aside0.mk hy132
   clear hy132
   have H' := Aside0.mk H
   clear H
   go_wp2_with (first | ((with_reducible refine gate_callee (f := 13) rfl ?_); refine gl_ (some 11) Try.func13 #[.int .i64 a0] ?_; (with_reducible refine (spec_loCount.calls k1 a0 t130 _ A4.out).mono ?_); rintro e w' ⟨rfl, ⟨nd, rfl⟩⟩; refine ⟨_, rfl, ?_⟩) | ((with_reducible refine gate_callee (f := 14) rfl ?_); refine gl_ (some 18) Try.func14 #[.int .i64 a0, .int .i64 x5_1] ?_; (with_reducible refine (spec_loRanked.calls k1 a0 x5_1 t131 _ A6.out).mono ?_); rintro e w' ⟨rfl, ⟨nd, rfl⟩⟩; refine ⟨_, rfl, ?_⟩) | ((with_reducible refine gate_builtin (b := .append) (xs := #[.tmp 15, .tmp 19]) rfl ?_); at_builtin; refine Kd.R_append Kd.string (w0 := w) w.heap.size rfl (.tmp 15) (.tmp 19) 25 9 (.string ⟨#[]⟩) 16 rfl Try.underlying25 info9 rfl (by decide) (by omega) u4 x4_1 t131 [.string t131] (fun _ => True) (fun _ => False) rfl rfl ?aP (fun _ hk => hk.elim) ?aF ?aO ?aB ?aS ?aL ?_; (case aP => exact rfl); (case aB => exact bb_); (case aF => exact (fun _ _ => trivial)); (case aO => exact (ru_ HO_4.out)); (case aS => exact bz_); (case aL => have := LMc7.out; omega); intro v133 w8 ho hb hg hat; rw [← Ny132.out] at ho; have n0_ := Aside0.mk (hb); have n1_ := Aside0.mk (ho); clear HB; clear HO_4; have HB := n0_; have HO134 := n1_; clear n0_ n1_; clear ho hb hg hat))
   go_roundg k1
   case measure => have := HK1.out; omega
   case rel => exact ⟨(y132), (wrap64 (x5_1 + 1)), (by first | rfl | (simp; done) | (simp [*]; done)), H', ⟨by have := HK1.out; omega⟩, ⟨by (with_reducible repeat (first | apply Kd.R_alloc | apply Kd.R_drewN | apply Kd.R_drew)); exact HO134.out⟩, ⟨bb_⟩⟩
end Go.Proofs.Ytdellbpjfbggaaa.P
