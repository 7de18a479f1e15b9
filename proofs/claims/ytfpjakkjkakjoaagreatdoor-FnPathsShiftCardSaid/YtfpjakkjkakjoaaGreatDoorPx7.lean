/- A part of this seat's proofs: contracts of the translated functions, written by the session's own program (gp.py) out of the kit's print.py and the session's own contracts; no conditions of its own. -/
import Derived.Test.YtfpjakkjkakjoaaGreatDoorPx0
import Derived.Test.YtfpjakkjkakjoaaGreatDoorPx2
import Derived.Test.YtfpjakkjkakjoaaGreatDoorPx6
namespace Go.Proofs.YtfpjakkjkakjoaaGreatDoor.P
open Go.RowKit Go.Proofs.YtfpjakkjkakjoaaGreatDoorW.PrintWords Go.Proofs.YtfpjakkjkakjoaaGreatDoorW.PrintLast Go.Proofs.YtfpjakkjkakjoaaGreatDoorW.PrintMore
attribute [local go_sem] max2_int min2_int max_two min_two max_three min_three max_four min_four   -- for this text's walks alone
set_option linter.unusedVariables false
set_option linter.unusedSimpArgs false

/-! ### spec_ShiftWord: function 7 -/
def spec_ShiftWord.f (k : Nat) (a0 : Int) (a1 : ByteArray) (a2 : Int) : Option (ByteArray × Bool) := (spec_paAsked.f k a0 a1).bind fun t252 => (if t252 = true then ((spec_l1In.f a2 0 (wrap64 ((a1.size : Int) - 1))).bind fun t253 => (if t253 = true then (if 0 ≤ a2 then (if a2 ≤ (a1.size : Int) then (if (a1.extract (a2 : Int).toNat a1.size).size + (a1.extract 0 (a2 : Int).toNat).size ≤ 9223372036854775807 then (some ((a1.extract (a2 : Int).toNat a1.size) ++ (a1.extract 0 (a2 : Int).toNat), true)) else (none)) else (none)) else (none)) else (some ((⟨#[]⟩ : ByteArray), false)))) else (some ((⟨#[]⟩ : ByteArray), false)))
theorem spec_ShiftWord.mono : ∀ a0 a1 a2 k, LeO (spec_ShiftWord.f k a0 a1 a2) (spec_ShiftWord.f (k + 1) a0 a1 a2) := by
 intro a0 a1 a2 k
 unfold spec_ShiftWord.f
 repeat' with_reducible first | apply spec_paAsked.mono | exact LeO.refl _ | exact LeO.none _ | refine LeO.ite ?_ ?_ | refine LeO.bind ?_ (fun _ => ?_)
set_option maxHeartbeats 8000000 in
set_option maxRecDepth 100000 in
theorem spec_ShiftWord.calls (k : Nat) (a0 : Int) (a1 : ByteArray) (a2 : Int) (r1 : ByteArray) (r2 : Bool) (w : World) (h : spec_ShiftWord.f k a0 a1 a2 = some (r1, r2)) :
  Calls Tryz.prog 7 #[.int .i64 a0, .string a1, .int .i64 a2] w fun e w' => e = .returned (.tuple #[.string r1, .bool r2]) ∧ Drawn0 w w' := by
 have H : ((spec_paAsked.f k a0 a1).bind fun t252 => (if t252 = true then ((spec_l1In.f a2 0 (wrap64 ((a1.size : Int) - 1))).bind fun t253 => (if t253 = true then (if 0 ≤ a2 then (if a2 ≤ (a1.size : Int) then (if (a1.extract (a2 : Int).toNat a1.size).size + (a1.extract 0 (a2 : Int).toNat).size ≤ 9223372036854775807 then (some ((a1.extract (a2 : Int).toNat a1.size) ++ (a1.extract 0 (a2 : Int).toNat), true)) else (none)) else (none)) else (none)) else (some ((⟨#[]⟩ : ByteArray), false)))) else (some ((⟨#[]⟩ : ByteArray), false)))) = some (r1, r2) := h
 clear h
 replace H := Option.bind_eq_some_iff.mp H
 obtain ⟨t252, A40, H⟩ := H
 (try dsimp only at H)
 have A4 := Aside0.mk A40
 clear A40
 by_cases c5 : t252 = true
 rotate_left
 ·replace c5 := Bool.eq_false_iff.mpr c5
  subst c5
  rw [if_neg (show ¬ (false = true) by decide)] at H
  simp only [Option.some.injEq, Prod.mk.injEq] at H
  obtain ⟨rfl, rfl⟩ := H
  go_enter Tryz.func7, Tryz.ntmps7
  go_wp2_with (first | (go_at_call 29; (with_reducible refine (spec_paAsked.calls k a0 a1 false _ A4.out).mono ?_); rintro e w' ⟨rfl, ⟨nd, rfl⟩⟩; (try first | exact ⟨rfl, _, dn_⟩ | exact ⟨rfl, _, dm_⟩)))
  repeat (go_quiet (first | (go_at_call 29; (with_reducible refine (spec_paAsked.calls k a0 a1 false _ A4.out).mono ?_); rintro e w' ⟨rfl, ⟨nd, rfl⟩⟩; (try first | exact ⟨rfl, _, dn_⟩ | exact ⟨rfl, _, dm_⟩))); try go_wp2_with (first | (go_at_call 29; (with_reducible refine (spec_paAsked.calls k a0 a1 false _ A4.out).mono ?_); rintro e w' ⟨rfl, ⟨nd, rfl⟩⟩; (try first | exact ⟨rfl, _, dn_⟩ | exact ⟨rfl, _, dm_⟩))))
  go_ret2
  exact ⟨by first | rfl | (simp; done) | (simp [*]; done), by repeat (first | exact Drawn0.refl _ | apply Drawn0.step)⟩

 subst c5
 rw [if_pos rfl] at H
 replace H := Option.bind_eq_some_iff.mp H
 obtain ⟨t253, A60, H⟩ := H
 (try dsimp only at H)
 have A6 := Aside0.mk A60
 clear A60
 by_cases c7 : t253 = true
 rotate_left
 ·replace c7 := Bool.eq_false_iff.mpr c7
  subst c7
  rw [if_neg (show ¬ (false = true) by decide)] at H
  simp only [Option.some.injEq, Prod.mk.injEq] at H
  obtain ⟨rfl, rfl⟩ := H
  go_enter Tryz.func7, Tryz.ntmps7
  go_wp2_with (first | (go_at_call 29; (with_reducible refine (spec_paAsked.calls k a0 a1 true _ A4.out).mono ?_); rintro e w' ⟨rfl, ⟨nd, rfl⟩⟩; (try first | exact ⟨rfl, _, dn_⟩ | exact ⟨rfl, _, dm_⟩)) | (go_at_call 30; (with_reducible refine (spec_l1In.calls a2 0 (wrap64 ((a1.size : Int) - 1)) false _ A6.out).mono ?_); rintro e w' ⟨rfl, ⟨nd, rfl⟩⟩; (try first | exact ⟨rfl, _, dn_⟩ | exact ⟨rfl, _, dm_⟩)))
  repeat (go_quiet (first | (go_at_call 29; (with_reducible refine (spec_paAsked.calls k a0 a1 true _ A4.out).mono ?_); rintro e w' ⟨rfl, ⟨nd, rfl⟩⟩; (try first | exact ⟨rfl, _, dn_⟩ | exact ⟨rfl, _, dm_⟩)) | (go_at_call 30; (with_reducible refine (spec_l1In.calls a2 0 (wrap64 ((a1.size : Int) - 1)) false _ A6.out).mono ?_); rintro e w' ⟨rfl, ⟨nd, rfl⟩⟩; (try first | exact ⟨rfl, _, dn_⟩ | exact ⟨rfl, _, dm_⟩))); try go_wp2_with (first | (go_at_call 29; (with_reducible refine (spec_paAsked.calls k a0 a1 true _ A4.out).mono ?_); rintro e w' ⟨rfl, ⟨nd, rfl⟩⟩; (try first | exact ⟨rfl, _, dn_⟩ | exact ⟨rfl, _, dm_⟩)) | (go_at_call 30; (with_reducible refine (spec_l1In.calls a2 0 (wrap64 ((a1.size : Int) - 1)) false _ A6.out).mono ?_); rintro e w' ⟨rfl, ⟨nd, rfl⟩⟩; (try first | exact ⟨rfl, _, dn_⟩ | exact ⟨rfl, _, dm_⟩))))
  go_ret2
  exact ⟨by first | rfl | (simp; done) | (simp [*]; done), by repeat (first | exact Drawn0.refl _ | apply Drawn0.step)⟩
 subst c7
 rw [if_pos rfl] at H
 by_cases c8 : 0 ≤ a2
 rotate_left
 ·rw [if_neg c8] at H
  exact absurd H (by simp)
 rw [if_pos c8] at H
 have c8b0 := eq_true c8
 have c8b1 : decide (0 ≤ a2) = true := decide_eq_true c8
 clear c8
 by_cases c9 : a2 ≤ (a1.size : Int)
 rotate_left
 ·rw [if_neg c9] at H
  exact absurd H (by simp)
 rw [if_pos c9] at H
 have c9b0 := eq_true c9
 have c9b1 : decide (a2 ≤ (a1.size : Int)) = true := decide_eq_true c9
 clear c9
 have c10b0 := eq_true (of_decide_eq_true (by assumption) : 0 ≤ a2)
 have c11b0 := eq_true (of_decide_eq_true (by assumption) : a2 ≤ (a1.size : Int))
 by_cases c12 : (a1.extract (a2 : Int).toNat a1.size).size + (a1.extract 0 (a2 : Int).toNat).size ≤ 9223372036854775807
 rotate_left
 ·rw [if_neg c12] at H
  exact absurd H (by simp)
 rw [if_pos c12] at H
 have c12b0 := eq_true c12
 have c12b1 : decide ((a1.extract (a2 : Int).toNat a1.size).size + (a1.extract 0 (a2 : Int).toNat).size ≤ 9223372036854775807) = true := decide_eq_true c12
 try have c12b2 : (9223372036854775807 < (a1.extract (a2 : Int).toNat a1.size).size + (a1.extract 0 (a2 : Int).toNat).size) = False := eq_false (Nat.not_lt.2 c12)
 simp only [Option.some.injEq, Prod.mk.injEq] at H
 obtain ⟨rfl, rfl⟩ := H
 go_enter Tryz.func7, Tryz.ntmps7
 go_wp2_with (first | (go_at_call 29; (with_reducible refine (spec_paAsked.calls k a0 a1 true _ A4.out).mono ?_); rintro e w' ⟨rfl, ⟨nd, rfl⟩⟩; (try first | exact ⟨rfl, _, dn_⟩ | exact ⟨rfl, _, dm_⟩)) | (go_at_call 30; (with_reducible refine (spec_l1In.calls a2 0 (wrap64 ((a1.size : Int) - 1)) true _ A6.out).mono ?_); rintro e w' ⟨rfl, ⟨nd, rfl⟩⟩; (try first | exact ⟨rfl, _, dn_⟩ | exact ⟨rfl, _, dm_⟩)))
 repeat (go_quiet (first | (go_at_call 29; (with_reducible refine (spec_paAsked.calls k a0 a1 true _ A4.out).mono ?_); rintro e w' ⟨rfl, ⟨nd, rfl⟩⟩; (try first | exact ⟨rfl, _, dn_⟩ | exact ⟨rfl, _, dm_⟩)) | (go_at_call 30; (with_reducible refine (spec_l1In.calls a2 0 (wrap64 ((a1.size : Int) - 1)) true _ A6.out).mono ?_); rintro e w' ⟨rfl, ⟨nd, rfl⟩⟩; (try first | exact ⟨rfl, _, dn_⟩ | exact ⟨rfl, _, dm_⟩))); try go_wp2_with (first | (go_at_call 29; (with_reducible refine (spec_paAsked.calls k a0 a1 true _ A4.out).mono ?_); rintro e w' ⟨rfl, ⟨nd, rfl⟩⟩; (try first | exact ⟨rfl, _, dn_⟩ | exact ⟨rfl, _, dm_⟩)) | (go_at_call 30; (with_reducible refine (spec_l1In.calls a2 0 (wrap64 ((a1.size : Int) - 1)) true _ A6.out).mono ?_); rintro e w' ⟨rfl, ⟨nd, rfl⟩⟩; (try first | exact ⟨rfl, _, dn_⟩ | exact ⟨rfl, _, dm_⟩))))
 go_ret2
 exact ⟨by first | rfl | (simp; done) | (simp [*]; done), by repeat (first | exact Drawn0.refl _ | apply Drawn0.step)⟩
/-! ### given: 61a_heapTwo.tpl -/
theorem heap_two (w : World) (A B : Obj) : ((w.alloc A).alloc B).heap[w.heap.size + 1]? = some B := by
  have e : (w.alloc A).heap.size = w.heap.size + 1 := by simp
  rw [← e]
  exact Array.getElem?_push_size

/-! ### given: 61_walkerDo.tpl -/
/-- What a step in a direction adds. -/
def wayX (g d : Int) : Int := if g = 4 then (if d = 0 then 1 else if d = 2 then -1 else 0) else (if d = 0 then 1 else if d = 2 then -1 else if d = 3 then -1 else if d = 5 then 1 else 0)
def wayY (g d : Int) : Int := if g = 4 then (if d = 1 then 1 else if d = 3 then -1 else 0) else (if d = 1 then 1 else if d = 2 then 1 else if d = 4 then -1 else if d = 5 then -1 else 0)
/-- A walker behind a sign. -/
def doW (x y d g c : Int) : Int × Int × Int := if c = 70 then (x + wayX g d, y + wayY g d, d) else if c = 76 then (x, y, (d + 1) % g) else if c = 82 then (x, y, (d + g - 1) % g) else (x, y, d)
def inW (x y d g : Int) : Prop := (g = 4 ∨ g = 6) ∧ 0 ≤ d ∧ d < g ∧ -1000000000 ≤ x ∧ x ≤ 1000000000 ∧ -1000000000 ≤ y ∧ y ≤ 1000000000
instance (x y d g : Int) : Decidable (inW x y d g) := by unfold inW; infer_instance
def impl_walker_do.f (x : Int) (y : Int) (d : Int) (g : Int) (c : Int) : Option (Int × Int × Int) := if inW x y d g then some (doW x y d g c) else none
theorem w64 {x : Int} (h : -9000000000000000000 ≤ x) (h2 : x ≤ 9000000000000000000) : wrap64 x = x := by unfold wrap64; omega
set_option maxHeartbeats 8000000 in
set_option maxRecDepth 100000 in
theorem impl_walker_do.calls (a0_0 : Int) (a0_1 : Int) (a0_2 : Int) (a1 : Int) (a2 : Int) (r1 : Int) (r2 : Int) (r3 : Int) (w : World) (h : impl_walker_do.f a0_0 a0_1 a0_2 a1 a2 = some (r1, r2, r3)) :
    Calls Tryz.prog 44 #[.agg #[.int .i64 a0_0, .int .i64 a0_1, .int .i64 a0_2], .int .i64 a1, .int .u8 a2] w fun e w' => e = .returned (.agg #[.int .i64 r1, .int .i64 r2, .int .i64 r3]) ∧ Below w.heap.size w w' := by
  unfold impl_walker_do.f at h
  by_cases hs : inW a0_0 a0_1 a0_2 a1
  · rw [if_pos hs] at h
    have h := Option.some.inj h
    have hu1 := Tryz.underlying51
    have hcs : a2 = 70 ∨ a2 = 76 ∨ a2 = 82 ∨ (a2 ≠ 70 ∧ a2 ≠ 76 ∧ a2 ≠ 82) := by omega
    unfold inW at hs
    have x0 : wrap64 a0_0 = a0_0 := w64 (by omega) (by omega)
    have x1 : wrap64 (a0_0 + 1) = a0_0 + 1 := w64 (by omega) (by omega)
    have x2 : wrap64 (a0_0 + -1) = a0_0 + -1 := w64 (by omega) (by omega)
    have y0 : wrap64 a0_1 = a0_1 := w64 (by omega) (by omega)
    have y1 : wrap64 (a0_1 + 1) = a0_1 + 1 := w64 (by omega) (by omega)
    have y2 : wrap64 (a0_1 + -1) = a0_1 + -1 := w64 (by omega) (by omega)
    rcases hcs with rfl | rfl | rfl | hcs
    · have hds : (a1 = 4 ∧ (a0_2 = 0 ∨ a0_2 = 1 ∨ a0_2 = 2 ∨ a0_2 = 3)) ∨ (a1 = 6 ∧ (a0_2 = 0 ∨ a0_2 = 1 ∨ a0_2 = 2 ∨ a0_2 = 3 ∨ a0_2 = 4 ∨ a0_2 = 5)) := by omega
      have X := Aside0.mk (And.intro x0 (And.intro x1 (And.intro x2 (And.intro y0 (And.intro y1 y2)))))
      clear x0 x1 x2 y0 y1 y2 hs
      rcases hds with ⟨rfl, hd | hd | hd | hd⟩ | ⟨rfl, hd | hd | hd | hd | hd | hd⟩
      all_goals
        subst hd
        simp (config := { decide := true }) only [doW, wayX, wayY, if_true, if_false, Prod.mk.injEq, Int.add_zero] at h
        have H := Aside0.mk h
        clear h
        go_enter Tryz.func44, Tryz.ntmps44
        go_wp2
        go_region
        all_goals go_wp2
        go_region
        all_goals go_wp2
        all_goals
          obtain ⟨x0, x1, x2, y0, y1, y2⟩ := X.out
          obtain ⟨rfl, rfl, rfl⟩ := H.out
          simp only [x0, x1, x2, y0, y1, y2]
          refine bodyPost_ret (results_cell_row rfl _ _ (w.heap.size + 1) 51 _ (0, 0) _ rfl (by
            (with_reducible repeat (first | refine blk_drewN ?_ _ | refine blk_drew ?_))
            first | exact heap_two _ _ _ | exact blk_alloc (heap_two _ _ _) _ | exact blk_alloc (blk_alloc (heap_two _ _ _) _) _) Tryz.underlying51 rfl (by kernel_rfl)) rfl ⟨rfl, ?_⟩
          repeat (first | exact Below.refl _ _ | (with_reducible first | apply below_alloc | apply pw_below_drewN | apply below_drew1 | refine below_set ?_ (by omega)))
    · have X := Aside0.mk (show wrap64 (a0_2 + 1) = a0_2 + 1 ∧ Int.tmod (a0_2 + 1) a1 = (a0_2 + 1) % a1 ∧ wrap64 ((a0_2 + 1) % a1) = (a0_2 + 1) % a1 by
        rcases hs.1 with rfl | rfl
        all_goals
          exact ⟨w64 (by omega) (by omega), Int.tmod_eq_emod_of_nonneg (by omega), w64 (by omega) (by omega)⟩)
      clear x0 x1 x2 y0 y1 y2
      simp (config := { decide := true }) only [doW, if_true, if_false, Prod.mk.injEq] at h
      have H := Aside0.mk h
      clear h
      rcases hs.1 with rfl | rfl
      all_goals
        go_enter Tryz.func44, Tryz.ntmps44
        go_wp2
        obtain ⟨x0, x1, x2⟩ := X.out
        obtain ⟨rfl, rfl, rfl⟩ := H.out
        try simp only [x0, x1, x2]
        refine bodyPost_ret (results_cell_row rfl _ _ (w.heap.size + 1) 51 _ (0, 0) _ rfl (by
          (with_reducible repeat (first | refine blk_drewN ?_ _ | refine blk_drew ?_))
          first | exact heap_two _ _ _ | exact blk_alloc (heap_two _ _ _) _ | exact blk_alloc (blk_alloc (heap_two _ _ _) _) _) Tryz.underlying51 rfl (by kernel_rfl)) rfl ⟨rfl, ?_⟩
        repeat (first | exact Below.refl _ _ | (with_reducible first | apply below_alloc | apply pw_below_drewN | apply below_drew1 | refine below_set ?_ (by omega)))
    · have X := Aside0.mk (show wrap64 (a0_2 + a1) = a0_2 + a1 ∧ wrap64 (a0_2 + a1 - 1) = a0_2 + a1 - 1 ∧ Int.tmod (a0_2 + a1 - 1) a1 = (a0_2 + a1 - 1) % a1 ∧ wrap64 ((a0_2 + a1 - 1) % a1) = (a0_2 + a1 - 1) % a1 by
        rcases hs.1 with rfl | rfl
        all_goals
          exact ⟨w64 (by omega) (by omega), w64 (by omega) (by omega), Int.tmod_eq_emod_of_nonneg (by omega), w64 (by omega) (by omega)⟩)
      clear x0 x1 x2 y0 y1 y2
      simp (config := { decide := true }) only [doW, if_true, if_false, Prod.mk.injEq] at h
      have H := Aside0.mk h
      clear h
      rcases hs.1 with rfl | rfl
      all_goals
        go_enter Tryz.func44, Tryz.ntmps44
        go_wp2
        obtain ⟨x0, x1, x2, x3⟩ := X.out
        obtain ⟨rfl, rfl, rfl⟩ := H.out
        try simp only [x0, x1, x2, x3]
        refine bodyPost_ret (results_cell_row rfl _ _ (w.heap.size + 1) 51 _ (0, 0) _ rfl (by
          (with_reducible repeat (first | refine blk_drewN ?_ _ | refine blk_drew ?_))
          first | exact heap_two _ _ _ | exact blk_alloc (heap_two _ _ _) _ | exact blk_alloc (blk_alloc (heap_two _ _ _) _) _) Tryz.underlying51 rfl (by kernel_rfl)) rfl ⟨rfl, ?_⟩
        repeat (first | exact Below.refl _ _ | (with_reducible first | apply below_alloc | apply pw_below_drewN | apply below_drew1 | refine below_set ?_ (by omega)))
    · clear x0 x1 x2 y0 y1 y2
      have k0 : (a2 == 70) = false := by simp [hcs.1]
      have k1 : (a2 == 76) = false := by simp [hcs.2.1]
      have k2 : (a2 == 82) = false := by simp [hcs.2.2]
      unfold doW at h
      rw [if_neg hcs.1, if_neg hcs.2.1, if_neg hcs.2.2] at h
      simp only [Prod.mk.injEq] at h
      have H := Aside0.mk h
      clear h
      rcases hs.1 with rfl | rfl
      all_goals
        go_enter Tryz.func44, Tryz.ntmps44
        go_wp2
        obtain ⟨rfl, rfl, rfl⟩ := H.out
        refine bodyPost_ret (results_cell_row rfl _ _ (w.heap.size + 1) 51 _ (0, 0) _ rfl (by
          (with_reducible repeat (first | refine blk_drewN ?_ _ | refine blk_drew ?_))
          first | exact heap_two _ _ _ | exact blk_alloc (heap_two _ _ _) _ | exact blk_alloc (blk_alloc (heap_two _ _ _) _) _) Tryz.underlying51 rfl (by kernel_rfl)) rfl ⟨rfl, ?_⟩
        repeat (first | exact Below.refl _ _ | (with_reducible first | apply below_alloc | apply pw_below_drewN | apply below_drew1 | refine below_set ?_ (by omega)))
  · rw [if_neg hs] at h; cases h

end Go.Proofs.YtfpjakkjkakjoaaGreatDoor.P
