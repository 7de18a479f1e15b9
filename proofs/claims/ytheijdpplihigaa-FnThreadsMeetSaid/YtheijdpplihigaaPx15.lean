/- A part of this seat's proofs: contracts of the translated functions, written by the session's own program (gp.py) out of the kit's print.py and the session's own contracts; no conditions of its own. -/
import Derived.Test.YtheijdpplihigaaPx0
import Derived.Test.YtheijdpplihigaaPx2
import Derived.Test.YtheijdpplihigaaPx4
import Derived.Test.YtheijdpplihigaaPx13
import Derived.Test.YtheijdpplihigaaPx14
namespace Go.Proofs.Ytheijdpplihigaa.P
open Go.RowKit Go.Proofs.YtheijdpplihigaaW.PrintWords Go.Proofs.YtheijdpplihigaaW.PrintLast Go.Proofs.YtheijdpplihigaaW.PrintMore
attribute [local go_sem] max2_int min2_int max_two min_two max_three min_three max_four min_four   -- for this text's walks alone
set_option linter.unusedVariables false
set_option linter.unusedSimpArgs false

/-! ### spec_MeetingsOnThread: function 15 -/
mutual
def spec_MeetingsOnThread.j0 : Nat → List (S25) → Int → Bool → Option (List Int × Bool)
 | 0, _, _, _ => none
 | k + 1, x0, x1, x23 => if x23 = true then (some (([] : List Int), false)) else (spec_MeetingsOnThread.l0 k x0 x1 ([] : List Int) x0 (x0.length : Int) 0)
def spec_MeetingsOnThread.l0 : Nat → List (S25) → Int → List Int → List (S25) → Int → Int → Option (List Int × Bool)
 | 0, _, _, _, _, _, _ => none
 | k + 1, x0, x1, x6, x24, x25, x26 => if x26 < x25 then (if 0 ≤ x26 then (if x26 < (x24.length : Int) then (if 0 ≤ x1 then (if x1 < (x0.length : Int) then ((spec_sgMeet.f ((rd_T25 x0 x1).f0) ((rd_T25 x0 x1).f1) ((rd_T25 x24 x26).f0) ((rd_T25 x24 x26).f1)).bind fun t366 => (if t366 = true then ((spec_sgMeeting.f ((rd_T25 x0 x1).f0) ((rd_T25 x0 x1).f1) ((rd_T25 x24 x26).f0) ((rd_T25 x24 x26).f1)).bind fun t368 => (spec_MeetingsOnThread.l1 k x0 x1 x6 x26 t368 (x6.length : Int) x24 x25 x26)) else (spec_MeetingsOnThread.l0 k x0 x1 x6 x24 x25 (wrap64 (x26 + 1))))) else (none)) else (none)) else (none)) else (none)) else (some (x6, true))
def spec_MeetingsOnThread.l1 : Nat → List (S25) → Int → List Int → Int → List Int → Int → List (S25) → Int → Int → Option (List Int × Bool)
 | 0, _, _, _, _, _, _, _, _, _ => none
 | k + 1, x0, x1, x6, x7, x9, x10, x24, x25, x26 => if x10 > 0 then (if 0 ≤ x1 then (if x1 < (x0.length : Int) then (if 0 ≤ (wrap64 (x10 - 1)) then (if (wrap64 (x10 - 1)) < (x6.length : Int) then (if 0 ≤ (rd x6 (wrap64 (x10 - 1))) then (if (rd x6 (wrap64 (x10 - 1))) < (x0.length : Int) then ((spec_sgMeeting.f ((rd_T25 x0 x1).f0) ((rd_T25 x0 x1).f1) ((rd_T25 x0 (rd x6 (wrap64 (x10 - 1)))).f0) ((rd_T25 x0 (rd x6 (wrap64 (x10 - 1)))).f1)).bind fun t374 => (if 0 < (t374.length : Int) then (if 1 < (x9.length : Int) then (if 0 < (x9.length : Int) then (if 1 < (t374.length : Int) then (if (wrap64 ((rd t374 0) * (rd x9 1))) ≤ (wrap64 ((rd x9 0) * (rd t374 1))) then (if 0 ≤ x10 then (if x10 ≤ (x6.length : Int) then ((spec_l1Own.f (x6.take (x10 : Int).toNat)).bind fun t385 => (if t385.length < 17592186044416 then ((some (t385 ++ [x7] : List Int)).bind fun y388 => ((some (x6.drop (x10 : Int).toNat : List Int)).bind fun y391 => (if y388.length + y391.length < 17592186044416 then (spec_MeetingsOnThread.l0 k x0 x1 (y388 ++ y391) x24 x25 (wrap64 (x26 + 1))) else (none)))) else (none))) else (none)) else (none)) else (spec_MeetingsOnThread.l1 k x0 x1 x6 x7 x9 (wrap64 (x10 - 1)) x24 x25 x26)) else (none)) else (none)) else (none)) else (none))) else (none)) else (none)) else (none)) else (none)) else (none)) else (none)) else (if 0 ≤ x10 then (if x10 ≤ (x6.length : Int) then ((spec_l1Own.f (x6.take (x10 : Int).toNat)).bind fun t402 => (if t402.length < 17592186044416 then ((some (t402 ++ [x7] : List Int)).bind fun y405 => ((some (x6.drop (x10 : Int).toNat : List Int)).bind fun y408 => (if y405.length + y408.length < 17592186044416 then (spec_MeetingsOnThread.l0 k x0 x1 (y405 ++ y408) x24 x25 (wrap64 (x26 + 1))) else (none)))) else (none))) else (none)) else (none))
end
def spec_MeetingsOnThread.f (k : Nat) (l0 : List (S25)) (a1 : Int) : Option (List Int × Bool) := (spec_sgGood.f k l0).bind fun t361 => (if t361 = true then ((spec_l1In.f a1 0 (wrap64 ((l0.length : Int) - 1))).bind fun t362 => (spec_MeetingsOnThread.j0 k l0 a1 (!t362))) else (spec_MeetingsOnThread.j0 k l0 a1 true))
theorem spec_MeetingsOnThread.mono_l : ∀ k, (∀ y0 y1 y2, LeO (spec_MeetingsOnThread.j0 k y0 y1 y2) (spec_MeetingsOnThread.j0 (k + 1) y0 y1 y2)) ∧ (∀ y0 y1 y2 y3 y4 y5, LeO (spec_MeetingsOnThread.l0 k y0 y1 y2 y3 y4 y5) (spec_MeetingsOnThread.l0 (k + 1) y0 y1 y2 y3 y4 y5)) ∧ (∀ y0 y1 y2 y3 y4 y5 y6 y7 y8, LeO (spec_MeetingsOnThread.l1 k y0 y1 y2 y3 y4 y5 y6 y7 y8) (spec_MeetingsOnThread.l1 (k + 1) y0 y1 y2 y3 y4 y5 y6 y7 y8))
 | 0 => ⟨fun _ _ _ r h => by simp [spec_MeetingsOnThread.j0] at h, fun _ _ _ _ _ _ r h => by simp [spec_MeetingsOnThread.l0] at h, fun _ _ _ _ _ _ _ _ _ r h => by simp [spec_MeetingsOnThread.l1] at h⟩
 | k + 1 => by
  obtain ⟨ih0, ih1, ih2⟩ := spec_MeetingsOnThread.mono_l k
  refine ⟨?_, ?_, ?_⟩
  all_goals (intros; first | unfold spec_MeetingsOnThread.j0 | unfold spec_MeetingsOnThread.l0 | unfold spec_MeetingsOnThread.l1)
  all_goals repeat' with_reducible first | apply ih0 | apply ih1 | apply ih2 | apply spec_sgGood.mono | exact LeO.refl _ | exact LeO.none _ | refine LeO.ite ?_ ?_ | refine LeO.bind ?_ (fun _ => ?_)
theorem spec_MeetingsOnThread.mono : ∀ a0 a1 k, LeO (spec_MeetingsOnThread.f k a0 a1) (spec_MeetingsOnThread.f (k + 1) a0 a1) := by
 intro a0 a1 k
 obtain ⟨ih0, ih1, ih2⟩ := spec_MeetingsOnThread.mono_l k
 unfold spec_MeetingsOnThread.f
 repeat' with_reducible first | apply ih0 | apply ih1 | apply ih2 | apply spec_sgGood.mono | exact LeO.refl _ | exact LeO.none _ | refine LeO.ite ?_ ?_ | refine LeO.bind ?_ (fun _ => ?_)
def spec_MeetingsOnThread.T11 : Bool × List (List Nat × List Nat) := (true, [([], []), ([], []), ([0, 1], [0, 1]), ([2], [2]), ([], []), ([], []), ([], []), ([6], [6]), ([5, 7], [5, 7]), ([8], [8]), ([4, 9], [4, 9]), ([10], [10]), ([3, 11], [3, 11]), ([12, 12, 0, 1, 2, 3, 4, 5, 6, 7, 8, 9, 10, 11, 12], [12])])
def spec_MeetingsOnThread.B11 : List Nat := [0, 0, 3, 7, 0, 0, 0, 64, 224, 480, 1008, 2032, 4095, 8191]
theorem spec_MeetingsOnThread.tab11 : rtab .any (opsOf Try.f15 11) = spec_MeetingsOnThread.T11 := by kernel_rfl
theorem spec_MeetingsOnThread.bits11 : waitsOk spec_MeetingsOnThread.T11.2 spec_MeetingsOnThread.B11 = true := by kernel_rfl
def spec_MeetingsOnThread.T12 : Bool × List (List Nat × List Nat) := (true, [([], []), ([0], [0]), ([1], [1]), ([], []), ([3], [3]), ([4], [4]), ([2, 5], [2, 5]), ([], []), ([7], [7]), ([8], [8]), ([], []), ([10], [10]), ([11], [11]), ([9, 12], [9, 12]), ([6, 13], [6, 13])])
def spec_MeetingsOnThread.B12 : List Nat := [0, 1, 3, 0, 8, 24, 63, 0, 128, 384, 0, 1024, 3072, 8064, 16383]
theorem spec_MeetingsOnThread.tab12 : rtab .any (opsOf Try.f15 12) = spec_MeetingsOnThread.T12 := by kernel_rfl
theorem spec_MeetingsOnThread.bits12 : waitsOk spec_MeetingsOnThread.T12.2 spec_MeetingsOnThread.B12 = true := by kernel_rfl
set_option maxHeartbeats 8000000 in
set_option maxRecDepth 100000 in
theorem spec_MeetingsOnThread.calls (k : Nat) (A0 : Option Addr) (c0 : Nat) (l0 : List (S25)) (a1 : Int) (r1 : List Int) (r2 : Bool) (w : World) (hr0 : Kd.C k25 w A0 l0.length l0) (hc0 : l0.length ≤ c0) (h : spec_MeetingsOnThread.f k l0 a1 = some (r1, r2)) :
  Calls Try.prog 15 #[.slice A0 l0.length c0, .int .i64 a1] w fun e w' => ∃ v0_ : Value, e = .returned (.tuple #[v0_, .bool r2]) ∧ Kd.R (Kd.int .i64) 3 w' w.heap.size (fun _ => True) v0_ r1 ∧ Below w.heap.size w w' := by
 have hu25 := Try.underlying25
 have HR0 := Aside0.mk hr0
 have HC0 := Aside0.mk hc0
 clear hr0 hc0
 have HB := Aside0.mk (Below.refl w.heap.size w)
 have H : ((spec_sgGood.f k l0).bind fun t361 => (if t361 = true then ((spec_l1In.f a1 0 (wrap64 ((l0.length : Int) - 1))).bind fun t362 => (spec_MeetingsOnThread.j0 k l0 a1 (!t362))) else (spec_MeetingsOnThread.j0 k l0 a1 true))) = some (r1, r2) := h
 clear h
 have HC3 := Aside0.mk H
 clear H
 go_enter Try.func15, Try.ntmps15
 go_upto_region 1 with (fail)
 go_cut [23] (fun v23 wc => ∃ (kq : Nat) (x23_2 : Bool), v23 = .bool x23_2 ∧ Aside0 (spec_MeetingsOnThread.j0 kq l0 a1 x23_2 = some (r1, r2)) ∧ Aside0 (kq ≤ k) ∧ Aside0 (Below w.heap.size w wc))
 case first =>
  have H := HC3.out
  clear HC3
  replace H := Option.bind_eq_some_iff.mp H
  obtain ⟨t361, A40, H⟩ := H
  (try dsimp only at H)
  have A4 := Aside0.mk A40
  clear A40
  by_cases c5 : t361 = true
  ·subst c5
   rw [if_pos rfl] at H
   replace H := Option.bind_eq_some_iff.mp H
   obtain ⟨t362, A60, H⟩ := H
   replace H : (spec_MeetingsOnThread.j0 k l0 a1 (!t362)) = some (r1, r2) := H
   have A6 := Aside0.mk A60
   clear A60
   have H' := Aside0.mk H
   clear H
   go_wp2_with (first | ((with_reducible refine gate_callee (f := 47) rfl ?_); refine gl_ (some 14) Try.func47 #[.slice A0 l0.length c0] ?_; (with_reducible refine (spec_sgGood.calls k _ _ l0 true _ ?side1 ?side2 A4.out).mono ?_); (case side1 => repeat (first | exact (Kd.C_below HR0.out HB.out) | (with_reducible refine Kd.C_alloc ?_ _) | (with_reducible refine Kd.C_drewN ?_ _) | (with_reducible refine Kd.C_drew ?_))); (case side2 => exact HC0.out); rintro e w7 ⟨rfl, hb⟩; refine ⟨_, rfl, ?_⟩; have n0_ := Aside0.mk (bs_ hb); clear HB; have HB := n0_; clear n0_; (try clear hb)) | (go_at_call 48; (with_reducible refine (spec_l1In.calls a1 0 (wrap64 ((l0.length : Int) - 1)) t362 _ A6.out).mono ?_); rintro e w' ⟨rfl, ⟨nd, rfl⟩⟩))
   go_meet
   case rel => exact ⟨_, (!t362), (by first | rfl | (simp; done) | (simp [*]; done)), H', ⟨by first | omega | exact Nat.le_refl _⟩, ⟨bb_⟩⟩
  ·replace c5 := Bool.eq_false_iff.mpr c5
   subst c5
   rw [if_neg (show ¬ (false = true) by decide)] at H
   have H' := Aside0.mk H
   clear H
   go_wp2_with (first | ((with_reducible refine gate_callee (f := 47) rfl ?_); refine gl_ (some 14) Try.func47 #[.slice A0 l0.length c0] ?_; (with_reducible refine (spec_sgGood.calls k _ _ l0 false _ ?side1 ?side2 A4.out).mono ?_); (case side1 => repeat (first | exact (Kd.C_below HR0.out HB.out) | (with_reducible refine Kd.C_alloc ?_ _) | (with_reducible refine Kd.C_drewN ?_ _) | (with_reducible refine Kd.C_drew ?_))); (case side2 => exact HC0.out); rintro e w8 ⟨rfl, hb⟩; refine ⟨_, rfl, ?_⟩; have n0_ := Aside0.mk (bs_ hb); clear HB; have HB := n0_; clear n0_; (try clear hb)))
   go_meet
   case rel => exact ⟨_, (true), (by first | rfl | (simp; done) | (simp [*]; done)), H', ⟨by first | omega | exact Nat.le_refl _⟩, ⟨bb_⟩⟩
 case rest =>
  clear HC3
  (try clear c1); (try clear p2); (try clear c4); (try clear c5); (try clear p6)
  obtain ⟨kq, x23_2, rfl, HA, HJ2, HB⟩ := hcut
  cases kq with
  | zero => exact absurd HA.out (by simp [spec_MeetingsOnThread.j0])
  | succ kj2 =>
   have H := HA.out
   clear HA
   simp only [spec_MeetingsOnThread.j0] at H
   by_cases c9 : x23_2 = true
   ·subst c9
    rw [if_pos rfl] at H
    simp only [Option.some.injEq, Prod.mk.injEq] at H
    obtain ⟨rfl, rfl⟩ := H
    go_wp2
    go_ret2
    exact ⟨_, by first | rfl | (simp [errW_none, errW_some] <;> rfl) | (simp [*, errW_none, errW_some] <;> rfl), by first | exact Kd.R_nil _ _ _ _ _ | exact Kd.N_nil _ _ _ _ _ | exact Kd.V_nil _ _ _ _ _ | exact Kd.Q_nil _ _ _ _ _ | exact Kd.S_nil _ _ _ _ _, bb_⟩
   replace c9 := Bool.eq_false_iff.mpr c9
   subst c9
   rw [if_neg (show ¬ (false = true) by decide)] at H
   have H' := Aside0.mk H
   clear H
   go_wp2
   go_loopg [6, 26] kj2 (fun kq v6 v26 w' => ∃ (x6_2 : List Int) (x26_2 : Int), v26 = .int .i64 x26_2 ∧ Aside0 (spec_MeetingsOnThread.l0 kq l0 a1 x6_2 l0 (l0.length : Int) x26_2 = some (r1, r2)) ∧ Aside0 (kq ≤ kj2) ∧ Aside0 (Kd.R (Kd.int .i64) 3 w' w.heap.size (fun _ => True) v6 x6_2) ∧ Aside0 (Below w.heap.size w w'))
   case atStart => exact ⟨(([] : List Int)), (0), (by first | rfl | (simp; done) | (simp [*]; done)), H', ⟨Nat.le_refl _⟩, ⟨by first | exact Kd.R_nil _ _ _ _ _ | exact Kd.N_nil _ _ _ _ _ | exact Kd.V_nil _ _ _ _ _ | exact Kd.Q_nil _ _ _ _ _ | exact Kd.S_nil _ _ _ _ _⟩, ⟨bb_⟩⟩
   case round =>
    clear H'
    (try clear c1); (try clear p2); (try clear c4); (try clear c5); (try clear p6); (try clear c9); (try clear p2); (try clear p6)
    obtain ⟨x6_2, x26_2, rfl, HA, HK2, HO_6, HB⟩ := hrel
    cases gk with
    | zero => exact absurd HA.out (by simp [spec_MeetingsOnThread.l0])
    | succ k2 =>
     have H := HA.out
     clear HA
     simp only [spec_MeetingsOnThread.l0] at H
     by_cases c10 : x26_2 < (l0.length : Int)
     rotate_left
     ·rw [if_neg c10] at H
      have c10b0 : decide (x26_2 < (l0.length : Int)) = false := decide_eq_false c10
      clear c10
      simp only [Option.some.injEq, Prod.mk.injEq] at H
      obtain ⟨rfl, rfl⟩ := H
      go_wp2
      go_ret2
      exact ⟨_, by first | rfl | (simp [errW_none, errW_some] <;> rfl) | (simp [*, errW_none, errW_some] <;> rfl), by (with_reducible repeat (first | apply Kd.R_alloc | apply Kd.R_drewN | apply Kd.R_drew)); exact HO_6.out, bb_⟩

     rw [if_pos c10] at H
     have c10b0 : decide (x26_2 < (l0.length : Int)) = true := decide_eq_true c10
     clear c10
     by_cases c11 : 0 ≤ x26_2
     rotate_left
     ·rw [if_neg c11] at H
      exact absurd H (by simp)
     rw [if_pos c11] at H
     have c11b0 : decide (0 ≤ x26_2) = true := decide_eq_true c11
     clear c11
     by_cases c12 : x26_2 < (l0.length : Int)
     rotate_left
     ·rw [if_neg c12] at H
      exact absurd H (by simp)
     rw [if_pos c12] at H
     have c12b0 : decide (x26_2 < (l0.length : Int)) = true := decide_eq_true c12
     clear c12
     by_cases c13 : 0 ≤ a1
     rotate_left
     ·rw [if_neg c13] at H
      exact absurd H (by simp)
     rw [if_pos c13] at H
     have c13b0 : decide (0 ≤ a1) = true := decide_eq_true c13
     clear c13
     by_cases c14 : a1 < (l0.length : Int)
     rotate_left
     ·rw [if_neg c14] at H
      exact absurd H (by simp)
     rw [if_pos c14] at H
     have c14b0 : decide (a1 < (l0.length : Int)) = true := decide_eq_true c14
     clear c14
     replace H := Option.bind_eq_some_iff.mp H
     obtain ⟨t366, A150, H⟩ := H
     (try dsimp only at H)
     have A15 := Aside0.mk A150
     clear A150
     by_cases c16 : t366 = true
     rotate_left
     ·replace c16 := Bool.eq_false_iff.mpr c16
      subst c16
      rw [if_neg (show ¬ (false = true) by decide)] at H
      have H' := Aside0.mk H
      clear H
      have p363 : 0 ≤ (x26_2 : Int) := of_decide_eq_true (by assumption)
      have q363 : x26_2 < (l0.length : Int) := of_decide_eq_true (by assumption)
      obtain ⟨ad363, e363, hx363_0, hx363_1⟩ := at_T25 HR0.out x26_2 p363 q363
      cases e363
      replace hx363_0 := (HB.out.cell (World.block_lt_of_cell? w _ hx363_0)).trans hx363_0
      replace hx363_1 := (HB.out.cell (World.block_lt_of_cell? w _ hx363_1)).trans hx363_1
      replace p363 := eq_true p363
      replace q363 := eq_true q363
      try go_wp2_with (first | ((with_reducible refine gate_dst (N := 8) rfl ?_); (try (refine gate_guard (by rfl) ?_; dsimp only)); refine box_event ?hg (N := 8) ?hd (cs := #[.int .i64 0, .int .i64 0]) (t := 25) ?hr ?_; (case hd => rfl); (case hg => rfl); (case hr => first | (go_simp; done) | (go_simp; rfl)); intro gb364 hg w74 hbox hb; have n0_ := Aside0.mk (Kd.R_below (ru_ HO_6.out) hb); have n1_ := Aside0.mk (bs_ hb); have n2_ := Aside0.mk (hbox); have n3_ := Aside0.mk ((by rw [hg]; exact bz_ : w.heap.size ≤ gb364)); have n4_ := Aside0.mk ((by rw [hg]; exact bz_ : w.heap.size ≤ gb364)); clear HO_6; clear HB; have HO_6 := n0_; have HB := n1_; have BK364 := n2_; have GW364 := n3_; have GE364 := n4_; clear n0_ n1_ n2_ n3_ n4_; clear hb hbox hg; have hcz75_0 : w74.cell? ⟨gb364, 0, none⟩ = some (.int .i64 0) := (blk_cell BK364.out 0).trans rfl; have hcz75_1 : w74.cell? ⟨gb364, 1, none⟩ = some (.int .i64 0) := (blk_cell BK364.out 1).trans rfl; have hfz75_0 := blk_frozen BK364.out 0; have hfz75_1 := blk_frozen BK364.out 1))
      have n0_ : Aside0 (Kd.R (Kd.int .i64) 3 ((w74.setCell ⟨gb364, 0, none⟩ (.int .i64 ((rd_T25 l0 x26_2).f0))).setCell ⟨gb364, 1, none⟩ (.int .i64 ((rd_T25 l0 x26_2).f1))) w.heap.size (fun _ => True) u6 x6_2) := ⟨by (with_reducible repeat (first | apply Kd.R_alloc | apply Kd.R_drewN | apply Kd.R_drew)); exact Kd.R_mono (Kd.R_far (p := ⟨gb364, 1, none⟩) (Kd.R_far (p := ⟨gb364, 0, none⟩) (Kd.R_types HO_6.out BK364.out (by decide)) (fun _ hk => hk.2) (.int .i64 ((rd_T25 l0 x26_2).f0))) (fun _ hk => hk.2) (.int .i64 ((rd_T25 l0 x26_2).f1))) (fun _ hk => trivial)⟩
      have n1_ : Aside0 (((w74.setCell ⟨gb364, 0, none⟩ (.int .i64 ((rd_T25 l0 x26_2).f0))).setCell ⟨gb364, 1, none⟩ (.int .i64 ((rd_T25 l0 x26_2).f1))).heap[gb364]? = some (.cells #[.int .i64 ((rd_T25 l0 x26_2).f0), .int .i64 ((rd_T25 l0 x26_2).f1)] 25 (0, 0))) := ⟨by (with_reducible repeat (first | refine blk_drewN ?_ _ | refine blk_drew ?_ | refine blk_alloc ?_ _)); refine blk_put (cs := #[.int .i64 ((rd_T25 l0 x26_2).f0), .int .i64 0]) ?_ 1 _ rfl; (with_reducible repeat (first | refine blk_drewN ?_ _ | refine blk_drew ?_ | refine blk_alloc ?_ _)); refine blk_put (cs := #[.int .i64 0, .int .i64 0]) ?_ 0 _ rfl; (with_reducible repeat (first | refine blk_drewN ?_ _ | refine blk_drew ?_ | refine blk_alloc ?_ _)); exact BK364.out⟩
      have n2_ : Aside0 (Below w.heap.size w ((w74.setCell ⟨gb364, 0, none⟩ (.int .i64 ((rd_T25 l0 x26_2).f0))).setCell ⟨gb364, 1, none⟩ (.int .i64 ((rd_T25 l0 x26_2).f1)))) := ⟨by repeat (first | (with_reducible first | apply below_alloc | apply pw_below_drewN | apply below_drew1 | refine below_set ?_ GE364.out) | exact HB.out)⟩
      (try clear HO_6)
      (try clear BK364)
      (try clear HB)
      generalize ((w74.setCell ⟨gb364, 0, none⟩ (.int .i64 ((rd_T25 l0 x26_2).f0))).setCell ⟨gb364, 1, none⟩ (.int .i64 ((rd_T25 l0 x26_2).f1))) = w76 at n0_ n1_ n2_ ⊢
      have HO_6 := n0_
      have BK364 := n1_
      have HB := n2_
      clear n0_ n1_ n2_
      have n0_ := Aside0.mk (Kd.R_drew HO_6.out)
      have n1_ := Aside0.mk (blk_drew BK364.out)
      have n2_ := Aside0.mk (below_drew1 HB.out)
      clear HO_6
      clear BK364
      clear HB
      have HO_6 := n0_
      have BK364 := n1_
      have HB := n2_
      clear n0_ n1_ n2_
      have p365 : 0 ≤ (a1 : Int) := of_decide_eq_true (by assumption)
      have q365 : a1 < (l0.length : Int) := of_decide_eq_true (by assumption)
      obtain ⟨ad365, e365, hx365_0, hx365_1⟩ := at_T25 HR0.out a1 p365 q365
      have hw365_1 := hx365_1
      have hw365_0 := hx365_0
      obtain rfl : ad363 = ad365 := (by injection e365)
      replace hx365_0 := (HB.out.cell (World.block_lt_of_cell? w _ hx365_0)).trans hx365_0
      replace hx365_1 := (HB.out.cell (World.block_lt_of_cell? w _ hx365_1)).trans hx365_1
      replace p365 := eq_true p365
      replace q365 := eq_true q365
      refine start_ (n := 7) (S := fun w' => w'.cell? ⟨gb364, 0, none⟩ = some (.int .i64 ((rd_T25 l0 x26_2).f0)) ∧ w'.cell? ⟨gb364, 1, none⟩ = some (.int .i64 ((rd_T25 l0 x26_2).f1)) ∧ w'.cell? (ad363.add ((a1).toNat * 2)) = some (.int .i64 ((rd_T25 l0 a1).f0)) ∧ w'.cell? ⟨(ad363.add ((a1).toNat * 2)).block, (ad363.add ((a1).toNat * 2)).off + 1, none⟩ = some (.int .i64 ((rd_T25 l0 a1).f1))) (ds := []) #[false, false, false, false, false, false, false] (by kernel_rfl) rfl rfl ⟨(blk_cell BK364.out 0).trans rfl, (blk_cell BK364.out 1).trans rfl, ((HB.out.cell (World.block_lt_of_cell? w _ hw365_0)).trans hw365_0), ((HB.out.cell (World.block_lt_of_cell? w _ hw365_1)).trans hw365_1)⟩ (fun hHeld => ?_)
      generalize w76.drew = w77 at HO_6 BK364 HB hx365_0 hx365_1 hHeld ⊢
      refine pure_ (i := 0) (N := some 31) (v := ?_) (a' := ?_) #[true, false, false, false, false, false, false] rfl rfl (by kernel_rfl) (fun _ _ _ h => h) (Or.inl ⟨by rfl, ?_⟩) ?_ ?_
      rotate_left
      ·intro w'
       go_simp
       with_reducible rfl
      rotate_left
      ·simp only [Act.put, sa_, sb_, sc_, i64_w, i32_w]
       rfl
      refine pure_ (i := 1) (N := some 32) (v := ?_) (a' := ?_) #[true, true, false, false, false, false, false] rfl rfl (by kernel_rfl) (fun _ _ _ h => h) (Or.inl ⟨by rfl, ?_⟩) ?_ ?_
      rotate_left
      ·intro w'
       go_simp
       with_reducible rfl
      rotate_left
      ·simp only [Act.put, sa_, sb_, sc_, i64_w, i32_w]
       rfl
      refine pure_ (i := 2) (N := some 33) (v := ?_) (a' := ?_) #[true, true, true, false, false, false, false] rfl rfl (by kernel_rfl) (fun _ _ _ h => h) (Or.inl ⟨by rfl, ?_⟩) ?_ ?_
      rotate_left
      ·intro w'
       go_simp
       with_reducible rfl
      rotate_left
      ·simp only [Act.put, sa_, sb_, sc_, i64_w, i32_w]
       rfl
      refine take_ (i := 3) (N := some 34) (v := ?_) (a' := ?_) #[true, true, true, true, false, false, false] rfl rfl (by kernel_rfl) (fun _ _ _ h => h) (Or.inl ⟨by rfl, ?_⟩) hHeld ?_ ?_
      rotate_left
      ·rintro w' ⟨s0, s1, s2, s3⟩
       go_simp
       with_reducible rfl
      rotate_left
      ·simp only [Act.put, sa_, sb_, sc_, i64_w, i32_w]
       rfl
      refine take_ (i := 4) (N := some 35) (v := ?_) (a' := ?_) #[true, true, true, true, true, false, false] rfl rfl (by kernel_rfl) (fun _ _ _ h => h) (Or.inl ⟨by rfl, ?_⟩) hHeld ?_ ?_
      rotate_left
      ·rintro w' ⟨s0, s1, s2, s3⟩
       go_simp
       with_reducible rfl
      rotate_left
      ·simp only [Act.put, sa_, sb_, sc_, i64_w, i32_w]
       rfl
      refine one_ (i := 5) (N := some 36) #[true, true, true, true, true, true, false] rfl rfl (by kernel_rfl) (by decide) (fun K hK => ?_)
      refine goes_ Try.func35 (by kernel_rfl) rfl #[.agg #[.int .i64 ((rd_T25 l0 a1).f0), .int .i64 ((rd_T25 l0 a1).f1)], .agg #[.int .i64 ((rd_T25 l0 x26_2).f0), .int .i64 ((rd_T25 l0 x26_2).f1)]] (by rfl) rfl rfl (by (try simp only [List.map_toArray, List.map_cons, List.map_nil]); first | done | rfl | (simp only [List.length_drop, List.length_take]; rfl)) ?_
      with_reducible refine (spec_sgMeet.calls ((rd_T25 l0 a1).f0) ((rd_T25 l0 a1).f1) ((rd_T25 l0 x26_2).f0) ((rd_T25 l0 x26_2).f1) false _ A15.out).mono ?_
      rintro e w78 ⟨rfl, hb⟩
      refine ⟨_, rfl, ?_⟩
      have n0_ := Aside0.mk (Kd.R_below (ru_ HO_6.out) hb)
      have n1_ := Aside0.mk (blk_below (g := gb364) (o := .cells #[.int .i64 ((rd_T25 l0 x26_2).f0), .int .i64 ((rd_T25 l0 x26_2).f1)] 25 (0, 0)) (by (with_reducible repeat (first | refine blk_drewN ?_ _ | refine blk_drew ?_ | refine blk_alloc ?_ _)); exact BK364.out) hb)
      have n2_ := Aside0.mk (below_step (by repeat (first | (with_reducible first | apply below_alloc | apply pw_below_drewN | apply below_drew1 | refine below_set ?_ GE364.out) | exact HB.out)) hb)
      clear HO_6
      clear BK364
      clear HB
      have HO_6 := n0_
      have BK364 := n1_
      have HB := n2_
      clear n0_ n1_ n2_
      (try clear hb)
      (try clear hb2)
      (try clear hk)
      (try clear hi)
      refine hK.out _ _ ⟨(blk_cell BK364.out 0).trans rfl, (blk_cell BK364.out 1).trans rfl, ((HB.out.cell (World.block_lt_of_cell? w _ hw365_0)).trans hw365_0), ((HB.out.cell (World.block_lt_of_cell? w _ hw365_1)).trans hw365_1)⟩ (fun hHeld => ?_)
      clear hK K
      refine norm_ (a' := ?_) ?_ ?_
      rotate_left
      ·show Act.put _ (some 36) _ = _
       simp only [Act.put, sa_, sb_, sc_, i64_w, i32_w]
       rfl
      refine pure_ (i := 6) (N := some 37) (v := ?_) (a' := ?_) #[true, true, true, true, true, true, true] rfl rfl (by kernel_rfl) (fun _ _ _ h => h) (Or.inl ⟨by rfl, ?_⟩) ?_ ?_
      rotate_left
      ·intro w'
       go_simp
       with_reducible rfl
      rotate_left
      ·simp only [Act.put, sa_, sb_, sc_, i64_w, i32_w]
       rfl
      refine done_ (by kernel_rfl) ?_
      try go_wp2
      go_roundg k2
      case measure => have := HJ2.out; have := HK2.out; omega
      case rel => exact ⟨(x6_2), (wrap64 (x26_2 + 1)), (by first | rfl | (simp; done) | (simp [*]; done)), H', ⟨by have := HJ2.out; have := HK2.out; omega⟩, ⟨by (with_reducible repeat (first | apply Kd.R_alloc | apply Kd.R_drewN | apply Kd.R_drew)); exact HO_6.out⟩, ⟨by repeat (first | (with_reducible first | apply below_alloc | apply pw_below_drewN | apply below_drew1 | refine below_set ?_ GE364.out) | exact HB.out)⟩⟩
     subst c16
     rw [if_pos rfl] at H
     replace H := Option.bind_eq_some_iff.mp H
     obtain ⟨t368, A170, H⟩ := H
     (try dsimp only at H)
     have A17 := Aside0.mk A170
     clear A170
     have H' := Aside0.mk H
     clear H
     have p363 : 0 ≤ (x26_2 : Int) := of_decide_eq_true (by assumption)
     have q363 : x26_2 < (l0.length : Int) := of_decide_eq_true (by assumption)
     obtain ⟨ad363, e363, hx363_0, hx363_1⟩ := at_T25 HR0.out x26_2 p363 q363
     cases e363
     replace hx363_0 := (HB.out.cell (World.block_lt_of_cell? w _ hx363_0)).trans hx363_0
     replace hx363_1 := (HB.out.cell (World.block_lt_of_cell? w _ hx363_1)).trans hx363_1
     replace p363 := eq_true p363
     replace q363 := eq_true q363
     try go_wp2_with (first | ((with_reducible refine gate_dst (N := 8) rfl ?_); (try (refine gate_guard (by rfl) ?_; dsimp only)); refine box_event ?hg (N := 8) ?hd (cs := #[.int .i64 0, .int .i64 0]) (t := 25) ?hr ?_; (case hd => rfl); (case hg => rfl); (case hr => first | (go_simp; done) | (go_simp; rfl)); intro gb364 hg w18 hbox hb; have n0_ := Aside0.mk (Kd.R_below (ru_ HO_6.out) hb); have n1_ := Aside0.mk (bs_ hb); have n2_ := Aside0.mk (hbox); have n3_ := Aside0.mk ((by rw [hg]; exact bz_ : w.heap.size ≤ gb364)); have n4_ := Aside0.mk ((by rw [hg]; exact bz_ : w.heap.size ≤ gb364)); clear HO_6; clear HB; have HO_6 := n0_; have HB := n1_; have BK364 := n2_; have GW364 := n3_; have GE364 := n4_; clear n0_ n1_ n2_ n3_ n4_; clear hb hbox hg; have hcz19_0 : w18.cell? ⟨gb364, 0, none⟩ = some (.int .i64 0) := (blk_cell BK364.out 0).trans rfl; have hcz19_1 : w18.cell? ⟨gb364, 1, none⟩ = some (.int .i64 0) := (blk_cell BK364.out 1).trans rfl; have hfz19_0 := blk_frozen BK364.out 0; have hfz19_1 := blk_frozen BK364.out 1))
     have n0_ : Aside0 (Kd.R (Kd.int .i64) 3 ((w18.setCell ⟨gb364, 0, none⟩ (.int .i64 ((rd_T25 l0 x26_2).f0))).setCell ⟨gb364, 1, none⟩ (.int .i64 ((rd_T25 l0 x26_2).f1))) w.heap.size (fun _ => True) u6 x6_2) := ⟨by (with_reducible repeat (first | apply Kd.R_alloc | apply Kd.R_drewN | apply Kd.R_drew)); exact Kd.R_mono (Kd.R_far (p := ⟨gb364, 1, none⟩) (Kd.R_far (p := ⟨gb364, 0, none⟩) (Kd.R_types HO_6.out BK364.out (by decide)) (fun _ hk => hk.2) (.int .i64 ((rd_T25 l0 x26_2).f0))) (fun _ hk => hk.2) (.int .i64 ((rd_T25 l0 x26_2).f1))) (fun _ hk => trivial)⟩
     have n1_ : Aside0 (((w18.setCell ⟨gb364, 0, none⟩ (.int .i64 ((rd_T25 l0 x26_2).f0))).setCell ⟨gb364, 1, none⟩ (.int .i64 ((rd_T25 l0 x26_2).f1))).heap[gb364]? = some (.cells #[.int .i64 ((rd_T25 l0 x26_2).f0), .int .i64 ((rd_T25 l0 x26_2).f1)] 25 (0, 0))) := ⟨by (with_reducible repeat (first | refine blk_drewN ?_ _ | refine blk_drew ?_ | refine blk_alloc ?_ _)); refine blk_put (cs := #[.int .i64 ((rd_T25 l0 x26_2).f0), .int .i64 0]) ?_ 1 _ rfl; (with_reducible repeat (first | refine blk_drewN ?_ _ | refine blk_drew ?_ | refine blk_alloc ?_ _)); refine blk_put (cs := #[.int .i64 0, .int .i64 0]) ?_ 0 _ rfl; (with_reducible repeat (first | refine blk_drewN ?_ _ | refine blk_drew ?_ | refine blk_alloc ?_ _)); exact BK364.out⟩
     have n2_ : Aside0 (Below w.heap.size w ((w18.setCell ⟨gb364, 0, none⟩ (.int .i64 ((rd_T25 l0 x26_2).f0))).setCell ⟨gb364, 1, none⟩ (.int .i64 ((rd_T25 l0 x26_2).f1)))) := ⟨by repeat (first | (with_reducible first | apply below_alloc | apply pw_below_drewN | apply below_drew1 | refine below_set ?_ GE364.out) | exact HB.out)⟩
     (try clear HO_6)
     (try clear BK364)
     (try clear HB)
     generalize ((w18.setCell ⟨gb364, 0, none⟩ (.int .i64 ((rd_T25 l0 x26_2).f0))).setCell ⟨gb364, 1, none⟩ (.int .i64 ((rd_T25 l0 x26_2).f1))) = w20 at n0_ n1_ n2_ ⊢
     have HO_6 := n0_
     have BK364 := n1_
     have HB := n2_
     clear n0_ n1_ n2_
     have n0_ := Aside0.mk (Kd.R_drew HO_6.out)
     have n1_ := Aside0.mk (blk_drew BK364.out)
     have n2_ := Aside0.mk (below_drew1 HB.out)
     clear HO_6
     clear BK364
     clear HB
     have HO_6 := n0_
     have BK364 := n1_
     have HB := n2_
     clear n0_ n1_ n2_
     have p365 : 0 ≤ (a1 : Int) := of_decide_eq_true (by assumption)
     have q365 : a1 < (l0.length : Int) := of_decide_eq_true (by assumption)
     obtain ⟨ad365, e365, hx365_0, hx365_1⟩ := at_T25 HR0.out a1 p365 q365
     have hw365_1 := hx365_1
     have hw365_0 := hx365_0
     obtain rfl : ad363 = ad365 := (by injection e365)
     replace hx365_0 := (HB.out.cell (World.block_lt_of_cell? w _ hx365_0)).trans hx365_0
     replace hx365_1 := (HB.out.cell (World.block_lt_of_cell? w _ hx365_1)).trans hx365_1
     replace p365 := eq_true p365
     replace q365 := eq_true q365
     refine start_ (n := 7) (S := fun w' => w'.cell? ⟨gb364, 0, none⟩ = some (.int .i64 ((rd_T25 l0 x26_2).f0)) ∧ w'.cell? ⟨gb364, 1, none⟩ = some (.int .i64 ((rd_T25 l0 x26_2).f1)) ∧ w'.cell? (ad363.add ((a1).toNat * 2)) = some (.int .i64 ((rd_T25 l0 a1).f0)) ∧ w'.cell? ⟨(ad363.add ((a1).toNat * 2)).block, (ad363.add ((a1).toNat * 2)).off + 1, none⟩ = some (.int .i64 ((rd_T25 l0 a1).f1))) (ds := []) #[false, false, false, false, false, false, false] (by kernel_rfl) rfl rfl ⟨(blk_cell BK364.out 0).trans rfl, (blk_cell BK364.out 1).trans rfl, ((HB.out.cell (World.block_lt_of_cell? w _ hw365_0)).trans hw365_0), ((HB.out.cell (World.block_lt_of_cell? w _ hw365_1)).trans hw365_1)⟩ (fun hHeld => ?_)
     generalize w20.drew = w21 at HO_6 BK364 HB hx365_0 hx365_1 hHeld ⊢
     refine pure_ (i := 0) (N := some 31) (v := ?_) (a' := ?_) #[true, false, false, false, false, false, false] rfl rfl (by kernel_rfl) (fun _ _ _ h => h) (Or.inl ⟨by rfl, ?_⟩) ?_ ?_
     rotate_left
     ·intro w'
      go_simp
      with_reducible rfl
     rotate_left
     ·simp only [Act.put, sa_, sb_, sc_, i64_w, i32_w]
      rfl
     refine pure_ (i := 1) (N := some 32) (v := ?_) (a' := ?_) #[true, true, false, false, false, false, false] rfl rfl (by kernel_rfl) (fun _ _ _ h => h) (Or.inl ⟨by rfl, ?_⟩) ?_ ?_
     rotate_left
     ·intro w'
      go_simp
      with_reducible rfl
     rotate_left
     ·simp only [Act.put, sa_, sb_, sc_, i64_w, i32_w]
      rfl
     refine pure_ (i := 2) (N := some 33) (v := ?_) (a' := ?_) #[true, true, true, false, false, false, false] rfl rfl (by kernel_rfl) (fun _ _ _ h => h) (Or.inl ⟨by rfl, ?_⟩) ?_ ?_
     rotate_left
     ·intro w'
      go_simp
      with_reducible rfl
     rotate_left
     ·simp only [Act.put, sa_, sb_, sc_, i64_w, i32_w]
      rfl
     refine take_ (i := 3) (N := some 34) (v := ?_) (a' := ?_) #[true, true, true, true, false, false, false] rfl rfl (by kernel_rfl) (fun _ _ _ h => h) (Or.inl ⟨by rfl, ?_⟩) hHeld ?_ ?_
     rotate_left
     ·rintro w' ⟨s0, s1, s2, s3⟩
      go_simp
      with_reducible rfl
     rotate_left
     ·simp only [Act.put, sa_, sb_, sc_, i64_w, i32_w]
      rfl
     refine take_ (i := 4) (N := some 35) (v := ?_) (a' := ?_) #[true, true, true, true, true, false, false] rfl rfl (by kernel_rfl) (fun _ _ _ h => h) (Or.inl ⟨by rfl, ?_⟩) hHeld ?_ ?_
     rotate_left
     ·rintro w' ⟨s0, s1, s2, s3⟩
      go_simp
      with_reducible rfl
     rotate_left
     ·simp only [Act.put, sa_, sb_, sc_, i64_w, i32_w]
      rfl
     refine one_ (i := 5) (N := some 36) #[true, true, true, true, true, true, false] rfl rfl (by kernel_rfl) (by decide) (fun K hK => ?_)
     refine goes_ Try.func35 (by kernel_rfl) rfl #[.agg #[.int .i64 ((rd_T25 l0 a1).f0), .int .i64 ((rd_T25 l0 a1).f1)], .agg #[.int .i64 ((rd_T25 l0 x26_2).f0), .int .i64 ((rd_T25 l0 x26_2).f1)]] (by rfl) rfl rfl (by (try simp only [List.map_toArray, List.map_cons, List.map_nil]); first | done | rfl | (simp only [List.length_drop, List.length_take]; rfl)) ?_
     with_reducible refine (spec_sgMeet.calls ((rd_T25 l0 a1).f0) ((rd_T25 l0 a1).f1) ((rd_T25 l0 x26_2).f0) ((rd_T25 l0 x26_2).f1) true _ A15.out).mono ?_
     rintro e w22 ⟨rfl, hb⟩
     refine ⟨_, rfl, ?_⟩
     have n0_ := Aside0.mk (Kd.R_below (ru_ HO_6.out) hb)
     have n1_ := Aside0.mk (blk_below (g := gb364) (o := .cells #[.int .i64 ((rd_T25 l0 x26_2).f0), .int .i64 ((rd_T25 l0 x26_2).f1)] 25 (0, 0)) (by (with_reducible repeat (first | refine blk_drewN ?_ _ | refine blk_drew ?_ | refine blk_alloc ?_ _)); exact BK364.out) hb)
     have n2_ := Aside0.mk (below_step (by repeat (first | (with_reducible first | apply below_alloc | apply pw_below_drewN | apply below_drew1 | refine below_set ?_ GE364.out) | exact HB.out)) hb)
     clear HO_6
     clear BK364
     clear HB
     have HO_6 := n0_
     have BK364 := n1_
     have HB := n2_
     clear n0_ n1_ n2_
     (try clear hb)
     (try clear hb2)
     (try clear hk)
     (try clear hi)
     refine hK.out _ _ ⟨(blk_cell BK364.out 0).trans rfl, (blk_cell BK364.out 1).trans rfl, ((HB.out.cell (World.block_lt_of_cell? w _ hw365_0)).trans hw365_0), ((HB.out.cell (World.block_lt_of_cell? w _ hw365_1)).trans hw365_1)⟩ (fun hHeld => ?_)
     clear hK K
     refine norm_ (a' := ?_) ?_ ?_
     rotate_left
     ·show Act.put _ (some 36) _ = _
      simp only [Act.put, sa_, sb_, sc_, i64_w, i32_w]
      rfl
     refine pure_ (i := 6) (N := some 37) (v := ?_) (a' := ?_) #[true, true, true, true, true, true, true] rfl rfl (by kernel_rfl) (fun _ _ _ h => h) (Or.inl ⟨by rfl, ?_⟩) ?_ ?_
     rotate_left
     ·intro w'
      go_simp
      with_reducible rfl
     rotate_left
     ·simp only [Act.put, sa_, sb_, sc_, i64_w, i32_w]
      rfl
     refine done_ (by kernel_rfl) ?_
     try go_wp2
     have n0_ := Aside0.mk (Kd.R_drew HO_6.out)
     have n1_ := Aside0.mk (blk_drew BK364.out)
     have n2_ := Aside0.mk (below_drew1 HB.out)
     clear HO_6
     clear BK364
     clear HB
     have HO_6 := n0_
     have BK364 := n1_
     have HB := n2_
     clear n0_ n1_ n2_
     have p367 : 0 ≤ (a1 : Int) := of_decide_eq_true (by assumption)
     have q367 : a1 < (l0.length : Int) := of_decide_eq_true (by assumption)
     obtain ⟨ad367, e367, hx367_0, hx367_1⟩ := at_T25 HR0.out a1 p367 q367
     have hw367_1 := hx367_1
     have hw367_0 := hx367_0
     obtain rfl : ad363 = ad367 := (by injection e367)
     replace hx367_0 := (HB.out.cell (World.block_lt_of_cell? w _ hx367_0)).trans hx367_0
     replace hx367_1 := (HB.out.cell (World.block_lt_of_cell? w _ hx367_1)).trans hx367_1
     replace p367 := eq_true p367
     replace q367 := eq_true q367
     refine start_ (n := 7) (S := fun w' => w'.cell? ⟨gb364, 0, none⟩ = some (.int .i64 ((rd_T25 l0 x26_2).f0)) ∧ w'.cell? ⟨gb364, 1, none⟩ = some (.int .i64 ((rd_T25 l0 x26_2).f1)) ∧ w'.cell? (ad363.add ((a1).toNat * 2)) = some (.int .i64 ((rd_T25 l0 a1).f0)) ∧ w'.cell? ⟨(ad363.add ((a1).toNat * 2)).block, (ad363.add ((a1).toNat * 2)).off + 1, none⟩ = some (.int .i64 ((rd_T25 l0 a1).f1))) (ds := []) #[false, false, false, false, false, false, false] (by kernel_rfl) rfl rfl ⟨(blk_cell BK364.out 0).trans rfl, (blk_cell BK364.out 1).trans rfl, ((HB.out.cell (World.block_lt_of_cell? w _ hw367_0)).trans hw367_0), ((HB.out.cell (World.block_lt_of_cell? w _ hw367_1)).trans hw367_1)⟩ (fun hHeld => ?_)
     generalize w22.drew = w23 at HO_6 BK364 HB hx367_0 hx367_1 hHeld ⊢
     refine pure_ (i := 0) (N := some 38) (v := ?_) (a' := ?_) #[true, false, false, false, false, false, false] rfl rfl (by kernel_rfl) (fun _ _ _ h => h) (Or.inl ⟨by rfl, ?_⟩) ?_ ?_
     rotate_left
     ·intro w'
      go_simp
      with_reducible rfl
     rotate_left
     ·simp only [Act.put, sa_, sb_, sc_, i64_w, i32_w]
      rfl
     refine pure_ (i := 1) (N := some 39) (v := ?_) (a' := ?_) #[true, true, false, false, false, false, false] rfl rfl (by kernel_rfl) (fun _ _ _ h => h) (Or.inl ⟨by rfl, ?_⟩) ?_ ?_
     rotate_left
     ·intro w'
      go_simp
      with_reducible rfl
     rotate_left
     ·simp only [Act.put, sa_, sb_, sc_, i64_w, i32_w]
      rfl
     refine pure_ (i := 2) (N := some 40) (v := ?_) (a' := ?_) #[true, true, true, false, false, false, false] rfl rfl (by kernel_rfl) (fun _ _ _ h => h) (Or.inl ⟨by rfl, ?_⟩) ?_ ?_
     rotate_left
     ·intro w'
      go_simp
      with_reducible rfl
     rotate_left
     ·simp only [Act.put, sa_, sb_, sc_, i64_w, i32_w]
      rfl
     refine take_ (i := 3) (N := some 41) (v := ?_) (a' := ?_) #[true, true, true, true, false, false, false] rfl rfl (by kernel_rfl) (fun _ _ _ h => h) (Or.inl ⟨by rfl, ?_⟩) hHeld ?_ ?_
     rotate_left
     ·rintro w' ⟨s0, s1, s2, s3⟩
      go_simp
      with_reducible rfl
     rotate_left
     ·simp only [Act.put, sa_, sb_, sc_, i64_w, i32_w]
      rfl
     refine take_ (i := 4) (N := some 42) (v := ?_) (a' := ?_) #[true, true, true, true, true, false, false] rfl rfl (by kernel_rfl) (fun _ _ _ h => h) (Or.inl ⟨by rfl, ?_⟩) hHeld ?_ ?_
     rotate_left
     ·rintro w' ⟨s0, s1, s2, s3⟩
      go_simp
      with_reducible rfl
     rotate_left
     ·simp only [Act.put, sa_, sb_, sc_, i64_w, i32_w]
      rfl
     refine one_ (i := 5) (N := some 43) #[true, true, true, true, true, true, false] rfl rfl (by kernel_rfl) (by decide) (fun K hK => ?_)
     refine goes_ Try.func36 (by kernel_rfl) rfl #[.agg #[.int .i64 ((rd_T25 l0 a1).f0), .int .i64 ((rd_T25 l0 a1).f1)], .agg #[.int .i64 ((rd_T25 l0 x26_2).f0), .int .i64 ((rd_T25 l0 x26_2).f1)]] (by rfl) rfl rfl (by (try simp only [List.map_toArray, List.map_cons, List.map_nil]); first | done | rfl | (simp only [List.length_drop, List.length_take]; rfl)) ?_
     with_reducible refine (spec_sgMeeting.calls ((rd_T25 l0 a1).f0) ((rd_T25 l0 a1).f1) ((rd_T25 l0 x26_2).f0) ((rd_T25 l0 x26_2).f1) t368 _ A17.out).mono ?_
     rintro e w24 ⟨v369, rfl, ho0, hb⟩
     refine ⟨_, rfl, ?_⟩
     have n0_ := Aside0.mk (Kd.R_elder' (ru_ HO_6.out) (Kd.R_base ho0) hb)
     have n1_ := Aside0.mk (Kd.R_lower (Kd.R_new' ho0 (Kd.R_lt (ru_ HO_6.out))) (below_size (by repeat (first | (with_reducible first | apply below_alloc | apply pw_below_drewN | apply below_drew1 | refine below_set ?_ GE364.out) | exact HB.out))))
     have n2_ := Aside0.mk (blk_below (g := gb364) (o := .cells #[.int .i64 ((rd_T25 l0 x26_2).f0), .int .i64 ((rd_T25 l0 x26_2).f1)] 25 (0, 0)) (by (with_reducible repeat (first | refine blk_drewN ?_ _ | refine blk_drew ?_ | refine blk_alloc ?_ _)); exact BK364.out) hb)
     have n3_ := Aside0.mk (below_step (by repeat (first | (with_reducible first | apply below_alloc | apply pw_below_drewN | apply below_drew1 | refine below_set ?_ GE364.out) | exact HB.out)) hb)
     clear HO_6
     clear BK364
     clear HB
     have HO_6 := n0_
     have HO370 := n1_
     have BK364 := n2_
     have HB := n3_
     clear n0_ n1_ n2_ n3_
     (try clear hb)
     (try clear hb2)
     (try clear hk)
     (try clear hi)
     (try clear ho0)
     refine hK.out _ _ ⟨(blk_cell BK364.out 0).trans rfl, (blk_cell BK364.out 1).trans rfl, ((HB.out.cell (World.block_lt_of_cell? w _ hw367_0)).trans hw367_0), ((HB.out.cell (World.block_lt_of_cell? w _ hw367_1)).trans hw367_1)⟩ (fun hHeld => ?_)
     clear hK K
     refine norm_ (a' := ?_) ?_ ?_
     rotate_left
     ·show Act.put _ (some 43) _ = _
      simp only [Act.put, sa_, sb_, sc_, i64_w, i32_w]
      rfl
     refine pure_ (i := 6) (N := some 9) (v := ?_) (a' := ?_) #[true, true, true, true, true, true, true] rfl rfl (by kernel_rfl) (fun _ _ _ h => h) (Or.inl ⟨by rfl, ?_⟩) ?_ ?_
     rotate_left
     ·intro w'
      go_simp
      with_reducible rfl
     rotate_left
     ·simp only [Act.put, sa_, sb_, sc_, i64_w, i32_w]
      rfl
     refine done_ (by kernel_rfl) ?_
     obtain ⟨Ao25, co25, eo25⟩ := Kd.R_slice HO_6.out
     subst eo25
     try go_wp2
     go_loopg [10] k2 (fun kq v10 w' => ∃ (x10_3 : Int), v10 = .int .i64 x10_3 ∧ Aside0 (spec_MeetingsOnThread.l1 kq l0 a1 x6_2 x26_2 t368 x10_3 l0 (l0.length : Int) x26_2 = some (r1, r2)) ∧ Aside0 (kq ≤ k2) ∧ Aside0 (Kd.R (Kd.int .i64) 3 w' w.heap.size (fun k_ => some k_ ≠ (v369 : Value).ownBlock) (.slice Ao25 x6_2.length co25) x6_2) ∧ Aside0 (Kd.R (Kd.int .i64) 3 w' w.heap.size (fun k_ => some k_ ≠ ((.slice Ao25 x6_2.length co25) : Value).ownBlock) v369 t368) ∧ Aside0 (w'.heap[gb364]? = some (.cells #[.int .i64 ((rd_T25 l0 x26_2).f0), .int .i64 ((rd_T25 l0 x26_2).f1)] 25 (0, 0))) ∧ Aside0 (Below w.heap.size w w'))
     case atStart => exact ⟨((x6_2.length : Int)), (by first | rfl | (simp; done) | (simp [*]; done)), H', ⟨Nat.le_refl _⟩, ⟨by (with_reducible repeat (first | apply Kd.R_alloc | apply Kd.R_drewN | apply Kd.R_drew)); exact Kd.R_mono HO_6.out (fun _ hk => hk.2)⟩, ⟨by (with_reducible repeat (first | apply Kd.R_alloc | apply Kd.R_drewN | apply Kd.R_drew)); exact Kd.R_mono HO370.out (fun _ hk => hk.2)⟩, ⟨by (with_reducible repeat (first | refine blk_drewN ?_ _ | refine blk_drew ?_ | refine blk_alloc ?_ _)); exact BK364.out⟩, ⟨by repeat (first | (with_reducible first | apply below_alloc | apply pw_below_drewN | apply below_drew1 | refine below_set ?_ GE364.out) | exact HB.out)⟩⟩
     case round =>
      clear H'
      (try clear c1); (try clear p2); (try clear c3); (try clear p3); (try clear q3); (try clear hx3); (try clear c4); (try clear c5); (try clear p6); (try clear c9); (try clear c10); (try clear c10b0); (try clear c11); (try clear c11b0); (try clear c12); (try clear c12b0); (try clear c13); (try clear c13b0); (try clear c14); (try clear c14b0); (try clear c15); (try clear c16); (try clear hcz19_0); (try clear hcz19_1); (try clear hfz19_0); (try clear hfz19_1); (try clear hx363_0); (try clear hx363_1); (try clear hx365_0); (try clear hx365_1); (try clear hx367_0); (try clear hx367_1); (try clear p2); (try clear p363); (try clear p365); (try clear p367); (try clear p6); (try clear q363); (try clear q365); (try clear q367)
      obtain ⟨x10_3, rfl, HA, HK3, HO_6, HO_9, BK364, HB⟩ := hrel
      cases gk with
      | zero => exact absurd HA.out (by simp [spec_MeetingsOnThread.l1])
      | succ k3 =>
       have H := HA.out
       clear HA
       simp only [spec_MeetingsOnThread.l1] at H
       by_cases c26 : x10_3 > 0
       rotate_left
       ·rw [if_neg c26] at H
        have c26b0 : decide (0 < x10_3) = false := decide_eq_false c26
        clear c26
        by_cases c62 : 0 ≤ x10_3
        rotate_left
        ·rw [if_neg c62] at H
         exact absurd H (by simp)
        rw [if_pos c62] at H
        have c62b0 := eq_true c62
        have c62b1 : decide (0 ≤ x10_3) = true := decide_eq_true c62
        clear c62
        by_cases c63 : x10_3 ≤ (x6_2.length : Int)
        rotate_left
        ·rw [if_neg c63] at H
         exact absurd H (by simp)
        rw [if_pos c63] at H
        have c63b0 := eq_true c63
        have c63b1 : decide (x10_3 ≤ (x6_2.length : Int)) = true := decide_eq_true c63
        clear c63
        obtain ⟨y398, hy398⟩ : ∃ y_ : List Int, y_ = (x6_2.take (x10_3 : Int).toNat) := ⟨_, rfl⟩
        replace H : ((spec_l1Own.f y398).bind fun t402 => (if t402.length < 17592186044416 then ((some (t402 ++ [x26_2] : List Int)).bind fun y405 => ((some (x6_2.drop (x10_3 : Int).toNat : List Int)).bind fun y408 => (if y405.length + y408.length < 17592186044416 then (spec_MeetingsOnThread.l0 k3 l0 a1 (y405 ++ y408) l0 (l0.length : Int) (wrap64 (x26_2 + 1))) else (none)))) else (none))) = some (r1, r2) := by first | (rw [hy398]; with_reducible exact H) | (have H2_ := (Option.bind_some _ _).symm.trans H; rw [hy398]; with_reducible exact H2_) | (have H2_ := (Option.bind_some _ _).symm.trans H; with_reducible exact H2_) | with_reducible exact H | (rw [hy398]; exact H) | exact H
        have Ny398 := Aside0.mk hy398
        clear hy398
        replace H := Option.bind_eq_some_iff.mp H
        obtain ⟨t402, A640, H⟩ := H
        (try dsimp only at H)
        have A64 := Aside0.mk A640
        clear A640
        by_cases c65 : t402.length < 17592186044416
        rotate_left
        ·rw [if_neg c65] at H
         exact absurd H (by simp)
        rw [if_pos c65] at H
        have LMc65 := Aside0.mk c65
        clear c65
        obtain ⟨y405, hy405⟩ : ∃ y_ : List Int, y_ = (t402 ++ [x26_2]) := ⟨_, rfl⟩
        replace H : ((some (x6_2.drop (x10_3 : Int).toNat : List Int)).bind fun y408 => (if y405.length + y408.length < 17592186044416 then (spec_MeetingsOnThread.l0 k3 l0 a1 (y405 ++ y408) l0 (l0.length : Int) (wrap64 (x26_2 + 1))) else (none))) = some (r1, r2) := by first | (rw [hy405]; with_reducible exact H) | (have H2_ := (Option.bind_some _ _).symm.trans H; rw [hy405]; with_reducible exact H2_) | (have H2_ := (Option.bind_some _ _).symm.trans H; with_reducible exact H2_) | with_reducible exact H | (rw [hy405]; exact H) | exact H
        have Ny405 := Aside0.mk hy405
        clear hy405
        have c66b0 := eq_true (of_decide_eq_true (by assumption) : 0 ≤ x10_3)
        have c67b0 := eq_true (of_decide_eq_true (by assumption) : x10_3 ≤ (x6_2.length : Int))
        obtain ⟨y408, hy408⟩ : ∃ y_ : List Int, y_ = (x6_2.drop (x10_3 : Int).toNat) := ⟨_, rfl⟩
        replace H : (if y405.length + y408.length < 17592186044416 then (spec_MeetingsOnThread.l0 k3 l0 a1 (y405 ++ y408) l0 (l0.length : Int) (wrap64 (x26_2 + 1))) else (none)) = some (r1, r2) := by first | (rw [hy408]; with_reducible exact H) | (have H2_ := (Option.bind_some _ _).symm.trans H; rw [hy408]; with_reducible exact H2_) | (have H2_ := (Option.bind_some _ _).symm.trans H; with_reducible exact H2_) | with_reducible exact H | (rw [hy408]; exact H) | exact H
        have Ny408 := Aside0.mk hy408
        clear hy408
        by_cases c68 : y405.length + y408.length < 17592186044416
        rotate_left
        ·rw [if_neg c68] at H
         exact absurd H (by simp)
        rw [if_pos c68] at H
        have LMc68 := Aside0.mk c68
        clear c68
        obtain ⟨y412, hy412⟩ : ∃ y_ : List Int, y_ = (y405 ++ y408) := ⟨_, rfl⟩
        replace H : (spec_MeetingsOnThread.l0 k3 l0 a1 y412 l0 (l0.length : Int) (wrap64 (x26_2 + 1))) = some (r1, r2) := by first | (rw [hy412]; with_reducible exact H) | (have H2_ := (Option.bind_some _ _).symm.trans H; rw [hy412]; with_reducible exact H2_) | (have H2_ := (Option.bind_some _ _).symm.trans H; with_reducible exact H2_) | with_reducible exact H | (rw [hy412]; exact H) | exact H
        have Ny412 := Aside0.mk hy412
        clear hy412
        have H' := Aside0.mk H
        clear H
        have q69 : (x10_3 : Int) ≤ ((x6_2.length : Int) : Int) := of_decide_eq_true (by assumption)
        obtain ⟨i069, hi069, _, hsz69, _⟩ := info_parts info3
        have hroom69 : x6_2.length ≤ co25 := (Kd.R_reads' HO_6.out).2.1
        have hC69 : Kd.C (Kd.int .i64) _ Ao25 x6_2.length x6_2 := (Kd.R_reads' HO_6.out).2.2
        have hcut69 := cut_to (P := Try.prog) 28 3 .i64 Try.underlying28 hi069 Ao25 x6_2.length co25 x10_3 (of_decide_eq_true (by assumption)) q69 hroom69
        have hr69 := Kd.C_take (m := (x10_3 : Int).toNat) hC69 (by omega)
        have hy69 : y398.length = (x10_3 : Int).toNat := (by rw [Ny398.out, List.length_take]; omega)
        rw [← Ny398.out] at hr69
        rw [← hy69] at hcut69
        have HR401 := Aside0.mk hr69
        have HC401 := Aside0.mk (show y398.length ≤ co25 from by omega)
        clear hr69 hC69 hroom69 hi069 hsz69
        have KY69 := Aside0.mk hy69
        clear hy69
        have KL69 := Aside0.mk (show (x10_3 : Int).toNat ≤ x6_2.length from by omega)
        replace q69 := eq_true q69
        go_wp2_with (first | ((with_reducible refine gate_callee (f := 49) rfl ?_); refine gl_ (some 81) Try.func49 #[.slice Ao25 y398.length co25] ?_; (with_reducible refine (spec_l1Own.calls _ _ y398 t402 _ ?side1 ?side2 A64.out).mono ?_); (case side1 => repeat (first | exact (by repeat (first | (with_reducible exact HR401.out) | (with_reducible refine Kd.C_alloc ?_ _) | (with_reducible refine Kd.C_drewN ?_ _) | (with_reducible refine Kd.C_drew ?_) | exact HR401.out)) | (with_reducible refine Kd.C_alloc ?_ _) | (with_reducible refine Kd.C_drewN ?_ _) | (with_reducible refine Kd.C_drew ?_))); (case side2 => exact HC401.out); rintro e w70 ⟨v403, rfl, ho0, hb⟩; refine ⟨_, rfl, ?_⟩; have n0_ := Aside0.mk (Kd.R_elder' (ru_ HO_6.out) (Kd.R_base ho0) hb); have n1_ := Aside0.mk (Kd.R_elder' (ru_ HO_9.out) (Kd.R_base ho0) hb); have n2_ := Aside0.mk (Kd.R_lower (Kd.R_new' (Kd.R_new' ho0 (Kd.R_lt (ru_ HO_6.out))) (Kd.R_lt (ru_ HO_9.out))) (below_size (by repeat (first | (with_reducible first | apply below_alloc | apply pw_below_drewN | apply below_drew1 | refine below_set ?_ GE364.out) | exact HB.out)))); have n3_ := Aside0.mk (blk_below (g := gb364) (o := .cells #[.int .i64 ((rd_T25 l0 x26_2).f0), .int .i64 ((rd_T25 l0 x26_2).f1)] 25 (0, 0)) (by (with_reducible repeat (first | refine blk_drewN ?_ _ | refine blk_drew ?_ | refine blk_alloc ?_ _)); exact BK364.out) hb); have n4_ := Aside0.mk (Kd.C_below (by repeat (first | (with_reducible exact HR401.out) | (with_reducible refine Kd.C_alloc ?_ _) | (with_reducible refine Kd.C_drewN ?_ _) | (with_reducible refine Kd.C_drew ?_) | exact HR401.out)) hb); have n5_ := Aside0.mk (below_step (by repeat (first | (with_reducible first | apply below_alloc | apply pw_below_drewN | apply below_drew1 | refine below_set ?_ GE364.out) | exact HB.out)) hb); clear HO_6; clear HO_9; clear BK364; clear HR401; clear HB; have HO_6 := n0_; have HO_9 := n1_; have HO404 := n2_; have BK364 := n3_; have HR401 := n4_; have HB := n5_; clear n0_ n1_ n2_ n3_ n4_ n5_; (try clear hb); (try clear ho0)) | ((with_reducible refine gate_builtin (b := .append) (xs := #[.tmp 81, .tmp 83]) rfl ?_); (try (refine gate_guard (by rfl) ?_; dsimp only)); at_builtin; refine Kd.R_append (Kd.int .i64) (w0 := w) w.heap.size rfl (.tmp 81) (.tmp 83) 28 3 (.int .i64 0) 8 rfl Try.underlying28 info3 rfl (by decide) (by omega) v403 t402 x26_2 [.int .i64 x26_2] (fun k_ => some k_ ≠ (.slice Ao25 x6_2.length co25 : Value).ownBlock ∧ some k_ ≠ (v369 : Value).ownBlock) (fun _ => False) rfl rfl ?aP (fun _ hk => hk.elim) ?aF ?aO ?aB ?aS ?aL ?_; (case aP => exact rfl); (case aB => exact (by repeat (first | (with_reducible first | apply below_alloc | apply pw_below_drewN | apply below_drew1 | refine below_set ?_ GE364.out) | exact HB.out))); (case aF => exact (fun k_ hk => ⟨Kd.fresh' (Kd.R_lt (ru_ HO_6.out)) k_ hk, Kd.fresh' (Kd.R_lt (ru_ HO_9.out)) k_ hk⟩)); (case aO => exact (by (with_reducible repeat (first | apply Kd.R_alloc | apply Kd.R_drewN | apply Kd.R_drew)); exact Kd.R_mono HO404.out (fun _ hk => ⟨hk.1.2, hk.2⟩))); (case aS => exact (below_size (by repeat (first | (with_reducible first | apply below_alloc | apply pw_below_drewN | apply below_drew1 | refine below_set ?_ GE364.out) | exact HB.out)))); (case aL => have := LMc65.out; omega); intro v406 w71 ho hb hg hat; rw [← Ny405.out] at ho; have n0_ := Aside0.mk (Kd.R_after (ok := (fun k_ => some k_ ≠ (v369 : Value).ownBlock)) (ru_ HO_6.out) hg hat); have n1_ := Aside0.mk (Kd.R_after (ok := (fun k_ => some k_ ≠ (.slice Ao25 x6_2.length co25 : Value).ownBlock)) (ru_ HO_9.out) hg hat); have n2_ := Aside0.mk (blk_grown (g := gb364) (o := .cells #[.int .i64 ((rd_T25 l0 x26_2).f0), .int .i64 ((rd_T25 l0 x26_2).f1)] 25 (0, 0)) (by (with_reducible repeat (first | refine blk_drewN ?_ _ | refine blk_drew ?_ | refine blk_alloc ?_ _)); exact BK364.out) hg (Kd.R_ne HO404.out BK364.out (by decide))); have n3_ := Aside0.mk (hb); have n4_ := Aside0.mk ((show Kd.C (Kd.int .i64) w71 Ao25 y398.length y398 from by rw [Ny398.out]; exact Kd.C_take (m := (x10_3 : Int).toNat) ((Kd.R_reads' (Kd.R_after (ok := (fun k_ => some k_ ≠ (v369 : Value).ownBlock)) (ru_ HO_6.out) hg hat)).2.2) KL69.out)); have n5_ := Aside0.mk (ho); clear HO_6; clear HO_9; clear BK364; clear HB; clear HR401; clear HO404; have HO_6 := n0_; have HO_9 := n1_; have BK364 := n2_; have HB := n3_; have HR401 := n4_; have HO407 := n5_; clear n0_ n1_ n2_ n3_ n4_ n5_; clear ho hb hg hat; have q72 : (x10_3 : Int) ≤ ((x6_2.length : Int) : Int) := of_decide_eq_true (by assumption); obtain ⟨i072, hi072, _, hsz72, _⟩ := info_parts info3; have hroom72 : x6_2.length ≤ co25 := (Kd.R_reads' HO_6.out).2.1; have hC72 : Kd.C (Kd.int .i64) _ Ao25 x6_2.length x6_2 := (Kd.R_reads' HO_6.out).2.2; have q072 : (0 : Int) ≤ (x10_3 : Int) := of_decide_eq_true (by assumption); have hcut72 := cut_from (P := Try.prog) 28 3 .i64 Try.underlying28 hi072 1 hsz72 Ao25 x6_2.length co25 x10_3 q072 q72; have hr72 := Kd.C_drop (m := (x10_3 : Int).toNat) (c := co25) hC72 (by omega) hroom72; obtain ⟨A72, hA72⟩ : ∃ A1, A1 = (if co25 = (x10_3 : Int).toNat then Ao25 else (Ao25 : Option Addr).map (·.add ((x10_3 : Int).toNat * 1))) := ⟨_, rfl⟩; obtain ⟨c72, hc72⟩ : ∃ c1, c1 = co25 - (x10_3 : Int).toNat := ⟨_, rfl⟩; have hy72 : y408.length = x6_2.length - (x10_3 : Int).toNat := (by rw [Ny408.out, List.length_drop] <;> omega); rw [show (x6_2).drop (x10_3 : Int).toNat = y408 from Ny408.out.symm] at hr72; replace hr72 : Kd.C (Kd.int .i64) _ A72 y408.length y408 := (by rw [hA72]; exact hr72); rw [← hy72, ← hA72, ← hc72] at hcut72; have HR411 := Aside0.mk hr72; have HC411 := Aside0.mk (show y408.length ≤ c72 from by rw [hy72, hc72]; exact Nat.sub_le_sub_right hroom72 _); clear hr72 hC72 hroom72 hi072 hsz72 hc72; have KY72 := Aside0.mk hy72; have KA72 := Aside0.mk hA72; clear hy72 hA72; have KL72 := Aside0.mk (show (x10_3 : Int).toNat ≤ x6_2.length from by omega); replace q72 := eq_true q72) | ((with_reducible refine gate_builtin (b := .append) (xs := #[.tmp 85, .tmp 88]) rfl ?_); (try (refine gate_guard (by rfl) ?_; dsimp only)); at_builtin; refine Kd.R_append_rows (Kd.int .i64) (w0 := w) w.heap.size rfl (.tmp 85) (.tmp 88) 28 3 (.int .i64 0) 8 rfl Try.underlying28 info3 rfl (by decide) (by omega) v406 y405 y408 _ _ _ (fun k_ => some k_ ≠ (.slice Ao25 x6_2.length co25 : Value).ownBlock ∧ some k_ ≠ (v369 : Value).ownBlock) (fun _ => False) rfl rfl ?aO ?aR (fun _ _ h => h) (fun _ h => h.elim) ?aF ?aB ?aS ?aL ?_; (case aR => repeat (first | exact (by repeat (first | (with_reducible exact HR411.out) | (with_reducible refine Kd.C_alloc ?_ _) | (with_reducible refine Kd.C_drewN ?_ _) | (with_reducible refine Kd.C_drew ?_) | exact HR411.out)) | (with_reducible refine Kd.C_alloc ?_ _) | (with_reducible refine Kd.C_drewN ?_ _) | (with_reducible refine Kd.C_drew ?_))); (case aB => exact (by repeat (first | (with_reducible first | apply below_alloc | apply pw_below_drewN | apply below_drew1 | refine below_set ?_ GE364.out) | exact HB.out))); (case aF => exact (fun k_ hk => ⟨Kd.fresh' (Kd.R_lt (ru_ HO_6.out)) k_ hk, Kd.fresh' (Kd.R_lt (ru_ HO_9.out)) k_ hk⟩)); (case aO => exact (ru_ HO407.out)); (case aS => exact (below_size (by repeat (first | (with_reducible first | apply below_alloc | apply pw_below_drewN | apply below_drew1 | refine below_set ?_ GE364.out) | exact HB.out)))); (case aL => have := LMc68.out; omega); intro v413 w73 ho hb hg hat; rw [← Ny412.out] at ho; have n0_ := Aside0.mk (Kd.R_after (ok := (fun k_ => some k_ ≠ (v369 : Value).ownBlock)) (ru_ HO_6.out) hg hat); have n1_ := Aside0.mk (Kd.R_after (ok := (fun k_ => some k_ ≠ (.slice Ao25 x6_2.length co25 : Value).ownBlock)) (ru_ HO_9.out) hg hat); have n2_ := Aside0.mk (blk_grown (g := gb364) (o := .cells #[.int .i64 ((rd_T25 l0 x26_2).f0), .int .i64 ((rd_T25 l0 x26_2).f1)] 25 (0, 0)) (by (with_reducible repeat (first | refine blk_drewN ?_ _ | refine blk_drew ?_ | refine blk_alloc ?_ _)); exact BK364.out) hg (Kd.R_ne HO407.out BK364.out (by decide))); have n3_ := Aside0.mk (hb); have n4_ := Aside0.mk ((show Kd.C (Kd.int .i64) w73 Ao25 y398.length y398 from by rw [Ny398.out]; exact Kd.C_take (m := (x10_3 : Int).toNat) ((Kd.R_reads' (Kd.R_after (ok := (fun k_ => some k_ ≠ (v369 : Value).ownBlock)) (ru_ HO_6.out) hg hat)).2.2) KL69.out)); have n5_ := Aside0.mk ((show Kd.C (Kd.int .i64) w73 A72 y408.length y408 from by rw [Ny408.out, KA72.out]; exact Kd.C_drop (m := (x10_3 : Int).toNat) (c := co25) ((Kd.R_reads' (Kd.R_after (ok := (fun k_ => some k_ ≠ (v369 : Value).ownBlock)) (ru_ HO_6.out) hg hat)).2.2) KL72.out ((Kd.R_reads' (Kd.R_after (ok := (fun k_ => some k_ ≠ (v369 : Value).ownBlock)) (ru_ HO_6.out) hg hat)).2.1))); have n6_ := Aside0.mk (ho); clear HO_6; clear HO_9; clear BK364; clear HB; clear HR401; clear HR411; clear HO407; have HO_6 := n0_; have HO_9 := n1_; have BK364 := n2_; have HB := n3_; have HR401 := n4_; have HR411 := n5_; have HO414 := n6_; clear n0_ n1_ n2_ n3_ n4_ n5_ n6_; clear ho hb hg hat))
        go_roundg k3
        case measure => have := HJ2.out; have := HK2.out; have := HK3.out; omega
        case rel => exact ⟨(y412), (wrap64 (x26_2 + 1)), (by first | rfl | (simp; done) | (simp [*]; done)), H', ⟨by have := HJ2.out; have := HK2.out; have := HK3.out; omega⟩, ⟨by (with_reducible repeat (first | apply Kd.R_alloc | apply Kd.R_drewN | apply Kd.R_drew)); exact Kd.R_mono HO414.out (fun _ hk => trivial)⟩, ⟨by repeat (first | (with_reducible first | apply below_alloc | apply pw_below_drewN | apply below_drew1 | refine below_set ?_ GE364.out) | exact HB.out)⟩⟩
       rw [if_pos c26] at H
       have c26b0 : decide (0 < x10_3) = true := decide_eq_true c26
       clear c26
       by_cases c27 : 0 ≤ a1
       rotate_left
       ·rw [if_neg c27] at H
        exact absurd H (by simp)
       rw [if_pos c27] at H
       have c27b0 : decide (0 ≤ a1) = true := decide_eq_true c27
       clear c27
       by_cases c28 : a1 < (l0.length : Int)
       rotate_left
       ·rw [if_neg c28] at H
        exact absurd H (by simp)
       rw [if_pos c28] at H
       have c28b0 : decide (a1 < (l0.length : Int)) = true := decide_eq_true c28
       clear c28
       obtain ⟨ji29, hji29⟩ : ∃ j_ : Int, (wrap64 (x10_3 - 1)) = j_ := ⟨_, rfl⟩
       replace H : (if 0 ≤ (ji29) then (if (ji29) < (x6_2.length : Int) then (if 0 ≤ (rd x6_2 (ji29)) then (if (rd x6_2 (ji29)) < (l0.length : Int) then ((spec_sgMeeting.f ((rd_T25 l0 a1).f0) ((rd_T25 l0 a1).f1) ((rd_T25 l0 (rd x6_2 (ji29))).f0) ((rd_T25 l0 (rd x6_2 (ji29))).f1)).bind fun t374 => (if 0 < (t374.length : Int) then (if 1 < (t368.length : Int) then (if 0 < (t368.length : Int) then (if 1 < (t374.length : Int) then (if (wrap64 ((rd t374 0) * (rd t368 1))) ≤ (wrap64 ((rd t368 0) * (rd t374 1))) then (if 0 ≤ x10_3 then (if x10_3 ≤ (x6_2.length : Int) then ((spec_l1Own.f (x6_2.take (x10_3 : Int).toNat)).bind fun t385 => (if t385.length < 17592186044416 then ((some (t385 ++ [x26_2] : List Int)).bind fun y388 => ((some (x6_2.drop (x10_3 : Int).toNat : List Int)).bind fun y391 => (if y388.length + y391.length < 17592186044416 then (spec_MeetingsOnThread.l0 k3 l0 a1 (y388 ++ y391) l0 (l0.length : Int) (wrap64 (x26_2 + 1))) else (none)))) else (none))) else (none)) else (none)) else (spec_MeetingsOnThread.l1 k3 l0 a1 x6_2 x26_2 t368 ji29 l0 (l0.length : Int) x26_2)) else (none)) else (none)) else (none)) else (none))) else (none)) else (none)) else (none)) else (none)) = some (r1, r2) := by first | (rw [hji29] at H; exact H) | (simp only [hji29] at H ⊢; exact H)
       have hji29w : (IntKind.i64.wrap (x10_3 - 1)) = ji29 := (i64_w _).trans hji29
       by_cases c30 : 0 ≤ (ji29)
       rotate_left
       ·rw [if_neg c30] at H
        exact absurd H (by simp)
       rw [if_pos c30] at H
       have c30b0 : decide (0 ≤ (ji29)) = true := decide_eq_true c30
       clear c30
       by_cases c31 : (ji29) < (x6_2.length : Int)
       rotate_left
       ·rw [if_neg c31] at H
        exact absurd H (by simp)
       rw [if_pos c31] at H
       have c31b0 : decide ((ji29) < (x6_2.length : Int)) = true := decide_eq_true c31
       clear c31
       by_cases c32 : 0 ≤ (rd x6_2 (ji29))
       rotate_left
       ·rw [if_neg c32] at H
        exact absurd H (by simp)
       rw [if_pos c32] at H
       have c32b0 : decide (0 ≤ (rd x6_2 (ji29))) = true := decide_eq_true c32
       clear c32
       by_cases c33 : (rd x6_2 (ji29)) < (l0.length : Int)
       rotate_left
       ·rw [if_neg c33] at H
        exact absurd H (by simp)
       rw [if_pos c33] at H
       have c33b0 : decide ((rd x6_2 (ji29)) < (l0.length : Int)) = true := decide_eq_true c33
       clear c33
       replace H := Option.bind_eq_some_iff.mp H
       obtain ⟨t374, A340, H⟩ := H
       (try dsimp only at H)
       have A34 := Aside0.mk A340
       clear A340
       by_cases c35 : 0 < (t374.length : Int)
       rotate_left
       ·rw [if_neg c35] at H
        exact absurd H (by simp)
       rw [if_pos c35] at H
       have c35b0 : decide (0 < (t374.length : Int)) = true := decide_eq_true c35
       have c35b1 : decide (0 < t374.length) = true := decide_eq_true (by omega)
       clear c35
       by_cases c36 : 1 < (t368.length : Int)
       rotate_left
       ·rw [if_neg c36] at H
        exact absurd H (by simp)
       rw [if_pos c36] at H
       have c36b0 : decide (1 < (t368.length : Int)) = true := decide_eq_true c36
       have c36b1 : decide (1 < t368.length) = true := decide_eq_true (by omega)
       clear c36
       by_cases c37 : 0 < (t368.length : Int)
       rotate_left
       ·rw [if_neg c37] at H
        exact absurd H (by simp)
       rw [if_pos c37] at H
       have c37b0 : decide (0 < (t368.length : Int)) = true := decide_eq_true c37
       have c37b1 : decide (0 < t368.length) = true := decide_eq_true (by omega)
       clear c37
       by_cases c38 : 1 < (t374.length : Int)
       rotate_left
       ·rw [if_neg c38] at H
        exact absurd H (by simp)
       rw [if_pos c38] at H
       have c38b0 : decide (1 < (t374.length : Int)) = true := decide_eq_true c38
       have c38b1 : decide (1 < t374.length) = true := decide_eq_true (by omega)
       clear c38
       by_cases c39 : (wrap64 ((rd t374 0) * (rd t368 1))) ≤ (wrap64 ((rd t368 0) * (rd t374 1)))
       rotate_left
       ·rw [if_neg c39] at H
        have c39b0 : decide ((wrap64 ((rd t374 0) * (rd t368 1))) ≤ (wrap64 ((rd t368 0) * (rd t374 1)))) = false := decide_eq_false c39
        clear c39
        have H' := Aside0.mk H
        clear H
        try go_wp2
        have n0_ := Aside0.mk (Kd.R_drew HO_6.out)
        have n1_ := Aside0.mk (Kd.R_drew HO_9.out)
        have n2_ := Aside0.mk (blk_drew BK364.out)
        have n3_ := Aside0.mk (below_drew1 HB.out)
        clear HO_6
        clear HO_9
        clear BK364
        clear HB
        have HO_6 := n0_
        have HO_9 := n1_
        have BK364 := n2_
        have HB := n3_
        clear n0_ n1_ n2_ n3_
        have p371 : 0 ≤ (a1 : Int) := of_decide_eq_true (by assumption)
        have q371 : a1 < (l0.length : Int) := of_decide_eq_true (by assumption)
        obtain ⟨ad371, e371, hx371_0, hx371_1⟩ := at_T25 HR0.out a1 p371 q371
        have hw371_1 := hx371_1
        have hw371_0 := hx371_0
        obtain rfl : ad363 = ad371 := (by injection e371)
        replace hx371_0 := (HB.out.cell (World.block_lt_of_cell? w _ hx371_0)).trans hx371_0
        replace hx371_1 := (HB.out.cell (World.block_lt_of_cell? w _ hx371_1)).trans hx371_1
        replace p371 := eq_true p371
        replace q371 := eq_true q371
        have p372 : 0 ≤ ((ji29) : Int) := of_decide_eq_true (by assumption)
        have q372 : (ji29) < (x6_2.length : Int) := of_decide_eq_true (by assumption)
        obtain ⟨ad372, e372, hx372_0⟩ := Kd.at_int (Kd.R_reads' HO_6.out).2.2 (ji29) p372 q372
        cases e372
        replace p372 := eq_true p372
        replace q372 := eq_true q372
        have p373 : 0 ≤ ((rd x6_2 (ji29)) : Int) := of_decide_eq_true (by assumption)
        have q373 : (rd x6_2 (ji29)) < (l0.length : Int) := of_decide_eq_true (by assumption)
        obtain ⟨ad373, e373, hx373_0, hx373_1⟩ := at_T25 HR0.out (rd x6_2 (ji29)) p373 q373
        have hw373_1 := hx373_1
        have hw373_0 := hx373_0
        obtain rfl : ad363 = ad373 := (by injection e373)
        replace hx373_0 := (HB.out.cell (World.block_lt_of_cell? w _ hx373_0)).trans hx373_0
        replace hx373_1 := (HB.out.cell (World.block_lt_of_cell? w _ hx373_1)).trans hx373_1
        replace p373 := eq_true p373
        replace q373 := eq_true q373
        refine start_ (n := 14) (S := fun w' => w'.cell? (ad363.add ((a1).toNat * 2)) = some (.int .i64 ((rd_T25 l0 a1).f0)) ∧ w'.cell? ⟨(ad363.add ((a1).toNat * 2)).block, (ad363.add ((a1).toNat * 2)).off + 1, none⟩ = some (.int .i64 ((rd_T25 l0 a1).f1)) ∧ w'.cell? (ad372.add ((ji29)).toNat) = some (.int .i64 (rd x6_2 (ji29))) ∧ w'.cell? (ad363.add (((rd x6_2 (ji29))).toNat * 2)) = some (.int .i64 ((rd_T25 l0 (rd x6_2 (ji29))).f0)) ∧ w'.cell? ⟨(ad363.add (((rd x6_2 (ji29))).toNat * 2)).block, (ad363.add (((rd x6_2 (ji29))).toNat * 2)).off + 1, none⟩ = some (.int .i64 ((rd_T25 l0 (rd x6_2 (ji29))).f1))) (ds := []) (bl_ 14 0x0) (by kernel_rfl) rfl rfl ⟨((HB.out.cell (World.block_lt_of_cell? w _ hw371_0)).trans hw371_0), ((HB.out.cell (World.block_lt_of_cell? w _ hw371_1)).trans hw371_1), hx372_0, ((HB.out.cell (World.block_lt_of_cell? w _ hw373_0)).trans hw373_0), ((HB.out.cell (World.block_lt_of_cell? w _ hw373_1)).trans hw373_1)⟩ (fun hHeld => ?_); refine with_tabW spec_MeetingsOnThread.tab11 spec_MeetingsOnThread.bits11 (fun HT_ HW_ => ?_)
        generalize wr.drew = w57 at HO_6 HO_9 BK364 HB hx371_0 hx371_1 hx372_0 hx373_0 hx373_1 hHeld ⊢
        refine pz_ 0 48 (bl_ 14 0x1) HT_.out ?_
        refine pz_ 1 49 (bl_ 14 0x3) HT_.out ?_
        refine pz_ 2 50 (bl_ 14 0x7) HT_.out ?_
        refine pz_ 4 52 (bl_ 14 0x17) HT_.out ?_
        refine pz_ 5 53 (bl_ 14 0x37) HT_.out ?_
        refine pz_ 6 54 (bl_ 14 0x77) HT_.out ?_
        refine pz_ 7 55 (bl_ 14 0xf7) HT_.out ?_
        refine pz_ 8 56 (bl_ 14 0x1f7) HT_.out ?_
        refine take_ (i := 3) (N := some 51) (v := ?_) (a' := ?_) (bl_ 14 0x1ff) rfl rfl (take_ofW HT_.out HW_.out (by kernel_rfl)) (fun _ _ _ h => h) (Or.inl ⟨by rfl, ?_⟩) hHeld ?_ ?_
        rotate_left
        ·rintro w' ⟨s0, s1, s2, s3, s4⟩
         go_simp
         with_reducible rfl
        rotate_left
        ·simp only [Act.put, sa_, sb_, sc_, i64_w, i32_w]
         rfl
        refine take_ (i := 9) (N := some 57) (v := ?_) (a' := ?_) (bl_ 14 0x3ff) rfl rfl (take_ofW HT_.out HW_.out (by kernel_rfl)) (fun _ _ _ h => h) (Or.inl ⟨by rfl, ?_⟩) hHeld ?_ ?_
        rotate_left
        ·rintro w' ⟨s0, s1, s2, s3, s4⟩
         go_simp
         with_reducible rfl
        rotate_left
        ·simp only [Act.put, sa_, sb_, sc_, i64_w, i32_w]
         rfl
        refine pz_ 10 58 (bl_ 14 0x7ff) HT_.out ?_
        refine take_ (i := 11) (N := some 59) (v := ?_) (a' := ?_) (bl_ 14 0xfff) rfl rfl (take_ofW HT_.out HW_.out (by kernel_rfl)) (fun _ _ _ h => h) (Or.inl ⟨by rfl, ?_⟩) hHeld ?_ ?_
        rotate_left
        ·rintro w' ⟨s0, s1, s2, s3, s4⟩
         go_simp
         with_reducible rfl
        rotate_left
        ·simp only [Act.put, sa_, sb_, sc_, i64_w, i32_w]
         rfl
        refine one_ (i := 12) (N := some 60) (bl_ 14 0x1fff) rfl rfl (one_of HT_.out (by kernel_rfl)) (by decide) (fun K hK => ?_)
        refine goes_ Try.func36 (by kernel_rfl) rfl #[.agg #[.int .i64 ((rd_T25 l0 a1).f0), .int .i64 ((rd_T25 l0 a1).f1)], .agg #[.int .i64 ((rd_T25 l0 (rd x6_2 (ji29))).f0), .int .i64 ((rd_T25 l0 (rd x6_2 (ji29))).f1)]] (by rfl) rfl rfl (by (try simp only [List.map_toArray, List.map_cons, List.map_nil]); first | done | (simp only [hji29]; rfl) | rfl | (simp only [List.length_drop, List.length_take]; rfl)) ?_
        with_reducible refine (spec_sgMeeting.calls ((rd_T25 l0 a1).f0) ((rd_T25 l0 a1).f1) ((rd_T25 l0 (rd x6_2 (ji29))).f0) ((rd_T25 l0 (rd x6_2 (ji29))).f1) t374 _ A34.out).mono ?_
        rintro e w58 ⟨v375, rfl, ho0, hb⟩
        have HS2_ := (hb.cell (World.block_lt_of_cell? _ _ (hHeld.2.2.1))).trans (hHeld.2.2.1)
        refine ⟨_, rfl, ?_⟩
        have n0_ := Aside0.mk (Kd.R_elder' (ru_ HO_6.out) (Kd.R_base ho0) hb)
        have n1_ := Aside0.mk (Kd.R_elder' (ru_ HO_9.out) (Kd.R_base ho0) hb)
        have n2_ := Aside0.mk (Kd.R_lower (Kd.R_new' (Kd.R_new' ho0 (Kd.R_lt (ru_ HO_6.out))) (Kd.R_lt (ru_ HO_9.out))) (below_size (by repeat (first | (with_reducible first | apply below_alloc | apply pw_below_drewN | apply below_drew1 | refine below_set ?_ GE364.out) | exact HB.out))))
        have n3_ := Aside0.mk (blk_below (g := gb364) (o := .cells #[.int .i64 ((rd_T25 l0 x26_2).f0), .int .i64 ((rd_T25 l0 x26_2).f1)] 25 (0, 0)) (by (with_reducible repeat (first | refine blk_drewN ?_ _ | refine blk_drew ?_ | refine blk_alloc ?_ _)); exact BK364.out) hb)
        have n4_ := Aside0.mk (below_step (by repeat (first | (with_reducible first | apply below_alloc | apply pw_below_drewN | apply below_drew1 | refine below_set ?_ GE364.out) | exact HB.out)) hb)
        clear HO_6
        clear HO_9
        clear BK364
        clear HB
        have HO_6 := n0_
        have HO_9 := n1_
        have HO376 := n2_
        have BK364 := n3_
        have HB := n4_
        clear n0_ n1_ n2_ n3_ n4_
        (try clear hb)
        (try clear hb2)
        (try clear hk)
        (try clear hi)
        (try clear ho0)
        refine hK.out _ _ ⟨((HB.out.cell (World.block_lt_of_cell? w _ hw371_0)).trans hw371_0), ((HB.out.cell (World.block_lt_of_cell? w _ hw371_1)).trans hw371_1), HS2_, ((HB.out.cell (World.block_lt_of_cell? w _ hw373_0)).trans hw373_0), ((HB.out.cell (World.block_lt_of_cell? w _ hw373_1)).trans hw373_1)⟩ (fun hHeld => ?_)
        clear hK K
        refine norm_ (a' := ?_) ?_ ?_
        rotate_left
        ·show Act.put _ (some 60) _ = _
         simp only [Act.put, sa_, sb_, sc_, i64_w, i32_w]
         rfl
        refine pz_ 13 11 (bl_ 14 0x3fff) HT_.out ?_
        refine done_ (done_of HT_.out (by kernel_rfl)) ?_
        try go_wp2
        have n0_ := Aside0.mk (Kd.R_drew HO_6.out)
        have n1_ := Aside0.mk (Kd.R_drew HO_9.out)
        have n2_ := Aside0.mk (Kd.R_drew HO376.out)
        have n3_ := Aside0.mk (blk_drew BK364.out)
        have n4_ := Aside0.mk (below_drew1 HB.out)
        clear HO_6
        clear HO_9
        clear HO376
        clear BK364
        clear HB
        have HO_6 := n0_
        have HO_9 := n1_
        have HO376 := n2_
        have BK364 := n3_
        have HB := n4_
        clear n0_ n1_ n2_ n3_ n4_
        obtain ⟨Ao60, co60, eo60⟩ := Kd.R_slice HO376.out
        (first | subst eo60 | (injection eo60 with f1_ f2_ f3_; have f4_ := f1_.symm; have f5_ := f3_.symm; clear f1_ f2_ f3_; subst f4_; subst f5_))
        have p377 : 0 ≤ (0 : Int) := (by omega)
        have q377 : 0 < (t374.length : Int) := of_decide_eq_true (by assumption)
        obtain ⟨ad377, e377, hx377_0⟩ := Kd.at_int (Kd.R_reads' HO376.out).2.2 0 p377 q377
        cases e377
        have qi377 : (0 < t374.length) = True := eq_true (by omega)
        (try rw [show ((0 : Int)).toNat = 0 from rfl] at hx377_0)
        (try rw [Addr.add_zero'] at hx377_0)
        replace p377 := eq_true p377
        replace q377 := eq_true q377
        obtain ⟨Ao61, co61, eo61⟩ := Kd.R_slice HO_9.out
        (first | subst eo61 | (injection eo61 with f1_ f2_ f3_; have f4_ := f1_.symm; have f5_ := f3_.symm; clear f1_ f2_ f3_; subst f4_; subst f5_))
        have p378 : 0 ≤ (1 : Int) := (by omega)
        have q378 : 1 < (t368.length : Int) := of_decide_eq_true (by assumption)
        obtain ⟨ad378, e378, hx378_0⟩ := Kd.at_int (Kd.R_reads' HO_9.out).2.2 1 p378 q378
        cases e378
        (try simp only [show (1 : Int).toNat = 1 from rfl, Nat.reduceMul, Nat.reduceEqDiff, Go.Addr.add, ↓reduceIte] at hx378_0)
        have qi378 : (1 < t368.length) = True := eq_true (by omega)
        (try rw [show ((1 : Int)).toNat = 1 from rfl] at hx378_0)
        replace p378 := eq_true p378
        replace q378 := eq_true q378
        have p379 : 0 ≤ (0 : Int) := (by omega)
        have q379 : 0 < (t368.length : Int) := of_decide_eq_true (by assumption)
        obtain ⟨ad379, e379, hx379_0⟩ := Kd.at_int (Kd.R_reads' HO_9.out).2.2 0 p379 q379
        obtain rfl : ad378 = ad379 := (by injection e379)
        have qi379 : (0 < t368.length) = True := eq_true (by omega)
        (try rw [show ((0 : Int)).toNat = 0 from rfl] at hx379_0)
        (try rw [Addr.add_zero'] at hx379_0)
        replace p379 := eq_true p379
        replace q379 := eq_true q379
        have p380 : 0 ≤ (1 : Int) := (by omega)
        have q380 : 1 < (t374.length : Int) := of_decide_eq_true (by assumption)
        obtain ⟨ad380, e380, hx380_0⟩ := Kd.at_int (Kd.R_reads' HO376.out).2.2 1 p380 q380
        obtain rfl : ad377 = ad380 := (by injection e380)
        (try simp only [show (1 : Int).toNat = 1 from rfl, Nat.reduceMul, Nat.reduceEqDiff, Go.Addr.add, ↓reduceIte] at hx380_0)
        have qi380 : (1 < t374.length) = True := eq_true (by omega)
        (try rw [show ((1 : Int)).toNat = 1 from rfl] at hx380_0)
        replace p380 := eq_true p380
        replace q380 := eq_true q380
        refine start_ (n := 15) (S := fun w' => w'.cell? ad377 = some (.int .i64 (rd t374 0)) ∧ w'.cell? ⟨ad378.block, ad378.off + 1, none⟩ = some (.int .i64 (rd t368 1)) ∧ w'.cell? ad378 = some (.int .i64 (rd t368 0)) ∧ w'.cell? ⟨ad377.block, ad377.off + 1, none⟩ = some (.int .i64 (rd t374 1))) (ds := []) (bl_ 15 0x0) (by kernel_rfl) rfl rfl ⟨hx377_0, hx378_0, hx379_0, hx380_0⟩ (fun hHeld => ?_); refine with_tabW spec_MeetingsOnThread.tab12 spec_MeetingsOnThread.bits12 (fun HT_ HW_ => ?_)
        generalize w58.drew = w59 at HO_6 HO_9 HO376 BK364 HB hx377_0 hx378_0 hx379_0 hx380_0 hHeld ⊢
        refine pz_ 0 61 (bl_ 15 0x1) HT_.out ?_
        refine pz_ 1 62 (bl_ 15 0x3) HT_.out ?_
        refine pz_ 3 64 (bl_ 15 0xb) HT_.out ?_
        refine pz_ 4 65 (bl_ 15 0x1b) HT_.out ?_
        refine pz_ 7 68 (bl_ 15 0x9b) HT_.out ?_
        refine pz_ 8 69 (bl_ 15 0x19b) HT_.out ?_
        refine pz_ 10 71 (bl_ 15 0x59b) HT_.out ?_
        refine pz_ 11 72 (bl_ 15 0xd9b) HT_.out ?_
        refine take_ (i := 2) (N := some 63) (v := ?_) (a' := ?_) (bl_ 15 0xd9f) rfl rfl (take_ofW HT_.out HW_.out (by kernel_rfl)) (fun _ _ _ h => h) (Or.inl ⟨by rfl, ?_⟩) hHeld ?_ ?_
        rotate_left
        ·rintro w' ⟨s0, s1, s2, s3⟩
         go_simp
         with_reducible rfl
        rotate_left
        ·simp only [Act.put, sa_, sb_, sc_, i64_w, i32_w]
         rfl
        refine take_ (i := 5) (N := some 66) (v := ?_) (a' := ?_) (bl_ 15 0xdbf) rfl rfl (take_ofW HT_.out HW_.out (by kernel_rfl)) (fun _ _ _ h => h) (Or.inl ⟨by rfl, ?_⟩) hHeld ?_ ?_
        rotate_left
        ·rintro w' ⟨s0, s1, s2, s3⟩
         go_simp
         with_reducible rfl
        rotate_left
        ·simp only [Act.put, sa_, sb_, sc_, i64_w, i32_w]
         rfl
        refine pz_ 6 67 (bl_ 15 0xdff) HT_.out ?_
        refine take_ (i := 9) (N := some 70) (v := ?_) (a' := ?_) (bl_ 15 0xfff) rfl rfl (take_ofW HT_.out HW_.out (by kernel_rfl)) (fun _ _ _ h => h) (Or.inl ⟨by rfl, ?_⟩) hHeld ?_ ?_
        rotate_left
        ·rintro w' ⟨s0, s1, s2, s3⟩
         go_simp
         with_reducible rfl
        rotate_left
        ·simp only [Act.put, sa_, sb_, sc_, i64_w, i32_w]
         rfl
        refine take_ (i := 12) (N := some 73) (v := ?_) (a' := ?_) (bl_ 15 0x1fff) rfl rfl (take_ofW HT_.out HW_.out (by kernel_rfl)) (fun _ _ _ h => h) (Or.inl ⟨by rfl, ?_⟩) hHeld ?_ ?_
        rotate_left
        ·rintro w' ⟨s0, s1, s2, s3⟩
         go_simp
         with_reducible rfl
        rotate_left
        ·simp only [Act.put, sa_, sb_, sc_, i64_w, i32_w]
         rfl
        refine pz_ 13 74 (bl_ 15 0x3fff) HT_.out ?_
        refine pz_ 14 75 (bl_ 15 0x7fff) HT_.out ?_
        refine done_ (done_of HT_.out (by kernel_rfl)) ?_
        try go_wp2
        go_roundg k3
        case measure => have := HJ2.out; have := HK2.out; have := HK3.out; omega
        case rel => exact ⟨(ji29), (by first | rfl | (simp; done) | (simp only [← hji29] <;> (first | rfl | simp)) | (simp [*]; done)), H', ⟨by have := HJ2.out; have := HK2.out; have := HK3.out; omega⟩, ⟨by (with_reducible repeat (first | apply Kd.R_alloc | apply Kd.R_drewN | apply Kd.R_drew)); exact Kd.R_mono HO_6.out (fun _ hk => hk.1)⟩, ⟨by (with_reducible repeat (first | apply Kd.R_alloc | apply Kd.R_drewN | apply Kd.R_drew)); exact Kd.R_mono HO_9.out (fun _ hk => hk.1)⟩, ⟨by (with_reducible repeat (first | refine blk_drewN ?_ _ | refine blk_drew ?_ | refine blk_alloc ?_ _)); exact BK364.out⟩, ⟨by repeat (first | (with_reducible first | apply below_alloc | apply pw_below_drewN | apply below_drew1 | refine below_set ?_ GE364.out) | exact HB.out)⟩⟩
       rw [if_pos c39] at H
       have c39b0 : decide ((wrap64 ((rd t374 0) * (rd t368 1))) ≤ (wrap64 ((rd t368 0) * (rd t374 1)))) = true := decide_eq_true c39
       clear c39
       by_cases c40 : 0 ≤ x10_3
       rotate_left
       ·rw [if_neg c40] at H
        exact absurd H (by simp)
       rw [if_pos c40] at H
       have c40b0 := eq_true c40
       have c40b1 : decide (0 ≤ x10_3) = true := decide_eq_true c40
       clear c40
       by_cases c41 : x10_3 ≤ (x6_2.length : Int)
       rotate_left
       ·rw [if_neg c41] at H
        exact absurd H (by simp)
       rw [if_pos c41] at H
       have c41b0 := eq_true c41
       have c41b1 : decide (x10_3 ≤ (x6_2.length : Int)) = true := decide_eq_true c41
       clear c41
       obtain ⟨y381, hy381⟩ : ∃ y_ : List Int, y_ = (x6_2.take (x10_3 : Int).toNat) := ⟨_, rfl⟩
       replace H : ((spec_l1Own.f y381).bind fun t385 => (if t385.length < 17592186044416 then ((some (t385 ++ [x26_2] : List Int)).bind fun y388 => ((some (x6_2.drop (x10_3 : Int).toNat : List Int)).bind fun y391 => (if y388.length + y391.length < 17592186044416 then (spec_MeetingsOnThread.l0 k3 l0 a1 (y388 ++ y391) l0 (l0.length : Int) (wrap64 (x26_2 + 1))) else (none)))) else (none))) = some (r1, r2) := by first | (rw [hy381]; with_reducible exact H) | (have H2_ := (Option.bind_some _ _).symm.trans H; rw [hy381]; with_reducible exact H2_) | (have H2_ := (Option.bind_some _ _).symm.trans H; with_reducible exact H2_) | with_reducible exact H | (rw [hy381]; exact H) | exact H
       have Ny381 := Aside0.mk hy381
       clear hy381
       replace H := Option.bind_eq_some_iff.mp H
       obtain ⟨t385, A420, H⟩ := H
       (try dsimp only at H)
       have A42 := Aside0.mk A420
       clear A420
       by_cases c43 : t385.length < 17592186044416
       rotate_left
       ·rw [if_neg c43] at H
        exact absurd H (by simp)
       rw [if_pos c43] at H
       have LMc43 := Aside0.mk c43
       clear c43
       obtain ⟨y388, hy388⟩ : ∃ y_ : List Int, y_ = (t385 ++ [x26_2]) := ⟨_, rfl⟩
       replace H : ((some (x6_2.drop (x10_3 : Int).toNat : List Int)).bind fun y391 => (if y388.length + y391.length < 17592186044416 then (spec_MeetingsOnThread.l0 k3 l0 a1 (y388 ++ y391) l0 (l0.length : Int) (wrap64 (x26_2 + 1))) else (none))) = some (r1, r2) := by first | (rw [hy388]; with_reducible exact H) | (have H2_ := (Option.bind_some _ _).symm.trans H; rw [hy388]; with_reducible exact H2_) | (have H2_ := (Option.bind_some _ _).symm.trans H; with_reducible exact H2_) | with_reducible exact H | (rw [hy388]; exact H) | exact H
       have Ny388 := Aside0.mk hy388
       clear hy388
       have c44b0 := eq_true (of_decide_eq_true (by assumption) : 0 ≤ x10_3)
       have c45b0 := eq_true (of_decide_eq_true (by assumption) : x10_3 ≤ (x6_2.length : Int))
       obtain ⟨y391, hy391⟩ : ∃ y_ : List Int, y_ = (x6_2.drop (x10_3 : Int).toNat) := ⟨_, rfl⟩
       replace H : (if y388.length + y391.length < 17592186044416 then (spec_MeetingsOnThread.l0 k3 l0 a1 (y388 ++ y391) l0 (l0.length : Int) (wrap64 (x26_2 + 1))) else (none)) = some (r1, r2) := by first | (rw [hy391]; with_reducible exact H) | (have H2_ := (Option.bind_some _ _).symm.trans H; rw [hy391]; with_reducible exact H2_) | (have H2_ := (Option.bind_some _ _).symm.trans H; with_reducible exact H2_) | with_reducible exact H | (rw [hy391]; exact H) | exact H
       have Ny391 := Aside0.mk hy391
       clear hy391
       by_cases c46 : y388.length + y391.length < 17592186044416
       rotate_left
       ·rw [if_neg c46] at H
        exact absurd H (by simp)
       rw [if_pos c46] at H
       have LMc46 := Aside0.mk c46
       clear c46
       obtain ⟨y395, hy395⟩ : ∃ y_ : List Int, y_ = (y388 ++ y391) := ⟨_, rfl⟩
       replace H : (spec_MeetingsOnThread.l0 k3 l0 a1 y395 l0 (l0.length : Int) (wrap64 (x26_2 + 1))) = some (r1, r2) := by first | (rw [hy395]; with_reducible exact H) | (have H2_ := (Option.bind_some _ _).symm.trans H; rw [hy395]; with_reducible exact H2_) | (have H2_ := (Option.bind_some _ _).symm.trans H; with_reducible exact H2_) | with_reducible exact H | (rw [hy395]; exact H) | exact H
       have Ny395 := Aside0.mk hy395
       clear hy395
       have H' := Aside0.mk H
       clear H
       try go_wp2
       have n0_ := Aside0.mk (Kd.R_drew HO_6.out)
       have n1_ := Aside0.mk (Kd.R_drew HO_9.out)
       have n2_ := Aside0.mk (blk_drew BK364.out)
       have n3_ := Aside0.mk (below_drew1 HB.out)
       clear HO_6
       clear HO_9
       clear BK364
       clear HB
       have HO_6 := n0_
       have HO_9 := n1_
       have BK364 := n2_
       have HB := n3_
       clear n0_ n1_ n2_ n3_
       have p371 : 0 ≤ (a1 : Int) := of_decide_eq_true (by assumption)
       have q371 : a1 < (l0.length : Int) := of_decide_eq_true (by assumption)
       obtain ⟨ad371, e371, hx371_0, hx371_1⟩ := at_T25 HR0.out a1 p371 q371
       have hw371_1 := hx371_1
       have hw371_0 := hx371_0
       obtain rfl : ad363 = ad371 := (by injection e371)
       replace hx371_0 := (HB.out.cell (World.block_lt_of_cell? w _ hx371_0)).trans hx371_0
       replace hx371_1 := (HB.out.cell (World.block_lt_of_cell? w _ hx371_1)).trans hx371_1
       replace p371 := eq_true p371
       replace q371 := eq_true q371
       have p372 : 0 ≤ ((ji29) : Int) := of_decide_eq_true (by assumption)
       have q372 : (ji29) < (x6_2.length : Int) := of_decide_eq_true (by assumption)
       obtain ⟨ad372, e372, hx372_0⟩ := Kd.at_int (Kd.R_reads' HO_6.out).2.2 (ji29) p372 q372
       cases e372
       replace p372 := eq_true p372
       replace q372 := eq_true q372
       have p373 : 0 ≤ ((rd x6_2 (ji29)) : Int) := of_decide_eq_true (by assumption)
       have q373 : (rd x6_2 (ji29)) < (l0.length : Int) := of_decide_eq_true (by assumption)
       obtain ⟨ad373, e373, hx373_0, hx373_1⟩ := at_T25 HR0.out (rd x6_2 (ji29)) p373 q373
       have hw373_1 := hx373_1
       have hw373_0 := hx373_0
       obtain rfl : ad363 = ad373 := (by injection e373)
       replace hx373_0 := (HB.out.cell (World.block_lt_of_cell? w _ hx373_0)).trans hx373_0
       replace hx373_1 := (HB.out.cell (World.block_lt_of_cell? w _ hx373_1)).trans hx373_1
       replace p373 := eq_true p373
       replace q373 := eq_true q373
       refine start_ (n := 14) (S := fun w' => w'.cell? (ad363.add ((a1).toNat * 2)) = some (.int .i64 ((rd_T25 l0 a1).f0)) ∧ w'.cell? ⟨(ad363.add ((a1).toNat * 2)).block, (ad363.add ((a1).toNat * 2)).off + 1, none⟩ = some (.int .i64 ((rd_T25 l0 a1).f1)) ∧ w'.cell? (ad372.add ((ji29)).toNat) = some (.int .i64 (rd x6_2 (ji29))) ∧ w'.cell? (ad363.add (((rd x6_2 (ji29))).toNat * 2)) = some (.int .i64 ((rd_T25 l0 (rd x6_2 (ji29))).f0)) ∧ w'.cell? ⟨(ad363.add (((rd x6_2 (ji29))).toNat * 2)).block, (ad363.add (((rd x6_2 (ji29))).toNat * 2)).off + 1, none⟩ = some (.int .i64 ((rd_T25 l0 (rd x6_2 (ji29))).f1))) (ds := []) (bl_ 14 0x0) (by kernel_rfl) rfl rfl ⟨((HB.out.cell (World.block_lt_of_cell? w _ hw371_0)).trans hw371_0), ((HB.out.cell (World.block_lt_of_cell? w _ hw371_1)).trans hw371_1), hx372_0, ((HB.out.cell (World.block_lt_of_cell? w _ hw373_0)).trans hw373_0), ((HB.out.cell (World.block_lt_of_cell? w _ hw373_1)).trans hw373_1)⟩ (fun hHeld => ?_); refine with_tabW spec_MeetingsOnThread.tab11 spec_MeetingsOnThread.bits11 (fun HT_ HW_ => ?_)
       generalize wr.drew = w47 at HO_6 HO_9 BK364 HB hx371_0 hx371_1 hx372_0 hx373_0 hx373_1 hHeld ⊢
       refine pz_ 0 48 (bl_ 14 0x1) HT_.out ?_
       refine pz_ 1 49 (bl_ 14 0x3) HT_.out ?_
       refine pz_ 2 50 (bl_ 14 0x7) HT_.out ?_
       refine pz_ 4 52 (bl_ 14 0x17) HT_.out ?_
       refine pz_ 5 53 (bl_ 14 0x37) HT_.out ?_
       refine pz_ 6 54 (bl_ 14 0x77) HT_.out ?_
       refine pz_ 7 55 (bl_ 14 0xf7) HT_.out ?_
       refine pz_ 8 56 (bl_ 14 0x1f7) HT_.out ?_
       refine take_ (i := 3) (N := some 51) (v := ?_) (a' := ?_) (bl_ 14 0x1ff) rfl rfl (take_ofW HT_.out HW_.out (by kernel_rfl)) (fun _ _ _ h => h) (Or.inl ⟨by rfl, ?_⟩) hHeld ?_ ?_
       rotate_left
       ·rintro w' ⟨s0, s1, s2, s3, s4⟩
        go_simp
        with_reducible rfl
       rotate_left
       ·simp only [Act.put, sa_, sb_, sc_, i64_w, i32_w]
        rfl
       refine take_ (i := 9) (N := some 57) (v := ?_) (a' := ?_) (bl_ 14 0x3ff) rfl rfl (take_ofW HT_.out HW_.out (by kernel_rfl)) (fun _ _ _ h => h) (Or.inl ⟨by rfl, ?_⟩) hHeld ?_ ?_
       rotate_left
       ·rintro w' ⟨s0, s1, s2, s3, s4⟩
        go_simp
        with_reducible rfl
       rotate_left
       ·simp only [Act.put, sa_, sb_, sc_, i64_w, i32_w]
        rfl
       refine pz_ 10 58 (bl_ 14 0x7ff) HT_.out ?_
       refine take_ (i := 11) (N := some 59) (v := ?_) (a' := ?_) (bl_ 14 0xfff) rfl rfl (take_ofW HT_.out HW_.out (by kernel_rfl)) (fun _ _ _ h => h) (Or.inl ⟨by rfl, ?_⟩) hHeld ?_ ?_
       rotate_left
       ·rintro w' ⟨s0, s1, s2, s3, s4⟩
        go_simp
        with_reducible rfl
       rotate_left
       ·simp only [Act.put, sa_, sb_, sc_, i64_w, i32_w]
        rfl
       refine one_ (i := 12) (N := some 60) (bl_ 14 0x1fff) rfl rfl (one_of HT_.out (by kernel_rfl)) (by decide) (fun K hK => ?_)
       refine goes_ Try.func36 (by kernel_rfl) rfl #[.agg #[.int .i64 ((rd_T25 l0 a1).f0), .int .i64 ((rd_T25 l0 a1).f1)], .agg #[.int .i64 ((rd_T25 l0 (rd x6_2 (ji29))).f0), .int .i64 ((rd_T25 l0 (rd x6_2 (ji29))).f1)]] (by rfl) rfl rfl (by (try simp only [List.map_toArray, List.map_cons, List.map_nil]); first | done | (simp only [hji29]; rfl) | rfl | (simp only [List.length_drop, List.length_take]; rfl)) ?_
       with_reducible refine (spec_sgMeeting.calls ((rd_T25 l0 a1).f0) ((rd_T25 l0 a1).f1) ((rd_T25 l0 (rd x6_2 (ji29))).f0) ((rd_T25 l0 (rd x6_2 (ji29))).f1) t374 _ A34.out).mono ?_
       rintro e w48 ⟨v375, rfl, ho0, hb⟩
       have HS2_ := (hb.cell (World.block_lt_of_cell? _ _ (hHeld.2.2.1))).trans (hHeld.2.2.1)
       refine ⟨_, rfl, ?_⟩
       have n0_ := Aside0.mk (Kd.R_elder' (ru_ HO_6.out) (Kd.R_base ho0) hb)
       have n1_ := Aside0.mk (Kd.R_elder' (ru_ HO_9.out) (Kd.R_base ho0) hb)
       have n2_ := Aside0.mk (Kd.R_lower (Kd.R_new' (Kd.R_new' ho0 (Kd.R_lt (ru_ HO_6.out))) (Kd.R_lt (ru_ HO_9.out))) (below_size (by repeat (first | (with_reducible first | apply below_alloc | apply pw_below_drewN | apply below_drew1 | refine below_set ?_ GE364.out) | exact HB.out))))
       have n3_ := Aside0.mk (blk_below (g := gb364) (o := .cells #[.int .i64 ((rd_T25 l0 x26_2).f0), .int .i64 ((rd_T25 l0 x26_2).f1)] 25 (0, 0)) (by (with_reducible repeat (first | refine blk_drewN ?_ _ | refine blk_drew ?_ | refine blk_alloc ?_ _)); exact BK364.out) hb)
       have n4_ := Aside0.mk (below_step (by repeat (first | (with_reducible first | apply below_alloc | apply pw_below_drewN | apply below_drew1 | refine below_set ?_ GE364.out) | exact HB.out)) hb)
       clear HO_6
       clear HO_9
       clear BK364
       clear HB
       have HO_6 := n0_
       have HO_9 := n1_
       have HO376 := n2_
       have BK364 := n3_
       have HB := n4_
       clear n0_ n1_ n2_ n3_ n4_
       (try clear hb)
       (try clear hb2)
       (try clear hk)
       (try clear hi)
       (try clear ho0)
       refine hK.out _ _ ⟨((HB.out.cell (World.block_lt_of_cell? w _ hw371_0)).trans hw371_0), ((HB.out.cell (World.block_lt_of_cell? w _ hw371_1)).trans hw371_1), HS2_, ((HB.out.cell (World.block_lt_of_cell? w _ hw373_0)).trans hw373_0), ((HB.out.cell (World.block_lt_of_cell? w _ hw373_1)).trans hw373_1)⟩ (fun hHeld => ?_)
       clear hK K
       refine norm_ (a' := ?_) ?_ ?_
       rotate_left
       ·show Act.put _ (some 60) _ = _
        simp only [Act.put, sa_, sb_, sc_, i64_w, i32_w]
        rfl
       refine pz_ 13 11 (bl_ 14 0x3fff) HT_.out ?_
       refine done_ (done_of HT_.out (by kernel_rfl)) ?_
       try go_wp2
       have n0_ := Aside0.mk (Kd.R_drew HO_6.out)
       have n1_ := Aside0.mk (Kd.R_drew HO_9.out)
       have n2_ := Aside0.mk (Kd.R_drew HO376.out)
       have n3_ := Aside0.mk (blk_drew BK364.out)
       have n4_ := Aside0.mk (below_drew1 HB.out)
       clear HO_6
       clear HO_9
       clear HO376
       clear BK364
       clear HB
       have HO_6 := n0_
       have HO_9 := n1_
       have HO376 := n2_
       have BK364 := n3_
       have HB := n4_
       clear n0_ n1_ n2_ n3_ n4_
       obtain ⟨Ao50, co50, eo50⟩ := Kd.R_slice HO376.out
       (first | subst eo50 | (injection eo50 with f1_ f2_ f3_; have f4_ := f1_.symm; have f5_ := f3_.symm; clear f1_ f2_ f3_; subst f4_; subst f5_))
       have p377 : 0 ≤ (0 : Int) := (by omega)
       have q377 : 0 < (t374.length : Int) := of_decide_eq_true (by assumption)
       obtain ⟨ad377, e377, hx377_0⟩ := Kd.at_int (Kd.R_reads' HO376.out).2.2 0 p377 q377
       cases e377
       have qi377 : (0 < t374.length) = True := eq_true (by omega)
       (try rw [show ((0 : Int)).toNat = 0 from rfl] at hx377_0)
       (try rw [Addr.add_zero'] at hx377_0)
       replace p377 := eq_true p377
       replace q377 := eq_true q377
       obtain ⟨Ao51, co51, eo51⟩ := Kd.R_slice HO_9.out
       (first | subst eo51 | (injection eo51 with f1_ f2_ f3_; have f4_ := f1_.symm; have f5_ := f3_.symm; clear f1_ f2_ f3_; subst f4_; subst f5_))
       have p378 : 0 ≤ (1 : Int) := (by omega)
       have q378 : 1 < (t368.length : Int) := of_decide_eq_true (by assumption)
       obtain ⟨ad378, e378, hx378_0⟩ := Kd.at_int (Kd.R_reads' HO_9.out).2.2 1 p378 q378
       cases e378
       (try simp only [show (1 : Int).toNat = 1 from rfl, Nat.reduceMul, Nat.reduceEqDiff, Go.Addr.add, ↓reduceIte] at hx378_0)
       have qi378 : (1 < t368.length) = True := eq_true (by omega)
       (try rw [show ((1 : Int)).toNat = 1 from rfl] at hx378_0)
       replace p378 := eq_true p378
       replace q378 := eq_true q378
       have p379 : 0 ≤ (0 : Int) := (by omega)
       have q379 : 0 < (t368.length : Int) := of_decide_eq_true (by assumption)
       obtain ⟨ad379, e379, hx379_0⟩ := Kd.at_int (Kd.R_reads' HO_9.out).2.2 0 p379 q379
       obtain rfl : ad378 = ad379 := (by injection e379)
       have qi379 : (0 < t368.length) = True := eq_true (by omega)
       (try rw [show ((0 : Int)).toNat = 0 from rfl] at hx379_0)
       (try rw [Addr.add_zero'] at hx379_0)
       replace p379 := eq_true p379
       replace q379 := eq_true q379
       have p380 : 0 ≤ (1 : Int) := (by omega)
       have q380 : 1 < (t374.length : Int) := of_decide_eq_true (by assumption)
       obtain ⟨ad380, e380, hx380_0⟩ := Kd.at_int (Kd.R_reads' HO376.out).2.2 1 p380 q380
       obtain rfl : ad377 = ad380 := (by injection e380)
       (try simp only [show (1 : Int).toNat = 1 from rfl, Nat.reduceMul, Nat.reduceEqDiff, Go.Addr.add, ↓reduceIte] at hx380_0)
       have qi380 : (1 < t374.length) = True := eq_true (by omega)
       (try rw [show ((1 : Int)).toNat = 1 from rfl] at hx380_0)
       replace p380 := eq_true p380
       replace q380 := eq_true q380
       refine start_ (n := 15) (S := fun w' => w'.cell? ad377 = some (.int .i64 (rd t374 0)) ∧ w'.cell? ⟨ad378.block, ad378.off + 1, none⟩ = some (.int .i64 (rd t368 1)) ∧ w'.cell? ad378 = some (.int .i64 (rd t368 0)) ∧ w'.cell? ⟨ad377.block, ad377.off + 1, none⟩ = some (.int .i64 (rd t374 1))) (ds := []) (bl_ 15 0x0) (by kernel_rfl) rfl rfl ⟨hx377_0, hx378_0, hx379_0, hx380_0⟩ (fun hHeld => ?_); refine with_tabW spec_MeetingsOnThread.tab12 spec_MeetingsOnThread.bits12 (fun HT_ HW_ => ?_)
       generalize w48.drew = w49 at HO_6 HO_9 HO376 BK364 HB hx377_0 hx378_0 hx379_0 hx380_0 hHeld ⊢
       refine pz_ 0 61 (bl_ 15 0x1) HT_.out ?_
       refine pz_ 1 62 (bl_ 15 0x3) HT_.out ?_
       refine pz_ 3 64 (bl_ 15 0xb) HT_.out ?_
       refine pz_ 4 65 (bl_ 15 0x1b) HT_.out ?_
       refine pz_ 7 68 (bl_ 15 0x9b) HT_.out ?_
       refine pz_ 8 69 (bl_ 15 0x19b) HT_.out ?_
       refine pz_ 10 71 (bl_ 15 0x59b) HT_.out ?_
       refine pz_ 11 72 (bl_ 15 0xd9b) HT_.out ?_
       refine take_ (i := 2) (N := some 63) (v := ?_) (a' := ?_) (bl_ 15 0xd9f) rfl rfl (take_ofW HT_.out HW_.out (by kernel_rfl)) (fun _ _ _ h => h) (Or.inl ⟨by rfl, ?_⟩) hHeld ?_ ?_
       rotate_left
       ·rintro w' ⟨s0, s1, s2, s3⟩
        go_simp
        with_reducible rfl
       rotate_left
       ·simp only [Act.put, sa_, sb_, sc_, i64_w, i32_w]
        rfl
       refine take_ (i := 5) (N := some 66) (v := ?_) (a' := ?_) (bl_ 15 0xdbf) rfl rfl (take_ofW HT_.out HW_.out (by kernel_rfl)) (fun _ _ _ h => h) (Or.inl ⟨by rfl, ?_⟩) hHeld ?_ ?_
       rotate_left
       ·rintro w' ⟨s0, s1, s2, s3⟩
        go_simp
        with_reducible rfl
       rotate_left
       ·simp only [Act.put, sa_, sb_, sc_, i64_w, i32_w]
        rfl
       refine pz_ 6 67 (bl_ 15 0xdff) HT_.out ?_
       refine take_ (i := 9) (N := some 70) (v := ?_) (a' := ?_) (bl_ 15 0xfff) rfl rfl (take_ofW HT_.out HW_.out (by kernel_rfl)) (fun _ _ _ h => h) (Or.inl ⟨by rfl, ?_⟩) hHeld ?_ ?_
       rotate_left
       ·rintro w' ⟨s0, s1, s2, s3⟩
        go_simp
        with_reducible rfl
       rotate_left
       ·simp only [Act.put, sa_, sb_, sc_, i64_w, i32_w]
        rfl
       refine take_ (i := 12) (N := some 73) (v := ?_) (a' := ?_) (bl_ 15 0x1fff) rfl rfl (take_ofW HT_.out HW_.out (by kernel_rfl)) (fun _ _ _ h => h) (Or.inl ⟨by rfl, ?_⟩) hHeld ?_ ?_
       rotate_left
       ·rintro w' ⟨s0, s1, s2, s3⟩
        go_simp
        with_reducible rfl
       rotate_left
       ·simp only [Act.put, sa_, sb_, sc_, i64_w, i32_w]
        rfl
       refine pz_ 13 74 (bl_ 15 0x3fff) HT_.out ?_
       refine pz_ 14 75 (bl_ 15 0x7fff) HT_.out ?_
       refine done_ (done_of HT_.out (by kernel_rfl)) ?_
       have q52 : (x10_3 : Int) ≤ ((x6_2.length : Int) : Int) := of_decide_eq_true (by assumption)
       obtain ⟨i052, hi052, _, hsz52, _⟩ := info_parts info3
       have hroom52 : x6_2.length ≤ co25 := (Kd.R_reads' HO_6.out).2.1
       have hC52 : Kd.C (Kd.int .i64) _ (some ad372) x6_2.length x6_2 := (Kd.R_reads' HO_6.out).2.2
       have hcut52 := cut_to (P := Try.prog) 28 3 .i64 Try.underlying28 hi052 (some ad372) x6_2.length co25 x10_3 (of_decide_eq_true (by assumption)) q52 hroom52
       have hr52 := Kd.C_take (m := (x10_3 : Int).toNat) hC52 (by omega)
       have hy52 : y381.length = (x10_3 : Int).toNat := (by rw [Ny381.out, List.length_take]; omega)
       rw [← Ny381.out] at hr52
       rw [← hy52] at hcut52
       have HR384 := Aside0.mk hr52
       have HC384 := Aside0.mk (show y381.length ≤ co25 from by omega)
       clear hr52 hC52 hroom52 hi052 hsz52
       have KY52 := Aside0.mk hy52
       clear hy52
       have KL52 := Aside0.mk (show (x10_3 : Int).toNat ≤ x6_2.length from by omega)
       replace q52 := eq_true q52
       try go_wp2_with (first | ((with_reducible refine gate_callee (f := 49) rfl ?_); refine gl_ (some 81) Try.func49 #[.slice (some ad372) y381.length co25] ?_; (with_reducible refine (spec_l1Own.calls _ _ y381 t385 _ ?side1 ?side2 A42.out).mono ?_); (case side1 => repeat (first | exact (by repeat (first | (with_reducible exact HR384.out) | (with_reducible refine Kd.C_alloc ?_ _) | (with_reducible refine Kd.C_drewN ?_ _) | (with_reducible refine Kd.C_drew ?_) | exact HR384.out)) | (with_reducible refine Kd.C_alloc ?_ _) | (with_reducible refine Kd.C_drewN ?_ _) | (with_reducible refine Kd.C_drew ?_))); (case side2 => exact HC384.out); rintro e w53 ⟨v386, rfl, ho0, hb⟩; refine ⟨_, rfl, ?_⟩; have n0_ := Aside0.mk (Kd.R_elder' (ru_ HO_6.out) (Kd.R_base ho0) hb); have n1_ := Aside0.mk (Kd.R_elder' (ru_ HO_9.out) (Kd.R_base ho0) hb); have n2_ := Aside0.mk (Kd.R_elder' (ru_ HO376.out) (Kd.R_base ho0) hb); have n3_ := Aside0.mk (Kd.R_lower (Kd.R_new' (Kd.R_new' (Kd.R_new' ho0 (Kd.R_lt (ru_ HO_6.out))) (Kd.R_lt (ru_ HO_9.out))) (Kd.R_lt (ru_ HO376.out))) (below_size (by repeat (first | (with_reducible first | apply below_alloc | apply pw_below_drewN | apply below_drew1 | refine below_set ?_ GE364.out) | exact HB.out)))); have n4_ := Aside0.mk (blk_below (g := gb364) (o := .cells #[.int .i64 ((rd_T25 l0 x26_2).f0), .int .i64 ((rd_T25 l0 x26_2).f1)] 25 (0, 0)) (by (with_reducible repeat (first | refine blk_drewN ?_ _ | refine blk_drew ?_ | refine blk_alloc ?_ _)); exact BK364.out) hb); have n5_ := Aside0.mk (Kd.C_below (by repeat (first | (with_reducible exact HR384.out) | (with_reducible refine Kd.C_alloc ?_ _) | (with_reducible refine Kd.C_drewN ?_ _) | (with_reducible refine Kd.C_drew ?_) | exact HR384.out)) hb); have n6_ := Aside0.mk (below_step (by repeat (first | (with_reducible first | apply below_alloc | apply pw_below_drewN | apply below_drew1 | refine below_set ?_ GE364.out) | exact HB.out)) hb); clear HO_6; clear HO_9; clear HO376; clear BK364; clear HR384; clear HB; have HO_6 := n0_; have HO_9 := n1_; have HO376 := n2_; have HO387 := n3_; have BK364 := n4_; have HR384 := n5_; have HB := n6_; clear n0_ n1_ n2_ n3_ n4_ n5_ n6_; (try clear hb); (try clear ho0)) | ((with_reducible refine gate_builtin (b := .append) (xs := #[.tmp 81, .tmp 83]) rfl ?_); (try (refine gate_guard (by rfl) ?_; dsimp only)); at_builtin; refine Kd.R_append (Kd.int .i64) (w0 := w) w.heap.size rfl (.tmp 81) (.tmp 83) 28 3 (.int .i64 0) 8 rfl Try.underlying28 info3 rfl (by decide) (by omega) v386 t385 x26_2 [.int .i64 x26_2] (fun k_ => some k_ ≠ (.slice (some ad372) x6_2.length co25 : Value).ownBlock ∧ some k_ ≠ (.slice (some ad378) t368.length co51 : Value).ownBlock ∧ some k_ ≠ (.slice (some ad377) t374.length co50 : Value).ownBlock) (fun _ => False) rfl rfl ?aP (fun _ hk => hk.elim) ?aF ?aO ?aB ?aS ?aL ?_; (case aP => exact rfl); (case aB => exact (by repeat (first | (with_reducible first | apply below_alloc | apply pw_below_drewN | apply below_drew1 | refine below_set ?_ GE364.out) | exact HB.out))); (case aF => exact (fun k_ hk => ⟨Kd.fresh' (Kd.R_lt (ru_ HO_6.out)) k_ hk, Kd.fresh' (Kd.R_lt (ru_ HO_9.out)) k_ hk, Kd.fresh' (Kd.R_lt (ru_ HO376.out)) k_ hk⟩)); (case aO => exact (by (with_reducible repeat (first | apply Kd.R_alloc | apply Kd.R_drewN | apply Kd.R_drew)); exact Kd.R_mono HO387.out (fun _ hk => ⟨hk.1.1.2, ⟨hk.1.2, hk.2⟩⟩))); (case aS => exact (below_size (by repeat (first | (with_reducible first | apply below_alloc | apply pw_below_drewN | apply below_drew1 | refine below_set ?_ GE364.out) | exact HB.out)))); (case aL => have := LMc43.out; omega); intro v389 w54 ho hb hg hat; rw [← Ny388.out] at ho; have n0_ := Aside0.mk (Kd.R_after (ok := (fun k_ => some k_ ≠ (.slice (some ad378) t368.length co51 : Value).ownBlock ∧ some k_ ≠ (.slice (some ad377) t374.length co50 : Value).ownBlock)) (ru_ HO_6.out) hg hat); have n1_ := Aside0.mk (Kd.R_after (ok := (fun k_ => some k_ ≠ (.slice (some ad372) x6_2.length co25 : Value).ownBlock ∧ some k_ ≠ (.slice (some ad377) t374.length co50 : Value).ownBlock)) (ru_ HO_9.out) hg hat); have n2_ := Aside0.mk (blk_grown (g := gb364) (o := .cells #[.int .i64 ((rd_T25 l0 x26_2).f0), .int .i64 ((rd_T25 l0 x26_2).f1)] 25 (0, 0)) (by (with_reducible repeat (first | refine blk_drewN ?_ _ | refine blk_drew ?_ | refine blk_alloc ?_ _)); exact BK364.out) hg (Kd.R_ne HO387.out BK364.out (by decide))); have n3_ := Aside0.mk (Kd.R_after (ok := (fun k_ => some k_ ≠ (.slice (some ad372) x6_2.length co25 : Value).ownBlock ∧ some k_ ≠ (.slice (some ad378) t368.length co51 : Value).ownBlock)) (by (with_reducible repeat (first | apply Kd.R_alloc | apply Kd.R_drewN | apply Kd.R_drew)); exact Kd.R_mono HO376.out (fun _ hk => ⟨⟨hk.1.1.2, hk.1.2⟩, hk.2⟩)) hg hat); have n4_ := Aside0.mk (hb); have n5_ := Aside0.mk ((show Kd.C (Kd.int .i64) w54 (some ad372) y381.length y381 from by rw [Ny381.out]; exact Kd.C_take (m := (x10_3 : Int).toNat) ((Kd.R_reads' (Kd.R_after (ok := (fun k_ => some k_ ≠ (.slice (some ad378) t368.length co51 : Value).ownBlock ∧ some k_ ≠ (.slice (some ad377) t374.length co50 : Value).ownBlock)) (ru_ HO_6.out) hg hat)).2.2) KL52.out)); have n6_ := Aside0.mk (ho); clear HO_6; clear HO_9; clear BK364; clear HO376; clear HB; clear HR384; clear HO387; have HO_6 := n0_; have HO_9 := n1_; have BK364 := n2_; have HO376 := n3_; have HB := n4_; have HR384 := n5_; have HO390 := n6_; clear n0_ n1_ n2_ n3_ n4_ n5_ n6_; clear ho hb hg hat; have q55 : (x10_3 : Int) ≤ ((x6_2.length : Int) : Int) := of_decide_eq_true (by assumption); obtain ⟨i055, hi055, _, hsz55, _⟩ := info_parts info3; have hroom55 : x6_2.length ≤ co25 := (Kd.R_reads' HO_6.out).2.1; have hC55 : Kd.C (Kd.int .i64) _ (some ad372) x6_2.length x6_2 := (Kd.R_reads' HO_6.out).2.2; have q055 : (0 : Int) ≤ (x10_3 : Int) := of_decide_eq_true (by assumption); have hcut55 := cut_from (P := Try.prog) 28 3 .i64 Try.underlying28 hi055 1 hsz55 (some ad372) x6_2.length co25 x10_3 q055 q55; have hr55 := Kd.C_drop (m := (x10_3 : Int).toNat) (c := co25) hC55 (by omega) hroom55; obtain ⟨A55, hA55⟩ : ∃ A1, A1 = (if co25 = (x10_3 : Int).toNat then (some ad372) else ((some ad372) : Option Addr).map (·.add ((x10_3 : Int).toNat * 1))) := ⟨_, rfl⟩; obtain ⟨c55, hc55⟩ : ∃ c1, c1 = co25 - (x10_3 : Int).toNat := ⟨_, rfl⟩; have hy55 : y391.length = x6_2.length - (x10_3 : Int).toNat := (by rw [Ny391.out, List.length_drop] <;> omega); rw [show (x6_2).drop (x10_3 : Int).toNat = y391 from Ny391.out.symm] at hr55; replace hr55 : Kd.C (Kd.int .i64) _ A55 y391.length y391 := (by rw [hA55]; exact hr55); rw [← hy55, ← hA55, ← hc55] at hcut55; have HR394 := Aside0.mk hr55; have HC394 := Aside0.mk (show y391.length ≤ c55 from by rw [hy55, hc55]; exact Nat.sub_le_sub_right hroom55 _); clear hr55 hC55 hroom55 hi055 hsz55 hc55; have KY55 := Aside0.mk hy55; have KA55 := Aside0.mk hA55; clear hy55 hA55; have KL55 := Aside0.mk (show (x10_3 : Int).toNat ≤ x6_2.length from by omega); replace q55 := eq_true q55) | ((with_reducible refine gate_builtin (b := .append) (xs := #[.tmp 85, .tmp 88]) rfl ?_); (try (refine gate_guard (by rfl) ?_; dsimp only)); at_builtin; refine Kd.R_append_rows (Kd.int .i64) (w0 := w) w.heap.size rfl (.tmp 85) (.tmp 88) 28 3 (.int .i64 0) 8 rfl Try.underlying28 info3 rfl (by decide) (by omega) v389 y388 y391 _ _ _ (fun k_ => some k_ ≠ (.slice (some ad372) x6_2.length co25 : Value).ownBlock ∧ some k_ ≠ (.slice (some ad378) t368.length co51 : Value).ownBlock ∧ some k_ ≠ (.slice (some ad377) t374.length co50 : Value).ownBlock) (fun _ => False) rfl rfl ?aO ?aR (fun _ _ h => h) (fun _ h => h.elim) ?aF ?aB ?aS ?aL ?_; (case aR => repeat (first | exact (by repeat (first | (with_reducible exact HR394.out) | (with_reducible refine Kd.C_alloc ?_ _) | (with_reducible refine Kd.C_drewN ?_ _) | (with_reducible refine Kd.C_drew ?_) | exact HR394.out)) | (with_reducible refine Kd.C_alloc ?_ _) | (with_reducible refine Kd.C_drewN ?_ _) | (with_reducible refine Kd.C_drew ?_))); (case aB => exact (by repeat (first | (with_reducible first | apply below_alloc | apply pw_below_drewN | apply below_drew1 | refine below_set ?_ GE364.out) | exact HB.out))); (case aF => exact (fun k_ hk => ⟨Kd.fresh' (Kd.R_lt (ru_ HO_6.out)) k_ hk, Kd.fresh' (Kd.R_lt (ru_ HO_9.out)) k_ hk, Kd.fresh' (Kd.R_lt (ru_ HO376.out)) k_ hk⟩)); (case aO => exact (ru_ HO390.out)); (case aS => exact (below_size (by repeat (first | (with_reducible first | apply below_alloc | apply pw_below_drewN | apply below_drew1 | refine below_set ?_ GE364.out) | exact HB.out)))); (case aL => have := LMc46.out; omega); intro v396 w56 ho hb hg hat; rw [← Ny395.out] at ho; have n0_ := Aside0.mk (Kd.R_after (ok := (fun k_ => some k_ ≠ (.slice (some ad378) t368.length co51 : Value).ownBlock ∧ some k_ ≠ (.slice (some ad377) t374.length co50 : Value).ownBlock)) (ru_ HO_6.out) hg hat); have n1_ := Aside0.mk (Kd.R_after (ok := (fun k_ => some k_ ≠ (.slice (some ad372) x6_2.length co25 : Value).ownBlock ∧ some k_ ≠ (.slice (some ad377) t374.length co50 : Value).ownBlock)) (ru_ HO_9.out) hg hat); have n2_ := Aside0.mk (blk_grown (g := gb364) (o := .cells #[.int .i64 ((rd_T25 l0 x26_2).f0), .int .i64 ((rd_T25 l0 x26_2).f1)] 25 (0, 0)) (by (with_reducible repeat (first | refine blk_drewN ?_ _ | refine blk_drew ?_ | refine blk_alloc ?_ _)); exact BK364.out) hg (Kd.R_ne HO390.out BK364.out (by decide))); have n3_ := Aside0.mk (Kd.R_after (ok := (fun k_ => some k_ ≠ (.slice (some ad372) x6_2.length co25 : Value).ownBlock ∧ some k_ ≠ (.slice (some ad378) t368.length co51 : Value).ownBlock)) (ru_ HO376.out) hg hat); have n4_ := Aside0.mk (hb); have n5_ := Aside0.mk ((show Kd.C (Kd.int .i64) w56 (some ad372) y381.length y381 from by rw [Ny381.out]; exact Kd.C_take (m := (x10_3 : Int).toNat) ((Kd.R_reads' (Kd.R_after (ok := (fun k_ => some k_ ≠ (.slice (some ad378) t368.length co51 : Value).ownBlock ∧ some k_ ≠ (.slice (some ad377) t374.length co50 : Value).ownBlock)) (ru_ HO_6.out) hg hat)).2.2) KL52.out)); have n6_ := Aside0.mk ((show Kd.C (Kd.int .i64) w56 A55 y391.length y391 from by rw [Ny391.out, KA55.out]; exact Kd.C_drop (m := (x10_3 : Int).toNat) (c := co25) ((Kd.R_reads' (Kd.R_after (ok := (fun k_ => some k_ ≠ (.slice (some ad378) t368.length co51 : Value).ownBlock ∧ some k_ ≠ (.slice (some ad377) t374.length co50 : Value).ownBlock)) (ru_ HO_6.out) hg hat)).2.2) KL55.out ((Kd.R_reads' (Kd.R_after (ok := (fun k_ => some k_ ≠ (.slice (some ad378) t368.length co51 : Value).ownBlock ∧ some k_ ≠ (.slice (some ad377) t374.length co50 : Value).ownBlock)) (ru_ HO_6.out) hg hat)).2.1))); have n7_ := Aside0.mk (ho); clear HO_6; clear HO_9; clear BK364; clear HO376; clear HB; clear HR384; clear HR394; clear HO390; have HO_6 := n0_; have HO_9 := n1_; have BK364 := n2_; have HO376 := n3_; have HB := n4_; have HR384 := n5_; have HR394 := n6_; have HO397 := n7_; clear n0_ n1_ n2_ n3_ n4_ n5_ n6_ n7_; clear ho hb hg hat))
       go_roundg k3
       case measure => have := HJ2.out; have := HK2.out; have := HK3.out; omega
       case rel => exact ⟨(y395), (wrap64 (x26_2 + 1)), (by first | rfl | (simp; done) | (simp [*]; done)), H', ⟨by have := HJ2.out; have := HK2.out; have := HK3.out; omega⟩, ⟨by (with_reducible repeat (first | apply Kd.R_alloc | apply Kd.R_drewN | apply Kd.R_drew)); exact Kd.R_mono HO397.out (fun _ hk => trivial)⟩, ⟨by repeat (first | (with_reducible first | apply below_alloc | apply pw_below_drewN | apply below_drew1 | refine below_set ?_ GE364.out) | exact HB.out)⟩⟩
end Go.Proofs.Ytheijdpplihigaa.P
