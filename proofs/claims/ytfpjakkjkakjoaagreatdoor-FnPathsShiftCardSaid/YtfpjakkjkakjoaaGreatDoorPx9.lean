/- A part of this seat's proofs: contracts of the translated functions, written by the session's own program (gp.py) out of the kit's print.py and the session's own contracts; no conditions of its own. -/
import Derived.Test.YtfpjakkjkakjoaaGreatDoorPx0
import Derived.Test.YtfpjakkjkakjoaaGreatDoorPx2
import Derived.Test.YtfpjakkjkakjoaaGreatDoorPx6
import Derived.Test.YtfpjakkjkakjoaaGreatDoorPx8
namespace Go.Proofs.YtfpjakkjkakjoaaGreatDoor.P
open Go.RowKit Go.Proofs.YtfpjakkjkakjoaaGreatDoorW.PrintWords Go.Proofs.YtfpjakkjkakjoaaGreatDoorW.PrintLast Go.Proofs.YtfpjakkjkakjoaaGreatDoorW.PrintMore
attribute [local go_sem] max2_int min2_int max_two min_two max_three min_three max_four min_four   -- for this text's walks alone
set_option linter.unusedVariables false
set_option linter.unusedSimpArgs false

/-! ### impl_DoubleArea: function 8 -/
mutual
def impl_DoubleArea.j0 : Nat → Int → ByteArray → Bool → Option (Int × Bool)
 | 0, _, _, _ => none
 | k + 1, x0, x1, x21 => if x21 = true then (some (0, false)) else ((impl_walk.f k x0 x1 0 0 0).bind fun bt280 => (impl_DoubleArea.l0 k bt280.1 0 1))
def impl_DoubleArea.l0 : Nat → List (List Int) → Int → Int → Option (Int × Bool)
 | 0, _, _, _ => none
 | k + 1, x6, x8, x9 => if x9 < (x6.length : Int) then (if 0 ≤ (wrap64 (x9 - 1)) then (if (wrap64 (x9 - 1)) < (x6.length : Int) then (if 0 ≤ x9 then (if 0 < ((rd_L2 x6 (wrap64 (x9 - 1))).length : Int) then (if 1 < ((rd_L2 x6 x9).length : Int) then (if 0 < ((rd_L2 x6 x9).length : Int) then (if 1 < ((rd_L2 x6 (wrap64 (x9 - 1))).length : Int) then (impl_DoubleArea.l0 k x6 (wrap64 (x8 + (wrap64 ((wrap64 ((rd (rd_L2 x6 (wrap64 (x9 - 1))) 0) * (rd (rd_L2 x6 x9) 1))) - (wrap64 ((rd (rd_L2 x6 x9) 0) * (rd (rd_L2 x6 (wrap64 (x9 - 1))) 1))))))) (wrap64 (x9 + 1))) else (none)) else (none)) else (none)) else (none)) else (none)) else (none)) else (none)) else (some (x8, true))
end
def impl_DoubleArea.f (k : Nat) (a0 : Int) (a1 : ByteArray) : Option (Int × Bool) := (impl_isWord.f a0 a1).bind fun t278 => (if t278 = true then ((impl_isClosed.f k a0 a1).bind fun t279 => (impl_DoubleArea.j0 k a0 a1 (!t279))) else (impl_DoubleArea.j0 k a0 a1 true))
theorem impl_DoubleArea.mono_l : ∀ k, (∀ y0 y1 y2, LeO (impl_DoubleArea.j0 k y0 y1 y2) (impl_DoubleArea.j0 (k + 1) y0 y1 y2)) ∧ (∀ y0 y1 y2, LeO (impl_DoubleArea.l0 k y0 y1 y2) (impl_DoubleArea.l0 (k + 1) y0 y1 y2))
 | 0 => ⟨fun _ _ _ r h => by simp [impl_DoubleArea.j0] at h, fun _ _ _ r h => by simp [impl_DoubleArea.l0] at h⟩
 | k + 1 => by
  obtain ⟨ih0, ih1⟩ := impl_DoubleArea.mono_l k
  refine ⟨?_, ?_⟩
  all_goals (intros; first | unfold impl_DoubleArea.j0 | unfold impl_DoubleArea.l0)
  all_goals repeat' with_reducible first | apply ih0 | apply ih1 | apply impl_isClosed.mono | apply impl_walk.mono | exact LeO.refl _ | exact LeO.none _ | refine LeO.ite ?_ ?_ | refine LeO.bind ?_ (fun _ => ?_)
theorem impl_DoubleArea.mono : ∀ a0 a1 k, LeO (impl_DoubleArea.f k a0 a1) (impl_DoubleArea.f (k + 1) a0 a1) := by
 intro a0 a1 k
 obtain ⟨ih0, ih1⟩ := impl_DoubleArea.mono_l k
 unfold impl_DoubleArea.f
 repeat' with_reducible first | apply ih0 | apply ih1 | apply impl_isClosed.mono | apply impl_walk.mono | exact LeO.refl _ | exact LeO.none _ | refine LeO.ite ?_ ?_ | refine LeO.bind ?_ (fun _ => ?_)
set_option maxHeartbeats 8000000 in
set_option maxRecDepth 100000 in
theorem impl_DoubleArea.calls (k : Nat) (a0 : Int) (a1 : ByteArray) (r1 : Int) (r2 : Bool) (w : World) (h : impl_DoubleArea.f k a0 a1 = some (r1, r2)) :
  Calls Tryz.prog 8 #[.int .i64 a0, .string a1] w fun e w' => e = .returned (.tuple #[.int .i64 r1, .bool r2]) ∧ Below w.heap.size w w' := by
 have hu51 := Tryz.underlying51
 have HB := Aside0.mk (Below.refl w.heap.size w)
 have H : ((impl_isWord.f a0 a1).bind fun t278 => (if t278 = true then ((impl_isClosed.f k a0 a1).bind fun t279 => (impl_DoubleArea.j0 k a0 a1 (!t279))) else (impl_DoubleArea.j0 k a0 a1 true))) = some (r1, r2) := h
 clear h
 have HC3 := Aside0.mk H
 clear H
 go_enter Tryz.func8, Tryz.ntmps8
 go_upto_region 1 with (fail)
 repeat (go_quiet (fail); go_upto_region 1 with (fail))
 go_cut [21] (fun v21 wc => ∃ (kq : Nat) (x21_2 : Bool), v21 = .bool x21_2 ∧ Aside0 (impl_DoubleArea.j0 kq a0 a1 x21_2 = some (r1, r2)) ∧ Aside0 (kq ≤ k) ∧ Aside0 (Below w.heap.size w wc))
 case first =>
  have H := HC3.out
  clear HC3
  replace H := Option.bind_eq_some_iff.mp H
  obtain ⟨t278, A40, H⟩ := H
  (try dsimp only at H)
  have A4 := Aside0.mk A40
  clear A40
  by_cases c5 : t278 = true
  ·subst c5
   rw [if_pos rfl] at H
   replace H := Option.bind_eq_some_iff.mp H
   obtain ⟨t279, A60, H⟩ := H
   replace H : (impl_DoubleArea.j0 k a0 a1 (!t279)) = some (r1, r2) := H
   have A6 := Aside0.mk A60
   clear A60
   have H' := Aside0.mk H
   clear H
   go_wp2_with (first | (go_at_call 27; (with_reducible refine (impl_isWord.calls a0 a1 true _ A4.out).mono ?_); rintro e w7 ⟨rfl, hb⟩; have n0_ := Aside0.mk (bs_ hb); clear HB; have HB := n0_; clear n0_; (try clear hb)) | (go_at_call 31; (with_reducible refine (impl_isClosed.calls k a0 a1 t279 _ A6.out).mono ?_); rintro e w8 ⟨rfl, hb⟩; have n0_ := Aside0.mk (bs_ hb); clear HB; have HB := n0_; clear n0_; (try clear hb)))
   repeat (go_quiet (first | (go_at_call 27; (with_reducible refine (impl_isWord.calls a0 a1 true _ A4.out).mono ?_); rintro e w7 ⟨rfl, hb⟩; have n0_ := Aside0.mk (bs_ hb); clear HB; have HB := n0_; clear n0_; (try clear hb)) | (go_at_call 31; (with_reducible refine (impl_isClosed.calls k a0 a1 t279 _ A6.out).mono ?_); rintro e w8 ⟨rfl, hb⟩; have n0_ := Aside0.mk (bs_ hb); clear HB; have HB := n0_; clear n0_; (try clear hb))); try go_wp2_with (first | (go_at_call 27; (with_reducible refine (impl_isWord.calls a0 a1 true _ A4.out).mono ?_); rintro e w7 ⟨rfl, hb⟩; have n0_ := Aside0.mk (bs_ hb); clear HB; have HB := n0_; clear n0_; (try clear hb)) | (go_at_call 31; (with_reducible refine (impl_isClosed.calls k a0 a1 t279 _ A6.out).mono ?_); rintro e w8 ⟨rfl, hb⟩; have n0_ := Aside0.mk (bs_ hb); clear HB; have HB := n0_; clear n0_; (try clear hb))))
   go_meet
   case rel => exact ⟨_, (!t279), (by first | rfl | (simp; done) | (simp [*]; done)), H', ⟨by first | omega | exact Nat.le_refl _⟩, ⟨bb_⟩⟩
  ·replace c5 := Bool.eq_false_iff.mpr c5
   subst c5
   rw [if_neg (show ¬ (false = true) by decide)] at H
   have H' := Aside0.mk H
   clear H
   go_wp2_with (first | (go_at_call 27; (with_reducible refine (impl_isWord.calls a0 a1 false _ A4.out).mono ?_); rintro e w9 ⟨rfl, hb⟩; have n0_ := Aside0.mk (bs_ hb); clear HB; have HB := n0_; clear n0_; (try clear hb)))
   repeat (go_quiet (first | (go_at_call 27; (with_reducible refine (impl_isWord.calls a0 a1 false _ A4.out).mono ?_); rintro e w9 ⟨rfl, hb⟩; have n0_ := Aside0.mk (bs_ hb); clear HB; have HB := n0_; clear n0_; (try clear hb))); try go_wp2_with (first | (go_at_call 27; (with_reducible refine (impl_isWord.calls a0 a1 false _ A4.out).mono ?_); rintro e w9 ⟨rfl, hb⟩; have n0_ := Aside0.mk (bs_ hb); clear HB; have HB := n0_; clear n0_; (try clear hb))))
   go_meet
   case rel => exact ⟨_, (true), (by first | rfl | (simp; done) | (simp [*]; done)), H', ⟨by first | omega | exact Nat.le_refl _⟩, ⟨bb_⟩⟩
 case rest =>
  clear HC3
  (try clear p2); (try clear c5); (try clear c8)
  obtain ⟨kq, x21_2, rfl, HA, HJ2, HB⟩ := hcut
  cases kq with
  | zero => exact absurd HA.out (by simp [impl_DoubleArea.j0])
  | succ kj2 =>
   have H := HA.out
   clear HA
   simp only [impl_DoubleArea.j0] at H
   by_cases c10 : x21_2 = true
   ·subst c10
    rw [if_pos rfl] at H
    simp only [Option.some.injEq, Prod.mk.injEq] at H
    obtain ⟨rfl, rfl⟩ := H
    go_wp2
    repeat (go_quiet (fail); try go_wp2)
    go_ret2
    exact ⟨by first | rfl | (simp [errW_none, errW_some] <;> rfl) | (simp [*, errW_none, errW_some] <;> rfl), bb_⟩
   replace c10 := Bool.eq_false_iff.mpr c10
   subst c10
   rw [if_neg (show ¬ (false = true) by decide)] at H
   replace H := Option.bind_eq_some_iff.mp H
   obtain ⟨⟨t280, t283, t284, t285⟩, A110, H⟩ := H
   replace H : (impl_DoubleArea.l0 kj2 t280 0 1) = some (r1, r2) := H
   have A11 := Aside0.mk A110
   clear A110
   have H' := Aside0.mk H
   clear H
   go_wp2_with (first | (go_at_call 32; (with_reducible refine (impl_walk.calls kj2 a0 a1 0 0 0 t280 t283 t284 t285 _ A11.out).mono ?_); rintro e w12 ⟨v281, rfl, ho0, hb⟩; have n0_ := Aside0.mk (Kd.N_lower (Kd.N_mono (ok' := fun k_ => True) ho0 (fun k_ hk_ => trivial)) bz_); have n1_ := Aside0.mk (bs_ hb); clear HB; have HO282 := n0_; have HB := n1_; clear n0_ n1_; (try clear hb); (try clear ho0)) | ((with_reducible refine gate_dst (N := 7) rfl ?_); refine box_event ?hg (N := 7) ?hd (cs := #[.int .i64 0, .int .i64 0, .int .i64 0]) (t := 51) ?hr ?_; (case hd => rfl); (case hg => rfl); (case hr => first | (go_simp; done) | (go_simp; rfl)); intro gb286 hg w13 hbox hb; have n0_ := Aside0.mk (Kd.N_below (Kd.N_elderB (nu_ HO282.out) gb286 (Nat.le_of_eq hg.symm)) hb); have n1_ := Aside0.mk (bs_ hb); have n2_ := Aside0.mk (hbox); have n3_ := Aside0.mk ((by rw [hg]; exact bz_ : w.heap.size ≤ gb286)); have n4_ := Aside0.mk ((by rw [hg]; exact bz_ : w.heap.size ≤ gb286)); clear HO282; clear HB; have HO282 := n0_; have HB := n1_; have BK286 := n2_; have GW286 := n3_; have GE286 := n4_; clear n0_ n1_ n2_ n3_ n4_; clear hb hbox hg; have hcz14_0 : w13.cell? ⟨gb286, 0, none⟩ = some (.int .i64 0) := (blk_cell BK286.out 0).trans rfl; have hcz14_1 : w13.cell? ⟨gb286, 1, none⟩ = some (.int .i64 0) := (blk_cell BK286.out 1).trans rfl; have hcz14_2 : w13.cell? ⟨gb286, 2, none⟩ = some (.int .i64 0) := (blk_cell BK286.out 2).trans rfl; have hfz14_0 := blk_frozen BK286.out 0; have hfz14_1 := blk_frozen BK286.out 1; have hfz14_2 := blk_frozen BK286.out 2))
   repeat (go_quiet (first | (go_at_call 32; (with_reducible refine (impl_walk.calls kj2 a0 a1 0 0 0 t280 t283 t284 t285 _ A11.out).mono ?_); rintro e w12 ⟨v281, rfl, ho0, hb⟩; have n0_ := Aside0.mk (Kd.N_lower (Kd.N_mono (ok' := fun k_ => True) ho0 (fun k_ hk_ => trivial)) bz_); have n1_ := Aside0.mk (bs_ hb); clear HB; have HO282 := n0_; have HB := n1_; clear n0_ n1_; (try clear hb); (try clear ho0)) | ((with_reducible refine gate_dst (N := 7) rfl ?_); refine box_event ?hg (N := 7) ?hd (cs := #[.int .i64 0, .int .i64 0, .int .i64 0]) (t := 51) ?hr ?_; (case hd => rfl); (case hg => rfl); (case hr => first | (go_simp; done) | (go_simp; rfl)); intro gb286 hg w13 hbox hb; have n0_ := Aside0.mk (Kd.N_below (Kd.N_elderB (nu_ HO282.out) gb286 (Nat.le_of_eq hg.symm)) hb); have n1_ := Aside0.mk (bs_ hb); have n2_ := Aside0.mk (hbox); have n3_ := Aside0.mk ((by rw [hg]; exact bz_ : w.heap.size ≤ gb286)); have n4_ := Aside0.mk ((by rw [hg]; exact bz_ : w.heap.size ≤ gb286)); clear HO282; clear HB; have HO282 := n0_; have HB := n1_; have BK286 := n2_; have GW286 := n3_; have GE286 := n4_; clear n0_ n1_ n2_ n3_ n4_; clear hb hbox hg; have hcz14_0 : w13.cell? ⟨gb286, 0, none⟩ = some (.int .i64 0) := (blk_cell BK286.out 0).trans rfl; have hcz14_1 : w13.cell? ⟨gb286, 1, none⟩ = some (.int .i64 0) := (blk_cell BK286.out 1).trans rfl; have hcz14_2 : w13.cell? ⟨gb286, 2, none⟩ = some (.int .i64 0) := (blk_cell BK286.out 2).trans rfl; have hfz14_0 := blk_frozen BK286.out 0; have hfz14_1 := blk_frozen BK286.out 1; have hfz14_2 := blk_frozen BK286.out 2)); try go_wp2_with (first | (go_at_call 32; (with_reducible refine (impl_walk.calls kj2 a0 a1 0 0 0 t280 t283 t284 t285 _ A11.out).mono ?_); rintro e w12 ⟨v281, rfl, ho0, hb⟩; have n0_ := Aside0.mk (Kd.N_lower (Kd.N_mono (ok' := fun k_ => True) ho0 (fun k_ hk_ => trivial)) bz_); have n1_ := Aside0.mk (bs_ hb); clear HB; have HO282 := n0_; have HB := n1_; clear n0_ n1_; (try clear hb); (try clear ho0)) | ((with_reducible refine gate_dst (N := 7) rfl ?_); refine box_event ?hg (N := 7) ?hd (cs := #[.int .i64 0, .int .i64 0, .int .i64 0]) (t := 51) ?hr ?_; (case hd => rfl); (case hg => rfl); (case hr => first | (go_simp; done) | (go_simp; rfl)); intro gb286 hg w13 hbox hb; have n0_ := Aside0.mk (Kd.N_below (Kd.N_elderB (nu_ HO282.out) gb286 (Nat.le_of_eq hg.symm)) hb); have n1_ := Aside0.mk (bs_ hb); have n2_ := Aside0.mk (hbox); have n3_ := Aside0.mk ((by rw [hg]; exact bz_ : w.heap.size ≤ gb286)); have n4_ := Aside0.mk ((by rw [hg]; exact bz_ : w.heap.size ≤ gb286)); clear HO282; clear HB; have HO282 := n0_; have HB := n1_; have BK286 := n2_; have GW286 := n3_; have GE286 := n4_; clear n0_ n1_ n2_ n3_ n4_; clear hb hbox hg; have hcz14_0 : w13.cell? ⟨gb286, 0, none⟩ = some (.int .i64 0) := (blk_cell BK286.out 0).trans rfl; have hcz14_1 : w13.cell? ⟨gb286, 1, none⟩ = some (.int .i64 0) := (blk_cell BK286.out 1).trans rfl; have hcz14_2 : w13.cell? ⟨gb286, 2, none⟩ = some (.int .i64 0) := (blk_cell BK286.out 2).trans rfl; have hfz14_0 := blk_frozen BK286.out 0; have hfz14_1 := blk_frozen BK286.out 1; have hfz14_2 := blk_frozen BK286.out 2)))
   go_loopg [8, 9] kj2 (fun kq v8 v9 w' => ∃ (x8_2 : Int) (x9_2 : Int), v8 = .int .i64 x8_2 ∧ v9 = .int .i64 x9_2 ∧ Aside0 (impl_DoubleArea.l0 kq t280 x8_2 x9_2 = some (r1, r2)) ∧ Aside0 (kq ≤ kj2) ∧ Aside0 (Kd.N (Kd.slice 3 (Kd.int .i64)) 54 w' w.heap.size (fun k_ => k_ ≠ gb286) v281 t280) ∧ Aside0 (w'.heap[gb286]? = some (.cells #[.int .i64 t283, .int .i64 t284, .int .i64 t285] 51 (0, 0))) ∧ Aside0 (Below w.heap.size w w'))
   case atStart => exact ⟨(0), (1), (by first | rfl | (simp; done) | (simp [*]; done)), (by first | rfl | (simp; done) | (simp [*]; done)), H', ⟨Nat.le_refl _⟩, ⟨by (with_reducible repeat (first | apply Kd.N_alloc | apply Kd.N_drewN | apply Kd.N_drew)); exact Kd.N_mono (Kd.N_far (p := ⟨gb286, 2, none⟩) (Kd.N_far (p := ⟨gb286, 1, none⟩) (Kd.N_far (p := ⟨gb286, 0, none⟩) (Kd.N_mono HO282.out (fun k_ hk => (⟨hk, hk.2⟩ : _ ∧ k_ ≠ gb286))) (fun _ hk => hk.2) (.int .i64 t283)) (fun _ hk => hk.2) (.int .i64 t284)) (fun _ hk => hk.2) (.int .i64 t285)) (fun _ hk => hk.1.2)⟩, ⟨by (with_reducible repeat (first | refine blk_drewN ?_ _ | refine blk_drew ?_ | refine blk_alloc ?_ _)); refine blk_put (cs := #[.int .i64 t283, .int .i64 t284, .int .i64 0]) ?_ 2 _ rfl; (with_reducible repeat (first | refine blk_drewN ?_ _ | refine blk_drew ?_ | refine blk_alloc ?_ _)); refine blk_put (cs := #[.int .i64 t283, .int .i64 0, .int .i64 0]) ?_ 1 _ rfl; (with_reducible repeat (first | refine blk_drewN ?_ _ | refine blk_drew ?_ | refine blk_alloc ?_ _)); refine blk_put (cs := #[.int .i64 0, .int .i64 0, .int .i64 0]) ?_ 0 _ rfl; (with_reducible repeat (first | refine blk_drewN ?_ _ | refine blk_drew ?_ | refine blk_alloc ?_ _)); exact BK286.out⟩, ⟨by repeat (first | (with_reducible first | apply below_alloc | apply pw_below_drewN | apply below_drew1 | refine below_set ?_ GE286.out) | exact HB.out)⟩⟩
   case round =>
    clear H'
    (try clear c1); (try clear p2); (try clear c5); (try clear c8); (try clear c10); (try clear hcz14_0); (try clear hcz14_1); (try clear hcz14_2); (try clear hfz14_0); (try clear hfz14_1); (try clear hfz14_2); (try clear p2)
    obtain ⟨x8_2, x9_2, rfl, rfl, HA, HK2, HO_6, BK286, HB⟩ := hrel
    cases gk with
    | zero => exact absurd HA.out (by simp [impl_DoubleArea.l0])
    | succ k2 =>
     have H := HA.out
     clear HA
     simp only [impl_DoubleArea.l0] at H
     by_cases c15 : x9_2 < (t280.length : Int)
     rotate_left
     ·rw [if_neg c15] at H
      have c15b0 : decide (x9_2 < (t280.length : Int)) = false := decide_eq_false c15
      clear c15
      simp only [Option.some.injEq, Prod.mk.injEq] at H
      obtain ⟨rfl, rfl⟩ := H
      obtain ⟨Ao25, co25, eo25⟩ := Kd.N_slice HO_6.out
      subst eo25
      go_wp2
      repeat (go_quiet (fail); try go_wp2)
      go_ret2
      exact ⟨by first | rfl | (simp [errW_none, errW_some] <;> rfl) | (simp [*, errW_none, errW_some] <;> rfl), by repeat (first | (with_reducible first | apply below_alloc | apply pw_below_drewN | apply below_drew1 | refine below_set ?_ GE286.out) | exact HB.out)⟩

     rw [if_pos c15] at H
     have c15b0 : decide (x9_2 < (t280.length : Int)) = true := decide_eq_true c15
     clear c15
     obtain ⟨ji16, hji16⟩ : ∃ j_ : Int, (wrap64 (x9_2 - 1)) = j_ := ⟨_, rfl⟩
     replace H : (if 0 ≤ (ji16) then (if (ji16) < (t280.length : Int) then (if 0 ≤ x9_2 then (if 0 < ((rd_L2 t280 (ji16)).length : Int) then (if 1 < ((rd_L2 t280 x9_2).length : Int) then (if 0 < ((rd_L2 t280 x9_2).length : Int) then (if 1 < ((rd_L2 t280 (ji16)).length : Int) then (impl_DoubleArea.l0 k2 t280 (wrap64 (x8_2 + (wrap64 ((wrap64 ((rd (rd_L2 t280 (ji16)) 0) * (rd (rd_L2 t280 x9_2) 1))) - (wrap64 ((rd (rd_L2 t280 x9_2) 0) * (rd (rd_L2 t280 (ji16)) 1))))))) (wrap64 (x9_2 + 1))) else (none)) else (none)) else (none)) else (none)) else (none)) else (none)) else (none)) = some (r1, r2) := by first | (rw [hji16] at H; exact H) | (simp only [hji16] at H ⊢; exact H)
     have hji16w : (IntKind.i64.wrap (x9_2 - 1)) = ji16 := (i64_w _).trans hji16
     by_cases c17 : 0 ≤ (ji16)
     rotate_left
     ·rw [if_neg c17] at H
      exact absurd H (by simp)
     rw [if_pos c17] at H
     have c17b0 : decide (0 ≤ (ji16)) = true := decide_eq_true c17
     clear c17
     by_cases c18 : (ji16) < (t280.length : Int)
     rotate_left
     ·rw [if_neg c18] at H
      exact absurd H (by simp)
     rw [if_pos c18] at H
     have c18b0 : decide ((ji16) < (t280.length : Int)) = true := decide_eq_true c18
     clear c18
     by_cases c19 : 0 ≤ x9_2
     rotate_left
     ·rw [if_neg c19] at H
      exact absurd H (by simp)
     rw [if_pos c19] at H
     have c19b0 : decide (0 ≤ x9_2) = true := decide_eq_true c19
     clear c19
     by_cases c20 : 0 < ((rd_L2 t280 (ji16)).length : Int)
     rotate_left
     ·rw [if_neg c20] at H
      exact absurd H (by simp)
     rw [if_pos c20] at H
     have c20b0 : decide (0 < ((rd_L2 t280 (ji16)).length : Int)) = true := decide_eq_true c20
     have c20b1 : decide (0 < (rd_L2 t280 (ji16)).length) = true := decide_eq_true (by omega)
     clear c20
     by_cases c21 : 1 < ((rd_L2 t280 x9_2).length : Int)
     rotate_left
     ·rw [if_neg c21] at H
      exact absurd H (by simp)
     rw [if_pos c21] at H
     have c21b0 : decide (1 < ((rd_L2 t280 x9_2).length : Int)) = true := decide_eq_true c21
     have c21b1 : decide (1 < (rd_L2 t280 x9_2).length) = true := decide_eq_true (by omega)
     clear c21
     by_cases c22 : 0 < ((rd_L2 t280 x9_2).length : Int)
     rotate_left
     ·rw [if_neg c22] at H
      exact absurd H (by simp)
     rw [if_pos c22] at H
     have c22b0 : decide (0 < ((rd_L2 t280 x9_2).length : Int)) = true := decide_eq_true c22
     have c22b1 : decide (0 < (rd_L2 t280 x9_2).length) = true := decide_eq_true (by omega)
     clear c22
     by_cases c23 : 1 < ((rd_L2 t280 (ji16)).length : Int)
     rotate_left
     ·rw [if_neg c23] at H
      exact absurd H (by simp)
     rw [if_pos c23] at H
     have c23b0 : decide (1 < ((rd_L2 t280 (ji16)).length : Int)) = true := decide_eq_true c23
     have c23b1 : decide (1 < (rd_L2 t280 (ji16)).length) = true := decide_eq_true (by omega)
     clear c23
     have H' := Aside0.mk H
     clear H
     obtain ⟨Ao24, co24, eo24⟩ := Kd.N_slice HO_6.out
     subst eo24
     have p287 : 0 ≤ ((ji16) : Int) := of_decide_eq_true (by assumption)
     have q287 : (ji16) < (t280.length : Int) := of_decide_eq_true (by assumption)
     obtain ⟨ad287, A287_0, c287_0, e287, hx287_0, hl287_0, hi287_0⟩ := at_L2 (Kd.N_reads' HO_6.out).2.2 (ji16) p287 q287
     cases e287
     obtain ⟨ce287, hce287, hMe287, hcc287⟩ := Kd.N_get HO_6.out [] (ji16) p287 (by first | exact q287 | exact of_decide_eq_true (by assumption) | (have e_ := (Kd.N_reads' HO_6.out).1; omega))
     obtain ⟨ua287_0, uc287_0, rfl, ul287_0, ge287_0⟩ := Kd.FK_slice_open hMe287
     have hv287_0 := hcc287 0 _ rfl
     rw [Nat.add_zero, show ((Kd.slice 3 (Kd.int .i64))).sz = 1 from rfl, Nat.mul_one] at hv287_0
     replace hv287_0 := Option.some.inj (hv287_0.symm.trans hx287_0)
     injection hv287_0 with hva_ hvn_ hvc_
     rw [hva_] at ge287_0
     rw [hvc_] at ul287_0
     have HL287_0 := Aside0.mk (show Kd.V (Kd.int .i64) 3 _ w.heap.size _ _ (rd_L2 t280 (ji16)) from Kd.V_mk ul287_0 ge287_0)
     clear hva_ hvn_ hvc_ ge287_0 ul287_0
     clear hcc287 hce287
     have HR287_0 := Aside0.mk hi287_0
     have HC287_0 := Aside0.mk hl287_0
     clear hi287_0 hl287_0
     replace p287 := eq_true p287
     replace q287 := eq_true q287
     have p288 : 0 ≤ (x9_2 : Int) := of_decide_eq_true (by assumption)
     have q288 : x9_2 < (t280.length : Int) := of_decide_eq_true (by assumption)
     obtain ⟨ad288, A288_0, c288_0, e288, hx288_0, hl288_0, hi288_0⟩ := at_L2 (Kd.N_reads' HO_6.out).2.2 x9_2 p288 q288
     obtain rfl : ad287 = ad288 := (by injection e288)
     obtain ⟨ce288, hce288, hMe288, hcc288⟩ := Kd.N_get HO_6.out [] x9_2 p288 (by first | exact q288 | exact of_decide_eq_true (by assumption) | (have e_ := (Kd.N_reads' HO_6.out).1; omega))
     obtain ⟨ua288_0, uc288_0, rfl, ul288_0, ge288_0⟩ := Kd.FK_slice_open hMe288
     have hv288_0 := hcc288 0 _ rfl
     rw [Nat.add_zero, show ((Kd.slice 3 (Kd.int .i64))).sz = 1 from rfl, Nat.mul_one] at hv288_0
     replace hv288_0 := Option.some.inj (hv288_0.symm.trans hx288_0)
     injection hv288_0 with hva_ hvn_ hvc_
     rw [hva_] at ge288_0
     rw [hvc_] at ul288_0
     have HL288_0 := Aside0.mk (show Kd.V (Kd.int .i64) 3 _ w.heap.size _ _ (rd_L2 t280 x9_2) from Kd.V_mk ul288_0 ge288_0)
     clear hva_ hvn_ hvc_ ge288_0 ul288_0
     clear hcc288 hce288
     have HR288_0 := Aside0.mk hi288_0
     have HC288_0 := Aside0.mk hl288_0
     clear hi288_0 hl288_0
     replace p288 := eq_true p288
     replace q288 := eq_true q288
     have p289 : 0 ≤ (0 : Int) := (by omega)
     have q289 : 0 < ((rd_L2 t280 (ji16)).length : Int) := of_decide_eq_true (by assumption)
     obtain ⟨ad289, e289, hx289_0⟩ := Kd.at_int (by repeat (first | (with_reducible exact HR287_0.out) | (with_reducible refine Kd.C_alloc ?_ _) | (with_reducible refine Kd.C_drewN ?_ _) | (with_reducible refine Kd.C_drew ?_) | exact HR287_0.out)) 0 p289 q289
     cases e289
     have qi289 : (0 < (rd_L2 t280 (ji16)).length) = True := eq_true (by omega)
     (try rw [show ((0 : Int)).toNat = 0 from rfl] at hx289_0)
     (try rw [Addr.add_zero'] at hx289_0)
     replace p289 := eq_true p289
     replace q289 := eq_true q289
     have p290 : 0 ≤ (1 : Int) := (by omega)
     have q290 : 1 < ((rd_L2 t280 x9_2).length : Int) := of_decide_eq_true (by assumption)
     obtain ⟨ad290, e290, hx290_0⟩ := Kd.at_int (by repeat (first | (with_reducible exact HR288_0.out) | (with_reducible refine Kd.C_alloc ?_ _) | (with_reducible refine Kd.C_drewN ?_ _) | (with_reducible refine Kd.C_drew ?_) | exact HR288_0.out)) 1 p290 q290
     cases e290
     (try simp only [show (1 : Int).toNat = 1 from rfl, Nat.reduceMul, Nat.reduceEqDiff, Go.Addr.add, ↓reduceIte] at hx290_0)
     have qi290 : (1 < (rd_L2 t280 x9_2).length) = True := eq_true (by omega)
     (try rw [show ((1 : Int)).toNat = 1 from rfl] at hx290_0)
     replace p290 := eq_true p290
     replace q290 := eq_true q290
     have p291 : 0 ≤ (0 : Int) := (by omega)
     have q291 : 0 < ((rd_L2 t280 x9_2).length : Int) := of_decide_eq_true (by assumption)
     obtain ⟨ad291, e291, hx291_0⟩ := Kd.at_int (by repeat (first | (with_reducible exact HR288_0.out) | (with_reducible refine Kd.C_alloc ?_ _) | (with_reducible refine Kd.C_drewN ?_ _) | (with_reducible refine Kd.C_drew ?_) | exact HR288_0.out)) 0 p291 q291
     obtain rfl : ad290 = ad291 := (by injection e291)
     have qi291 : (0 < (rd_L2 t280 x9_2).length) = True := eq_true (by omega)
     (try rw [show ((0 : Int)).toNat = 0 from rfl] at hx291_0)
     (try rw [Addr.add_zero'] at hx291_0)
     replace p291 := eq_true p291
     replace q291 := eq_true q291
     have p292 : 0 ≤ (1 : Int) := (by omega)
     have q292 : 1 < ((rd_L2 t280 (ji16)).length : Int) := of_decide_eq_true (by assumption)
     obtain ⟨ad292, e292, hx292_0⟩ := Kd.at_int (by repeat (first | (with_reducible exact HR287_0.out) | (with_reducible refine Kd.C_alloc ?_ _) | (with_reducible refine Kd.C_drewN ?_ _) | (with_reducible refine Kd.C_drew ?_) | exact HR287_0.out)) 1 p292 q292
     obtain rfl : ad289 = ad292 := (by injection e292)
     (try simp only [show (1 : Int).toNat = 1 from rfl, Nat.reduceMul, Nat.reduceEqDiff, Go.Addr.add, ↓reduceIte] at hx292_0)
     have qi292 : (1 < (rd_L2 t280 (ji16)).length) = True := eq_true (by omega)
     (try rw [show ((1 : Int)).toNat = 1 from rfl] at hx292_0)
     replace p292 := eq_true p292
     replace q292 := eq_true q292
     go_wp2
     repeat (go_quiet (fail); try go_wp2)
     go_roundg k2
     case measure => have := HJ2.out; have := HK2.out; omega
     case rel => exact ⟨(wrap64 (x8_2 + (wrap64 ((wrap64 ((rd (rd_L2 t280 (ji16)) 0) * (rd (rd_L2 t280 x9_2) 1))) - (wrap64 ((rd (rd_L2 t280 x9_2) 0) * (rd (rd_L2 t280 (ji16)) 1))))))), (wrap64 (x9_2 + 1)), (by first | rfl | (simp; done) | (simp only [← hji16] <;> (first | rfl | simp)) | (simp [*]; done)), (by first | rfl | (simp; done) | (simp [*]; done)), H', ⟨by have := HJ2.out; have := HK2.out; omega⟩, ⟨by (with_reducible repeat (first | apply Kd.N_alloc | apply Kd.N_drewN | apply Kd.N_drew)); exact HO_6.out⟩, ⟨by (with_reducible repeat (first | refine blk_drewN ?_ _ | refine blk_drew ?_ | refine blk_alloc ?_ _)); exact BK286.out⟩, ⟨by repeat (first | (with_reducible first | apply below_alloc | apply pw_below_drewN | apply below_drew1 | refine below_set ?_ GE286.out) | exact HB.out)⟩⟩
end Go.Proofs.YtfpjakkjkakjoaaGreatDoor.P
