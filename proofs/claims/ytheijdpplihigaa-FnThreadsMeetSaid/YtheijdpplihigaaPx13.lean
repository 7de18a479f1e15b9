/- A part of this seat's proofs: contracts of the translated functions, written by the session's own program (gp.py) out of the kit's print.py and the session's own contracts; no conditions of its own. -/
import Derived.Test.YtheijdpplihigaaPx0
import Derived.Test.YtheijdpplihigaaPx2
import Derived.Test.YtheijdpplihigaaPx4
import Derived.Test.YtheijdpplihigaaPx5
namespace Go.Proofs.Ytheijdpplihigaa.P
open Go.RowKit Go.Proofs.YtheijdpplihigaaW.PrintWords Go.Proofs.YtheijdpplihigaaW.PrintLast Go.Proofs.YtheijdpplihigaaW.PrintMore
attribute [local go_sem] max2_int min2_int max_two min_two max_three min_three max_four min_four   -- for this text's walks alone
set_option linter.unusedVariables false
set_option linter.unusedSimpArgs false

/-! ### spec_sgGood: function 47 -/
def spec_sgGood.l0 : Nat → List (S25) → List (S25) → Int → Int → Option (Bool)
 | 0, _, _, _, _ => none
 | k + 1, x0, x9, x10, x11 => if x11 < x10 then (if 0 ≤ x11 then (if x11 < (x9.length : Int) then ((spec_sgThread.f ((rd_T25 x9 x11).f0) ((rd_T25 x9 x11).f1)).bind fun t352 => (if t352 = true then (if x11 > 0 then (if 0 ≤ (wrap64 (x11 - 1)) then (if (wrap64 (x11 - 1)) < (x0.length : Int) then ((spec_sgLess.f ((rd_T25 x0 (wrap64 (x11 - 1))).f0) ((rd_T25 x0 (wrap64 (x11 - 1))).f1) ((rd_T25 x9 x11).f0) ((rd_T25 x9 x11).f1)).bind fun t354 => (if t354 = true then (spec_sgGood.l0 k x0 x9 x10 (wrap64 (x11 + 1))) else (some false))) else (none)) else (none)) else (spec_sgGood.l0 k x0 x9 x10 (wrap64 (x11 + 1)))) else (some false))) else (none)) else (none)) else (some true)
def spec_sgGood.f (k : Nat) (l0 : List (S25)) : Option (Bool) := (spec_l1In.f (l0.length : Int) 1 30).bind fun t349 => (if t349 = true then (spec_sgGood.l0 k l0 l0 (l0.length : Int) 0) else (some false))
theorem spec_sgGood.mono_l : ∀ k, (∀ y0 y1 y2 y3, LeO (spec_sgGood.l0 k y0 y1 y2 y3) (spec_sgGood.l0 (k + 1) y0 y1 y2 y3))
 | 0 => fun _ _ _ _ r h => by simp [spec_sgGood.l0] at h
 | k + 1 => by
  have ih0 := spec_sgGood.mono_l k
  ·intro y0 y1 y2 y3
   unfold spec_sgGood.l0
   repeat' with_reducible first | apply ih0 | exact LeO.refl _ | exact LeO.none _ | refine LeO.ite ?_ ?_ | refine LeO.bind ?_ (fun _ => ?_)
theorem spec_sgGood.mono : ∀ a0 k, LeO (spec_sgGood.f k a0) (spec_sgGood.f (k + 1) a0) := by
 intro a0 k
 have ih0 := spec_sgGood.mono_l k
 unfold spec_sgGood.f
 repeat' with_reducible first | apply ih0 | exact LeO.refl _ | exact LeO.none _ | refine LeO.ite ?_ ?_ | refine LeO.bind ?_ (fun _ => ?_)
def spec_sgGood.T6 : Bool × List (List Nat × List Nat) := (true, [([], []), ([0], [0]), ([1], [1]), ([2, 1], [2]), ([3], [3]), ([4, 3], [3, 4]), ([5, 3, 3], [3, 5]), ([6], [6]), ([6], [6]), ([8, 6], [6, 8]), ([7, 9, 6], [6, 7, 9]), ([10, 6], [6, 10]), ([6], [6]), ([11, 12, 6, 6], [6, 11, 12]), ([13, 6], [6, 13]), ([6, 14, 3], [3, 6, 14]), ([3, 15], [3, 15])])
def spec_sgGood.B6 : List Nat := [0, 1, 3, 7, 15, 31, 63, 127, 127, 383, 1023, 2047, 127, 8191, 16383, 32767, 65535]
theorem spec_sgGood.tab6 : rtab .any (opsOf Try.f47 6) = spec_sgGood.T6 := by kernel_rfl
theorem spec_sgGood.bits6 : waitsOk spec_sgGood.T6.2 spec_sgGood.B6 = true := by kernel_rfl
set_option maxHeartbeats 8000000 in
set_option maxRecDepth 100000 in
theorem spec_sgGood.calls (k : Nat) (A0 : Option Addr) (c0 : Nat) (l0 : List (S25)) (r : Bool) (w : World) (hr0 : Kd.C k25 w A0 l0.length l0) (hc0 : l0.length ≤ c0) (h : spec_sgGood.f k l0 = some r) :
  Calls Try.prog 47 #[.slice A0 l0.length c0] w fun e w' => e = .returned (.bool r) ∧ Below w.heap.size w w' := by
 have hu25 := Try.underlying25
 have HR0 := Aside0.mk hr0
 have HC0 := Aside0.mk hc0
 clear hr0 hc0
 have HB := Aside0.mk (Below.refl w.heap.size w)
 have H : ((spec_l1In.f (l0.length : Int) 1 30).bind fun t349 => (if t349 = true then (spec_sgGood.l0 k l0 l0 (l0.length : Int) 0) else (some false))) = some r := h
 clear h
 replace H := Option.bind_eq_some_iff.mp H
 obtain ⟨t349, A20, H⟩ := H
 (try dsimp only at H)
 have A2 := Aside0.mk A20
 clear A20
 by_cases c3 : t349 = true
 rotate_left
 ·replace c3 := Bool.eq_false_iff.mpr c3
  subst c3
  rw [if_neg (show ¬ (false = true) by decide)] at H
  obtain rfl := Option.some.inj H
  go_enter Try.func47, Try.ntmps47
  go_wp2_with (first | ((with_reducible refine gate_callee (f := 48) rfl ?_); refine gl_ (some 7) Try.func48 #[.int .i64 (l0.length : Int), .int .i64 1, .int .i64 30] ?_; (with_reducible refine (spec_l1In.calls (l0.length : Int) 1 30 false _ A2.out).mono ?_); rintro e w' ⟨rfl, ⟨nd, rfl⟩⟩; refine ⟨_, rfl, ?_⟩))
  go_ret
  exact ⟨by first | rfl | (simp [errW_none, errW_some] <;> rfl) | (simp [*, errW_none, errW_some] <;> rfl), bb_⟩

 subst c3
 rw [if_pos rfl] at H
 have H' := Aside0.mk H
 clear H
 go_enter Try.func47, Try.ntmps47
 go_wp2_with (first | ((with_reducible refine gate_callee (f := 48) rfl ?_); refine gl_ (some 7) Try.func48 #[.int .i64 (l0.length : Int), .int .i64 1, .int .i64 30] ?_; (with_reducible refine (spec_l1In.calls (l0.length : Int) 1 30 true _ A2.out).mono ?_); rintro e w' ⟨rfl, ⟨nd, rfl⟩⟩; refine ⟨_, rfl, ?_⟩))
 go_loopg [11] k (fun kq v11 w' => ∃ (x11_1 : Int), v11 = .int .i64 x11_1 ∧ Aside0 (spec_sgGood.l0 kq l0 l0 (l0.length : Int) x11_1 = some r) ∧ Aside0 (kq ≤ k) ∧ Aside0 (Below w.heap.size w w'))
 case atStart => exact ⟨(0), (by first | rfl | (simp; done) | (simp [*]; done)), H', ⟨Nat.le_refl _⟩, ⟨bb_⟩⟩
 case round =>
  clear H'
  (try clear p2); (try clear c3)
  obtain ⟨x11_1, rfl, HA, HK1, HB⟩ := hrel
  cases gk with
  | zero => exact absurd HA.out (by simp [spec_sgGood.l0])
  | succ k1 =>
   have H := HA.out
   clear HA
   simp only [spec_sgGood.l0] at H
   by_cases c4 : x11_1 < (l0.length : Int)
   rotate_left
   ·rw [if_neg c4] at H
    have c4b0 : decide (x11_1 < (l0.length : Int)) = false := decide_eq_false c4
    clear c4
    obtain rfl := Option.some.inj H
    go_wp2
    go_ret
    exact ⟨by first | rfl | (simp [errW_none, errW_some] <;> rfl) | (simp [*, errW_none, errW_some] <;> rfl), bb_⟩
   rw [if_pos c4] at H
   have c4b0 : decide (x11_1 < (l0.length : Int)) = true := decide_eq_true c4
   clear c4
   by_cases c5 : 0 ≤ x11_1
   rotate_left
   ·rw [if_neg c5] at H
    exact absurd H (by simp)
   rw [if_pos c5] at H
   have c5b0 : decide (0 ≤ x11_1) = true := decide_eq_true c5
   clear c5
   by_cases c6 : x11_1 < (l0.length : Int)
   rotate_left
   ·rw [if_neg c6] at H
    exact absurd H (by simp)
   rw [if_pos c6] at H
   have c6b0 : decide (x11_1 < (l0.length : Int)) = true := decide_eq_true c6
   clear c6
   replace H := Option.bind_eq_some_iff.mp H
   obtain ⟨t352, A70, H⟩ := H
   (try dsimp only at H)
   have A7 := Aside0.mk A70
   clear A70
   by_cases c8 : t352 = true
   rotate_left
   ·replace c8 := Bool.eq_false_iff.mpr c8
    subst c8
    rw [if_neg (show ¬ (false = true) by decide)] at H
    obtain rfl := Option.some.inj H
    have p350 : 0 ≤ (x11_1 : Int) := of_decide_eq_true (by assumption)
    have q350 : x11_1 < (l0.length : Int) := of_decide_eq_true (by assumption)
    obtain ⟨ad350, e350, hx350_0, hx350_1⟩ := at_T25 HR0.out x11_1 p350 q350
    cases e350
    replace hx350_0 := (HB.out.cell (World.block_lt_of_cell? w _ hx350_0)).trans hx350_0
    replace hx350_1 := (HB.out.cell (World.block_lt_of_cell? w _ hx350_1)).trans hx350_1
    replace p350 := eq_true p350
    replace q350 := eq_true q350
    try go_wp2_with (first | ((with_reducible refine gate_dst (N := 4) rfl ?_); refine box_event ?hg (N := 4) ?hd (cs := #[.int .i64 0, .int .i64 0]) (t := 25) ?hr ?_; (case hd => rfl); (case hg => rfl); (case hr => first | (go_simp; done) | (go_simp; rfl)); intro gb351 hg w32 hbox hb; have n0_ := Aside0.mk (bs_ hb); have n1_ := Aside0.mk (hbox); have n2_ := Aside0.mk ((by rw [hg]; exact bz_ : w.heap.size ≤ gb351)); have n3_ := Aside0.mk ((by rw [hg]; exact bz_ : w.heap.size ≤ gb351)); clear HB; have HB := n0_; have BK351 := n1_; have GW351 := n2_; have GE351 := n3_; clear n0_ n1_ n2_ n3_; clear hb hbox hg; have hcz33_0 : w32.cell? ⟨gb351, 0, none⟩ = some (.int .i64 0) := (blk_cell BK351.out 0).trans rfl; have hcz33_1 : w32.cell? ⟨gb351, 1, none⟩ = some (.int .i64 0) := (blk_cell BK351.out 1).trans rfl; have hfz33_0 := blk_frozen BK351.out 0; have hfz33_1 := blk_frozen BK351.out 1))
    have n0_ : Aside0 (((w32.setCell ⟨gb351, 0, none⟩ (.int .i64 ((rd_T25 l0 x11_1).f0))).setCell ⟨gb351, 1, none⟩ (.int .i64 ((rd_T25 l0 x11_1).f1))).heap[gb351]? = some (.cells #[.int .i64 ((rd_T25 l0 x11_1).f0), .int .i64 ((rd_T25 l0 x11_1).f1)] 25 (0, 0))) := ⟨by (with_reducible repeat (first | refine blk_drewN ?_ _ | refine blk_drew ?_ | refine blk_alloc ?_ _)); refine blk_put (cs := #[.int .i64 ((rd_T25 l0 x11_1).f0), .int .i64 0]) ?_ 1 _ rfl; (with_reducible repeat (first | refine blk_drewN ?_ _ | refine blk_drew ?_ | refine blk_alloc ?_ _)); refine blk_put (cs := #[.int .i64 0, .int .i64 0]) ?_ 0 _ rfl; (with_reducible repeat (first | refine blk_drewN ?_ _ | refine blk_drew ?_ | refine blk_alloc ?_ _)); exact BK351.out⟩
    have n1_ : Aside0 (Below w.heap.size w ((w32.setCell ⟨gb351, 0, none⟩ (.int .i64 ((rd_T25 l0 x11_1).f0))).setCell ⟨gb351, 1, none⟩ (.int .i64 ((rd_T25 l0 x11_1).f1)))) := ⟨by repeat (first | (with_reducible first | apply below_alloc | apply pw_below_drewN | apply below_drew1 | refine below_set ?_ GE351.out) | exact HB.out)⟩
    (try clear BK351)
    (try clear HB)
    generalize ((w32.setCell ⟨gb351, 0, none⟩ (.int .i64 ((rd_T25 l0 x11_1).f0))).setCell ⟨gb351, 1, none⟩ (.int .i64 ((rd_T25 l0 x11_1).f1))) = w34 at n0_ n1_ ⊢
    have BK351 := n0_
    have HB := n1_
    clear n0_ n1_
    have n0_ := Aside0.mk (blk_drew BK351.out)
    have n1_ := Aside0.mk (below_drew1 HB.out)
    clear BK351
    clear HB
    have BK351 := n0_
    have HB := n1_
    clear n0_ n1_
    refine start_ (n := 17) (S := fun w' => w'.cell? ⟨gb351, 0, none⟩ = some (.int .i64 ((rd_T25 l0 x11_1).f0)) ∧ w'.cell? ⟨gb351, 1, none⟩ = some (.int .i64 ((rd_T25 l0 x11_1).f1))) (ds := []) (bl_ 17 0x0) (by kernel_rfl) rfl rfl ⟨(blk_cell BK351.out 0).trans rfl, (blk_cell BK351.out 1).trans rfl⟩ (fun hHeld => ?_); refine with_tabW spec_sgGood.tab6 spec_sgGood.bits6 (fun HT_ HW_ => ?_)
    generalize w34.drew = w35 at BK351 HB hHeld ⊢
    refine take_ (i := 0) (N := some 16) (v := ?_) (a' := ?_) (bl_ 17 0x1) rfl rfl (take_ofW HT_.out HW_.out (by kernel_rfl)) (fun _ _ _ h => h) (Or.inl ⟨by rfl, ?_⟩) hHeld ?_ ?_
    rotate_left
    ·rintro w' ⟨s0, s1⟩
     go_simp
     with_reducible rfl
    rotate_left
    ·simp only [Act.put, sa_, sb_, sc_, i64_w, i32_w]
     rfl
    refine one_ (i := 1) (N := some 17) (bl_ 17 0x3) rfl rfl (one_of HT_.out (by kernel_rfl)) (by decide) (fun K hK => ?_)
    refine goes_ Try.func34 (by kernel_rfl) rfl #[.agg #[.int .i64 ((rd_T25 l0 x11_1).f0), .int .i64 ((rd_T25 l0 x11_1).f1)]] (by rfl) rfl rfl (by (try simp only [List.map_toArray, List.map_cons, List.map_nil]); first | done | rfl | (simp only [List.length_drop, List.length_take]; rfl)) ?_
    with_reducible refine (spec_sgThread.calls ((rd_T25 l0 x11_1).f0) ((rd_T25 l0 x11_1).f1) false _ A7.out).mono ?_
    rintro e w36 ⟨rfl, hb⟩
    refine ⟨_, rfl, ?_⟩
    have n0_ := Aside0.mk (blk_below (g := gb351) (o := .cells #[.int .i64 ((rd_T25 l0 x11_1).f0), .int .i64 ((rd_T25 l0 x11_1).f1)] 25 (0, 0)) (by (with_reducible repeat (first | refine blk_drewN ?_ _ | refine blk_drew ?_ | refine blk_alloc ?_ _)); exact BK351.out) hb)
    have n1_ := Aside0.mk (below_step (by repeat (first | (with_reducible first | apply below_alloc | apply pw_below_drewN | apply below_drew1 | refine below_set ?_ GE351.out) | exact HB.out)) hb)
    clear BK351
    clear HB
    have BK351 := n0_
    have HB := n1_
    clear n0_ n1_
    (try clear hb)
    (try clear hb2)
    (try clear hk)
    (try clear hi)
    refine hK.out _ _ ⟨(blk_cell BK351.out 0).trans rfl, (blk_cell BK351.out 1).trans rfl⟩ (fun hHeld => ?_)
    clear hK K
    refine norm_ (a' := ?_) ?_ ?_
    rotate_left
    ·show Act.put _ (some 17) _ = _
     simp only [Act.put, sa_, sb_, sc_, i64_w, i32_w]
     rfl
    refine pz_ 2 18 (bl_ 17 0x7) HT_.out ?_
    refine pz_ 3 19 (bl_ 17 0xf) HT_.out ?_
    refine pu_ 4 20 (bl_ 17 0x1f) HT_.out ?_
    refine pu_ 5 21 (bl_ 17 0x3f) HT_.out ?_
    refine pu_ 6 22 (bl_ 17 0x7f) HT_.out ?_
    refine pu_ 7 23 (bl_ 17 0xff) HT_.out ?_
    refine pu_ 8 24 (bl_ 17 0x1ff) HT_.out ?_
    refine pu_ 9 25 (bl_ 17 0x3ff) HT_.out ?_
    refine pu_ 10 26 (bl_ 17 0x7ff) HT_.out ?_
    refine pu_ 11 27 (bl_ 17 0xfff) HT_.out ?_
    refine pu_ 12 28 (bl_ 17 0x1fff) HT_.out ?_
    refine pu_ 13 29 (bl_ 17 0x3fff) HT_.out ?_
    refine pu_ 14 30 (bl_ 17 0x7fff) HT_.out ?_
    refine pu_ 15 31 (bl_ 17 0xffff) HT_.out ?_
    refine pz_ 16 32 (bl_ 17 0x1ffff) HT_.out ?_
    refine done_ (done_of HT_.out (by kernel_rfl)) ?_
    try go_wp2
    go_ret
    exact ⟨by first | rfl | (simp [errW_none, errW_some] <;> rfl) | (simp [*, errW_none, errW_some] <;> rfl), by repeat (first | (with_reducible first | apply below_alloc | apply pw_below_drewN | apply below_drew1 | refine below_set ?_ GE351.out) | exact HB.out)⟩
   subst c8
   rw [if_pos rfl] at H
   by_cases c9 : x11_1 > 0
   rotate_left
   ·rw [if_neg c9] at H
    have c9b0 : decide (0 < x11_1) = false := decide_eq_false c9
    clear c9
    have H' := Aside0.mk H
    clear H
    have p350 : 0 ≤ (x11_1 : Int) := of_decide_eq_true (by assumption)
    have q350 : x11_1 < (l0.length : Int) := of_decide_eq_true (by assumption)
    obtain ⟨ad350, e350, hx350_0, hx350_1⟩ := at_T25 HR0.out x11_1 p350 q350
    cases e350
    replace hx350_0 := (HB.out.cell (World.block_lt_of_cell? w _ hx350_0)).trans hx350_0
    replace hx350_1 := (HB.out.cell (World.block_lt_of_cell? w _ hx350_1)).trans hx350_1
    replace p350 := eq_true p350
    replace q350 := eq_true q350
    try go_wp2_with (first | ((with_reducible refine gate_dst (N := 4) rfl ?_); refine box_event ?hg (N := 4) ?hd (cs := #[.int .i64 0, .int .i64 0]) (t := 25) ?hr ?_; (case hd => rfl); (case hg => rfl); (case hr => first | (go_simp; done) | (go_simp; rfl)); intro gb351 hg w27 hbox hb; have n0_ := Aside0.mk (bs_ hb); have n1_ := Aside0.mk (hbox); have n2_ := Aside0.mk ((by rw [hg]; exact bz_ : w.heap.size ≤ gb351)); have n3_ := Aside0.mk ((by rw [hg]; exact bz_ : w.heap.size ≤ gb351)); clear HB; have HB := n0_; have BK351 := n1_; have GW351 := n2_; have GE351 := n3_; clear n0_ n1_ n2_ n3_; clear hb hbox hg; have hcz28_0 : w27.cell? ⟨gb351, 0, none⟩ = some (.int .i64 0) := (blk_cell BK351.out 0).trans rfl; have hcz28_1 : w27.cell? ⟨gb351, 1, none⟩ = some (.int .i64 0) := (blk_cell BK351.out 1).trans rfl; have hfz28_0 := blk_frozen BK351.out 0; have hfz28_1 := blk_frozen BK351.out 1))
    have n0_ : Aside0 (((w27.setCell ⟨gb351, 0, none⟩ (.int .i64 ((rd_T25 l0 x11_1).f0))).setCell ⟨gb351, 1, none⟩ (.int .i64 ((rd_T25 l0 x11_1).f1))).heap[gb351]? = some (.cells #[.int .i64 ((rd_T25 l0 x11_1).f0), .int .i64 ((rd_T25 l0 x11_1).f1)] 25 (0, 0))) := ⟨by (with_reducible repeat (first | refine blk_drewN ?_ _ | refine blk_drew ?_ | refine blk_alloc ?_ _)); refine blk_put (cs := #[.int .i64 ((rd_T25 l0 x11_1).f0), .int .i64 0]) ?_ 1 _ rfl; (with_reducible repeat (first | refine blk_drewN ?_ _ | refine blk_drew ?_ | refine blk_alloc ?_ _)); refine blk_put (cs := #[.int .i64 0, .int .i64 0]) ?_ 0 _ rfl; (with_reducible repeat (first | refine blk_drewN ?_ _ | refine blk_drew ?_ | refine blk_alloc ?_ _)); exact BK351.out⟩
    have n1_ : Aside0 (Below w.heap.size w ((w27.setCell ⟨gb351, 0, none⟩ (.int .i64 ((rd_T25 l0 x11_1).f0))).setCell ⟨gb351, 1, none⟩ (.int .i64 ((rd_T25 l0 x11_1).f1)))) := ⟨by repeat (first | (with_reducible first | apply below_alloc | apply pw_below_drewN | apply below_drew1 | refine below_set ?_ GE351.out) | exact HB.out)⟩
    (try clear BK351)
    (try clear HB)
    generalize ((w27.setCell ⟨gb351, 0, none⟩ (.int .i64 ((rd_T25 l0 x11_1).f0))).setCell ⟨gb351, 1, none⟩ (.int .i64 ((rd_T25 l0 x11_1).f1))) = w29 at n0_ n1_ ⊢
    have BK351 := n0_
    have HB := n1_
    clear n0_ n1_
    have n0_ := Aside0.mk (blk_drew BK351.out)
    have n1_ := Aside0.mk (below_drew1 HB.out)
    clear BK351
    clear HB
    have BK351 := n0_
    have HB := n1_
    clear n0_ n1_
    refine start_ (n := 17) (S := fun w' => w'.cell? ⟨gb351, 0, none⟩ = some (.int .i64 ((rd_T25 l0 x11_1).f0)) ∧ w'.cell? ⟨gb351, 1, none⟩ = some (.int .i64 ((rd_T25 l0 x11_1).f1))) (ds := []) (bl_ 17 0x0) (by kernel_rfl) rfl rfl ⟨(blk_cell BK351.out 0).trans rfl, (blk_cell BK351.out 1).trans rfl⟩ (fun hHeld => ?_); refine with_tabW spec_sgGood.tab6 spec_sgGood.bits6 (fun HT_ HW_ => ?_)
    generalize w29.drew = w30 at BK351 HB hHeld ⊢
    refine take_ (i := 0) (N := some 16) (v := ?_) (a' := ?_) (bl_ 17 0x1) rfl rfl (take_ofW HT_.out HW_.out (by kernel_rfl)) (fun _ _ _ h => h) (Or.inl ⟨by rfl, ?_⟩) hHeld ?_ ?_
    rotate_left
    ·rintro w' ⟨s0, s1⟩
     go_simp
     with_reducible rfl
    rotate_left
    ·simp only [Act.put, sa_, sb_, sc_, i64_w, i32_w]
     rfl
    refine one_ (i := 1) (N := some 17) (bl_ 17 0x3) rfl rfl (one_of HT_.out (by kernel_rfl)) (by decide) (fun K hK => ?_)
    refine goes_ Try.func34 (by kernel_rfl) rfl #[.agg #[.int .i64 ((rd_T25 l0 x11_1).f0), .int .i64 ((rd_T25 l0 x11_1).f1)]] (by rfl) rfl rfl (by (try simp only [List.map_toArray, List.map_cons, List.map_nil]); first | done | rfl | (simp only [List.length_drop, List.length_take]; rfl)) ?_
    with_reducible refine (spec_sgThread.calls ((rd_T25 l0 x11_1).f0) ((rd_T25 l0 x11_1).f1) true _ A7.out).mono ?_
    rintro e w31 ⟨rfl, hb⟩
    refine ⟨_, rfl, ?_⟩
    have n0_ := Aside0.mk (blk_below (g := gb351) (o := .cells #[.int .i64 ((rd_T25 l0 x11_1).f0), .int .i64 ((rd_T25 l0 x11_1).f1)] 25 (0, 0)) (by (with_reducible repeat (first | refine blk_drewN ?_ _ | refine blk_drew ?_ | refine blk_alloc ?_ _)); exact BK351.out) hb)
    have n1_ := Aside0.mk (below_step (by repeat (first | (with_reducible first | apply below_alloc | apply pw_below_drewN | apply below_drew1 | refine below_set ?_ GE351.out) | exact HB.out)) hb)
    clear BK351
    clear HB
    have BK351 := n0_
    have HB := n1_
    clear n0_ n1_
    (try clear hb)
    (try clear hb2)
    (try clear hk)
    (try clear hi)
    refine hK.out _ _ ⟨(blk_cell BK351.out 0).trans rfl, (blk_cell BK351.out 1).trans rfl⟩ (fun hHeld => ?_)
    clear hK K
    refine norm_ (a' := ?_) ?_ ?_
    rotate_left
    ·show Act.put _ (some 17) _ = _
     simp only [Act.put, sa_, sb_, sc_, i64_w, i32_w]
     rfl
    refine pz_ 2 18 (bl_ 17 0x7) HT_.out ?_
    refine pz_ 3 19 (bl_ 17 0xf) HT_.out ?_
    refine pz_ 4 20 (bl_ 17 0x1f) HT_.out ?_
    refine pz_ 5 21 (bl_ 17 0x3f) HT_.out ?_
    refine pz_ 6 22 (bl_ 17 0x7f) HT_.out ?_
    refine pu_ 7 23 (bl_ 17 0xff) HT_.out ?_
    refine pu_ 8 24 (bl_ 17 0x1ff) HT_.out ?_
    refine pu_ 9 25 (bl_ 17 0x3ff) HT_.out ?_
    refine pu_ 10 26 (bl_ 17 0x7ff) HT_.out ?_
    refine pu_ 11 27 (bl_ 17 0xfff) HT_.out ?_
    refine pu_ 12 28 (bl_ 17 0x1fff) HT_.out ?_
    refine pu_ 13 29 (bl_ 17 0x3fff) HT_.out ?_
    refine pu_ 14 30 (bl_ 17 0x7fff) HT_.out ?_
    refine pz_ 15 31 (bl_ 17 0xffff) HT_.out ?_
    refine pz_ 16 32 (bl_ 17 0x1ffff) HT_.out ?_
    refine done_ (done_of HT_.out (by kernel_rfl)) ?_
    try go_wp2
    go_roundg k1
    case measure => have := HK1.out; omega
    case rel => exact ⟨(wrap64 (x11_1 + 1)), (by first | rfl | (simp; done) | (simp [*]; done)), H', ⟨by have := HK1.out; omega⟩, ⟨by repeat (first | (with_reducible first | apply below_alloc | apply pw_below_drewN | apply below_drew1 | refine below_set ?_ GE351.out) | exact HB.out)⟩⟩
   rw [if_pos c9] at H
   have c9b0 : decide (0 < x11_1) = true := decide_eq_true c9
   clear c9
   obtain ⟨ji10, hji10⟩ : ∃ j_ : Int, (wrap64 (x11_1 - 1)) = j_ := ⟨_, rfl⟩
   replace H : (if 0 ≤ (ji10) then (if (ji10) < (l0.length : Int) then ((spec_sgLess.f ((rd_T25 l0 (ji10)).f0) ((rd_T25 l0 (ji10)).f1) ((rd_T25 l0 x11_1).f0) ((rd_T25 l0 x11_1).f1)).bind fun t354 => (if t354 = true then (spec_sgGood.l0 k1 l0 l0 (l0.length : Int) (wrap64 (x11_1 + 1))) else (some false))) else (none)) else (none)) = some r := by first | (rw [hji10] at H; exact H) | (simp only [hji10] at H ⊢; exact H)
   (try rw [hji10] at A7)
   have hji10w : (IntKind.i64.wrap (x11_1 - 1)) = ji10 := (i64_w _).trans hji10
   by_cases c11 : 0 ≤ (ji10)
   rotate_left
   ·rw [if_neg c11] at H
    exact absurd H (by simp)
   rw [if_pos c11] at H
   have c11b0 : decide (0 ≤ (ji10)) = true := decide_eq_true c11
   clear c11
   by_cases c12 : (ji10) < (l0.length : Int)
   rotate_left
   ·rw [if_neg c12] at H
    exact absurd H (by simp)
   rw [if_pos c12] at H
   have c12b0 : decide ((ji10) < (l0.length : Int)) = true := decide_eq_true c12
   clear c12
   replace H := Option.bind_eq_some_iff.mp H
   obtain ⟨t354, A130, H⟩ := H
   (try dsimp only at H)
   have A13 := Aside0.mk A130
   clear A130
   by_cases c14 : t354 = true
   ·subst c14
    rw [if_pos rfl] at H
    have H' := Aside0.mk H
    clear H
    have p350 : 0 ≤ (x11_1 : Int) := of_decide_eq_true (by assumption)
    have q350 : x11_1 < (l0.length : Int) := of_decide_eq_true (by assumption)
    obtain ⟨ad350, e350, hx350_0, hx350_1⟩ := at_T25 HR0.out x11_1 p350 q350
    cases e350
    replace hx350_0 := (HB.out.cell (World.block_lt_of_cell? w _ hx350_0)).trans hx350_0
    replace hx350_1 := (HB.out.cell (World.block_lt_of_cell? w _ hx350_1)).trans hx350_1
    replace p350 := eq_true p350
    replace q350 := eq_true q350
    try go_wp2_with (first | ((with_reducible refine gate_dst (N := 4) rfl ?_); refine box_event ?hg (N := 4) ?hd (cs := #[.int .i64 0, .int .i64 0]) (t := 25) ?hr ?_; (case hd => rfl); (case hg => rfl); (case hr => first | (go_simp; done) | (go_simp; rfl)); intro gb351 hg w15 hbox hb; have n0_ := Aside0.mk (bs_ hb); have n1_ := Aside0.mk (hbox); have n2_ := Aside0.mk ((by rw [hg]; exact bz_ : w.heap.size ≤ gb351)); have n3_ := Aside0.mk ((by rw [hg]; exact bz_ : w.heap.size ≤ gb351)); clear HB; have HB := n0_; have BK351 := n1_; have GW351 := n2_; have GE351 := n3_; clear n0_ n1_ n2_ n3_; clear hb hbox hg; have hcz16_0 : w15.cell? ⟨gb351, 0, none⟩ = some (.int .i64 0) := (blk_cell BK351.out 0).trans rfl; have hcz16_1 : w15.cell? ⟨gb351, 1, none⟩ = some (.int .i64 0) := (blk_cell BK351.out 1).trans rfl; have hfz16_0 := blk_frozen BK351.out 0; have hfz16_1 := blk_frozen BK351.out 1))
    have n0_ : Aside0 (((w15.setCell ⟨gb351, 0, none⟩ (.int .i64 ((rd_T25 l0 x11_1).f0))).setCell ⟨gb351, 1, none⟩ (.int .i64 ((rd_T25 l0 x11_1).f1))).heap[gb351]? = some (.cells #[.int .i64 ((rd_T25 l0 x11_1).f0), .int .i64 ((rd_T25 l0 x11_1).f1)] 25 (0, 0))) := ⟨by (with_reducible repeat (first | refine blk_drewN ?_ _ | refine blk_drew ?_ | refine blk_alloc ?_ _)); refine blk_put (cs := #[.int .i64 ((rd_T25 l0 x11_1).f0), .int .i64 0]) ?_ 1 _ rfl; (with_reducible repeat (first | refine blk_drewN ?_ _ | refine blk_drew ?_ | refine blk_alloc ?_ _)); refine blk_put (cs := #[.int .i64 0, .int .i64 0]) ?_ 0 _ rfl; (with_reducible repeat (first | refine blk_drewN ?_ _ | refine blk_drew ?_ | refine blk_alloc ?_ _)); exact BK351.out⟩
    have n1_ : Aside0 (Below w.heap.size w ((w15.setCell ⟨gb351, 0, none⟩ (.int .i64 ((rd_T25 l0 x11_1).f0))).setCell ⟨gb351, 1, none⟩ (.int .i64 ((rd_T25 l0 x11_1).f1)))) := ⟨by repeat (first | (with_reducible first | apply below_alloc | apply pw_below_drewN | apply below_drew1 | refine below_set ?_ GE351.out) | exact HB.out)⟩
    (try clear BK351)
    (try clear HB)
    generalize ((w15.setCell ⟨gb351, 0, none⟩ (.int .i64 ((rd_T25 l0 x11_1).f0))).setCell ⟨gb351, 1, none⟩ (.int .i64 ((rd_T25 l0 x11_1).f1))) = w17 at n0_ n1_ ⊢
    have BK351 := n0_
    have HB := n1_
    clear n0_ n1_
    have n0_ := Aside0.mk (blk_drew BK351.out)
    have n1_ := Aside0.mk (below_drew1 HB.out)
    clear BK351
    clear HB
    have BK351 := n0_
    have HB := n1_
    clear n0_ n1_
    have p353 : 0 ≤ ((ji10) : Int) := of_decide_eq_true (by assumption)
    have q353 : (ji10) < (l0.length : Int) := of_decide_eq_true (by assumption)
    obtain ⟨ad353, e353, hx353_0, hx353_1⟩ := at_T25 HR0.out (ji10) p353 q353
    have hw353_1 := hx353_1
    have hw353_0 := hx353_0
    obtain rfl : ad350 = ad353 := (by injection e353)
    replace hx353_0 := (HB.out.cell (World.block_lt_of_cell? w _ hx353_0)).trans hx353_0
    replace hx353_1 := (HB.out.cell (World.block_lt_of_cell? w _ hx353_1)).trans hx353_1
    replace p353 := eq_true p353
    replace q353 := eq_true q353
    refine start_ (n := 17) (S := fun w' => w'.cell? ⟨gb351, 0, none⟩ = some (.int .i64 ((rd_T25 l0 x11_1).f0)) ∧ w'.cell? ⟨gb351, 1, none⟩ = some (.int .i64 ((rd_T25 l0 x11_1).f1)) ∧ w'.cell? (ad350.add (((ji10)).toNat * 2)) = some (.int .i64 ((rd_T25 l0 (ji10)).f0)) ∧ w'.cell? ⟨(ad350.add (((ji10)).toNat * 2)).block, (ad350.add (((ji10)).toNat * 2)).off + 1, none⟩ = some (.int .i64 ((rd_T25 l0 (ji10)).f1))) (ds := []) (bl_ 17 0x0) (by kernel_rfl) rfl rfl ⟨(blk_cell BK351.out 0).trans rfl, (blk_cell BK351.out 1).trans rfl, ((HB.out.cell (World.block_lt_of_cell? w _ hw353_0)).trans hw353_0), ((HB.out.cell (World.block_lt_of_cell? w _ hw353_1)).trans hw353_1)⟩ (fun hHeld => ?_); refine with_tabW spec_sgGood.tab6 spec_sgGood.bits6 (fun HT_ HW_ => ?_)
    generalize w17.drew = w18 at BK351 HB hx353_0 hx353_1 hHeld ⊢
    refine take_ (i := 0) (N := some 16) (v := ?_) (a' := ?_) (bl_ 17 0x1) rfl rfl (take_ofW HT_.out HW_.out (by kernel_rfl)) (fun _ _ _ h => h) (Or.inl ⟨by rfl, ?_⟩) hHeld ?_ ?_
    rotate_left
    ·rintro w' ⟨s0, s1, s2, s3⟩
     go_simp
     with_reducible rfl
    rotate_left
    ·simp only [Act.put, sa_, sb_, sc_, i64_w, i32_w]
     rfl
    refine one_ (i := 1) (N := some 17) (bl_ 17 0x3) rfl rfl (one_of HT_.out (by kernel_rfl)) (by decide) (fun K hK => ?_)
    refine goes_ Try.func34 (by kernel_rfl) rfl #[.agg #[.int .i64 ((rd_T25 l0 x11_1).f0), .int .i64 ((rd_T25 l0 x11_1).f1)]] (by rfl) rfl rfl (by (try simp only [List.map_toArray, List.map_cons, List.map_nil]); first | done | rfl | (simp only [List.length_drop, List.length_take]; rfl)) ?_
    with_reducible refine (spec_sgThread.calls ((rd_T25 l0 x11_1).f0) ((rd_T25 l0 x11_1).f1) true _ A7.out).mono ?_
    rintro e w19 ⟨rfl, hb⟩
    refine ⟨_, rfl, ?_⟩
    have n0_ := Aside0.mk (blk_below (g := gb351) (o := .cells #[.int .i64 ((rd_T25 l0 x11_1).f0), .int .i64 ((rd_T25 l0 x11_1).f1)] 25 (0, 0)) (by (with_reducible repeat (first | refine blk_drewN ?_ _ | refine blk_drew ?_ | refine blk_alloc ?_ _)); exact BK351.out) hb)
    have n1_ := Aside0.mk (below_step (by repeat (first | (with_reducible first | apply below_alloc | apply pw_below_drewN | apply below_drew1 | refine below_set ?_ GE351.out) | exact HB.out)) hb)
    clear BK351
    clear HB
    have BK351 := n0_
    have HB := n1_
    clear n0_ n1_
    (try clear hb)
    (try clear hb2)
    (try clear hk)
    (try clear hi)
    refine hK.out _ _ ⟨(blk_cell BK351.out 0).trans rfl, (blk_cell BK351.out 1).trans rfl, ((HB.out.cell (World.block_lt_of_cell? w _ hw353_0)).trans hw353_0), ((HB.out.cell (World.block_lt_of_cell? w _ hw353_1)).trans hw353_1)⟩ (fun hHeld => ?_)
    clear hK K
    refine norm_ (a' := ?_) ?_ ?_
    rotate_left
    ·show Act.put _ (some 17) _ = _
     simp only [Act.put, sa_, sb_, sc_, i64_w, i32_w]
     rfl
    refine pz_ 2 18 (bl_ 17 0x7) HT_.out ?_
    refine pz_ 3 19 (bl_ 17 0xf) HT_.out ?_
    refine pz_ 4 20 (bl_ 17 0x1f) HT_.out ?_
    refine pz_ 5 21 (bl_ 17 0x3f) HT_.out ?_
    refine pz_ 6 22 (bl_ 17 0x7f) HT_.out ?_
    refine pz_ 7 23 (bl_ 17 0xff) HT_.out ?_
    refine pz_ 8 24 (bl_ 17 0x1ff) HT_.out ?_
    refine pz_ 9 25 (bl_ 17 0x3ff) HT_.out ?_
    refine pz_ 10 26 (bl_ 17 0x7ff) HT_.out ?_
    refine take_ (i := 11) (N := some 27) (v := ?_) (a' := ?_) (bl_ 17 0xfff) rfl rfl (take_ofW HT_.out HW_.out (by kernel_rfl)) (fun _ _ _ h => h) (Or.inl ⟨by rfl, ?_⟩) hHeld ?_ ?_
    rotate_left
    ·rintro w' ⟨s0, s1, s2, s3⟩
     go_simp
     with_reducible rfl
    rotate_left
    ·simp only [Act.put, sa_, sb_, sc_, i64_w, i32_w]
     rfl
    refine take_ (i := 12) (N := some 28) (v := ?_) (a' := ?_) (bl_ 17 0x1fff) rfl rfl (take_ofW HT_.out HW_.out (by kernel_rfl)) (fun _ _ _ h => h) (Or.inl ⟨by rfl, ?_⟩) hHeld ?_ ?_
    rotate_left
    ·rintro w' ⟨s0, s1, s2, s3⟩
     go_simp
     with_reducible rfl
    rotate_left
    ·simp only [Act.put, sa_, sb_, sc_, i64_w, i32_w]
     rfl
    refine one_ (i := 13) (N := some 29) (bl_ 17 0x3fff) rfl rfl (one_of HT_.out (by kernel_rfl)) (by decide) (fun K hK => ?_)
    refine goes_ Try.func63 (by kernel_rfl) rfl #[.agg #[.int .i64 ((rd_T25 l0 (ji10)).f0), .int .i64 ((rd_T25 l0 (ji10)).f1)], .agg #[.int .i64 ((rd_T25 l0 x11_1).f0), .int .i64 ((rd_T25 l0 x11_1).f1)]] (by rfl) rfl rfl (by (try simp only [List.map_toArray, List.map_cons, List.map_nil]); first | done | (simp only [hji10]; rfl) | rfl | (simp only [List.length_drop, List.length_take]; rfl)) ?_
    with_reducible refine (spec_sgLess.calls ((rd_T25 l0 (ji10)).f0) ((rd_T25 l0 (ji10)).f1) ((rd_T25 l0 x11_1).f0) ((rd_T25 l0 x11_1).f1) true _ A13.out).mono ?_
    rintro e w20 ⟨rfl, hb⟩
    refine ⟨_, rfl, ?_⟩
    have n0_ := Aside0.mk (blk_below (g := gb351) (o := .cells #[.int .i64 ((rd_T25 l0 x11_1).f0), .int .i64 ((rd_T25 l0 x11_1).f1)] 25 (0, 0)) (by (with_reducible repeat (first | refine blk_drewN ?_ _ | refine blk_drew ?_ | refine blk_alloc ?_ _)); exact BK351.out) hb)
    have n1_ := Aside0.mk (below_step (by repeat (first | (with_reducible first | apply below_alloc | apply pw_below_drewN | apply below_drew1 | refine below_set ?_ GE351.out) | exact HB.out)) hb)
    clear BK351
    clear HB
    have BK351 := n0_
    have HB := n1_
    clear n0_ n1_
    (try clear hb)
    (try clear hb2)
    (try clear hk)
    (try clear hi)
    refine hK.out _ _ ⟨(blk_cell BK351.out 0).trans rfl, (blk_cell BK351.out 1).trans rfl, ((HB.out.cell (World.block_lt_of_cell? w _ hw353_0)).trans hw353_0), ((HB.out.cell (World.block_lt_of_cell? w _ hw353_1)).trans hw353_1)⟩ (fun hHeld => ?_)
    clear hK K
    refine norm_ (a' := ?_) ?_ ?_
    rotate_left
    ·show Act.put _ (some 29) _ = _
     simp only [Act.put, sa_, sb_, sc_, i64_w, i32_w]
     rfl
    refine pz_ 14 30 (bl_ 17 0x7fff) HT_.out ?_
    refine pz_ 15 31 (bl_ 17 0xffff) HT_.out ?_
    refine pz_ 16 32 (bl_ 17 0x1ffff) HT_.out ?_
    refine done_ (done_of HT_.out (by kernel_rfl)) ?_
    try go_wp2
    go_roundg k1
    case measure => have := HK1.out; omega
    case rel => exact ⟨(wrap64 (x11_1 + 1)), (by first | rfl | (simp; done) | (simp [*]; done)), H', ⟨by have := HK1.out; omega⟩, ⟨by repeat (first | (with_reducible first | apply below_alloc | apply pw_below_drewN | apply below_drew1 | refine below_set ?_ GE351.out) | exact HB.out)⟩⟩
   replace c14 := Bool.eq_false_iff.mpr c14
   subst c14
   rw [if_neg (show ¬ (false = true) by decide)] at H
   obtain rfl := Option.some.inj H
   have p350 : 0 ≤ (x11_1 : Int) := of_decide_eq_true (by assumption)
   have q350 : x11_1 < (l0.length : Int) := of_decide_eq_true (by assumption)
   obtain ⟨ad350, e350, hx350_0, hx350_1⟩ := at_T25 HR0.out x11_1 p350 q350
   cases e350
   replace hx350_0 := (HB.out.cell (World.block_lt_of_cell? w _ hx350_0)).trans hx350_0
   replace hx350_1 := (HB.out.cell (World.block_lt_of_cell? w _ hx350_1)).trans hx350_1
   replace p350 := eq_true p350
   replace q350 := eq_true q350
   try go_wp2_with (first | ((with_reducible refine gate_dst (N := 4) rfl ?_); refine box_event ?hg (N := 4) ?hd (cs := #[.int .i64 0, .int .i64 0]) (t := 25) ?hr ?_; (case hd => rfl); (case hg => rfl); (case hr => first | (go_simp; done) | (go_simp; rfl)); intro gb351 hg w21 hbox hb; have n0_ := Aside0.mk (bs_ hb); have n1_ := Aside0.mk (hbox); have n2_ := Aside0.mk ((by rw [hg]; exact bz_ : w.heap.size ≤ gb351)); have n3_ := Aside0.mk ((by rw [hg]; exact bz_ : w.heap.size ≤ gb351)); clear HB; have HB := n0_; have BK351 := n1_; have GW351 := n2_; have GE351 := n3_; clear n0_ n1_ n2_ n3_; clear hb hbox hg; have hcz22_0 : w21.cell? ⟨gb351, 0, none⟩ = some (.int .i64 0) := (blk_cell BK351.out 0).trans rfl; have hcz22_1 : w21.cell? ⟨gb351, 1, none⟩ = some (.int .i64 0) := (blk_cell BK351.out 1).trans rfl; have hfz22_0 := blk_frozen BK351.out 0; have hfz22_1 := blk_frozen BK351.out 1))
   have n0_ : Aside0 (((w21.setCell ⟨gb351, 0, none⟩ (.int .i64 ((rd_T25 l0 x11_1).f0))).setCell ⟨gb351, 1, none⟩ (.int .i64 ((rd_T25 l0 x11_1).f1))).heap[gb351]? = some (.cells #[.int .i64 ((rd_T25 l0 x11_1).f0), .int .i64 ((rd_T25 l0 x11_1).f1)] 25 (0, 0))) := ⟨by (with_reducible repeat (first | refine blk_drewN ?_ _ | refine blk_drew ?_ | refine blk_alloc ?_ _)); refine blk_put (cs := #[.int .i64 ((rd_T25 l0 x11_1).f0), .int .i64 0]) ?_ 1 _ rfl; (with_reducible repeat (first | refine blk_drewN ?_ _ | refine blk_drew ?_ | refine blk_alloc ?_ _)); refine blk_put (cs := #[.int .i64 0, .int .i64 0]) ?_ 0 _ rfl; (with_reducible repeat (first | refine blk_drewN ?_ _ | refine blk_drew ?_ | refine blk_alloc ?_ _)); exact BK351.out⟩
   have n1_ : Aside0 (Below w.heap.size w ((w21.setCell ⟨gb351, 0, none⟩ (.int .i64 ((rd_T25 l0 x11_1).f0))).setCell ⟨gb351, 1, none⟩ (.int .i64 ((rd_T25 l0 x11_1).f1)))) := ⟨by repeat (first | (with_reducible first | apply below_alloc | apply pw_below_drewN | apply below_drew1 | refine below_set ?_ GE351.out) | exact HB.out)⟩
   (try clear BK351)
   (try clear HB)
   generalize ((w21.setCell ⟨gb351, 0, none⟩ (.int .i64 ((rd_T25 l0 x11_1).f0))).setCell ⟨gb351, 1, none⟩ (.int .i64 ((rd_T25 l0 x11_1).f1))) = w23 at n0_ n1_ ⊢
   have BK351 := n0_
   have HB := n1_
   clear n0_ n1_
   have n0_ := Aside0.mk (blk_drew BK351.out)
   have n1_ := Aside0.mk (below_drew1 HB.out)
   clear BK351
   clear HB
   have BK351 := n0_
   have HB := n1_
   clear n0_ n1_
   have p353 : 0 ≤ ((ji10) : Int) := of_decide_eq_true (by assumption)
   have q353 : (ji10) < (l0.length : Int) := of_decide_eq_true (by assumption)
   obtain ⟨ad353, e353, hx353_0, hx353_1⟩ := at_T25 HR0.out (ji10) p353 q353
   have hw353_1 := hx353_1
   have hw353_0 := hx353_0
   obtain rfl : ad350 = ad353 := (by injection e353)
   replace hx353_0 := (HB.out.cell (World.block_lt_of_cell? w _ hx353_0)).trans hx353_0
   replace hx353_1 := (HB.out.cell (World.block_lt_of_cell? w _ hx353_1)).trans hx353_1
   replace p353 := eq_true p353
   replace q353 := eq_true q353
   refine start_ (n := 17) (S := fun w' => w'.cell? ⟨gb351, 0, none⟩ = some (.int .i64 ((rd_T25 l0 x11_1).f0)) ∧ w'.cell? ⟨gb351, 1, none⟩ = some (.int .i64 ((rd_T25 l0 x11_1).f1)) ∧ w'.cell? (ad350.add (((ji10)).toNat * 2)) = some (.int .i64 ((rd_T25 l0 (ji10)).f0)) ∧ w'.cell? ⟨(ad350.add (((ji10)).toNat * 2)).block, (ad350.add (((ji10)).toNat * 2)).off + 1, none⟩ = some (.int .i64 ((rd_T25 l0 (ji10)).f1))) (ds := []) (bl_ 17 0x0) (by kernel_rfl) rfl rfl ⟨(blk_cell BK351.out 0).trans rfl, (blk_cell BK351.out 1).trans rfl, ((HB.out.cell (World.block_lt_of_cell? w _ hw353_0)).trans hw353_0), ((HB.out.cell (World.block_lt_of_cell? w _ hw353_1)).trans hw353_1)⟩ (fun hHeld => ?_); refine with_tabW spec_sgGood.tab6 spec_sgGood.bits6 (fun HT_ HW_ => ?_)
   generalize w23.drew = w24 at BK351 HB hx353_0 hx353_1 hHeld ⊢
   refine take_ (i := 0) (N := some 16) (v := ?_) (a' := ?_) (bl_ 17 0x1) rfl rfl (take_ofW HT_.out HW_.out (by kernel_rfl)) (fun _ _ _ h => h) (Or.inl ⟨by rfl, ?_⟩) hHeld ?_ ?_
   rotate_left
   ·rintro w' ⟨s0, s1, s2, s3⟩
    go_simp
    with_reducible rfl
   rotate_left
   ·simp only [Act.put, sa_, sb_, sc_, i64_w, i32_w]
    rfl
   refine one_ (i := 1) (N := some 17) (bl_ 17 0x3) rfl rfl (one_of HT_.out (by kernel_rfl)) (by decide) (fun K hK => ?_)
   refine goes_ Try.func34 (by kernel_rfl) rfl #[.agg #[.int .i64 ((rd_T25 l0 x11_1).f0), .int .i64 ((rd_T25 l0 x11_1).f1)]] (by rfl) rfl rfl (by (try simp only [List.map_toArray, List.map_cons, List.map_nil]); first | done | rfl | (simp only [List.length_drop, List.length_take]; rfl)) ?_
   with_reducible refine (spec_sgThread.calls ((rd_T25 l0 x11_1).f0) ((rd_T25 l0 x11_1).f1) true _ A7.out).mono ?_
   rintro e w25 ⟨rfl, hb⟩
   refine ⟨_, rfl, ?_⟩
   have n0_ := Aside0.mk (blk_below (g := gb351) (o := .cells #[.int .i64 ((rd_T25 l0 x11_1).f0), .int .i64 ((rd_T25 l0 x11_1).f1)] 25 (0, 0)) (by (with_reducible repeat (first | refine blk_drewN ?_ _ | refine blk_drew ?_ | refine blk_alloc ?_ _)); exact BK351.out) hb)
   have n1_ := Aside0.mk (below_step (by repeat (first | (with_reducible first | apply below_alloc | apply pw_below_drewN | apply below_drew1 | refine below_set ?_ GE351.out) | exact HB.out)) hb)
   clear BK351
   clear HB
   have BK351 := n0_
   have HB := n1_
   clear n0_ n1_
   (try clear hb)
   (try clear hb2)
   (try clear hk)
   (try clear hi)
   refine hK.out _ _ ⟨(blk_cell BK351.out 0).trans rfl, (blk_cell BK351.out 1).trans rfl, ((HB.out.cell (World.block_lt_of_cell? w _ hw353_0)).trans hw353_0), ((HB.out.cell (World.block_lt_of_cell? w _ hw353_1)).trans hw353_1)⟩ (fun hHeld => ?_)
   clear hK K
   refine norm_ (a' := ?_) ?_ ?_
   rotate_left
   ·show Act.put _ (some 17) _ = _
    simp only [Act.put, sa_, sb_, sc_, i64_w, i32_w]
    rfl
   refine pz_ 2 18 (bl_ 17 0x7) HT_.out ?_
   refine pz_ 3 19 (bl_ 17 0xf) HT_.out ?_
   refine pz_ 4 20 (bl_ 17 0x1f) HT_.out ?_
   refine pz_ 5 21 (bl_ 17 0x3f) HT_.out ?_
   refine pz_ 6 22 (bl_ 17 0x7f) HT_.out ?_
   refine pz_ 7 23 (bl_ 17 0xff) HT_.out ?_
   refine pz_ 8 24 (bl_ 17 0x1ff) HT_.out ?_
   refine pz_ 9 25 (bl_ 17 0x3ff) HT_.out ?_
   refine pz_ 10 26 (bl_ 17 0x7ff) HT_.out ?_
   refine take_ (i := 11) (N := some 27) (v := ?_) (a' := ?_) (bl_ 17 0xfff) rfl rfl (take_ofW HT_.out HW_.out (by kernel_rfl)) (fun _ _ _ h => h) (Or.inl ⟨by rfl, ?_⟩) hHeld ?_ ?_
   rotate_left
   ·rintro w' ⟨s0, s1, s2, s3⟩
    go_simp
    with_reducible rfl
   rotate_left
   ·simp only [Act.put, sa_, sb_, sc_, i64_w, i32_w]
    rfl
   refine take_ (i := 12) (N := some 28) (v := ?_) (a' := ?_) (bl_ 17 0x1fff) rfl rfl (take_ofW HT_.out HW_.out (by kernel_rfl)) (fun _ _ _ h => h) (Or.inl ⟨by rfl, ?_⟩) hHeld ?_ ?_
   rotate_left
   ·rintro w' ⟨s0, s1, s2, s3⟩
    go_simp
    with_reducible rfl
   rotate_left
   ·simp only [Act.put, sa_, sb_, sc_, i64_w, i32_w]
    rfl
   refine one_ (i := 13) (N := some 29) (bl_ 17 0x3fff) rfl rfl (one_of HT_.out (by kernel_rfl)) (by decide) (fun K hK => ?_)
   refine goes_ Try.func63 (by kernel_rfl) rfl #[.agg #[.int .i64 ((rd_T25 l0 (ji10)).f0), .int .i64 ((rd_T25 l0 (ji10)).f1)], .agg #[.int .i64 ((rd_T25 l0 x11_1).f0), .int .i64 ((rd_T25 l0 x11_1).f1)]] (by rfl) rfl rfl (by (try simp only [List.map_toArray, List.map_cons, List.map_nil]); first | done | (simp only [hji10]; rfl) | rfl | (simp only [List.length_drop, List.length_take]; rfl)) ?_
   with_reducible refine (spec_sgLess.calls ((rd_T25 l0 (ji10)).f0) ((rd_T25 l0 (ji10)).f1) ((rd_T25 l0 x11_1).f0) ((rd_T25 l0 x11_1).f1) false _ A13.out).mono ?_
   rintro e w26 ⟨rfl, hb⟩
   refine ⟨_, rfl, ?_⟩
   have n0_ := Aside0.mk (blk_below (g := gb351) (o := .cells #[.int .i64 ((rd_T25 l0 x11_1).f0), .int .i64 ((rd_T25 l0 x11_1).f1)] 25 (0, 0)) (by (with_reducible repeat (first | refine blk_drewN ?_ _ | refine blk_drew ?_ | refine blk_alloc ?_ _)); exact BK351.out) hb)
   have n1_ := Aside0.mk (below_step (by repeat (first | (with_reducible first | apply below_alloc | apply pw_below_drewN | apply below_drew1 | refine below_set ?_ GE351.out) | exact HB.out)) hb)
   clear BK351
   clear HB
   have BK351 := n0_
   have HB := n1_
   clear n0_ n1_
   (try clear hb)
   (try clear hb2)
   (try clear hk)
   (try clear hi)
   refine hK.out _ _ ⟨(blk_cell BK351.out 0).trans rfl, (blk_cell BK351.out 1).trans rfl, ((HB.out.cell (World.block_lt_of_cell? w _ hw353_0)).trans hw353_0), ((HB.out.cell (World.block_lt_of_cell? w _ hw353_1)).trans hw353_1)⟩ (fun hHeld => ?_)
   clear hK K
   refine norm_ (a' := ?_) ?_ ?_
   rotate_left
   ·show Act.put _ (some 29) _ = _
    simp only [Act.put, sa_, sb_, sc_, i64_w, i32_w]
    rfl
   refine pz_ 14 30 (bl_ 17 0x7fff) HT_.out ?_
   refine pz_ 15 31 (bl_ 17 0xffff) HT_.out ?_
   refine pz_ 16 32 (bl_ 17 0x1ffff) HT_.out ?_
   refine done_ (done_of HT_.out (by kernel_rfl)) ?_
   try go_wp2
   go_ret
   exact ⟨by first | rfl | (simp [errW_none, errW_some] <;> rfl) | (simp only [← hji10]; first | rfl | (simp [errW_none, errW_some] <;> rfl)) | (simp [*, errW_none, errW_some] <;> rfl), by repeat (first | (with_reducible first | apply below_alloc | apply pw_below_drewN | apply below_drew1 | refine below_set ?_ GE351.out) | exact HB.out)⟩
end Go.Proofs.Ytheijdpplihigaa.P
