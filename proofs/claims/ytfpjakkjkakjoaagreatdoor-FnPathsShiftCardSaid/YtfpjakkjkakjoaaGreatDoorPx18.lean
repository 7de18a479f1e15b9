/- A part of this seat's proofs: contracts of the translated functions, written by the session's own program (gp.py) out of the kit's print.py and the session's own contracts; no conditions of its own. -/
import Derived.Test.YtfpjakkjkakjoaaGreatDoorPx0
import Derived.Test.YtfpjakkjkakjoaaGreatDoorPx2
import Derived.Test.YtfpjakkjkakjoaaGreatDoorPx3
import Derived.Test.YtfpjakkjkakjoaaGreatDoorPx6
namespace Go.Proofs.YtfpjakkjkakjoaaGreatDoor.P
open Go.RowKit Go.Proofs.YtfpjakkjkakjoaaGreatDoorW.PrintWords Go.Proofs.YtfpjakkjkakjoaaGreatDoorW.PrintLast Go.Proofs.YtfpjakkjkakjoaaGreatDoorW.PrintMore
attribute [local go_sem] max2_int min2_int max_two min_two max_three min_three max_four min_four   -- for this text's walks alone
set_option linter.unusedVariables false
set_option linter.unusedSimpArgs false

/-! ### spec_paCount: function 45 -/
def spec_paCount.f : Nat → Int → Int → Int → Int → Int → Option (Int)
 | 0, _, _, _, _, _ => none
 | k + 1, a0, a1, a2, a3, a4 => if a4 = 0 then (if a1 = 0 then (if a2 = 0 then (if a3 = 0 then (some 1) else (some 0)) else (some 0)) else (some 0)) else ((spec_paWay.f a0 a3).bind fun t365 => (if 0 < (t365.length : Int) then (if 1 < (t365.length : Int) then ((spec_paCount.f k a0 (wrap64 (a1 + (rd t365 0))) (wrap64 (a2 + (rd t365 1))) a3 (wrap64 (a4 - 1))).bind fun t370 => (if a0 = 0 then (none) else ((spec_paCount.f k a0 a1 a2 (Int.tmod (wrap64 (a3 + 1)) a0) (wrap64 (a4 - 1))).bind fun t371 => ((spec_paCount.f k a0 a1 a2 (Int.tmod (wrap64 ((wrap64 (a3 + a0)) - 1)) a0) (wrap64 (a4 - 1))).bind fun t372 => (some (wrap64 ((wrap64 (t370 + t371)) + t372))))))) else (none)) else (none)))
theorem spec_paCount.mono_l : ∀ k, (∀ y0 y1 y2 y3 y4, LeO (spec_paCount.f k y0 y1 y2 y3 y4) (spec_paCount.f (k + 1) y0 y1 y2 y3 y4))
 | 0 => fun _ _ _ _ _ r h => by simp [spec_paCount.f] at h
 | k + 1 => by
  have ih0 := spec_paCount.mono_l k
  ·intro y0 y1 y2 y3 y4
   unfold spec_paCount.f
   repeat' with_reducible first | apply ih0 | exact LeO.refl _ | exact LeO.none _ | refine LeO.ite ?_ ?_ | refine LeO.bind ?_ (fun _ => ?_)
theorem spec_paCount.mono : ∀ a0 a1 a2 a3 a4 k, LeO (spec_paCount.f k a0 a1 a2 a3 a4) (spec_paCount.f (k + 1) a0 a1 a2 a3 a4) := by
 intro a0 a1 a2 a3 a4 k
 have ih0 := spec_paCount.mono_l k
 exact ih0 a0 a1 a2 a3 a4
def spec_paCount.T6 : Bool × List (List Nat × List Nat) := (true, [([], []), ([], []), ([], []), ([2], [2]), ([3], [3]), ([1, 4], [1, 4]), ([], []), ([], []), ([7], [7]), ([8], [8]), ([6, 9], [6, 9]), ([], []), ([], []), ([12], [12]), ([0, 5, 10, 11, 13], [0, 5, 10, 11, 13]), ([], []), ([], []), ([], []), ([], []), ([18], [18]), ([], []), ([19, 20], [19, 20]), ([], []), ([22], [22]), ([15, 16, 17, 21, 23, 14], [15, 16, 17, 21, 23]), ([14, 24], [14, 24]), ([], []), ([], []), ([], []), ([], []), ([], []), ([29, 30], [29, 30]), ([31], [31]), ([], []), ([32, 33], [32, 33]), ([], []), ([35], [35]), ([26, 27, 28, 34, 36, 24], [26, 27, 28, 34, 36]), ([25, 37], [25, 37]), ([38, 37, 0, 1, 2, 3, 4, 5, 6, 7, 8, 9, 10, 11, 12, 13, 14, 15, 16, 17, 18, 19, 20, 21, 22, 23, 24, 25, 26, 27, 28, 29, 30, 31, 32, 33, 34, 35, 36, 37, 38], [38])])
def spec_paCount.B6 : List Nat := [0, 0, 0, 4, 12, 30, 0, 0, 128, 384, 960, 0, 0, 4096, 16383, 0, 0, 0, 0, 262144, 0, 1835008, 0, 4194304, 16777215, 33554431, 0, 0, 0, 0, 0, 1610612736, 3758096384, 0, 16642998272, 0, 34359738368, 137405399039, 274877906943, 549755813887]
theorem spec_paCount.tab6 : rtab .any (opsOf Tryz.f45 6) = spec_paCount.T6 := by kernel_rfl
theorem spec_paCount.bits6 : waitsOk spec_paCount.T6.2 spec_paCount.B6 = true := by kernel_rfl
set_option maxHeartbeats 8000000 in
set_option maxRecDepth 100000 in
theorem spec_paCount.calls (k : Nat) : ∀ (a0 : Int) (a1 : Int) (a2 : Int) (a3 : Int) (a4 : Int) (r : Int) (w : World) (h : spec_paCount.f k a0 a1 a2 a3 a4 = some r),
  Calls Tryz.prog 45 #[.int .i64 a0, .int .i64 a1, .int .i64 a2, .int .i64 a3, .int .i64 a4] w fun e w' => e = .returned (.int .i64 r) ∧ Below w.heap.size w w' := by
 induction k using Nat.strongRecOn with
 | _ k ih =>
 intro a0 a1 a2 a3 a4 r w h
 cases k with
 | zero => exact absurd h (by simp [spec_paCount.f])
 | succ k =>
 simp only [spec_paCount.f] at h
 have HB := Aside0.mk (Below.refl w.heap.size w)
 have H : (if a4 = 0 then (if a1 = 0 then (if a2 = 0 then (if a3 = 0 then (some 1) else (some 0)) else (some 0)) else (some 0)) else ((spec_paWay.f a0 a3).bind fun t365 => (if 0 < (t365.length : Int) then (if 1 < (t365.length : Int) then ((spec_paCount.f k a0 (wrap64 (a1 + (rd t365 0))) (wrap64 (a2 + (rd t365 1))) a3 (wrap64 (a4 - 1))).bind fun t370 => (if a0 = 0 then (none) else ((spec_paCount.f k a0 a1 a2 (Int.tmod (wrap64 (a3 + 1)) a0) (wrap64 (a4 - 1))).bind fun t371 => ((spec_paCount.f k a0 a1 a2 (Int.tmod (wrap64 ((wrap64 (a3 + a0)) - 1)) a0) (wrap64 (a4 - 1))).bind fun t372 => (some (wrap64 ((wrap64 (t370 + t371)) + t372))))))) else (none)) else (none)))) = some r := h
 clear h
 by_cases c6 : a4 = 0
 ·rw [if_pos c6] at H
  have c6b0 : (a4 == 0) = true := beq_iff_eq.mpr c6
  have c6b1 : (a4 != 0) = false := bne_eq_false_iff_eq.mpr c6
  clear c6
  by_cases c7 : a1 = 0
  rotate_left
  ·rw [if_neg c7] at H
   have c7b0 : (a1 == 0) = false := beq_eq_false_iff_ne.mpr c7
   have c7b1 : (a1 != 0) = true := bne_iff_ne.mpr c7
   obtain rfl := Option.some.inj H
   go_enter Tryz.func45, Tryz.ntmps45
   go_wp2
   go_ret
   exact ⟨by first | rfl | (simp [errW_none, errW_some] <;> rfl) | (simp [*, errW_none, errW_some] <;> rfl), bb_⟩
  rw [if_pos c7] at H
  have c7b0 : (a1 == 0) = true := beq_iff_eq.mpr c7
  have c7b1 : (a1 != 0) = false := bne_eq_false_iff_eq.mpr c7
  clear c7
  by_cases c8 : a2 = 0
  rotate_left
  ·rw [if_neg c8] at H
   have c8b0 : (a2 == 0) = false := beq_eq_false_iff_ne.mpr c8
   have c8b1 : (a2 != 0) = true := bne_iff_ne.mpr c8
   obtain rfl := Option.some.inj H
   go_enter Tryz.func45, Tryz.ntmps45
   go_wp2
   go_ret
   exact ⟨by first | rfl | (simp [errW_none, errW_some] <;> rfl) | (simp [*, errW_none, errW_some] <;> rfl), bb_⟩
  rw [if_pos c8] at H
  have c8b0 : (a2 == 0) = true := beq_iff_eq.mpr c8
  have c8b1 : (a2 != 0) = false := bne_eq_false_iff_eq.mpr c8
  clear c8
  by_cases c9 : a3 = 0
  rotate_left
  ·rw [if_neg c9] at H
   have c9b0 : (a3 == 0) = false := beq_eq_false_iff_ne.mpr c9
   have c9b1 : (a3 != 0) = true := bne_iff_ne.mpr c9
   obtain rfl := Option.some.inj H
   go_enter Tryz.func45, Tryz.ntmps45
   go_wp2
   go_ret
   exact ⟨by first | rfl | (simp [errW_none, errW_some] <;> rfl) | (simp [*, errW_none, errW_some] <;> rfl), bb_⟩
  rw [if_pos c9] at H
  have c9b0 : (a3 == 0) = true := beq_iff_eq.mpr c9
  have c9b1 : (a3 != 0) = false := bne_eq_false_iff_eq.mpr c9
  clear c9
  obtain rfl := Option.some.inj H
  go_enter Tryz.func45, Tryz.ntmps45
  go_wp2
  go_ret
  exact ⟨by first | rfl | (simp [errW_none, errW_some] <;> rfl) | (simp [*, errW_none, errW_some] <;> rfl), bb_⟩
 rw [if_neg c6] at H
 have c6b0 : (a4 == 0) = false := beq_eq_false_iff_ne.mpr c6
 have c6b1 : (a4 != 0) = true := bne_iff_ne.mpr c6
 replace H := Option.bind_eq_some_iff.mp H
 obtain ⟨t365, A100, H⟩ := H
 (try dsimp only at H)
 have A10 := Aside0.mk A100
 clear A100
 by_cases c11 : 0 < (t365.length : Int)
 rotate_left
 ·rw [if_neg c11] at H
  exact absurd H (by simp)

 rw [if_pos c11] at H
 have c11b0 : decide (0 < (t365.length : Int)) = true := decide_eq_true c11
 have c11b1 : decide (0 < t365.length) = true := decide_eq_true (by omega)
 clear c11
 by_cases c12 : 1 < (t365.length : Int)
 rotate_left
 ·rw [if_neg c12] at H
  exact absurd H (by simp)
 rw [if_pos c12] at H
 have c12b0 : decide (1 < (t365.length : Int)) = true := decide_eq_true c12
 have c12b1 : decide (1 < t365.length) = true := decide_eq_true (by omega)
 clear c12
 replace H := Option.bind_eq_some_iff.mp H
 obtain ⟨t370, A130, H⟩ := H
 (try dsimp only at H)
 have A13 := Aside0.mk A130
 clear A130
 by_cases c14 : a0 = 0
 ·rw [if_pos c14] at H
  exact absurd H (by simp)
 rw [if_neg c14] at H
 have c14b0 : (a0 == 0) = false := beq_eq_false_iff_ne.mpr c14
 have c14b1 : (a0 != 0) = true := bne_iff_ne.mpr c14
 replace H := Option.bind_eq_some_iff.mp H
 obtain ⟨t371, A150, H⟩ := H
 (try dsimp only at H)
 have A15 := Aside0.mk A150
 clear A150
 replace H := Option.bind_eq_some_iff.mp H
 obtain ⟨t372, A160, H⟩ := H
 replace H : (some (wrap64 ((wrap64 (t370 + t371)) + t372))) = some r := H
 have A16 := Aside0.mk A160
 clear A160
 obtain rfl := Option.some.inj H
 go_enter Tryz.func45, Tryz.ntmps45
 try go_wp2_with (first | ((with_reducible refine gate_callee (f := 53) rfl ?_); refine gl_ (some 26) Tryz.func53 #[.int .i64 a0, .int .i64 a3] ?_; (with_reducible refine (spec_paWay.calls a0 a3 t365 _ A10.out).mono ?_); rintro e w17 ⟨v366, rfl, ho0, hb⟩; refine ⟨_, rfl, ?_⟩; have n0_ := Aside0.mk (Kd.V_lower (Kd.V_mono (ok' := fun k_ => True) ho0 (fun k_ hk_ => trivial)) bz_); have n1_ := Aside0.mk (bs_ hb); clear HB; have HO367 := n0_; have HB := n1_; clear n0_ n1_; (try clear hb); (try clear ho0)))
 have n0_ := Aside0.mk (Kd.V_drew HO367.out)
 have n1_ := Aside0.mk (below_drew1 HB.out)
 clear HO367
 clear HB
 have HO367 := n0_
 have HB := n1_
 clear n0_ n1_
 obtain ⟨Ao19, co19, eo19⟩ := Kd.V_slice HO367.out
 (first | subst eo19 | (injection eo19 with f1_ f2_ f3_; have f4_ := f1_.symm; have f5_ := f3_.symm; clear f1_ f2_ f3_; subst f4_; subst f5_))
 have p368 : 0 ≤ (0 : Int) := (by omega)
 have q368 : 0 < (t365.length : Int) := of_decide_eq_true (by assumption)
 obtain ⟨ad368, e368, hx368_0⟩ := Kd.at_int (Kd.V_reads' HO367.out).2.2 0 p368 q368
 cases e368
 have qi368 : (0 < t365.length) = True := eq_true (by omega)
 (try rw [show ((0 : Int)).toNat = 0 from rfl] at hx368_0)
 (try rw [Addr.add_zero'] at hx368_0)
 replace p368 := eq_true p368
 replace q368 := eq_true q368
 have p369 : 0 ≤ (1 : Int) := (by omega)
 have q369 : 1 < (t365.length : Int) := of_decide_eq_true (by assumption)
 obtain ⟨ad369, e369, hx369_0⟩ := Kd.at_int (Kd.V_reads' HO367.out).2.2 1 p369 q369
 obtain rfl : ad368 = ad369 := (by injection e369)
 (try simp only [show (1 : Int).toNat = 1 from rfl, Nat.reduceMul, Nat.reduceEqDiff, Go.Addr.add, ↓reduceIte] at hx369_0)
 have qi369 : (1 < t365.length) = True := eq_true (by omega)
 (try rw [show ((1 : Int)).toNat = 1 from rfl] at hx369_0)
 replace p369 := eq_true p369
 replace q369 := eq_true q369
 refine start_ (n := 40) (S := fun w' => w'.cell? ad368 = some (.int .i64 (rd t365 0)) ∧ w'.cell? ⟨ad368.block, ad368.off + 1, none⟩ = some (.int .i64 (rd t365 1))) (ds := []) (bl_ 40 0x0) (by kernel_rfl) rfl rfl ⟨hx368_0, hx369_0⟩ (fun hHeld => ?_); refine with_tabW spec_paCount.tab6 spec_paCount.bits6 (fun HT_ HW_ => ?_)
 generalize w17.drew = w18 at HO367 HB hx368_0 hx369_0 hHeld ⊢
 refine pz_ 0 27 (bl_ 40 0x1) HT_.out ?_
 refine pz_ 1 28 (bl_ 40 0x3) HT_.out ?_
 refine pz_ 2 29 (bl_ 40 0x7) HT_.out ?_
 refine pz_ 3 30 (bl_ 40 0xf) HT_.out ?_
 refine pz_ 6 33 (bl_ 40 0x4f) HT_.out ?_
 refine pz_ 7 34 (bl_ 40 0xcf) HT_.out ?_
 refine pz_ 8 35 (bl_ 40 0x1cf) HT_.out ?_
 refine pz_ 11 38 (bl_ 40 0x9cf) HT_.out ?_
 refine pz_ 12 39 (bl_ 40 0x19cf) HT_.out ?_
 refine pz_ 13 40 (bl_ 40 0x39cf) HT_.out ?_
 refine pz_ 15 42 (bl_ 40 0xb9cf) HT_.out ?_
 refine pz_ 16 43 (bl_ 40 0x1b9cf) HT_.out ?_
 refine pz_ 17 44 (bl_ 40 0x3b9cf) HT_.out ?_
 refine pz_ 18 45 (bl_ 40 0x7b9cf) HT_.out ?_
 refine pz_ 19 46 (bl_ 40 0xfb9cf) HT_.out ?_
 refine pz_ 20 47 (bl_ 40 0x1fb9cf) HT_.out ?_
 refine pz_ 21 48 (bl_ 40 0x3fb9cf) HT_.out ?_
 refine pz_ 22 49 (bl_ 40 0x7fb9cf) HT_.out ?_
 refine pz_ 23 50 (bl_ 40 0xffb9cf) HT_.out ?_
 refine pz_ 26 53 (bl_ 40 0x4ffb9cf) HT_.out ?_
 refine pz_ 27 54 (bl_ 40 0xcffb9cf) HT_.out ?_
 refine pz_ 28 55 (bl_ 40 0x1cffb9cf) HT_.out ?_
 refine pz_ 29 56 (bl_ 40 0x3cffb9cf) HT_.out ?_
 refine pz_ 30 57 (bl_ 40 0x7cffb9cf) HT_.out ?_
 refine pz_ 31 58 (bl_ 40 0xfcffb9cf) HT_.out ?_
 refine pz_ 32 59 (bl_ 40 0x1fcffb9cf) HT_.out ?_
 refine pz_ 33 60 (bl_ 40 0x3fcffb9cf) HT_.out ?_
 refine pz_ 34 61 (bl_ 40 0x7fcffb9cf) HT_.out ?_
 refine pz_ 35 62 (bl_ 40 0xffcffb9cf) HT_.out ?_
 refine pz_ 36 63 (bl_ 40 0x1ffcffb9cf) HT_.out ?_
 refine take_ (i := 4) (N := some 31) (v := ?_) (a' := ?_) (bl_ 40 0x1ffcffb9df) rfl rfl (take_ofW HT_.out HW_.out (by kernel_rfl)) (fun _ _ _ h => h) (Or.inl ⟨by rfl, ?_⟩) hHeld ?_ ?_
 rotate_left
 ·rintro w' ⟨s0, s1⟩
  go_simp
  with_reducible rfl
 rotate_left
 ·simp only [Act.put, sa_, sb_, sc_, i64_w, i32_w]
  rfl
 refine pz_ 5 32 (bl_ 40 0x1ffcffb9ff) HT_.out ?_
 refine take_ (i := 9) (N := some 36) (v := ?_) (a' := ?_) (bl_ 40 0x1ffcffbbff) rfl rfl (take_ofW HT_.out HW_.out (by kernel_rfl)) (fun _ _ _ h => h) (Or.inl ⟨by rfl, ?_⟩) hHeld ?_ ?_
 rotate_left
 ·rintro w' ⟨s0, s1⟩
  go_simp
  with_reducible rfl
 rotate_left
 ·simp only [Act.put, sa_, sb_, sc_, i64_w, i32_w]
  rfl
 refine pz_ 10 37 (bl_ 40 0x1ffcffbfff) HT_.out ?_
 refine one_ (i := 14) (N := some 41) (bl_ 40 0x1ffcffffff) rfl rfl (one_of HT_.out (by kernel_rfl)) (by decide) (fun K hK => ?_)
 refine goes_ Tryz.func45 (by kernel_rfl) rfl #[.int .i64 a0, .int .i64 (wrap64 (a1 + (rd t365 0))), .int .i64 (wrap64 (a2 + (rd t365 1))), .int .i64 a3, .int .i64 (wrap64 (a4 - 1))] (by rfl) rfl rfl (by (try simp only [List.map_toArray, List.map_cons, List.map_nil]); first | done | rfl | (simp only [List.length_drop, List.length_take]; rfl)) ?_
 with_reducible refine (ih k (by omega) a0 (wrap64 (a1 + (rd t365 0))) (wrap64 (a2 + (rd t365 1))) a3 (wrap64 (a4 - 1)) t370 _ A13.out).mono ?_
 rintro e w20 ⟨rfl, hb⟩
 have HS0_ := (hb.cell (World.block_lt_of_cell? _ _ (hHeld.1))).trans (hHeld.1)
 have HS1_ := (hb.cell (World.block_lt_of_cell? _ _ (hHeld.2))).trans (hHeld.2)
 refine ⟨_, rfl, ?_⟩
 have n0_ := Aside0.mk (Kd.V_below (by (with_reducible repeat (first | apply Kd.V_alloc | apply Kd.V_drewN | apply Kd.V_drew)); exact HO367.out) hb)
 have n1_ := Aside0.mk (bs_ hb)
 clear HO367
 clear HB
 have HO367 := n0_
 have HB := n1_
 clear n0_ n1_
 (try clear hb)
 (try clear hb2)
 (try clear hk)
 (try clear hi)
 refine hK.out _ _ ⟨HS0_, HS1_⟩ (fun hHeld => ?_)
 clear hK K
 refine norm_ (a' := ?_) ?_ ?_
 rotate_left
 ·show Act.put _ (some 41) _ = _
  simp only [Act.put, sa_, sb_, sc_, i64_w, i32_w]
  rfl
 refine one_ (i := 24) (N := some 51) (bl_ 40 0x1ffdffffff) rfl rfl (one_of HT_.out (by kernel_rfl)) (by decide) (fun K hK => ?_)
 refine goes_ Tryz.func45 (by kernel_rfl) rfl #[.int .i64 a0, .int .i64 a1, .int .i64 a2, .int .i64 (Int.tmod (wrap64 (a3 + 1)) a0), .int .i64 (wrap64 (a4 - 1))] (by rfl) rfl rfl (by (try simp only [List.map_toArray, List.map_cons, List.map_nil]); first | done | rfl | (simp only [List.length_drop, List.length_take]; rfl)) ?_
 with_reducible refine (ih k (by omega) a0 a1 a2 (Int.tmod (wrap64 (a3 + 1)) a0) (wrap64 (a4 - 1)) t371 _ A15.out).mono ?_
 rintro e w21 ⟨rfl, hb⟩
 have HS0_ := (hb.cell (World.block_lt_of_cell? _ _ (hHeld.1))).trans (hHeld.1)
 have HS1_ := (hb.cell (World.block_lt_of_cell? _ _ (hHeld.2))).trans (hHeld.2)
 refine ⟨_, rfl, ?_⟩
 have n0_ := Aside0.mk (Kd.V_below (by (with_reducible repeat (first | apply Kd.V_alloc | apply Kd.V_drewN | apply Kd.V_drew)); exact HO367.out) hb)
 have n1_ := Aside0.mk (bs_ hb)
 clear HO367
 clear HB
 have HO367 := n0_
 have HB := n1_
 clear n0_ n1_
 (try clear hb)
 (try clear hb2)
 (try clear hk)
 (try clear hi)
 refine hK.out _ _ ⟨HS0_, HS1_⟩ (fun hHeld => ?_)
 clear hK K
 refine norm_ (a' := ?_) ?_ ?_
 rotate_left
 ·show Act.put _ (some 51) _ = _
  simp only [Act.put, sa_, sb_, sc_, i64_w, i32_w]
  rfl
 refine pz_ 25 52 (bl_ 40 0x1fffffffff) HT_.out ?_
 refine one_ (i := 37) (N := some 64) (bl_ 40 0x3fffffffff) rfl rfl (one_of HT_.out (by kernel_rfl)) (by decide) (fun K hK => ?_)
 refine goes_ Tryz.func45 (by kernel_rfl) rfl #[.int .i64 a0, .int .i64 a1, .int .i64 a2, .int .i64 (Int.tmod (wrap64 ((wrap64 (a3 + a0)) - 1)) a0), .int .i64 (wrap64 (a4 - 1))] (by rfl) rfl rfl (by (try simp only [List.map_toArray, List.map_cons, List.map_nil]); first | done | rfl | (simp only [List.length_drop, List.length_take]; rfl)) ?_
 with_reducible refine (ih k (by omega) a0 a1 a2 (Int.tmod (wrap64 ((wrap64 (a3 + a0)) - 1)) a0) (wrap64 (a4 - 1)) t372 _ A16.out).mono ?_
 rintro e w22 ⟨rfl, hb⟩
 have HS0_ := (hb.cell (World.block_lt_of_cell? _ _ (hHeld.1))).trans (hHeld.1)
 have HS1_ := (hb.cell (World.block_lt_of_cell? _ _ (hHeld.2))).trans (hHeld.2)
 refine ⟨_, rfl, ?_⟩
 have n0_ := Aside0.mk (Kd.V_below (by (with_reducible repeat (first | apply Kd.V_alloc | apply Kd.V_drewN | apply Kd.V_drew)); exact HO367.out) hb)
 have n1_ := Aside0.mk (bs_ hb)
 clear HO367
 clear HB
 have HO367 := n0_
 have HB := n1_
 clear n0_ n1_
 (try clear hb)
 (try clear hb2)
 (try clear hk)
 (try clear hi)
 refine hK.out _ _ ⟨HS0_, HS1_⟩ (fun hHeld => ?_)
 clear hK K
 refine norm_ (a' := ?_) ?_ ?_
 rotate_left
 ·show Act.put _ (some 64) _ = _
  simp only [Act.put, sa_, sb_, sc_, i64_w, i32_w]
  rfl
 refine pz_ 38 65 (bl_ 40 0x7fffffffff) HT_.out ?_
 refine pz_ 39 10 (bl_ 40 0xffffffffff) HT_.out ?_
 refine done_ (done_of HT_.out (by kernel_rfl)) ?_
 try go_wp2
 go_ret
 exact ⟨by first | rfl | (simp [errW_none, errW_some] <;> rfl) | (simp [*, errW_none, errW_some] <;> rfl), bb_⟩
/-! ### spec_CountClosed: function 22 -/
def spec_CountClosed.f (k : Nat) (a0 : Int) (a1 : Int) : Option (Int × Bool) := (spec_paGrid.f a0).bind fun t373 => (if t373 = true then ((spec_l1In.f a1 0 10).bind fun t374 => (if t374 = true then ((spec_paCount.f k a0 0 0 0 a1).bind fun t375 => (some (t375, true))) else (some (0, false)))) else (some (0, false)))
theorem spec_CountClosed.mono : ∀ a0 a1 k, LeO (spec_CountClosed.f k a0 a1) (spec_CountClosed.f (k + 1) a0 a1) := by
 intro a0 a1 k
 unfold spec_CountClosed.f
 repeat' with_reducible first | apply spec_paCount.mono | exact LeO.refl _ | exact LeO.none _ | refine LeO.ite ?_ ?_ | refine LeO.bind ?_ (fun _ => ?_)
set_option maxHeartbeats 8000000 in
set_option maxRecDepth 100000 in
theorem spec_CountClosed.calls (k : Nat) (a0 : Int) (a1 : Int) (r1 : Int) (r2 : Bool) (w : World) (h : spec_CountClosed.f k a0 a1 = some (r1, r2)) :
  Calls Tryz.prog 22 #[.int .i64 a0, .int .i64 a1] w fun e w' => e = .returned (.tuple #[.int .i64 r1, .bool r2]) ∧ Below w.heap.size w w' := by
 have HB := Aside0.mk (Below.refl w.heap.size w)
 have H : ((spec_paGrid.f a0).bind fun t373 => (if t373 = true then ((spec_l1In.f a1 0 10).bind fun t374 => (if t374 = true then ((spec_paCount.f k a0 0 0 0 a1).bind fun t375 => (some (t375, true))) else (some (0, false)))) else (some (0, false)))) = some (r1, r2) := h
 clear h
 replace H := Option.bind_eq_some_iff.mp H
 obtain ⟨t373, A30, H⟩ := H
 (try dsimp only at H)
 have A3 := Aside0.mk A30
 clear A30
 by_cases c4 : t373 = true
 rotate_left
 ·replace c4 := Bool.eq_false_iff.mpr c4
  subst c4
  rw [if_neg (show ¬ (false = true) by decide)] at H
  simp only [Option.some.injEq, Prod.mk.injEq] at H
  obtain ⟨rfl, rfl⟩ := H
  go_enter Tryz.func22, Tryz.ntmps22
  go_wp2_with (first | ((with_reducible refine gate_callee (f := 41) rfl ?_); refine gl_ (some 7) Tryz.func41 #[.int .i64 a0] ?_; (with_reducible refine (spec_paGrid.calls a0 false _ A3.out).mono ?_); rintro e w' ⟨rfl, ⟨nd, rfl⟩⟩; refine ⟨_, rfl, ?_⟩))
  go_ret2
  exact ⟨by first | rfl | (simp [errW_none, errW_some] <;> rfl) | (simp [*, errW_none, errW_some] <;> rfl), bb_⟩

 subst c4
 rw [if_pos rfl] at H
 replace H := Option.bind_eq_some_iff.mp H
 obtain ⟨t374, A50, H⟩ := H
 (try dsimp only at H)
 have A5 := Aside0.mk A50
 clear A50
 by_cases c6 : t374 = true
 rotate_left
 ·replace c6 := Bool.eq_false_iff.mpr c6
  subst c6
  rw [if_neg (show ¬ (false = true) by decide)] at H
  simp only [Option.some.injEq, Prod.mk.injEq] at H
  obtain ⟨rfl, rfl⟩ := H
  go_enter Tryz.func22, Tryz.ntmps22
  go_wp2_with (first | ((with_reducible refine gate_callee (f := 41) rfl ?_); refine gl_ (some 7) Tryz.func41 #[.int .i64 a0] ?_; (with_reducible refine (spec_paGrid.calls a0 true _ A3.out).mono ?_); rintro e w' ⟨rfl, ⟨nd, rfl⟩⟩; refine ⟨_, rfl, ?_⟩) | (go_at_call 30; (with_reducible refine (spec_l1In.calls a1 0 10 false _ A5.out).mono ?_); rintro e w' ⟨rfl, ⟨nd, rfl⟩⟩))
  go_ret2
  exact ⟨by first | rfl | (simp [errW_none, errW_some] <;> rfl) | (simp [*, errW_none, errW_some] <;> rfl), bb_⟩
 subst c6
 rw [if_pos rfl] at H
 replace H := Option.bind_eq_some_iff.mp H
 obtain ⟨t375, A70, H⟩ := H
 replace H : (some (t375, true)) = some (r1, r2) := H
 have A7 := Aside0.mk A70
 clear A70
 simp only [Option.some.injEq, Prod.mk.injEq] at H
 obtain ⟨rfl, rfl⟩ := H
 go_enter Tryz.func22, Tryz.ntmps22
 go_wp2_with (first | ((with_reducible refine gate_callee (f := 41) rfl ?_); refine gl_ (some 7) Tryz.func41 #[.int .i64 a0] ?_; (with_reducible refine (spec_paGrid.calls a0 true _ A3.out).mono ?_); rintro e w' ⟨rfl, ⟨nd, rfl⟩⟩; refine ⟨_, rfl, ?_⟩) | (go_at_call 30; (with_reducible refine (spec_l1In.calls a1 0 10 true _ A5.out).mono ?_); rintro e w' ⟨rfl, ⟨nd, rfl⟩⟩) | ((with_reducible refine gate_callee (f := 45) rfl ?_); refine gl_ (some 16) Tryz.func45 #[.int .i64 a0, .int .i64 0, .int .i64 0, .int .i64 0, .int .i64 a1] ?_; (with_reducible refine (spec_paCount.calls k a0 0 0 0 a1 t375 _ A7.out).mono ?_); rintro e w8 ⟨rfl, hb⟩; refine ⟨_, rfl, ?_⟩; have n0_ := Aside0.mk (bs_ hb); clear HB; have HB := n0_; clear n0_; (try clear hb)))
 go_ret2
 exact ⟨by first | rfl | (simp [errW_none, errW_some] <;> rfl) | (simp [*, errW_none, errW_some] <;> rfl), bb_⟩
/-! ### given: 67_steps.tpl -/
/-- How many of the first n signs are steps: what a law's loop over a word's signs counts. -/
def cntF (s : ByteArray) (n : Nat) : Int := ((s.data.toList.take n).count 70 : Nat)
def utf8_RuneCountInString.f (s : ByteArray) : Option Int := if (s.data.toList.all fun c => decide (c.toNat < 128)) = true ∧ s.size ≤ 1000000 then some (cntF s s.size) else none
theorem steps_told {s : ByteArray} {r : Int} (h : utf8_RuneCountInString.f s = some r) : (∀ (i : Nat) (hi : i < s.size), (s[i]'hi).toNat < 128) ∧ s.size ≤ 1000000 ∧ r = cntF s s.size := by
  unfold utf8_RuneCountInString.f at h
  by_cases hc : (s.data.toList.all fun c => decide (c.toNat < 128)) = true ∧ s.size ≤ 1000000
  · rw [if_pos hc] at h
    refine ⟨fun i hi => ?_, hc.2, (Option.some.inj h).symm⟩
    have hm : s[i]'hi ∈ s.data.toList := by
      show s.data[i]'hi ∈ s.data.toList
      simp
    simpa using List.all_eq_true.1 hc.1 _ hm
  · rw [if_neg hc] at h; cases h
theorem cntF_step {s : ByteArray} {n : Nat} (h : n < s.size) : cntF s (n + 1) = cntF s n + (if bt s (n : Int) = 70 then 1 else 0) := by
  have h2 : n < s.data.toList.length := by simpa using h
  have e : bt s (n : Int) = ((s.data.toList[n]'h2).toNat : Int) := by
    rw [← bt_at s n (by rw [Int.toNat_natCast]; exact h)]
    simp only [Int.toNat_natCast]
    show (((s.data[n]'h).toNat : Nat) : Int) = _
    simp
  unfold cntF
  rw [List.take_add_one, List.count_append, e, List.getElem?_eq_getElem h2]
  generalize s.data.toList[n]'h2 = c
  by_cases hc : c = 70
  · subst hc; simp
  · have : ¬ ((c.toNat : Int) = 70) := fun e => hc (UInt8.toNat.inj (by rw [show (70 : UInt8).toNat = 70 from rfl]; omega))
    rw [if_neg this]
    simp [List.count_cons, hc]
theorem cntF_le (s : ByteArray) (n : Nat) : 0 ≤ cntF s n ∧ cntF s n ≤ n := by
  unfold cntF
  have := List.count_le_length (a := (70 : UInt8)) (l := s.data.toList.take n)
  rw [List.length_take] at this
  omega
theorem wp_named {P : Program} {c : Code} {a : Act} {Q : Exit → Act → World → Prop} {W : World} {s : ByteArray} {p : Nat} (h : ∀ W0, W0 = W → Code.wp P c Q a (World.iter W0 s p)) : Code.wp P c Q a (World.iter W s p) := h W rfl
theorem nx_ascii {P : Program} (w : World) (s : ByteArray) (pos : Nat) (ty : TypeId) (h : pos < s.size) (ha : (s[pos]'h).toNat < 128) :
    (Instr.next (.pointer (some ⟨w.heap.size, 0, none⟩)) true ty).run P (w.iter s pos) = .ok (.tuple #[.bool true, .int .i64 pos, .int .i32 (s[pos]'h).toNat]) (w.iter s (pos + 1)) := by
  rw [run_next_any w s pos ty h, decode_ascii s pos h ha]

-- NOT PRINTED: function 64 (bytealg_CountString)

-- NOT PRINTED: function 104 (bytealg_hashStr_string)

-- NOT PRINTED: function 93 (bytealg_IndexRabinKarp_string)

-- NOT PRINTED: function 80 (stringslite_Index)

-- NOT PRINTED: function 65 (strings_Index)

/-! ### given: 32a_oneByte.tpl -/
theorem one_byte {b : ByteArray} (h : b.size = 1) : b = ⟨#[b.data[0]!]⟩ := by
  obtain ⟨d⟩ := b
  have h' : d.size = 1 := h
  have e : d = #[d[0]!] := by
    apply Array.ext
    · simp [h']
    · intro i h1 h2
      have : i = 0 := by omega
      subst this
      rw [getElem!_pos d 0 (by omega)]
      simp
  show (⟨d⟩ : ByteArray) = ⟨#[d[0]!]⟩
  rw [← e]

/-! ### given: 33_countOne.tpl -/
def Tryz.lays138_ren : Go.Shelf.Ren := ⟨fun | 138 => 49 | 195 => 63 | 218 => 64 | 143 => 65 | 219 => 80 | 217 => 90 | 225 => 91 | 224 => 92 | 267 => 93 | 266 => 103 | 314 => 104 | n => n, fun | 9 => 9 | 3 => 3 | 4 => 4 | 5 => 5 | 0 => 0 | 46 => 74 | 146 => 116 | 51 => 102 | n => n, fun | 1 => 0 | n => n⟩
theorem Tryz.lays138 : Go.Proofs.Lays.n138 Tryz.prog Tryz.lays138_ren := {
  mixed := by kernel_rfl
  f138 := Tryz.func49.trans (congrArg some (by kernel_rfl))
  f143 := Tryz.func65.trans (congrArg some (by kernel_rfl))
  f195 := Tryz.func63.trans (congrArg some (by kernel_rfl))
  f217 := Tryz.func90.trans (congrArg some (by kernel_rfl))
  f218 := Tryz.func64.trans (congrArg some (by kernel_rfl))
  f219 := Tryz.func80.trans (congrArg some (by kernel_rfl))
  f224 := Tryz.func92.trans (congrArg some (by kernel_rfl))
  f225 := Tryz.func91.trans (congrArg some (by kernel_rfl))
  f266 := Tryz.func103.trans (congrArg some (by kernel_rfl))
  f267 := Tryz.func93.trans (congrArg some (by kernel_rfl))
  f314 := Tryz.func104.trans (congrArg some (by kernel_rfl))
  t0 := Tryz.underlying0
  a0 := Tryz.isAgg0
  z0 := Tryz.sizeOf0
  v0 := Tryz.zeroValue0
  t3 := Tryz.underlying3
  a3 := Tryz.isAgg3
  z3 := Tryz.sizeOf3
  v3 := Tryz.zeroValue3
  t4 := Tryz.underlying4
  a4 := Tryz.isAgg4
  z4 := Tryz.sizeOf4
  v4 := Tryz.zeroValue4
  t5 := Tryz.underlying5
  a5 := Tryz.isAgg5
  z5 := Tryz.sizeOf5
  v5 := Tryz.zeroValue5
  t9 := Tryz.underlying9
  a9 := Tryz.isAgg9
  z9 := Tryz.sizeOf9
  v9 := Tryz.zeroValue9
  t46 := Tryz.underlying74
  a46 := Tryz.isAgg74
  z46 := Tryz.sizeOf74
  v46 := Tryz.zeroValue74
  t51 := Tryz.underlying102
  a51 := Tryz.isAgg102
  z51 := Tryz.sizeOf102
  v51 := Tryz.zeroValue102
  t146 := Tryz.underlying116
  a146 := Tryz.isAgg116
  z146 := Tryz.sizeOf116
  v146 := Tryz.zeroValue116
  g1 := by kernel_rfl }
/-- How often a byte is in a text. -/
def strings_Count.f (a0 : ByteArray) (a1 : ByteArray) : Option Int := if a1.size = 1 then some (Go.Lib.countByte a0.data.toList a1.data[0]!) else none
theorem strings_Count.calls (a0 : ByteArray) (a1 : ByteArray) (r : Int) (w : World) (h : strings_Count.f a0 a1 = some r) :
    Calls Tryz.prog 49 #[.string a0, .string a1] w fun e w' => e = .returned (.int .i64 r) ∧ Drawn0 w w' := by
  unfold strings_Count.f at h
  by_cases hs : a1.size = 1
  · rw [if_pos hs] at h
    obtain rfl := Option.some.inj h
    have hc := Go.Proofs.Any.strings_Count_one Tryz.lays138 a0 a1.data[0]! w
    rw [← one_byte hs] at hc
    change Calls Tryz.prog 49 #[.string a0, .string a1] w _ at hc
    refine hc.mono ?_
    rintro e w' ⟨rfl, rfl⟩
    exact ⟨rfl, 0, rfl⟩
  · rw [if_neg hs] at h; cases h

/-! ### impl_TurnsMade: function 24 -/
def impl_TurnsMade.f (a0 : Int) (a1 : ByteArray) : Option (Int × Bool) := (impl_isWord.f a0 a1).bind fun t376 => (if t376 = true then ((strings_Count.f a1 (⟨#[76]⟩ : ByteArray)).bind fun t377 => ((strings_Count.f a1 (⟨#[82]⟩ : ByteArray)).bind fun t378 => (some (wrap64 (t377 - t378), true)))) else (some (0, false)))
set_option maxHeartbeats 8000000 in
set_option maxRecDepth 100000 in
theorem impl_TurnsMade.calls (a0 : Int) (a1 : ByteArray) (r1 : Int) (r2 : Bool) (w : World) (h : impl_TurnsMade.f a0 a1 = some (r1, r2)) :
  Calls Tryz.prog 24 #[.int .i64 a0, .string a1] w fun e w' => e = .returned (.tuple #[.int .i64 r1, .bool r2]) ∧ Below w.heap.size w w' := by
 have HB := Aside0.mk (Below.refl w.heap.size w)
 have H : ((impl_isWord.f a0 a1).bind fun t376 => (if t376 = true then ((strings_Count.f a1 (⟨#[76]⟩ : ByteArray)).bind fun t377 => ((strings_Count.f a1 (⟨#[82]⟩ : ByteArray)).bind fun t378 => (some (wrap64 (t377 - t378), true)))) else (some (0, false)))) = some (r1, r2) := h
 clear h
 replace H := Option.bind_eq_some_iff.mp H
 obtain ⟨t376, A30, H⟩ := H
 (try dsimp only at H)
 have A3 := Aside0.mk A30
 clear A30
 by_cases c4 : t376 = true
 rotate_left
 ·replace c4 := Bool.eq_false_iff.mpr c4
  subst c4
  rw [if_neg (show ¬ (false = true) by decide)] at H
  simp only [Option.some.injEq, Prod.mk.injEq] at H
  obtain ⟨rfl, rfl⟩ := H
  go_enter Tryz.func24, Tryz.ntmps24
  go_wp2_with (first | ((with_reducible refine gate_callee (f := 27) rfl ?_); refine gl_ (some 8) Tryz.func27 #[.int .i64 a0, .string a1] ?_; (with_reducible refine (impl_isWord.calls a0 a1 false _ A3.out).mono ?_); rintro e w8 ⟨rfl, hb⟩; refine ⟨_, rfl, ?_⟩; have n0_ := Aside0.mk (bs_ hb); clear HB; have HB := n0_; clear n0_; (try clear hb)))
  go_ret2
  exact ⟨by first | rfl | (simp [errW_none, errW_some] <;> rfl) | (simp [*, errW_none, errW_some] <;> rfl), bb_⟩

 subst c4
 rw [if_pos rfl] at H
 replace H := Option.bind_eq_some_iff.mp H
 obtain ⟨t377, A50, H⟩ := H
 (try dsimp only at H)
 have A5 := Aside0.mk A50
 clear A50
 replace H := Option.bind_eq_some_iff.mp H
 obtain ⟨t378, A60, H⟩ := H
 replace H : (some (wrap64 (t377 - t378), true)) = some (r1, r2) := H
 have A6 := Aside0.mk A60
 clear A60
 simp only [Option.some.injEq, Prod.mk.injEq] at H
 obtain ⟨rfl, rfl⟩ := H
 go_enter Tryz.func24, Tryz.ntmps24
 go_wp2_with (first | ((with_reducible refine gate_callee (f := 27) rfl ?_); refine gl_ (some 8) Tryz.func27 #[.int .i64 a0, .string a1] ?_; (with_reducible refine (impl_isWord.calls a0 a1 true _ A3.out).mono ?_); rintro e w7 ⟨rfl, hb⟩; refine ⟨_, rfl, ?_⟩; have n0_ := Aside0.mk (bs_ hb); clear HB; have HB := n0_; clear n0_; (try clear hb)) | ((with_reducible refine gate_callee (f := 49) rfl ?_); refine gl_ (some 11) Tryz.func49 #[.string a1, .string (⟨#[76]⟩ : ByteArray)] ?_; (with_reducible refine (strings_Count.calls a1 (⟨#[76]⟩ : ByteArray) t377 _ A5.out).mono ?_); rintro e w' ⟨rfl, ⟨nd, rfl⟩⟩; refine ⟨_, rfl, ?_⟩) | ((with_reducible refine gate_callee (f := 49) rfl ?_); refine gl_ (some 13) Tryz.func49 #[.string a1, .string (⟨#[82]⟩ : ByteArray)] ?_; (with_reducible refine (strings_Count.calls a1 (⟨#[82]⟩ : ByteArray) t378 _ A6.out).mono ?_); rintro e w' ⟨rfl, ⟨nd, rfl⟩⟩; refine ⟨_, rfl, ?_⟩))
 go_ret2
 exact ⟨by first | rfl | (simp [errW_none, errW_some] <;> rfl) | (simp [*, errW_none, errW_some] <;> rfl), bb_⟩
end Go.Proofs.YtfpjakkjkakjoaaGreatDoor.P
