/- A part of this seat's proofs: contracts of the translated functions, written by the session's own program (gp.py) out of the kit's print.py and the session's own contracts; no conditions of its own. -/
import Derived.Test.YtheijdpplihigaaPx0
import Derived.Test.YtheijdpplihigaaPx2
import Derived.Test.YtheijdpplihigaaPx5
namespace Go.Proofs.Ytheijdpplihigaa.P
open Go.RowKit Go.Proofs.YtheijdpplihigaaW.PrintWords Go.Proofs.YtheijdpplihigaaW.PrintLast Go.Proofs.YtheijdpplihigaaW.PrintMore
attribute [local go_sem] max2_int min2_int max_two min_two max_three min_three max_four min_four   -- for this text's walks alone
set_option linter.unusedVariables false
set_option linter.unusedSimpArgs false

/-! ### spec_sgPut: function 69 -/
def spec_sgPut.l0 : Nat → List (S25) → Int → Int → Int → Option ((List (S25)))
 | 0, _, _, _, _ => none
 | k + 1, x0, x5, x219000, x219001 => if x5 < (x0.length : Int) then (if 0 ≤ x5 then ((spec_sgLess.f ((rd_T25 x0 x5).f0) ((rd_T25 x0 x5).f1) x219000 x219001).bind fun t220 => (if t220 = true then (spec_sgPut.l0 k x0 (wrap64 (x5 + 1)) x219000 x219001) else ((some (([] : List (S25)) : List (S25))).bind fun y221 => (if x5 ≤ (x0.length : Int) then ((some (x0.take (x5 : Int).toNat : List (S25))).bind fun y224 => (if y221.length + y224.length < 8796093022208 then ((some (y221 ++ y224 : List (S25))).bind fun y228 => ((some (([(⟨x219000, x219001⟩ : S25)] : List (S25)) : List (S25))).bind fun y231 => (if y228.length + y231.length < 8796093022208 then ((some (y228 ++ y231 : List (S25))).bind fun y234 => ((some (x0.drop (x5 : Int).toNat : List (S25))).bind fun y237 => (if y234.length + y237.length < 8796093022208 then (some (y234 ++ y237)) else (none)))) else (none)))) else (none))) else (none))))) else (none)) else ((some (([] : List (S25)) : List (S25))).bind fun y244 => (if 0 ≤ x5 then (if x5 ≤ (x0.length : Int) then ((some (x0.take (x5 : Int).toNat : List (S25))).bind fun y247 => (if y244.length + y247.length < 8796093022208 then ((some (y244 ++ y247 : List (S25))).bind fun y251 => ((some (([(⟨x219000, x219001⟩ : S25)] : List (S25)) : List (S25))).bind fun y254 => (if y251.length + y254.length < 8796093022208 then ((some (y251 ++ y254 : List (S25))).bind fun y257 => ((some (x0.drop (x5 : Int).toNat : List (S25))).bind fun y260 => (if y257.length + y260.length < 8796093022208 then (some (y257 ++ y260)) else (none)))) else (none)))) else (none))) else (none)) else (none)))
def spec_sgPut.f (k : Nat) (l0 : List (S25)) (a1_0 : Int) (a1_1 : Int) : Option ((List (S25))) := spec_sgPut.l0 k l0 0 a1_0 a1_1
theorem spec_sgPut.mono_l : ∀ k, (∀ y0 y1 y2 y3, LeO (spec_sgPut.l0 k y0 y1 y2 y3) (spec_sgPut.l0 (k + 1) y0 y1 y2 y3))
 | 0 => fun _ _ _ _ r h => by simp [spec_sgPut.l0] at h
 | k + 1 => by
  have ih0 := spec_sgPut.mono_l k
  ·intro y0 y1 y2 y3
   unfold spec_sgPut.l0
   repeat' with_reducible first | apply ih0 | exact LeO.refl _ | exact LeO.none _ | refine LeO.ite ?_ ?_ | refine LeO.bind ?_ (fun _ => ?_)
theorem spec_sgPut.mono : ∀ a0 a1 a2 k, LeO (spec_sgPut.f k a0 a1 a2) (spec_sgPut.f (k + 1) a0 a1 a2) := by
 intro a0 a1 a2 k
 have ih0 := spec_sgPut.mono_l k
 unfold spec_sgPut.f
 repeat' with_reducible first | apply ih0 | exact LeO.refl _ | exact LeO.none _ | refine LeO.ite ?_ ?_ | refine LeO.bind ?_ (fun _ => ?_)
def spec_sgPut.T2 : Bool × List (List Nat × List Nat) := (true, [([], []), ([], []), ([1], [1]), ([0, 2], [0, 2]), ([3], [3]), ([4], [4]), ([4], [4]), ([5, 6, 4], [4, 5, 6]), ([7, 4], [4, 7]), ([4], [4]), ([8, 9, 4, 4], [4, 8, 9]), ([4, 10], [4, 10])])
def spec_sgPut.B2 : List Nat := [0, 0, 2, 7, 15, 31, 31, 127, 255, 31, 1023, 2047]
theorem spec_sgPut.tab2 : rtab .any (opsOf Try.f69 2) = spec_sgPut.T2 := by kernel_rfl
theorem spec_sgPut.bits2 : waitsOk spec_sgPut.T2.2 spec_sgPut.B2 = true := by kernel_rfl
def spec_sgPut.T4 : Bool × List (List Nat × List Nat) := (true, [([], []), ([], []), ([], []), ([1, 2], [1, 2]), ([0, 3], [0, 3]), ([], []), ([5], [5]), ([4, 6, 4], [4, 6]), ([7, 7, 0, 1, 2, 3, 4, 5, 6, 7], [7])])
def spec_sgPut.B4 : List Nat := [0, 0, 0, 6, 15, 0, 32, 127, 255]
theorem spec_sgPut.tab4 : rtab .any (opsOf Try.f69 4) = spec_sgPut.T4 := by kernel_rfl
theorem spec_sgPut.bits4 : waitsOk spec_sgPut.T4.2 spec_sgPut.B4 = true := by kernel_rfl
set_option maxHeartbeats 8000000 in
set_option maxRecDepth 100000 in
theorem spec_sgPut.calls (k : Nat) (A0 : Option Addr) (c0 : Nat) (l0 : List (S25)) (a1_0 : Int) (a1_1 : Int) (r : List (S25)) (w : World) (hr0 : Kd.C k25 w A0 l0.length l0) (hc0 : l0.length ≤ c0) (h : spec_sgPut.f k l0 a1_0 a1_1 = some r) :
  Calls Try.prog 69 #[.slice A0 l0.length c0, .agg #[.int .i64 a1_0, .int .i64 a1_1]] w fun e w' => ∃ v0_ : Value, e = .returned (v0_) ∧ Kd.R k25 25 w' w.heap.size (fun _ => True) v0_ r ∧ Below w.heap.size w w' := by
 have hu25 := Try.underlying25
 have HR0 := Aside0.mk hr0
 have HC0 := Aside0.mk hc0
 clear hr0 hc0
 have HB := Aside0.mk (Below.refl w.heap.size w)
 have H : (spec_sgPut.l0 k l0 0 a1_0 a1_1) = some r := h
 clear h
 have H' := Aside0.mk H
 clear H
 go_enter Try.func69, Try.ntmps69
 go_wp2_with (first | ((with_reducible refine gate_dst (N := 3) rfl ?_); refine box_event ?hg (N := 3) ?hd (cs := #[.int .i64 a1_0, .int .i64 a1_1]) (t := 25) ?hr ?_; (case hd => rfl); (case hg => rfl); (case hr => first | (go_simp; done) | (go_simp; rfl)); intro gb218 hg w3 hbox hb; have n0_ := Aside0.mk (bs_ hb); have n1_ := Aside0.mk (hbox); have n2_ := Aside0.mk ((by rw [hg]; exact bz_ : w.heap.size ≤ gb218)); have n3_ := Aside0.mk ((by rw [hg]; exact bz_ : w.heap.size ≤ gb218)); clear HB; have HB := n0_; have BK218 := n1_; have GW218 := n2_; have GE218 := n3_; clear n0_ n1_ n2_ n3_; clear hb hbox hg))
 go_loopg [5] k (fun kq v5 w' => ∃ (x5_1 : Int), v5 = .int .i64 x5_1 ∧ Aside0 (spec_sgPut.l0 kq l0 x5_1 a1_0 a1_1 = some r) ∧ Aside0 (kq ≤ k) ∧ Aside0 (w'.heap[gb218]? = some (.cells #[.int .i64 a1_0, .int .i64 a1_1] 25 (0, 0))) ∧ Aside0 (Below w.heap.size w w'))
 case atStart => exact ⟨(0), (by first | rfl | (simp; done) | (simp [*]; done)), H', ⟨Nat.le_refl _⟩, ⟨by (with_reducible repeat (first | refine blk_drewN ?_ _ | refine blk_drew ?_ | refine blk_alloc ?_ _)); exact BK218.out⟩, ⟨by repeat (first | (with_reducible first | apply below_alloc | apply pw_below_drewN | apply below_drew1 | refine below_set ?_ GE218.out) | exact HB.out)⟩⟩
 case round =>
  clear H'
  try clear p2
  obtain ⟨x5_1, rfl, HA, HK1, BK218, HB⟩ := hrel
  cases gk with
  | zero => exact absurd HA.out (by simp [spec_sgPut.l0])
  | succ k1 =>
   have H := HA.out
   clear HA
   simp only [spec_sgPut.l0] at H
   by_cases c4 : x5_1 < (l0.length : Int)
   rotate_left
   ·rw [if_neg c4] at H
    have c4b0 : decide (x5_1 < (l0.length : Int)) = false := decide_eq_false c4
    clear c4
    obtain ⟨y244, hy244⟩ : ∃ y_ : List (S25), y_ = (([] : List (S25))) := ⟨_, rfl⟩
    replace H : (if 0 ≤ x5_1 then (if x5_1 ≤ (l0.length : Int) then ((some (l0.take (x5_1 : Int).toNat : List (S25))).bind fun y247 => (if y244.length + y247.length < 8796093022208 then ((some (y244 ++ y247 : List (S25))).bind fun y251 => ((some (([(⟨a1_0, a1_1⟩ : S25)] : List (S25)) : List (S25))).bind fun y254 => (if y251.length + y254.length < 8796093022208 then ((some (y251 ++ y254 : List (S25))).bind fun y257 => ((some (l0.drop (x5_1 : Int).toNat : List (S25))).bind fun y260 => (if y257.length + y260.length < 8796093022208 then (some (y257 ++ y260)) else (none)))) else (none)))) else (none))) else (none)) else (none)) = some r := by first | (rw [hy244]; with_reducible exact H) | (have H2_ := (Option.bind_some _ _).symm.trans H; rw [hy244]; with_reducible exact H2_) | (have H2_ := (Option.bind_some _ _).symm.trans H; with_reducible exact H2_) | with_reducible exact H | (rw [hy244]; exact H) | exact H
    have Ny244 := Aside0.mk hy244
    clear hy244
    by_cases c31 : 0 ≤ x5_1
    rotate_left
    ·rw [if_neg c31] at H
     exact absurd H (by simp)

    rw [if_pos c31] at H
    have c31b0 := eq_true c31
    have c31b1 : decide (0 ≤ x5_1) = true := decide_eq_true c31
    clear c31
    by_cases c32 : x5_1 ≤ (l0.length : Int)
    rotate_left
    ·rw [if_neg c32] at H
     exact absurd H (by simp)
    rw [if_pos c32] at H
    have c32b0 := eq_true c32
    have c32b1 : decide (x5_1 ≤ (l0.length : Int)) = true := decide_eq_true c32
    clear c32
    obtain ⟨y247, hy247⟩ : ∃ y_ : List (S25), y_ = (l0.take (x5_1 : Int).toNat) := ⟨_, rfl⟩
    replace H : (if y244.length + y247.length < 8796093022208 then ((some (y244 ++ y247 : List (S25))).bind fun y251 => ((some (([(⟨a1_0, a1_1⟩ : S25)] : List (S25)) : List (S25))).bind fun y254 => (if y251.length + y254.length < 8796093022208 then ((some (y251 ++ y254 : List (S25))).bind fun y257 => ((some (l0.drop (x5_1 : Int).toNat : List (S25))).bind fun y260 => (if y257.length + y260.length < 8796093022208 then (some (y257 ++ y260)) else (none)))) else (none)))) else (none)) = some r := by first | (rw [hy247]; with_reducible exact H) | (have H2_ := (Option.bind_some _ _).symm.trans H; rw [hy247]; with_reducible exact H2_) | (have H2_ := (Option.bind_some _ _).symm.trans H; with_reducible exact H2_) | with_reducible exact H | (rw [hy247]; exact H) | exact H
    have Ny247 := Aside0.mk hy247
    clear hy247
    by_cases c33 : y244.length + y247.length < 8796093022208
    rotate_left
    ·rw [if_neg c33] at H
     exact absurd H (by simp)
    rw [if_pos c33] at H
    have LMc33 := Aside0.mk c33
    clear c33
    obtain ⟨y251, hy251⟩ : ∃ y_ : List (S25), y_ = (y244 ++ y247) := ⟨_, rfl⟩
    replace H : ((some (([(⟨a1_0, a1_1⟩ : S25)] : List (S25)) : List (S25))).bind fun y254 => (if y251.length + y254.length < 8796093022208 then ((some (y251 ++ y254 : List (S25))).bind fun y257 => ((some (l0.drop (x5_1 : Int).toNat : List (S25))).bind fun y260 => (if y257.length + y260.length < 8796093022208 then (some (y257 ++ y260)) else (none)))) else (none))) = some r := by first | (rw [hy251]; with_reducible exact H) | (have H2_ := (Option.bind_some _ _).symm.trans H; rw [hy251]; with_reducible exact H2_) | (have H2_ := (Option.bind_some _ _).symm.trans H; with_reducible exact H2_) | with_reducible exact H | (rw [hy251]; exact H) | exact H
    have Ny251 := Aside0.mk hy251
    clear hy251
    obtain ⟨y254, hy254⟩ : ∃ y_ : List (S25), y_ = (([(⟨a1_0, a1_1⟩ : S25)] : List (S25))) := ⟨_, rfl⟩
    replace H : (if y251.length + y254.length < 8796093022208 then ((some (y251 ++ y254 : List (S25))).bind fun y257 => ((some (l0.drop (x5_1 : Int).toNat : List (S25))).bind fun y260 => (if y257.length + y260.length < 8796093022208 then (some (y257 ++ y260)) else (none)))) else (none)) = some r := by first | (rw [hy254]; with_reducible exact H) | (have H2_ := (Option.bind_some _ _).symm.trans H; rw [hy254]; with_reducible exact H2_) | (have H2_ := (Option.bind_some _ _).symm.trans H; with_reducible exact H2_) | with_reducible exact H | (rw [hy254]; exact H) | exact H
    have Ny254 := Aside0.mk hy254
    clear hy254
    by_cases c34 : y251.length + y254.length < 8796093022208
    rotate_left
    ·rw [if_neg c34] at H
     exact absurd H (by simp)
    rw [if_pos c34] at H
    have LMc34 := Aside0.mk c34
    clear c34
    obtain ⟨y257, hy257⟩ : ∃ y_ : List (S25), y_ = (y251 ++ y254) := ⟨_, rfl⟩
    replace H : ((some (l0.drop (x5_1 : Int).toNat : List (S25))).bind fun y260 => (if y257.length + y260.length < 8796093022208 then (some (y257 ++ y260)) else (none))) = some r := by first | (rw [hy257]; with_reducible exact H) | (have H2_ := (Option.bind_some _ _).symm.trans H; rw [hy257]; with_reducible exact H2_) | (have H2_ := (Option.bind_some _ _).symm.trans H; with_reducible exact H2_) | with_reducible exact H | (rw [hy257]; exact H) | exact H
    have Ny257 := Aside0.mk hy257
    clear hy257
    have c35b0 := eq_true (of_decide_eq_true (by assumption) : 0 ≤ x5_1)
    have c36b0 := eq_true (of_decide_eq_true (by assumption) : x5_1 ≤ (l0.length : Int))
    obtain ⟨y260, hy260⟩ : ∃ y_ : List (S25), y_ = (l0.drop (x5_1 : Int).toNat) := ⟨_, rfl⟩
    replace H : (if y257.length + y260.length < 8796093022208 then (some (y257 ++ y260)) else (none)) = some r := by first | (rw [hy260]; with_reducible exact H) | (have H2_ := (Option.bind_some _ _).symm.trans H; rw [hy260]; with_reducible exact H2_) | (have H2_ := (Option.bind_some _ _).symm.trans H; with_reducible exact H2_) | with_reducible exact H | (rw [hy260]; exact H) | exact H
    have Ny260 := Aside0.mk hy260
    clear hy260
    by_cases c37 : y257.length + y260.length < 8796093022208
    rotate_left
    ·rw [if_neg c37] at H
     exact absurd H (by simp)
    rw [if_pos c37] at H
    have LMc37 := Aside0.mk c37
    clear c37
    obtain ⟨y264, hy264⟩ : ∃ y_ : List (S25), y_ = (y257 ++ y260) := ⟨_, rfl⟩
    replace H : (some y264) = some r := by first | (rw [hy264]; with_reducible exact H) | (have H2_ := (Option.bind_some _ _).symm.trans H; rw [hy264]; with_reducible exact H2_) | (have H2_ := (Option.bind_some _ _).symm.trans H; with_reducible exact H2_) | with_reducible exact H | (rw [hy264]; exact H) | exact H
    have Ny264 := Aside0.mk hy264
    clear hy264
    obtain rfl := Option.some.inj H
    try go_wp2
    have n0_ := Aside0.mk (blk_drew BK218.out)
    have n1_ := Aside0.mk (below_drew1 HB.out)
    clear BK218
    clear HB
    have BK218 := n0_
    have HB := n1_
    clear n0_ n1_
    refine start_ (n := 12) (S := fun w' => True) (ds := []) (bl_ 12 0x0) (by kernel_rfl) rfl rfl trivial (fun hHeld => ?_); refine with_tabW spec_sgPut.tab2 spec_sgPut.bits2 (fun HT_ HW_ => ?_)
    generalize wr.drew = w38 at BK218 HB hHeld ⊢
    refine pz_ 0 7 (bl_ 12 0x1) HT_.out ?_
    refine pz_ 1 8 (bl_ 12 0x3) HT_.out ?_
    refine pz_ 2 9 (bl_ 12 0x7) HT_.out ?_
    refine pz_ 3 10 (bl_ 12 0xf) HT_.out ?_
    refine pz_ 4 11 (bl_ 12 0x1f) HT_.out ?_
    refine pu_ 5 12 (bl_ 12 0x3f) HT_.out ?_
    refine pu_ 6 13 (bl_ 12 0x7f) HT_.out ?_
    refine pu_ 7 14 (bl_ 12 0xff) HT_.out ?_
    refine pu_ 8 15 (bl_ 12 0x1ff) HT_.out ?_
    refine pu_ 9 16 (bl_ 12 0x3ff) HT_.out ?_
    refine pu_ 10 17 (bl_ 12 0x7ff) HT_.out ?_
    refine pz_ 11 18 (bl_ 12 0xfff) HT_.out ?_
    refine done_ (done_of HT_.out (by kernel_rfl)) ?_
    try go_wp2
    have n0_ := Aside0.mk (blk_drew BK218.out)
    have n1_ := Aside0.mk (below_drew1 HB.out)
    clear BK218
    clear HB
    have BK218 := n0_
    have HB := n1_
    clear n0_ n1_
    have q40 : (x5_1 : Int) ≤ ((l0.length : Int) : Int) := of_decide_eq_true (by assumption)
    obtain ⟨i040, hi040, _, hsz40, _⟩ := info_parts info25
    have hroom40 : l0.length ≤ c0 := HC0.out
    have hC40 : Kd.C k25 _ A0 l0.length l0 := HR0.out
    have hcut40 := cut_to (P := Try.prog) 35 25 .i64 Try.underlying35 hi040 A0 l0.length c0 x5_1 (of_decide_eq_true (by assumption)) q40 hroom40
    have hr40 := Kd.C_take (m := (x5_1 : Int).toNat) hC40 (by omega)
    have hy40 : y247.length = (x5_1 : Int).toNat := (by rw [Ny247.out, List.length_take]; omega)
    rw [← Ny247.out] at hr40
    rw [← hy40] at hcut40
    have HR250 := Aside0.mk hr40
    have HC250 := Aside0.mk (show y247.length ≤ c0 from by omega)
    clear hr40 hC40 hroom40 hi040 hsz40
    have KY40 := Aside0.mk hy40
    clear hy40
    replace q40 := eq_true q40
    refine start_ (n := 9) (S := fun w' => w'.cell? ⟨gb218, 0, none⟩ = some (.int .i64 a1_0) ∧ w'.cell? ⟨gb218, 1, none⟩ = some (.int .i64 a1_1)) (ds := []) (bl_ 9 0x0) (by kernel_rfl) rfl rfl ⟨(blk_cell BK218.out 0).trans rfl, (blk_cell BK218.out 1).trans rfl⟩ (fun hHeld => ?_); refine with_tabW spec_sgPut.tab4 spec_sgPut.bits4 (fun HT_ HW_ => ?_)
    generalize w38.drew = w39 at BK218 HB HR250 hHeld ⊢
    refine pz_ 1 22 (bl_ 9 0x2) HT_.out ?_
    refine pz_ 2 23 (bl_ 9 0x6) HT_.out ?_
    refine pz_ 3 24 (bl_ 9 0xe) HT_.out ?_
    refine take_ (i := 5) (N := some 26) (v := ?_) (a' := ?_) (bl_ 9 0x2e) rfl rfl (take_ofW HT_.out HW_.out (by kernel_rfl)) (fun _ _ _ h => h) (Or.inl ⟨by rfl, ?_⟩) hHeld ?_ ?_
    rotate_left
    ·rintro w' ⟨s0, s1⟩
     go_simp
     with_reducible rfl
    rotate_left
    ·simp only [Act.put, sa_, sb_, sc_, i64_w, i32_w]
     rfl
    refine join_ (σ := Value × Value × Value) 2 (bl_ 9 0x7f) (fun s_ => [(21, s_.1), (25, s_.2.1), (27, s_.2.2)]) (fun s_ w' => (w'.cell? ⟨gb218, 0, none⟩ = some (.int .i64 a1_0) ∧ w'.cell? ⟨gb218, 1, none⟩ = some (.int .i64 a1_1)) ∧ (Kd.R k25 25 w' w.heap.size (fun k_ => some k_ ≠ (s_.2.2 : Value).ownBlock ∧ k_ ≠ gb218) s_.2.1 y251) ∧ (Kd.R k25 25 w' w.heap.size (fun k_ => some k_ ≠ (s_.2.1 : Value).ownBlock ∧ k_ ≠ gb218) s_.2.2 y254) ∧ (w'.heap[gb218]? = some (.cells #[.int .i64 a1_0, .int .i64 a1_1] 25 (0, 0))) ∧ (Below w.heap.size w w')) ?_ ?_
    rotate_left
    ·intro hCont
     refine two_ (i := 0) (j := 6) (Ni := some 21) (Nj := some 27) (bl_ 9 0x2f) (bl_ 9 0x6e) rfl rfl rfl rfl (two_of HT_.out (by kernel_rfl)) (by decide) (by decide) (fun K hK => ?_) (fun K hK => ?_)
     ·skip
      refine Kd.R_lit_step k25 _ 25 ?hg (N := 21) ?hd (xs := ([] : List (S25))) (inner := []) (ok := fun _ => True) (okp := fun _ => True) ?hr ?hp (fun _ hk => hk) trivial (Below.refl _ _) (Nat.le_refl _) (by simp) ?_; (case hd => rfl); (case hg => rfl); (case hr => first | (go_simp; done) | (go_simp; rfl)); (case hp => exact (Reps.none _ _))
      intro v245 w41 ho42 hb hg_ hnew_
      clear hg_ hnew_
      (first | rw [← Ny244.out] at ho42 | (simp only [Int.reduceToNat] at ho42; rw [← Ny244.out] at ho42))
      have n0_ := Aside0.mk (Kd.R_lower (Kd.R_newB ho42 (g := gb218) (o := .cells #[.int .i64 a1_0, .int .i64 a1_1] 25 (0, 0)) (by (with_reducible repeat (first | refine blk_drewN ?_ _ | refine blk_drew ?_ | refine blk_alloc ?_ _)); exact BK218.out)) (below_size (by repeat (first | (with_reducible first | apply below_alloc | apply pw_below_drewN | apply below_drew1 | refine below_set ?_ GE218.out) | exact HB.out))))
      have n1_ := Aside0.mk (blk_below (g := gb218) (o := .cells #[.int .i64 a1_0, .int .i64 a1_1] 25 (0, 0)) (by (with_reducible repeat (first | refine blk_drewN ?_ _ | refine blk_drew ?_ | refine blk_alloc ?_ _)); exact BK218.out) hb)
      have n2_ := Aside0.mk (below_step (by repeat (first | (with_reducible first | apply below_alloc | apply pw_below_drewN | apply below_drew1 | refine below_set ?_ GE218.out) | exact HB.out)) hb)
      clear BK218
      clear HB
      have HO246 := n0_
      have BK218 := n1_
      have HB := n2_
      clear n0_ n1_ n2_
      clear hb ho42
      refine hK.out _ _ ⟨(blk_cell BK218.out 0).trans rfl, (blk_cell BK218.out 1).trans rfl⟩ (fun hHeld => ?_)
      clear hK K
      refine norm_ (a' := ?_) ?_ ?_
      rotate_left
      ·show Act.put _ (some 21) _ = _
       simp only [Act.put, sa_, sb_, sc_, i64_w, i32_w]
       rfl
      refine two_ (i := 4) (j := 6) (Ni := some 25) (Nj := some 27) (bl_ 9 0x3f) (bl_ 9 0x6f) rfl rfl rfl rfl (two_of HT_.out (by kernel_rfl)) (by decide) (by decide) (fun K hK => ?_) (fun K hK => ?_)
      ·skip
       refine Kd.R_append_rows_step k25 (w0 := w) w.heap.size (by rfl) (.tmp 21) (.tmp 24) 35 25 (.agg #[(.int .i64 0), (.int .i64 0)]) 16 rfl Try.underlying35 info25 rfl (by decide) (by omega) v245 y244 y247 _ _ _ (fun k_ => k_ ≠ gb218) (fun _ => False) rfl rfl ?aO ?aR (fun _ _ h => h) (fun _ h => h.elim) ?aF ?aB ?aS ?aL ?_
       (case aR => repeat (first | exact (Kd.C_below HR250.out HB.out) | (with_reducible refine Kd.C_alloc ?_ _) | (with_reducible refine Kd.C_drewN ?_ _) | (with_reducible refine Kd.C_drew ?_)))
       (case aB => exact (by repeat (first | (with_reducible first | apply below_alloc | apply pw_below_drewN | apply below_drew1 | refine below_set ?_ GE218.out) | exact HB.out)))
       (case aF => exact (fun k_ hk => Kd.freshB (g := gb218) (o := .cells #[.int .i64 a1_0, .int .i64 a1_1] 25 (0, 0)) (by (with_reducible repeat (first | refine blk_drewN ?_ _ | refine blk_drew ?_ | refine blk_alloc ?_ _)); exact BK218.out) k_ hk))
       (case aO => exact (by (with_reducible repeat (first | apply Kd.R_alloc | apply Kd.R_drewN | apply Kd.R_drew)); exact Kd.R_mono HO246.out (fun _ hk => hk.2)))
       (case aS => exact (below_size (by repeat (first | (with_reducible first | apply below_alloc | apply pw_below_drewN | apply below_drew1 | refine below_set ?_ GE218.out) | exact HB.out))))
       (case aL => have := LMc33.out; omega)
       intro v252 w43 ho hb hg hat
       rw [← Ny251.out] at ho
       have n0_ := Aside0.mk (blk_grown (g := gb218) (o := .cells #[.int .i64 a1_0, .int .i64 a1_1] 25 (0, 0)) (by (with_reducible repeat (first | refine blk_drewN ?_ _ | refine blk_drew ?_ | refine blk_alloc ?_ _)); exact BK218.out) hg (Kd.R_away HO246.out (fun _ hk => hk.2)))
       have n1_ := Aside0.mk (hb)
       have n2_ := Aside0.mk (ho)
       clear BK218
       clear HB
       clear HO246
       have BK218 := n0_
       have HB := n1_
       have HO253 := n2_
       clear n0_ n1_ n2_
       clear ho hb hg hat
       refine hK.out _ _ ⟨(blk_cell BK218.out 0).trans rfl, (blk_cell BK218.out 1).trans rfl⟩ (fun hHeld => ?_)
       clear hK K
       refine norm_ (a' := ?_) ?_ ?_
       rotate_left
       ·show Act.put _ (some 25) _ = _
        simp only [Act.put, sa_, sb_, sc_, i64_w, i32_w]
        rfl
       refine one_ (i := 6) (N := some 27) (bl_ 9 0x7f) rfl rfl (one_of HT_.out (by kernel_rfl)) (by decide) (fun K hK => ?_)
       refine Kd.R_lit_step k25 _ 25 ?hg (N := 27) ?hd (xs := ([(⟨a1_0, a1_1⟩ : S25)] : List (S25))) (inner := [.int .i64 a1_0, .int .i64 a1_1]) (ok := fun _ => True) (okp := fun _ => True) ?hr ?hp (fun _ hk => hk) trivial (Below.refl _ _) (Nat.le_refl _) (by simp) ?_; (case hd => rfl); (case hg => rfl); (case hr => first | (go_simp; done) | (go_simp; rfl)); (case hp => exact (Reps.c2 (show Kd.M k25 _ _ _ (⟨a1_0, a1_1⟩ : S25) [.int .i64 a1_0, .int .i64 a1_1] from (k25_mkM _ _ _ (⟨a1_0, a1_1⟩ : S25) )) (Reps.none _ _)))
       intro v255 w44 ho45 hb hg_ hnew_
       clear hg_ hnew_
       (first | rw [← Ny254.out] at ho45 | (simp only [Int.reduceToNat] at ho45; rw [← Ny254.out] at ho45))
       have n0_ := Aside0.mk (Kd.R_elder' (ru_ HO253.out) (Kd.R_base ho45) hb)
       have n1_ := Aside0.mk (Kd.R_lower (Kd.R_newB (Kd.R_new' ho45 (Kd.R_lt (ru_ HO253.out))) (g := gb218) (o := .cells #[.int .i64 a1_0, .int .i64 a1_1] 25 (0, 0)) (by (with_reducible repeat (first | refine blk_drewN ?_ _ | refine blk_drew ?_ | refine blk_alloc ?_ _)); exact BK218.out)) (below_size (by repeat (first | (with_reducible first | apply below_alloc | apply pw_below_drewN | apply below_drew1 | refine below_set ?_ GE218.out) | exact HB.out))))
       have n2_ := Aside0.mk (blk_below (g := gb218) (o := .cells #[.int .i64 a1_0, .int .i64 a1_1] 25 (0, 0)) (by (with_reducible repeat (first | refine blk_drewN ?_ _ | refine blk_drew ?_ | refine blk_alloc ?_ _)); exact BK218.out) hb)
       have n3_ := Aside0.mk (below_step (by repeat (first | (with_reducible first | apply below_alloc | apply pw_below_drewN | apply below_drew1 | refine below_set ?_ GE218.out) | exact HB.out)) hb)
       clear HO253
       clear BK218
       clear HB
       have HO253 := n0_
       have HO256 := n1_
       have BK218 := n2_
       have HB := n3_
       clear n0_ n1_ n2_ n3_
       clear hb ho45
       refine hK.out _ _ ⟨(blk_cell BK218.out 0).trans rfl, (blk_cell BK218.out 1).trans rfl⟩ (fun hHeld => ?_)
       clear hK K
       refine norm_ (a' := ?_) ?_ ?_
       rotate_left
       ·show Act.put _ (some 27) _ = _
        simp only [Act.put, sa_, sb_, sc_, i64_w, i32_w]
        rfl
       exact norm_ (by simp only [putAll, Act.put, sa_, sb_, sc_]) (hCont (v245, v252, v255) _ ⟨hHeld, (by (with_reducible repeat (first | apply Kd.R_alloc | apply Kd.R_drewN | apply Kd.R_drew)); exact Kd.R_mono HO253.out (fun _ hk => ⟨hk.2, hk.1⟩)), (by (with_reducible repeat (first | apply Kd.R_alloc | apply Kd.R_drewN | apply Kd.R_drew)); exact Kd.R_mono HO256.out (fun _ hk => ⟨hk.1.2, hk.2⟩)), (by (with_reducible repeat (first | refine blk_drewN ?_ _ | refine blk_drew ?_ | refine blk_alloc ?_ _)); exact BK218.out), (by repeat (first | (with_reducible first | apply below_alloc | apply pw_below_drewN | apply below_drew1 | refine below_set ?_ GE218.out) | exact HB.out))⟩)
      ·skip
       refine Kd.R_lit_step k25 _ 25 ?hg (N := 27) ?hd (xs := ([(⟨a1_0, a1_1⟩ : S25)] : List (S25))) (inner := [.int .i64 a1_0, .int .i64 a1_1]) (ok := fun _ => True) (okp := fun _ => True) ?hr ?hp (fun _ hk => hk) trivial (Below.refl _ _) (Nat.le_refl _) (by simp) ?_; (case hd => rfl); (case hg => rfl); (case hr => first | (go_simp; done) | (go_simp; rfl)); (case hp => exact (Reps.c2 (show Kd.M k25 _ _ _ (⟨a1_0, a1_1⟩ : S25) [.int .i64 a1_0, .int .i64 a1_1] from (k25_mkM _ _ _ (⟨a1_0, a1_1⟩ : S25) )) (Reps.none _ _)))
       intro v255 w43 ho44 hb hg_ hnew_
       clear hg_ hnew_
       (first | rw [← Ny254.out] at ho44 | (simp only [Int.reduceToNat] at ho44; rw [← Ny254.out] at ho44))
       have n0_ := Aside0.mk (Kd.R_elder' (ru_ HO246.out) (Kd.R_base ho44) hb)
       have n1_ := Aside0.mk (Kd.R_lower (Kd.R_newB (Kd.R_new' ho44 (Kd.R_lt (ru_ HO246.out))) (g := gb218) (o := .cells #[.int .i64 a1_0, .int .i64 a1_1] 25 (0, 0)) (by (with_reducible repeat (first | refine blk_drewN ?_ _ | refine blk_drew ?_ | refine blk_alloc ?_ _)); exact BK218.out)) (below_size (by repeat (first | (with_reducible first | apply below_alloc | apply pw_below_drewN | apply below_drew1 | refine below_set ?_ GE218.out) | exact HB.out))))
       have n2_ := Aside0.mk (blk_below (g := gb218) (o := .cells #[.int .i64 a1_0, .int .i64 a1_1] 25 (0, 0)) (by (with_reducible repeat (first | refine blk_drewN ?_ _ | refine blk_drew ?_ | refine blk_alloc ?_ _)); exact BK218.out) hb)
       have n3_ := Aside0.mk (below_step (by repeat (first | (with_reducible first | apply below_alloc | apply pw_below_drewN | apply below_drew1 | refine below_set ?_ GE218.out) | exact HB.out)) hb)
       clear HO246
       clear BK218
       clear HB
       have HO246 := n0_
       have HO256 := n1_
       have BK218 := n2_
       have HB := n3_
       clear n0_ n1_ n2_ n3_
       clear hb ho44
       refine hK.out _ _ ⟨(blk_cell BK218.out 0).trans rfl, (blk_cell BK218.out 1).trans rfl⟩ (fun hHeld => ?_)
       clear hK K
       refine norm_ (a' := ?_) ?_ ?_
       rotate_left
       ·show Act.put _ (some 27) _ = _
        simp only [Act.put, sa_, sb_, sc_, i64_w, i32_w]
        rfl
       refine one_ (i := 4) (N := some 25) (bl_ 9 0x7f) rfl rfl (one_of HT_.out (by kernel_rfl)) (by decide) (fun K hK => ?_)
       refine Kd.R_append_rows_step k25 (w0 := w) w.heap.size (by rfl) (.tmp 21) (.tmp 24) 35 25 (.agg #[(.int .i64 0), (.int .i64 0)]) 16 rfl Try.underlying35 info25 rfl (by decide) (by omega) v245 y244 y247 _ _ _ (fun k_ => some k_ ≠ (v255 : Value).ownBlock ∧ k_ ≠ gb218) (fun _ => False) rfl rfl ?aO ?aR (fun _ _ h => h) (fun _ h => h.elim) ?aF ?aB ?aS ?aL ?_
       (case aR => repeat (first | exact (Kd.C_below HR250.out HB.out) | (with_reducible refine Kd.C_alloc ?_ _) | (with_reducible refine Kd.C_drewN ?_ _) | (with_reducible refine Kd.C_drew ?_)))
       (case aB => exact (by repeat (first | (with_reducible first | apply below_alloc | apply pw_below_drewN | apply below_drew1 | refine below_set ?_ GE218.out) | exact HB.out)))
       (case aF => exact (fun k_ hk => ⟨Kd.fresh' (Kd.R_lt (ru_ HO256.out)) k_ hk, Kd.freshB (g := gb218) (o := .cells #[.int .i64 a1_0, .int .i64 a1_1] 25 (0, 0)) (by (with_reducible repeat (first | refine blk_drewN ?_ _ | refine blk_drew ?_ | refine blk_alloc ?_ _)); exact BK218.out) k_ hk⟩))
       (case aO => exact (by (with_reducible repeat (first | apply Kd.R_alloc | apply Kd.R_drewN | apply Kd.R_drew)); exact Kd.R_mono HO246.out (fun _ hk => ⟨hk.2, hk.1.2⟩)))
       (case aS => exact (below_size (by repeat (first | (with_reducible first | apply below_alloc | apply pw_below_drewN | apply below_drew1 | refine below_set ?_ GE218.out) | exact HB.out))))
       (case aL => have := LMc33.out; omega)
       intro v252 w45 ho hb hg hat
       rw [← Ny251.out] at ho
       have n0_ := Aside0.mk (blk_grown (g := gb218) (o := .cells #[.int .i64 a1_0, .int .i64 a1_1] 25 (0, 0)) (by (with_reducible repeat (first | refine blk_drewN ?_ _ | refine blk_drew ?_ | refine blk_alloc ?_ _)); exact BK218.out) hg (Kd.R_away HO246.out (fun _ hk => hk.1.2)))
       have n1_ := Aside0.mk (Kd.R_after (ok := (fun k_ => k_ ≠ gb218)) (by (with_reducible repeat (first | apply Kd.R_alloc | apply Kd.R_drewN | apply Kd.R_drew)); exact Kd.R_mono HO256.out (fun _ hk => ⟨hk.2, hk.1.2⟩)) hg hat)
       have n2_ := Aside0.mk (hb)
       have n3_ := Aside0.mk (ho)
       clear BK218
       clear HO256
       clear HB
       clear HO246
       have BK218 := n0_
       have HO256 := n1_
       have HB := n2_
       have HO253 := n3_
       clear n0_ n1_ n2_ n3_
       clear ho hb hg hat
       refine hK.out _ _ ⟨(blk_cell BK218.out 0).trans rfl, (blk_cell BK218.out 1).trans rfl⟩ (fun hHeld => ?_)
       clear hK K
       refine norm_ (a' := ?_) ?_ ?_
       rotate_left
       ·show Act.put _ (some 25) _ = _
        simp only [Act.put, sa_, sb_, sc_, i64_w, i32_w]
        rfl
       exact norm_ (by simp only [putAll, Act.put, sa_, sb_, sc_]) (hCont (v245, v252, v255) _ ⟨hHeld, (ru_ HO253.out), (by (with_reducible repeat (first | apply Kd.R_alloc | apply Kd.R_drewN | apply Kd.R_drew)); exact Kd.R_mono HO256.out (fun _ hk => ⟨hk.2, hk.1⟩)), (by (with_reducible repeat (first | refine blk_drewN ?_ _ | refine blk_drew ?_ | refine blk_alloc ?_ _)); exact BK218.out), (by repeat (first | (with_reducible first | apply below_alloc | apply pw_below_drewN | apply below_drew1 | refine below_set ?_ GE218.out) | exact HB.out))⟩)
     ·skip
      refine Kd.R_lit_step k25 _ 25 ?hg (N := 27) ?hd (xs := ([(⟨a1_0, a1_1⟩ : S25)] : List (S25))) (inner := [.int .i64 a1_0, .int .i64 a1_1]) (ok := fun _ => True) (okp := fun _ => True) ?hr ?hp (fun _ hk => hk) trivial (Below.refl _ _) (Nat.le_refl _) (by simp) ?_; (case hd => rfl); (case hg => rfl); (case hr => first | (go_simp; done) | (go_simp; rfl)); (case hp => exact (Reps.c2 (show Kd.M k25 _ _ _ (⟨a1_0, a1_1⟩ : S25) [.int .i64 a1_0, .int .i64 a1_1] from (k25_mkM _ _ _ (⟨a1_0, a1_1⟩ : S25) )) (Reps.none _ _)))
      intro v255 w41 ho42 hb hg_ hnew_
      clear hg_ hnew_
      (first | rw [← Ny254.out] at ho42 | (simp only [Int.reduceToNat] at ho42; rw [← Ny254.out] at ho42))
      have n0_ := Aside0.mk (Kd.R_lower (Kd.R_newB ho42 (g := gb218) (o := .cells #[.int .i64 a1_0, .int .i64 a1_1] 25 (0, 0)) (by (with_reducible repeat (first | refine blk_drewN ?_ _ | refine blk_drew ?_ | refine blk_alloc ?_ _)); exact BK218.out)) (below_size (by repeat (first | (with_reducible first | apply below_alloc | apply pw_below_drewN | apply below_drew1 | refine below_set ?_ GE218.out) | exact HB.out))))
      have n1_ := Aside0.mk (blk_below (g := gb218) (o := .cells #[.int .i64 a1_0, .int .i64 a1_1] 25 (0, 0)) (by (with_reducible repeat (first | refine blk_drewN ?_ _ | refine blk_drew ?_ | refine blk_alloc ?_ _)); exact BK218.out) hb)
      have n2_ := Aside0.mk (below_step (by repeat (first | (with_reducible first | apply below_alloc | apply pw_below_drewN | apply below_drew1 | refine below_set ?_ GE218.out) | exact HB.out)) hb)
      clear BK218
      clear HB
      have HO256 := n0_
      have BK218 := n1_
      have HB := n2_
      clear n0_ n1_ n2_
      clear hb ho42
      refine hK.out _ _ ⟨(blk_cell BK218.out 0).trans rfl, (blk_cell BK218.out 1).trans rfl⟩ (fun hHeld => ?_)
      clear hK K
      refine norm_ (a' := ?_) ?_ ?_
      rotate_left
      ·show Act.put _ (some 27) _ = _
       simp only [Act.put, sa_, sb_, sc_, i64_w, i32_w]
       rfl
      refine one_ (i := 0) (N := some 21) (bl_ 9 0x6f) rfl rfl (one_of HT_.out (by kernel_rfl)) (by decide) (fun K hK => ?_)
      refine Kd.R_lit_step k25 _ 25 ?hg (N := 21) ?hd (xs := ([] : List (S25))) (inner := []) (ok := fun _ => True) (okp := fun _ => True) ?hr ?hp (fun _ hk => hk) trivial (Below.refl _ _) (Nat.le_refl _) (by simp) ?_; (case hd => rfl); (case hg => rfl); (case hr => first | (go_simp; done) | (go_simp; rfl)); (case hp => exact (Reps.none _ _))
      intro v245 w43 ho44 hb hg_ hnew_
      clear hg_ hnew_
      (first | rw [← Ny244.out] at ho44 | (simp only [Int.reduceToNat] at ho44; rw [← Ny244.out] at ho44))
      have n0_ := Aside0.mk (Kd.R_elder' (ru_ HO256.out) (Kd.R_base ho44) hb)
      have n1_ := Aside0.mk (Kd.R_lower (Kd.R_newB (Kd.R_new' ho44 (Kd.R_lt (ru_ HO256.out))) (g := gb218) (o := .cells #[.int .i64 a1_0, .int .i64 a1_1] 25 (0, 0)) (by (with_reducible repeat (first | refine blk_drewN ?_ _ | refine blk_drew ?_ | refine blk_alloc ?_ _)); exact BK218.out)) (below_size (by repeat (first | (with_reducible first | apply below_alloc | apply pw_below_drewN | apply below_drew1 | refine below_set ?_ GE218.out) | exact HB.out))))
      have n2_ := Aside0.mk (blk_below (g := gb218) (o := .cells #[.int .i64 a1_0, .int .i64 a1_1] 25 (0, 0)) (by (with_reducible repeat (first | refine blk_drewN ?_ _ | refine blk_drew ?_ | refine blk_alloc ?_ _)); exact BK218.out) hb)
      have n3_ := Aside0.mk (below_step (by repeat (first | (with_reducible first | apply below_alloc | apply pw_below_drewN | apply below_drew1 | refine below_set ?_ GE218.out) | exact HB.out)) hb)
      clear HO256
      clear BK218
      clear HB
      have HO256 := n0_
      have HO246 := n1_
      have BK218 := n2_
      have HB := n3_
      clear n0_ n1_ n2_ n3_
      clear hb ho44
      refine hK.out _ _ ⟨(blk_cell BK218.out 0).trans rfl, (blk_cell BK218.out 1).trans rfl⟩ (fun hHeld => ?_)
      clear hK K
      refine norm_ (a' := ?_) ?_ ?_
      rotate_left
      ·show Act.put _ (some 21) _ = _
       simp only [Act.put, sa_, sb_, sc_, i64_w, i32_w]
       rfl
      refine one_ (i := 4) (N := some 25) (bl_ 9 0x7f) rfl rfl (one_of HT_.out (by kernel_rfl)) (by decide) (fun K hK => ?_)
      refine Kd.R_append_rows_step k25 (w0 := w) w.heap.size (by rfl) (.tmp 21) (.tmp 24) 35 25 (.agg #[(.int .i64 0), (.int .i64 0)]) 16 rfl Try.underlying35 info25 rfl (by decide) (by omega) v245 y244 y247 _ _ _ (fun k_ => some k_ ≠ (v255 : Value).ownBlock ∧ k_ ≠ gb218) (fun _ => False) rfl rfl ?aO ?aR (fun _ _ h => h) (fun _ h => h.elim) ?aF ?aB ?aS ?aL ?_
      (case aR => repeat (first | exact (Kd.C_below HR250.out HB.out) | (with_reducible refine Kd.C_alloc ?_ _) | (with_reducible refine Kd.C_drewN ?_ _) | (with_reducible refine Kd.C_drew ?_)))
      (case aB => exact (by repeat (first | (with_reducible first | apply below_alloc | apply pw_below_drewN | apply below_drew1 | refine below_set ?_ GE218.out) | exact HB.out)))
      (case aF => exact (fun k_ hk => ⟨Kd.fresh' (Kd.R_lt (ru_ HO256.out)) k_ hk, Kd.freshB (g := gb218) (o := .cells #[.int .i64 a1_0, .int .i64 a1_1] 25 (0, 0)) (by (with_reducible repeat (first | refine blk_drewN ?_ _ | refine blk_drew ?_ | refine blk_alloc ?_ _)); exact BK218.out) k_ hk⟩))
      (case aO => exact (by (with_reducible repeat (first | apply Kd.R_alloc | apply Kd.R_drewN | apply Kd.R_drew)); exact Kd.R_mono HO246.out (fun _ hk => ⟨hk.1.2, hk.2⟩)))
      (case aS => exact (below_size (by repeat (first | (with_reducible first | apply below_alloc | apply pw_below_drewN | apply below_drew1 | refine below_set ?_ GE218.out) | exact HB.out))))
      (case aL => have := LMc33.out; omega)
      intro v252 w45 ho hb hg hat
      rw [← Ny251.out] at ho
      have n0_ := Aside0.mk (blk_grown (g := gb218) (o := .cells #[.int .i64 a1_0, .int .i64 a1_1] 25 (0, 0)) (by (with_reducible repeat (first | refine blk_drewN ?_ _ | refine blk_drew ?_ | refine blk_alloc ?_ _)); exact BK218.out) hg (Kd.R_away HO246.out (fun _ hk => hk.2)))
      have n1_ := Aside0.mk (Kd.R_after (ok := (fun k_ => k_ ≠ gb218)) (by (with_reducible repeat (first | apply Kd.R_alloc | apply Kd.R_drewN | apply Kd.R_drew)); exact Kd.R_mono HO256.out (fun _ hk => ⟨hk.1.2, hk.2⟩)) hg hat)
      have n2_ := Aside0.mk (hb)
      have n3_ := Aside0.mk (ho)
      clear BK218
      clear HO256
      clear HB
      clear HO246
      have BK218 := n0_
      have HO256 := n1_
      have HB := n2_
      have HO253 := n3_
      clear n0_ n1_ n2_ n3_
      clear ho hb hg hat
      refine hK.out _ _ ⟨(blk_cell BK218.out 0).trans rfl, (blk_cell BK218.out 1).trans rfl⟩ (fun hHeld => ?_)
      clear hK K
      refine norm_ (a' := ?_) ?_ ?_
      rotate_left
      ·show Act.put _ (some 25) _ = _
       simp only [Act.put, sa_, sb_, sc_, i64_w, i32_w]
       rfl
      exact norm_ (by simp only [putAll, Act.put, sa_, sb_, sc_]) (hCont (v245, v252, v255) _ ⟨hHeld, (ru_ HO253.out), (by (with_reducible repeat (first | apply Kd.R_alloc | apply Kd.R_drewN | apply Kd.R_drew)); exact Kd.R_mono HO256.out (fun _ hk => ⟨hk.2, hk.1⟩)), (by (with_reducible repeat (first | refine blk_drewN ?_ _ | refine blk_drew ?_ | refine blk_alloc ?_ _)); exact BK218.out), (by repeat (first | (with_reducible first | apply below_alloc | apply pw_below_drewN | apply below_drew1 | refine below_set ?_ GE218.out) | exact HB.out))⟩)
    rintro ⟨v245, v252, v255⟩ w46 ⟨hS_, h0_, h1_, h2_, h3_⟩
    have n0_ : Aside0 (Kd.R k25 25 w46 w.heap.size (fun k_ => some k_ ≠ (v255 : Value).ownBlock ∧ k_ ≠ gb218) v252 y251) := ⟨h0_⟩
    have n1_ : Aside0 (Kd.R k25 25 w46 w.heap.size (fun k_ => some k_ ≠ (v252 : Value).ownBlock ∧ k_ ≠ gb218) v255 y254) := ⟨h1_⟩
    have n2_ : Aside0 (w46.heap[gb218]? = some (.cells #[.int .i64 a1_0, .int .i64 a1_1] 25 (0, 0))) := ⟨h2_⟩
    have n3_ : Aside0 (Below w.heap.size w w46) := ⟨h3_⟩
    clear BK218
    clear HB
    clear h0_ h1_ h2_ h3_
    have HO253 := n0_
    have HO256 := n1_
    have BK218 := n2_
    have HB := n3_
    clear n0_ n1_ n2_ n3_
    have hHeld : w46.cell? ⟨gb218, 0, none⟩ = some (.int .i64 a1_0) ∧ w46.cell? ⟨gb218, 1, none⟩ = some (.int .i64 a1_1) := hS_
    obtain ⟨Ao48, co48, eo48⟩ := Kd.R_slice HO256.out
    (first | subst eo48 | (injection eo48 with f1_ f2_ f3_; have f4_ := f1_.symm; have f5_ := f3_.symm; clear f1_ f2_ f3_; subst f4_; subst f5_))
    refine norm_ (a' := ?_) ?_ ?_
    rotate_left
    ·simp only [putAll, Act.put, sa_, sb_, sc_]
     rfl
    refine one_ (i := 7) (N := some 28) (bl_ 9 0xff) rfl rfl (one_of HT_.out (by kernel_rfl)) (by decide) (fun K hK => ?_)
    refine Kd.R_append_rows_step k25 (w0 := w) w.heap.size (by rfl) (.tmp 25) (.tmp 27) 35 25 (.agg #[(.int .i64 0), (.int .i64 0)]) 16 rfl Try.underlying35 info25 rfl (by decide) (by omega) v252 y251 y254 _ _ _ (fun k_ => some k_ ≠ (.slice Ao48 y254.length co48 : Value).ownBlock ∧ k_ ≠ gb218) (fun _ => False) rfl rfl ?aO ?aR (fun _ _ h => h) (fun _ h => h.elim) ?aF ?aB ?aS ?aL ?_
    (case aR => repeat (first | exact (Kd.R_reads' HO256.out).2.2 | (with_reducible refine Kd.C_alloc ?_ _) | (with_reducible refine Kd.C_drewN ?_ _) | (with_reducible refine Kd.C_drew ?_)))
    (case aB => exact (by repeat (first | (with_reducible first | apply below_alloc | apply pw_below_drewN | apply below_drew1 | refine below_set ?_ GE218.out) | exact HB.out)))
    (case aF => exact (fun k_ hk => ⟨Kd.fresh' (Kd.R_lt (ru_ HO256.out)) k_ hk, Kd.freshB (g := gb218) (o := .cells #[.int .i64 a1_0, .int .i64 a1_1] 25 (0, 0)) (by (with_reducible repeat (first | refine blk_drewN ?_ _ | refine blk_drew ?_ | refine blk_alloc ?_ _)); exact BK218.out) k_ hk⟩))
    (case aO => exact (ru_ HO253.out))
    (case aS => exact (below_size (by repeat (first | (with_reducible first | apply below_alloc | apply pw_below_drewN | apply below_drew1 | refine below_set ?_ GE218.out) | exact HB.out))))
    (case aL => have := LMc34.out; omega)
    intro v258 w47 ho hb hg hat
    rw [← Ny257.out] at ho
    have n0_ := Aside0.mk (blk_grown (g := gb218) (o := .cells #[.int .i64 a1_0, .int .i64 a1_1] 25 (0, 0)) (by (with_reducible repeat (first | refine blk_drewN ?_ _ | refine blk_drew ?_ | refine blk_alloc ?_ _)); exact BK218.out) hg (Kd.R_away HO253.out (fun _ hk => hk.2)))
    have n1_ := Aside0.mk (Kd.R_after (ok := (fun k_ => k_ ≠ gb218)) (by (with_reducible repeat (first | apply Kd.R_alloc | apply Kd.R_drewN | apply Kd.R_drew)); exact Kd.R_mono HO256.out (fun _ hk => ⟨hk.2, hk.1⟩)) hg hat)
    have n2_ := Aside0.mk (hb)
    have n3_ := Aside0.mk (ho)
    clear BK218
    clear HO256
    clear HB
    clear HO253
    have BK218 := n0_
    have HO256 := n1_
    have HB := n2_
    have HO259 := n3_
    clear n0_ n1_ n2_ n3_
    clear ho hb hg hat
    refine hK.out _ _ ⟨(blk_cell BK218.out 0).trans rfl, (blk_cell BK218.out 1).trans rfl⟩ (fun hHeld => ?_)
    clear hK K
    refine norm_ (a' := ?_) ?_ ?_
    rotate_left
    ·show Act.put _ (some 28) _ = _
     simp only [Act.put, sa_, sb_, sc_, i64_w, i32_w]
     rfl
    refine pz_ 8 6 (bl_ 9 0x1ff) HT_.out ?_
    refine done_ (done_of HT_.out (by kernel_rfl)) ?_
    have q49 : (x5_1 : Int) ≤ ((l0.length : Int) : Int) := of_decide_eq_true (by assumption)
    obtain ⟨i049, hi049, _, hsz49, _⟩ := info_parts info25
    have hroom49 : l0.length ≤ c0 := HC0.out
    have hC49 : Kd.C k25 _ A0 l0.length l0 := HR0.out
    have q049 : (0 : Int) ≤ (x5_1 : Int) := of_decide_eq_true (by assumption)
    have hcut49 := cut_from (P := Try.prog) 35 25 .i64 Try.underlying35 hi049 2 hsz49 A0 l0.length c0 x5_1 q049 q49
    have hr49 := Kd.C_drop (m := (x5_1 : Int).toNat) (c := c0) hC49 (by omega) hroom49
    obtain ⟨A49, hA49⟩ : ∃ A1, A1 = (if c0 = (x5_1 : Int).toNat then A0 else (A0 : Option Addr).map (·.add ((x5_1 : Int).toNat * 2))) := ⟨_, rfl⟩
    obtain ⟨c49, hc49⟩ : ∃ c1, c1 = c0 - (x5_1 : Int).toNat := ⟨_, rfl⟩
    have hy49 : y260.length = l0.length - (x5_1 : Int).toNat := (by rw [Ny260.out, List.length_drop] <;> omega)
    rw [show (l0).drop (x5_1 : Int).toNat = y260 from Ny260.out.symm] at hr49
    replace hr49 : Kd.C k25 _ A49 y260.length y260 := (by rw [hA49]; exact hr49)
    rw [← hy49, ← hA49, ← hc49] at hcut49
    have HR263 := Aside0.mk hr49
    have HC263 := Aside0.mk (show y260.length ≤ c49 from by rw [hy49, hc49]; exact Nat.sub_le_sub_right hroom49 _)
    clear hr49 hC49 hroom49 hi049 hsz49 hc49
    have KY49 := Aside0.mk hy49
    have KA49 := Aside0.mk hA49
    clear hy49 hA49
    replace q49 := eq_true q49
    try go_wp2_with (first | ((with_reducible refine gate_builtin (b := .append) (xs := #[.tmp 29, .tmp 32]) rfl ?_); at_builtin; refine Kd.R_append_rows k25 (w0 := w) w.heap.size rfl (.tmp 29) (.tmp 32) 35 25 (.agg #[(.int .i64 0), (.int .i64 0)]) 16 rfl Try.underlying35 info25 rfl (by decide) (by omega) v258 y257 y260 _ _ _ (fun k_ => some k_ ≠ (.slice Ao48 y254.length co48 : Value).ownBlock ∧ k_ ≠ gb218) (fun _ => False) rfl rfl ?aO ?aR (fun _ _ h => h) (fun _ h => h.elim) ?aF ?aB ?aS ?aL ?_; (case aR => repeat (first | exact (Kd.C_below HR263.out HB.out) | (with_reducible refine Kd.C_alloc ?_ _) | (with_reducible refine Kd.C_drewN ?_ _) | (with_reducible refine Kd.C_drew ?_))); (case aB => exact (by repeat (first | (with_reducible first | apply below_alloc | apply pw_below_drewN | apply below_drew1 | refine below_set ?_ GE218.out) | exact HB.out))); (case aF => exact (fun k_ hk => ⟨Kd.fresh' (Kd.R_lt (ru_ HO256.out)) k_ hk, Kd.freshB (g := gb218) (o := .cells #[.int .i64 a1_0, .int .i64 a1_1] 25 (0, 0)) (by (with_reducible repeat (first | refine blk_drewN ?_ _ | refine blk_drew ?_ | refine blk_alloc ?_ _)); exact BK218.out) k_ hk⟩)); (case aO => exact (ru_ HO259.out)); (case aS => exact (below_size (by repeat (first | (with_reducible first | apply below_alloc | apply pw_below_drewN | apply below_drew1 | refine below_set ?_ GE218.out) | exact HB.out)))); (case aL => have := LMc37.out; omega); intro v265 w50 ho hb hg hat; rw [← Ny264.out] at ho; have n0_ := Aside0.mk (blk_grown (g := gb218) (o := .cells #[.int .i64 a1_0, .int .i64 a1_1] 25 (0, 0)) (by (with_reducible repeat (first | refine blk_drewN ?_ _ | refine blk_drew ?_ | refine blk_alloc ?_ _)); exact BK218.out) hg (Kd.R_away HO259.out (fun _ hk => hk.2))); have n1_ := Aside0.mk (Kd.R_after (ok := (fun k_ => k_ ≠ gb218)) (ru_ HO256.out) hg hat); have n2_ := Aside0.mk (hb); have n3_ := Aside0.mk (ho); clear BK218; clear HO256; clear HB; clear HO259; have BK218 := n0_; have HO256 := n1_; have HB := n2_; have HO266 := n3_; clear n0_ n1_ n2_ n3_; clear ho hb hg hat))
    go_ret
    exact ⟨_, by first | rfl | (simp [errW_none, errW_some] <;> rfl) | (simp [*, errW_none, errW_some] <;> rfl), by (with_reducible repeat (first | apply Kd.R_alloc | apply Kd.R_drewN | apply Kd.R_drew)); exact Kd.R_mono HO266.out (fun _ hk => trivial), by repeat (first | (with_reducible first | apply below_alloc | apply pw_below_drewN | apply below_drew1 | refine below_set ?_ GE218.out) | exact HB.out)⟩
   rw [if_pos c4] at H
   have c4b0 : decide (x5_1 < (l0.length : Int)) = true := decide_eq_true c4
   clear c4
   by_cases c5 : 0 ≤ x5_1
   rotate_left
   ·rw [if_neg c5] at H
    exact absurd H (by simp)
   rw [if_pos c5] at H
   have c5b0 : decide (0 ≤ x5_1) = true := decide_eq_true c5
   clear c5
   replace H := Option.bind_eq_some_iff.mp H
   obtain ⟨t220, A60, H⟩ := H
   (try dsimp only at H)
   have A6 := Aside0.mk A60
   clear A60
   by_cases c7 : t220 = true
   ·subst c7
    rw [if_pos rfl] at H
    have H' := Aside0.mk H
    clear H
    try go_wp2
    have n0_ := Aside0.mk (blk_drew BK218.out)
    have n1_ := Aside0.mk (below_drew1 HB.out)
    clear BK218
    clear HB
    have BK218 := n0_
    have HB := n1_
    clear n0_ n1_
    have p219 : 0 ≤ (x5_1 : Int) := of_decide_eq_true (by assumption)
    have q219 : x5_1 < (l0.length : Int) := of_decide_eq_true (by assumption)
    obtain ⟨ad219, e219, hx219_0, hx219_1⟩ := at_T25 HR0.out x5_1 p219 q219
    have hw219_1 := hx219_1
    have hw219_0 := hx219_0
    cases e219
    replace hx219_0 := (HB.out.cell (World.block_lt_of_cell? w _ hx219_0)).trans hx219_0
    replace hx219_1 := (HB.out.cell (World.block_lt_of_cell? w _ hx219_1)).trans hx219_1
    replace p219 := eq_true p219
    replace q219 := eq_true q219
    refine start_ (n := 12) (S := fun w' => w'.cell? ⟨gb218, 0, none⟩ = some (.int .i64 a1_0) ∧ w'.cell? ⟨gb218, 1, none⟩ = some (.int .i64 a1_1) ∧ w'.cell? (ad219.add ((x5_1).toNat * 2)) = some (.int .i64 ((rd_T25 l0 x5_1).f0)) ∧ w'.cell? ⟨(ad219.add ((x5_1).toNat * 2)).block, (ad219.add ((x5_1).toNat * 2)).off + 1, none⟩ = some (.int .i64 ((rd_T25 l0 x5_1).f1))) (ds := []) (bl_ 12 0x0) (by kernel_rfl) rfl rfl ⟨(blk_cell BK218.out 0).trans rfl, (blk_cell BK218.out 1).trans rfl, ((HB.out.cell (World.block_lt_of_cell? w _ hw219_0)).trans hw219_0), ((HB.out.cell (World.block_lt_of_cell? w _ hw219_1)).trans hw219_1)⟩ (fun hHeld => ?_); refine with_tabW spec_sgPut.tab2 spec_sgPut.bits2 (fun HT_ HW_ => ?_)
    generalize wr.drew = w8 at BK218 HB hx219_0 hx219_1 hHeld ⊢
    refine pz_ 0 7 (bl_ 12 0x1) HT_.out ?_
    refine pz_ 1 8 (bl_ 12 0x3) HT_.out ?_
    refine pz_ 2 9 (bl_ 12 0x7) HT_.out ?_
    refine pz_ 3 10 (bl_ 12 0xf) HT_.out ?_
    refine pz_ 4 11 (bl_ 12 0x1f) HT_.out ?_
    refine pz_ 5 12 (bl_ 12 0x3f) HT_.out ?_
    refine pz_ 6 13 (bl_ 12 0x7f) HT_.out ?_
    refine pz_ 7 14 (bl_ 12 0xff) HT_.out ?_
    refine take_ (i := 8) (N := some 15) (v := ?_) (a' := ?_) (bl_ 12 0x1ff) rfl rfl (take_ofW HT_.out HW_.out (by kernel_rfl)) (fun _ _ _ h => h) (Or.inl ⟨by rfl, ?_⟩) hHeld ?_ ?_
    rotate_left
    ·rintro w' ⟨s0, s1, s2, s3⟩
     go_simp
     with_reducible rfl
    rotate_left
    ·simp only [Act.put, sa_, sb_, sc_, i64_w, i32_w]
     rfl
    refine take_ (i := 9) (N := some 16) (v := ?_) (a' := ?_) (bl_ 12 0x3ff) rfl rfl (take_ofW HT_.out HW_.out (by kernel_rfl)) (fun _ _ _ h => h) (Or.inl ⟨by rfl, ?_⟩) hHeld ?_ ?_
    rotate_left
    ·rintro w' ⟨s0, s1, s2, s3⟩
     go_simp
     with_reducible rfl
    rotate_left
    ·simp only [Act.put, sa_, sb_, sc_, i64_w, i32_w]
     rfl
    refine one_ (i := 10) (N := some 17) (bl_ 12 0x7ff) rfl rfl (one_of HT_.out (by kernel_rfl)) (by decide) (fun K hK => ?_)
    refine goes_ Try.func63 (by kernel_rfl) rfl #[.agg #[.int .i64 ((rd_T25 l0 x5_1).f0), .int .i64 ((rd_T25 l0 x5_1).f1)], .agg #[.int .i64 a1_0, .int .i64 a1_1]] (by rfl) rfl rfl (by (try simp only [List.map_toArray, List.map_cons, List.map_nil]); first | done | rfl | (simp only [List.length_drop, List.length_take]; rfl)) ?_
    with_reducible refine (spec_sgLess.calls ((rd_T25 l0 x5_1).f0) ((rd_T25 l0 x5_1).f1) a1_0 a1_1 true _ A6.out).mono ?_
    rintro e w9 ⟨rfl, hb⟩
    refine ⟨_, rfl, ?_⟩
    have n0_ := Aside0.mk (blk_below (g := gb218) (o := .cells #[.int .i64 a1_0, .int .i64 a1_1] 25 (0, 0)) (by (with_reducible repeat (first | refine blk_drewN ?_ _ | refine blk_drew ?_ | refine blk_alloc ?_ _)); exact BK218.out) hb)
    have n1_ := Aside0.mk (below_step (by repeat (first | (with_reducible first | apply below_alloc | apply pw_below_drewN | apply below_drew1 | refine below_set ?_ GE218.out) | exact HB.out)) hb)
    clear BK218
    clear HB
    have BK218 := n0_
    have HB := n1_
    clear n0_ n1_
    (try clear hb)
    (try clear hb2)
    (try clear hk)
    (try clear hi)
    refine hK.out _ _ ⟨(blk_cell BK218.out 0).trans rfl, (blk_cell BK218.out 1).trans rfl, ((HB.out.cell (World.block_lt_of_cell? w _ hw219_0)).trans hw219_0), ((HB.out.cell (World.block_lt_of_cell? w _ hw219_1)).trans hw219_1)⟩ (fun hHeld => ?_)
    clear hK K
    refine norm_ (a' := ?_) ?_ ?_
    rotate_left
    ·show Act.put _ (some 17) _ = _
     simp only [Act.put, sa_, sb_, sc_, i64_w, i32_w]
     rfl
    refine pz_ 11 18 (bl_ 12 0xfff) HT_.out ?_
    refine done_ (done_of HT_.out (by kernel_rfl)) ?_
    try go_wp2
    go_roundg k1
    case measure => have := HK1.out; omega
    case rel => exact ⟨(wrap64 (x5_1 + 1)), (by first | rfl | (simp; done) | (simp [*]; done)), H', ⟨by have := HK1.out; omega⟩, ⟨by (with_reducible repeat (first | refine blk_drewN ?_ _ | refine blk_drew ?_ | refine blk_alloc ?_ _)); exact BK218.out⟩, ⟨by repeat (first | (with_reducible first | apply below_alloc | apply pw_below_drewN | apply below_drew1 | refine below_set ?_ GE218.out) | exact HB.out)⟩⟩
   replace c7 := Bool.eq_false_iff.mpr c7
   subst c7
   rw [if_neg (show ¬ (false = true) by decide)] at H
   obtain ⟨y221, hy221⟩ : ∃ y_ : List (S25), y_ = (([] : List (S25))) := ⟨_, rfl⟩
   replace H : (if x5_1 ≤ (l0.length : Int) then ((some (l0.take (x5_1 : Int).toNat : List (S25))).bind fun y224 => (if y221.length + y224.length < 8796093022208 then ((some (y221 ++ y224 : List (S25))).bind fun y228 => ((some (([(⟨a1_0, a1_1⟩ : S25)] : List (S25)) : List (S25))).bind fun y231 => (if y228.length + y231.length < 8796093022208 then ((some (y228 ++ y231 : List (S25))).bind fun y234 => ((some (l0.drop (x5_1 : Int).toNat : List (S25))).bind fun y237 => (if y234.length + y237.length < 8796093022208 then (some (y234 ++ y237)) else (none)))) else (none)))) else (none))) else (none)) = some r := by first | (rw [hy221]; with_reducible exact H) | (have H2_ := (Option.bind_some _ _).symm.trans H; rw [hy221]; with_reducible exact H2_) | (have H2_ := (Option.bind_some _ _).symm.trans H; with_reducible exact H2_) | with_reducible exact H | (rw [hy221]; exact H) | exact H
   have Ny221 := Aside0.mk hy221
   clear hy221
   have c10b0 := eq_true (of_decide_eq_true (by assumption) : 0 ≤ x5_1)
   by_cases c11 : x5_1 ≤ (l0.length : Int)
   rotate_left
   ·rw [if_neg c11] at H
    exact absurd H (by simp)
   rw [if_pos c11] at H
   have c11b0 := eq_true c11
   have c11b1 : decide (x5_1 ≤ (l0.length : Int)) = true := decide_eq_true c11
   clear c11
   obtain ⟨y224, hy224⟩ : ∃ y_ : List (S25), y_ = (l0.take (x5_1 : Int).toNat) := ⟨_, rfl⟩
   replace H : (if y221.length + y224.length < 8796093022208 then ((some (y221 ++ y224 : List (S25))).bind fun y228 => ((some (([(⟨a1_0, a1_1⟩ : S25)] : List (S25)) : List (S25))).bind fun y231 => (if y228.length + y231.length < 8796093022208 then ((some (y228 ++ y231 : List (S25))).bind fun y234 => ((some (l0.drop (x5_1 : Int).toNat : List (S25))).bind fun y237 => (if y234.length + y237.length < 8796093022208 then (some (y234 ++ y237)) else (none)))) else (none)))) else (none)) = some r := by first | (rw [hy224]; with_reducible exact H) | (have H2_ := (Option.bind_some _ _).symm.trans H; rw [hy224]; with_reducible exact H2_) | (have H2_ := (Option.bind_some _ _).symm.trans H; with_reducible exact H2_) | with_reducible exact H | (rw [hy224]; exact H) | exact H
   have Ny224 := Aside0.mk hy224
   clear hy224
   by_cases c12 : y221.length + y224.length < 8796093022208
   rotate_left
   ·rw [if_neg c12] at H
    exact absurd H (by simp)
   rw [if_pos c12] at H
   have LMc12 := Aside0.mk c12
   clear c12
   obtain ⟨y228, hy228⟩ : ∃ y_ : List (S25), y_ = (y221 ++ y224) := ⟨_, rfl⟩
   replace H : ((some (([(⟨a1_0, a1_1⟩ : S25)] : List (S25)) : List (S25))).bind fun y231 => (if y228.length + y231.length < 8796093022208 then ((some (y228 ++ y231 : List (S25))).bind fun y234 => ((some (l0.drop (x5_1 : Int).toNat : List (S25))).bind fun y237 => (if y234.length + y237.length < 8796093022208 then (some (y234 ++ y237)) else (none)))) else (none))) = some r := by first | (rw [hy228]; with_reducible exact H) | (have H2_ := (Option.bind_some _ _).symm.trans H; rw [hy228]; with_reducible exact H2_) | (have H2_ := (Option.bind_some _ _).symm.trans H; with_reducible exact H2_) | with_reducible exact H | (rw [hy228]; exact H) | exact H
   have Ny228 := Aside0.mk hy228
   clear hy228
   obtain ⟨y231, hy231⟩ : ∃ y_ : List (S25), y_ = (([(⟨a1_0, a1_1⟩ : S25)] : List (S25))) := ⟨_, rfl⟩
   replace H : (if y228.length + y231.length < 8796093022208 then ((some (y228 ++ y231 : List (S25))).bind fun y234 => ((some (l0.drop (x5_1 : Int).toNat : List (S25))).bind fun y237 => (if y234.length + y237.length < 8796093022208 then (some (y234 ++ y237)) else (none)))) else (none)) = some r := by first | (rw [hy231]; with_reducible exact H) | (have H2_ := (Option.bind_some _ _).symm.trans H; rw [hy231]; with_reducible exact H2_) | (have H2_ := (Option.bind_some _ _).symm.trans H; with_reducible exact H2_) | with_reducible exact H | (rw [hy231]; exact H) | exact H
   have Ny231 := Aside0.mk hy231
   clear hy231
   by_cases c13 : y228.length + y231.length < 8796093022208
   rotate_left
   ·rw [if_neg c13] at H
    exact absurd H (by simp)
   rw [if_pos c13] at H
   have LMc13 := Aside0.mk c13
   clear c13
   obtain ⟨y234, hy234⟩ : ∃ y_ : List (S25), y_ = (y228 ++ y231) := ⟨_, rfl⟩
   replace H : ((some (l0.drop (x5_1 : Int).toNat : List (S25))).bind fun y237 => (if y234.length + y237.length < 8796093022208 then (some (y234 ++ y237)) else (none))) = some r := by first | (rw [hy234]; with_reducible exact H) | (have H2_ := (Option.bind_some _ _).symm.trans H; rw [hy234]; with_reducible exact H2_) | (have H2_ := (Option.bind_some _ _).symm.trans H; with_reducible exact H2_) | with_reducible exact H | (rw [hy234]; exact H) | exact H
   have Ny234 := Aside0.mk hy234
   clear hy234
   have c14b0 := eq_true (of_decide_eq_true (by assumption) : 0 ≤ x5_1)
   have c15b0 := eq_true (of_decide_eq_true (by assumption) : x5_1 ≤ (l0.length : Int))
   obtain ⟨y237, hy237⟩ : ∃ y_ : List (S25), y_ = (l0.drop (x5_1 : Int).toNat) := ⟨_, rfl⟩
   replace H : (if y234.length + y237.length < 8796093022208 then (some (y234 ++ y237)) else (none)) = some r := by first | (rw [hy237]; with_reducible exact H) | (have H2_ := (Option.bind_some _ _).symm.trans H; rw [hy237]; with_reducible exact H2_) | (have H2_ := (Option.bind_some _ _).symm.trans H; with_reducible exact H2_) | with_reducible exact H | (rw [hy237]; exact H) | exact H
   have Ny237 := Aside0.mk hy237
   clear hy237
   by_cases c16 : y234.length + y237.length < 8796093022208
   rotate_left
   ·rw [if_neg c16] at H
    exact absurd H (by simp)
   rw [if_pos c16] at H
   have LMc16 := Aside0.mk c16
   clear c16
   obtain ⟨y241, hy241⟩ : ∃ y_ : List (S25), y_ = (y234 ++ y237) := ⟨_, rfl⟩
   replace H : (some y241) = some r := by first | (rw [hy241]; with_reducible exact H) | (have H2_ := (Option.bind_some _ _).symm.trans H; rw [hy241]; with_reducible exact H2_) | (have H2_ := (Option.bind_some _ _).symm.trans H; with_reducible exact H2_) | with_reducible exact H | (rw [hy241]; exact H) | exact H
   have Ny241 := Aside0.mk hy241
   clear hy241
   obtain rfl := Option.some.inj H
   try go_wp2
   have n0_ := Aside0.mk (blk_drew BK218.out)
   have n1_ := Aside0.mk (below_drew1 HB.out)
   clear BK218
   clear HB
   have BK218 := n0_
   have HB := n1_
   clear n0_ n1_
   have p219 : 0 ≤ (x5_1 : Int) := of_decide_eq_true (by assumption)
   have q219 : x5_1 < (l0.length : Int) := of_decide_eq_true (by assumption)
   obtain ⟨ad219, e219, hx219_0, hx219_1⟩ := at_T25 HR0.out x5_1 p219 q219
   have hw219_1 := hx219_1
   have hw219_0 := hx219_0
   cases e219
   replace hx219_0 := (HB.out.cell (World.block_lt_of_cell? w _ hx219_0)).trans hx219_0
   replace hx219_1 := (HB.out.cell (World.block_lt_of_cell? w _ hx219_1)).trans hx219_1
   replace p219 := eq_true p219
   replace q219 := eq_true q219
   refine start_ (n := 12) (S := fun w' => w'.cell? ⟨gb218, 0, none⟩ = some (.int .i64 a1_0) ∧ w'.cell? ⟨gb218, 1, none⟩ = some (.int .i64 a1_1) ∧ w'.cell? (ad219.add ((x5_1).toNat * 2)) = some (.int .i64 ((rd_T25 l0 x5_1).f0)) ∧ w'.cell? ⟨(ad219.add ((x5_1).toNat * 2)).block, (ad219.add ((x5_1).toNat * 2)).off + 1, none⟩ = some (.int .i64 ((rd_T25 l0 x5_1).f1))) (ds := []) (bl_ 12 0x0) (by kernel_rfl) rfl rfl ⟨(blk_cell BK218.out 0).trans rfl, (blk_cell BK218.out 1).trans rfl, ((HB.out.cell (World.block_lt_of_cell? w _ hw219_0)).trans hw219_0), ((HB.out.cell (World.block_lt_of_cell? w _ hw219_1)).trans hw219_1)⟩ (fun hHeld => ?_); refine with_tabW spec_sgPut.tab2 spec_sgPut.bits2 (fun HT_ HW_ => ?_)
   generalize wr.drew = w17 at BK218 HB hx219_0 hx219_1 hHeld ⊢
   refine pz_ 0 7 (bl_ 12 0x1) HT_.out ?_
   refine pz_ 1 8 (bl_ 12 0x3) HT_.out ?_
   refine pz_ 2 9 (bl_ 12 0x7) HT_.out ?_
   refine pz_ 3 10 (bl_ 12 0xf) HT_.out ?_
   refine pz_ 4 11 (bl_ 12 0x1f) HT_.out ?_
   refine pz_ 5 12 (bl_ 12 0x3f) HT_.out ?_
   refine pz_ 6 13 (bl_ 12 0x7f) HT_.out ?_
   refine pz_ 7 14 (bl_ 12 0xff) HT_.out ?_
   refine take_ (i := 8) (N := some 15) (v := ?_) (a' := ?_) (bl_ 12 0x1ff) rfl rfl (take_ofW HT_.out HW_.out (by kernel_rfl)) (fun _ _ _ h => h) (Or.inl ⟨by rfl, ?_⟩) hHeld ?_ ?_
   rotate_left
   ·rintro w' ⟨s0, s1, s2, s3⟩
    go_simp
    with_reducible rfl
   rotate_left
   ·simp only [Act.put, sa_, sb_, sc_, i64_w, i32_w]
    rfl
   refine take_ (i := 9) (N := some 16) (v := ?_) (a' := ?_) (bl_ 12 0x3ff) rfl rfl (take_ofW HT_.out HW_.out (by kernel_rfl)) (fun _ _ _ h => h) (Or.inl ⟨by rfl, ?_⟩) hHeld ?_ ?_
   rotate_left
   ·rintro w' ⟨s0, s1, s2, s3⟩
    go_simp
    with_reducible rfl
   rotate_left
   ·simp only [Act.put, sa_, sb_, sc_, i64_w, i32_w]
    rfl
   refine one_ (i := 10) (N := some 17) (bl_ 12 0x7ff) rfl rfl (one_of HT_.out (by kernel_rfl)) (by decide) (fun K hK => ?_)
   refine goes_ Try.func63 (by kernel_rfl) rfl #[.agg #[.int .i64 ((rd_T25 l0 x5_1).f0), .int .i64 ((rd_T25 l0 x5_1).f1)], .agg #[.int .i64 a1_0, .int .i64 a1_1]] (by rfl) rfl rfl (by (try simp only [List.map_toArray, List.map_cons, List.map_nil]); first | done | rfl | (simp only [List.length_drop, List.length_take]; rfl)) ?_
   with_reducible refine (spec_sgLess.calls ((rd_T25 l0 x5_1).f0) ((rd_T25 l0 x5_1).f1) a1_0 a1_1 false _ A6.out).mono ?_
   rintro e w18 ⟨rfl, hb⟩
   refine ⟨_, rfl, ?_⟩
   have n0_ := Aside0.mk (blk_below (g := gb218) (o := .cells #[.int .i64 a1_0, .int .i64 a1_1] 25 (0, 0)) (by (with_reducible repeat (first | refine blk_drewN ?_ _ | refine blk_drew ?_ | refine blk_alloc ?_ _)); exact BK218.out) hb)
   have n1_ := Aside0.mk (below_step (by repeat (first | (with_reducible first | apply below_alloc | apply pw_below_drewN | apply below_drew1 | refine below_set ?_ GE218.out) | exact HB.out)) hb)
   clear BK218
   clear HB
   have BK218 := n0_
   have HB := n1_
   clear n0_ n1_
   (try clear hb)
   (try clear hb2)
   (try clear hk)
   (try clear hi)
   refine hK.out _ _ ⟨(blk_cell BK218.out 0).trans rfl, (blk_cell BK218.out 1).trans rfl, ((HB.out.cell (World.block_lt_of_cell? w _ hw219_0)).trans hw219_0), ((HB.out.cell (World.block_lt_of_cell? w _ hw219_1)).trans hw219_1)⟩ (fun hHeld => ?_)
   clear hK K
   refine norm_ (a' := ?_) ?_ ?_
   rotate_left
   ·show Act.put _ (some 17) _ = _
    simp only [Act.put, sa_, sb_, sc_, i64_w, i32_w]
    rfl
   refine pz_ 11 18 (bl_ 12 0xfff) HT_.out ?_
   refine done_ (done_of HT_.out (by kernel_rfl)) ?_
   try go_wp2
   have n0_ := Aside0.mk (blk_drew BK218.out)
   have n1_ := Aside0.mk (below_drew1 HB.out)
   clear BK218
   clear HB
   have BK218 := n0_
   have HB := n1_
   clear n0_ n1_
   have q20 : (x5_1 : Int) ≤ ((l0.length : Int) : Int) := of_decide_eq_true (by assumption)
   obtain ⟨i020, hi020, _, hsz20, _⟩ := info_parts info25
   have hroom20 : l0.length ≤ c0 := HC0.out
   have hC20 : Kd.C k25 _ (some ad219) l0.length l0 := HR0.out
   have hcut20 := cut_to (P := Try.prog) 35 25 .i64 Try.underlying35 hi020 (some ad219) l0.length c0 x5_1 (of_decide_eq_true (by assumption)) q20 hroom20
   have hr20 := Kd.C_take (m := (x5_1 : Int).toNat) hC20 (by omega)
   have hy20 : y224.length = (x5_1 : Int).toNat := (by rw [Ny224.out, List.length_take]; omega)
   rw [← Ny224.out] at hr20
   rw [← hy20] at hcut20
   have HR227 := Aside0.mk hr20
   have HC227 := Aside0.mk (show y224.length ≤ c0 from by omega)
   clear hr20 hC20 hroom20 hi020 hsz20
   have KY20 := Aside0.mk hy20
   clear hy20
   replace q20 := eq_true q20
   refine start_ (n := 9) (S := fun w' => w'.cell? ⟨gb218, 0, none⟩ = some (.int .i64 a1_0) ∧ w'.cell? ⟨gb218, 1, none⟩ = some (.int .i64 a1_1)) (ds := []) (bl_ 9 0x0) (by kernel_rfl) rfl rfl ⟨(blk_cell BK218.out 0).trans rfl, (blk_cell BK218.out 1).trans rfl⟩ (fun hHeld => ?_); refine with_tabW spec_sgPut.tab4 spec_sgPut.bits4 (fun HT_ HW_ => ?_)
   generalize w18.drew = w19 at BK218 HB HR227 hHeld ⊢
   refine pz_ 1 22 (bl_ 9 0x2) HT_.out ?_
   refine pz_ 2 23 (bl_ 9 0x6) HT_.out ?_
   refine pz_ 3 24 (bl_ 9 0xe) HT_.out ?_
   refine take_ (i := 5) (N := some 26) (v := ?_) (a' := ?_) (bl_ 9 0x2e) rfl rfl (take_ofW HT_.out HW_.out (by kernel_rfl)) (fun _ _ _ h => h) (Or.inl ⟨by rfl, ?_⟩) hHeld ?_ ?_
   rotate_left
   ·rintro w' ⟨s0, s1⟩
    go_simp
    with_reducible rfl
   rotate_left
   ·simp only [Act.put, sa_, sb_, sc_, i64_w, i32_w]
    rfl
   refine join_ (σ := Value × Value × Value) 2 (bl_ 9 0x7f) (fun s_ => [(21, s_.1), (25, s_.2.1), (27, s_.2.2)]) (fun s_ w' => (w'.cell? ⟨gb218, 0, none⟩ = some (.int .i64 a1_0) ∧ w'.cell? ⟨gb218, 1, none⟩ = some (.int .i64 a1_1)) ∧ (Kd.R k25 25 w' w.heap.size (fun k_ => some k_ ≠ (s_.2.2 : Value).ownBlock ∧ k_ ≠ gb218) s_.2.1 y228) ∧ (Kd.R k25 25 w' w.heap.size (fun k_ => some k_ ≠ (s_.2.1 : Value).ownBlock ∧ k_ ≠ gb218) s_.2.2 y231) ∧ (w'.heap[gb218]? = some (.cells #[.int .i64 a1_0, .int .i64 a1_1] 25 (0, 0))) ∧ (Below w.heap.size w w')) ?_ ?_
   rotate_left
   ·intro hCont
    refine two_ (i := 0) (j := 6) (Ni := some 21) (Nj := some 27) (bl_ 9 0x2f) (bl_ 9 0x6e) rfl rfl rfl rfl (two_of HT_.out (by kernel_rfl)) (by decide) (by decide) (fun K hK => ?_) (fun K hK => ?_)
    ·skip
     refine Kd.R_lit_step k25 _ 25 ?hg (N := 21) ?hd (xs := ([] : List (S25))) (inner := []) (ok := fun _ => True) (okp := fun _ => True) ?hr ?hp (fun _ hk => hk) trivial (Below.refl _ _) (Nat.le_refl _) (by simp) ?_; (case hd => rfl); (case hg => rfl); (case hr => first | (go_simp; done) | (go_simp; rfl)); (case hp => exact (Reps.none _ _))
     intro v222 w21 ho22 hb hg_ hnew_
     clear hg_ hnew_
     (first | rw [← Ny221.out] at ho22 | (simp only [Int.reduceToNat] at ho22; rw [← Ny221.out] at ho22))
     have n0_ := Aside0.mk (Kd.R_lower (Kd.R_newB ho22 (g := gb218) (o := .cells #[.int .i64 a1_0, .int .i64 a1_1] 25 (0, 0)) (by (with_reducible repeat (first | refine blk_drewN ?_ _ | refine blk_drew ?_ | refine blk_alloc ?_ _)); exact BK218.out)) (below_size (by repeat (first | (with_reducible first | apply below_alloc | apply pw_below_drewN | apply below_drew1 | refine below_set ?_ GE218.out) | exact HB.out))))
     have n1_ := Aside0.mk (blk_below (g := gb218) (o := .cells #[.int .i64 a1_0, .int .i64 a1_1] 25 (0, 0)) (by (with_reducible repeat (first | refine blk_drewN ?_ _ | refine blk_drew ?_ | refine blk_alloc ?_ _)); exact BK218.out) hb)
     have n2_ := Aside0.mk (below_step (by repeat (first | (with_reducible first | apply below_alloc | apply pw_below_drewN | apply below_drew1 | refine below_set ?_ GE218.out) | exact HB.out)) hb)
     clear BK218
     clear HB
     have HO223 := n0_
     have BK218 := n1_
     have HB := n2_
     clear n0_ n1_ n2_
     clear hb ho22
     refine hK.out _ _ ⟨(blk_cell BK218.out 0).trans rfl, (blk_cell BK218.out 1).trans rfl⟩ (fun hHeld => ?_)
     clear hK K
     refine norm_ (a' := ?_) ?_ ?_
     rotate_left
     ·show Act.put _ (some 21) _ = _
      simp only [Act.put, sa_, sb_, sc_, i64_w, i32_w]
      rfl
     refine two_ (i := 4) (j := 6) (Ni := some 25) (Nj := some 27) (bl_ 9 0x3f) (bl_ 9 0x6f) rfl rfl rfl rfl (two_of HT_.out (by kernel_rfl)) (by decide) (by decide) (fun K hK => ?_) (fun K hK => ?_)
     ·skip
      refine Kd.R_append_rows_step k25 (w0 := w) w.heap.size (by rfl) (.tmp 21) (.tmp 24) 35 25 (.agg #[(.int .i64 0), (.int .i64 0)]) 16 rfl Try.underlying35 info25 rfl (by decide) (by omega) v222 y221 y224 _ _ _ (fun k_ => k_ ≠ gb218) (fun _ => False) rfl rfl ?aO ?aR (fun _ _ h => h) (fun _ h => h.elim) ?aF ?aB ?aS ?aL ?_
      (case aR => repeat (first | exact (Kd.C_below HR227.out HB.out) | (with_reducible refine Kd.C_alloc ?_ _) | (with_reducible refine Kd.C_drewN ?_ _) | (with_reducible refine Kd.C_drew ?_)))
      (case aB => exact (by repeat (first | (with_reducible first | apply below_alloc | apply pw_below_drewN | apply below_drew1 | refine below_set ?_ GE218.out) | exact HB.out)))
      (case aF => exact (fun k_ hk => Kd.freshB (g := gb218) (o := .cells #[.int .i64 a1_0, .int .i64 a1_1] 25 (0, 0)) (by (with_reducible repeat (first | refine blk_drewN ?_ _ | refine blk_drew ?_ | refine blk_alloc ?_ _)); exact BK218.out) k_ hk))
      (case aO => exact (by (with_reducible repeat (first | apply Kd.R_alloc | apply Kd.R_drewN | apply Kd.R_drew)); exact Kd.R_mono HO223.out (fun _ hk => hk.2)))
      (case aS => exact (below_size (by repeat (first | (with_reducible first | apply below_alloc | apply pw_below_drewN | apply below_drew1 | refine below_set ?_ GE218.out) | exact HB.out))))
      (case aL => have := LMc12.out; omega)
      intro v229 w23 ho hb hg hat
      rw [← Ny228.out] at ho
      have n0_ := Aside0.mk (blk_grown (g := gb218) (o := .cells #[.int .i64 a1_0, .int .i64 a1_1] 25 (0, 0)) (by (with_reducible repeat (first | refine blk_drewN ?_ _ | refine blk_drew ?_ | refine blk_alloc ?_ _)); exact BK218.out) hg (Kd.R_away HO223.out (fun _ hk => hk.2)))
      have n1_ := Aside0.mk (hb)
      have n2_ := Aside0.mk (ho)
      clear BK218
      clear HB
      clear HO223
      have BK218 := n0_
      have HB := n1_
      have HO230 := n2_
      clear n0_ n1_ n2_
      clear ho hb hg hat
      refine hK.out _ _ ⟨(blk_cell BK218.out 0).trans rfl, (blk_cell BK218.out 1).trans rfl⟩ (fun hHeld => ?_)
      clear hK K
      refine norm_ (a' := ?_) ?_ ?_
      rotate_left
      ·show Act.put _ (some 25) _ = _
       simp only [Act.put, sa_, sb_, sc_, i64_w, i32_w]
       rfl
      refine one_ (i := 6) (N := some 27) (bl_ 9 0x7f) rfl rfl (one_of HT_.out (by kernel_rfl)) (by decide) (fun K hK => ?_)
      refine Kd.R_lit_step k25 _ 25 ?hg (N := 27) ?hd (xs := ([(⟨a1_0, a1_1⟩ : S25)] : List (S25))) (inner := [.int .i64 a1_0, .int .i64 a1_1]) (ok := fun _ => True) (okp := fun _ => True) ?hr ?hp (fun _ hk => hk) trivial (Below.refl _ _) (Nat.le_refl _) (by simp) ?_; (case hd => rfl); (case hg => rfl); (case hr => first | (go_simp; done) | (go_simp; rfl)); (case hp => exact (Reps.c2 (show Kd.M k25 _ _ _ (⟨a1_0, a1_1⟩ : S25) [.int .i64 a1_0, .int .i64 a1_1] from (k25_mkM _ _ _ (⟨a1_0, a1_1⟩ : S25) )) (Reps.none _ _)))
      intro v232 w24 ho25 hb hg_ hnew_
      clear hg_ hnew_
      (first | rw [← Ny231.out] at ho25 | (simp only [Int.reduceToNat] at ho25; rw [← Ny231.out] at ho25))
      have n0_ := Aside0.mk (Kd.R_elder' (ru_ HO230.out) (Kd.R_base ho25) hb)
      have n1_ := Aside0.mk (Kd.R_lower (Kd.R_newB (Kd.R_new' ho25 (Kd.R_lt (ru_ HO230.out))) (g := gb218) (o := .cells #[.int .i64 a1_0, .int .i64 a1_1] 25 (0, 0)) (by (with_reducible repeat (first | refine blk_drewN ?_ _ | refine blk_drew ?_ | refine blk_alloc ?_ _)); exact BK218.out)) (below_size (by repeat (first | (with_reducible first | apply below_alloc | apply pw_below_drewN | apply below_drew1 | refine below_set ?_ GE218.out) | exact HB.out))))
      have n2_ := Aside0.mk (blk_below (g := gb218) (o := .cells #[.int .i64 a1_0, .int .i64 a1_1] 25 (0, 0)) (by (with_reducible repeat (first | refine blk_drewN ?_ _ | refine blk_drew ?_ | refine blk_alloc ?_ _)); exact BK218.out) hb)
      have n3_ := Aside0.mk (below_step (by repeat (first | (with_reducible first | apply below_alloc | apply pw_below_drewN | apply below_drew1 | refine below_set ?_ GE218.out) | exact HB.out)) hb)
      clear HO230
      clear BK218
      clear HB
      have HO230 := n0_
      have HO233 := n1_
      have BK218 := n2_
      have HB := n3_
      clear n0_ n1_ n2_ n3_
      clear hb ho25
      refine hK.out _ _ ⟨(blk_cell BK218.out 0).trans rfl, (blk_cell BK218.out 1).trans rfl⟩ (fun hHeld => ?_)
      clear hK K
      refine norm_ (a' := ?_) ?_ ?_
      rotate_left
      ·show Act.put _ (some 27) _ = _
       simp only [Act.put, sa_, sb_, sc_, i64_w, i32_w]
       rfl
      exact norm_ (by simp only [putAll, Act.put, sa_, sb_, sc_]) (hCont (v222, v229, v232) _ ⟨hHeld, (by (with_reducible repeat (first | apply Kd.R_alloc | apply Kd.R_drewN | apply Kd.R_drew)); exact Kd.R_mono HO230.out (fun _ hk => ⟨hk.2, hk.1⟩)), (by (with_reducible repeat (first | apply Kd.R_alloc | apply Kd.R_drewN | apply Kd.R_drew)); exact Kd.R_mono HO233.out (fun _ hk => ⟨hk.1.2, hk.2⟩)), (by (with_reducible repeat (first | refine blk_drewN ?_ _ | refine blk_drew ?_ | refine blk_alloc ?_ _)); exact BK218.out), (by repeat (first | (with_reducible first | apply below_alloc | apply pw_below_drewN | apply below_drew1 | refine below_set ?_ GE218.out) | exact HB.out))⟩)
     ·skip
      refine Kd.R_lit_step k25 _ 25 ?hg (N := 27) ?hd (xs := ([(⟨a1_0, a1_1⟩ : S25)] : List (S25))) (inner := [.int .i64 a1_0, .int .i64 a1_1]) (ok := fun _ => True) (okp := fun _ => True) ?hr ?hp (fun _ hk => hk) trivial (Below.refl _ _) (Nat.le_refl _) (by simp) ?_; (case hd => rfl); (case hg => rfl); (case hr => first | (go_simp; done) | (go_simp; rfl)); (case hp => exact (Reps.c2 (show Kd.M k25 _ _ _ (⟨a1_0, a1_1⟩ : S25) [.int .i64 a1_0, .int .i64 a1_1] from (k25_mkM _ _ _ (⟨a1_0, a1_1⟩ : S25) )) (Reps.none _ _)))
      intro v232 w23 ho24 hb hg_ hnew_
      clear hg_ hnew_
      (first | rw [← Ny231.out] at ho24 | (simp only [Int.reduceToNat] at ho24; rw [← Ny231.out] at ho24))
      have n0_ := Aside0.mk (Kd.R_elder' (ru_ HO223.out) (Kd.R_base ho24) hb)
      have n1_ := Aside0.mk (Kd.R_lower (Kd.R_newB (Kd.R_new' ho24 (Kd.R_lt (ru_ HO223.out))) (g := gb218) (o := .cells #[.int .i64 a1_0, .int .i64 a1_1] 25 (0, 0)) (by (with_reducible repeat (first | refine blk_drewN ?_ _ | refine blk_drew ?_ | refine blk_alloc ?_ _)); exact BK218.out)) (below_size (by repeat (first | (with_reducible first | apply below_alloc | apply pw_below_drewN | apply below_drew1 | refine below_set ?_ GE218.out) | exact HB.out))))
      have n2_ := Aside0.mk (blk_below (g := gb218) (o := .cells #[.int .i64 a1_0, .int .i64 a1_1] 25 (0, 0)) (by (with_reducible repeat (first | refine blk_drewN ?_ _ | refine blk_drew ?_ | refine blk_alloc ?_ _)); exact BK218.out) hb)
      have n3_ := Aside0.mk (below_step (by repeat (first | (with_reducible first | apply below_alloc | apply pw_below_drewN | apply below_drew1 | refine below_set ?_ GE218.out) | exact HB.out)) hb)
      clear HO223
      clear BK218
      clear HB
      have HO223 := n0_
      have HO233 := n1_
      have BK218 := n2_
      have HB := n3_
      clear n0_ n1_ n2_ n3_
      clear hb ho24
      refine hK.out _ _ ⟨(blk_cell BK218.out 0).trans rfl, (blk_cell BK218.out 1).trans rfl⟩ (fun hHeld => ?_)
      clear hK K
      refine norm_ (a' := ?_) ?_ ?_
      rotate_left
      ·show Act.put _ (some 27) _ = _
       simp only [Act.put, sa_, sb_, sc_, i64_w, i32_w]
       rfl
      refine one_ (i := 4) (N := some 25) (bl_ 9 0x7f) rfl rfl (one_of HT_.out (by kernel_rfl)) (by decide) (fun K hK => ?_)
      refine Kd.R_append_rows_step k25 (w0 := w) w.heap.size (by rfl) (.tmp 21) (.tmp 24) 35 25 (.agg #[(.int .i64 0), (.int .i64 0)]) 16 rfl Try.underlying35 info25 rfl (by decide) (by omega) v222 y221 y224 _ _ _ (fun k_ => some k_ ≠ (v232 : Value).ownBlock ∧ k_ ≠ gb218) (fun _ => False) rfl rfl ?aO ?aR (fun _ _ h => h) (fun _ h => h.elim) ?aF ?aB ?aS ?aL ?_
      (case aR => repeat (first | exact (Kd.C_below HR227.out HB.out) | (with_reducible refine Kd.C_alloc ?_ _) | (with_reducible refine Kd.C_drewN ?_ _) | (with_reducible refine Kd.C_drew ?_)))
      (case aB => exact (by repeat (first | (with_reducible first | apply below_alloc | apply pw_below_drewN | apply below_drew1 | refine below_set ?_ GE218.out) | exact HB.out)))
      (case aF => exact (fun k_ hk => ⟨Kd.fresh' (Kd.R_lt (ru_ HO233.out)) k_ hk, Kd.freshB (g := gb218) (o := .cells #[.int .i64 a1_0, .int .i64 a1_1] 25 (0, 0)) (by (with_reducible repeat (first | refine blk_drewN ?_ _ | refine blk_drew ?_ | refine blk_alloc ?_ _)); exact BK218.out) k_ hk⟩))
      (case aO => exact (by (with_reducible repeat (first | apply Kd.R_alloc | apply Kd.R_drewN | apply Kd.R_drew)); exact Kd.R_mono HO223.out (fun _ hk => ⟨hk.2, hk.1.2⟩)))
      (case aS => exact (below_size (by repeat (first | (with_reducible first | apply below_alloc | apply pw_below_drewN | apply below_drew1 | refine below_set ?_ GE218.out) | exact HB.out))))
      (case aL => have := LMc12.out; omega)
      intro v229 w25 ho hb hg hat
      rw [← Ny228.out] at ho
      have n0_ := Aside0.mk (blk_grown (g := gb218) (o := .cells #[.int .i64 a1_0, .int .i64 a1_1] 25 (0, 0)) (by (with_reducible repeat (first | refine blk_drewN ?_ _ | refine blk_drew ?_ | refine blk_alloc ?_ _)); exact BK218.out) hg (Kd.R_away HO223.out (fun _ hk => hk.1.2)))
      have n1_ := Aside0.mk (Kd.R_after (ok := (fun k_ => k_ ≠ gb218)) (by (with_reducible repeat (first | apply Kd.R_alloc | apply Kd.R_drewN | apply Kd.R_drew)); exact Kd.R_mono HO233.out (fun _ hk => ⟨hk.2, hk.1.2⟩)) hg hat)
      have n2_ := Aside0.mk (hb)
      have n3_ := Aside0.mk (ho)
      clear BK218
      clear HO233
      clear HB
      clear HO223
      have BK218 := n0_
      have HO233 := n1_
      have HB := n2_
      have HO230 := n3_
      clear n0_ n1_ n2_ n3_
      clear ho hb hg hat
      refine hK.out _ _ ⟨(blk_cell BK218.out 0).trans rfl, (blk_cell BK218.out 1).trans rfl⟩ (fun hHeld => ?_)
      clear hK K
      refine norm_ (a' := ?_) ?_ ?_
      rotate_left
      ·show Act.put _ (some 25) _ = _
       simp only [Act.put, sa_, sb_, sc_, i64_w, i32_w]
       rfl
      exact norm_ (by simp only [putAll, Act.put, sa_, sb_, sc_]) (hCont (v222, v229, v232) _ ⟨hHeld, (ru_ HO230.out), (by (with_reducible repeat (first | apply Kd.R_alloc | apply Kd.R_drewN | apply Kd.R_drew)); exact Kd.R_mono HO233.out (fun _ hk => ⟨hk.2, hk.1⟩)), (by (with_reducible repeat (first | refine blk_drewN ?_ _ | refine blk_drew ?_ | refine blk_alloc ?_ _)); exact BK218.out), (by repeat (first | (with_reducible first | apply below_alloc | apply pw_below_drewN | apply below_drew1 | refine below_set ?_ GE218.out) | exact HB.out))⟩)
    ·skip
     refine Kd.R_lit_step k25 _ 25 ?hg (N := 27) ?hd (xs := ([(⟨a1_0, a1_1⟩ : S25)] : List (S25))) (inner := [.int .i64 a1_0, .int .i64 a1_1]) (ok := fun _ => True) (okp := fun _ => True) ?hr ?hp (fun _ hk => hk) trivial (Below.refl _ _) (Nat.le_refl _) (by simp) ?_; (case hd => rfl); (case hg => rfl); (case hr => first | (go_simp; done) | (go_simp; rfl)); (case hp => exact (Reps.c2 (show Kd.M k25 _ _ _ (⟨a1_0, a1_1⟩ : S25) [.int .i64 a1_0, .int .i64 a1_1] from (k25_mkM _ _ _ (⟨a1_0, a1_1⟩ : S25) )) (Reps.none _ _)))
     intro v232 w21 ho22 hb hg_ hnew_
     clear hg_ hnew_
     (first | rw [← Ny231.out] at ho22 | (simp only [Int.reduceToNat] at ho22; rw [← Ny231.out] at ho22))
     have n0_ := Aside0.mk (Kd.R_lower (Kd.R_newB ho22 (g := gb218) (o := .cells #[.int .i64 a1_0, .int .i64 a1_1] 25 (0, 0)) (by (with_reducible repeat (first | refine blk_drewN ?_ _ | refine blk_drew ?_ | refine blk_alloc ?_ _)); exact BK218.out)) (below_size (by repeat (first | (with_reducible first | apply below_alloc | apply pw_below_drewN | apply below_drew1 | refine below_set ?_ GE218.out) | exact HB.out))))
     have n1_ := Aside0.mk (blk_below (g := gb218) (o := .cells #[.int .i64 a1_0, .int .i64 a1_1] 25 (0, 0)) (by (with_reducible repeat (first | refine blk_drewN ?_ _ | refine blk_drew ?_ | refine blk_alloc ?_ _)); exact BK218.out) hb)
     have n2_ := Aside0.mk (below_step (by repeat (first | (with_reducible first | apply below_alloc | apply pw_below_drewN | apply below_drew1 | refine below_set ?_ GE218.out) | exact HB.out)) hb)
     clear BK218
     clear HB
     have HO233 := n0_
     have BK218 := n1_
     have HB := n2_
     clear n0_ n1_ n2_
     clear hb ho22
     refine hK.out _ _ ⟨(blk_cell BK218.out 0).trans rfl, (blk_cell BK218.out 1).trans rfl⟩ (fun hHeld => ?_)
     clear hK K
     refine norm_ (a' := ?_) ?_ ?_
     rotate_left
     ·show Act.put _ (some 27) _ = _
      simp only [Act.put, sa_, sb_, sc_, i64_w, i32_w]
      rfl
     refine one_ (i := 0) (N := some 21) (bl_ 9 0x6f) rfl rfl (one_of HT_.out (by kernel_rfl)) (by decide) (fun K hK => ?_)
     refine Kd.R_lit_step k25 _ 25 ?hg (N := 21) ?hd (xs := ([] : List (S25))) (inner := []) (ok := fun _ => True) (okp := fun _ => True) ?hr ?hp (fun _ hk => hk) trivial (Below.refl _ _) (Nat.le_refl _) (by simp) ?_; (case hd => rfl); (case hg => rfl); (case hr => first | (go_simp; done) | (go_simp; rfl)); (case hp => exact (Reps.none _ _))
     intro v222 w23 ho24 hb hg_ hnew_
     clear hg_ hnew_
     (first | rw [← Ny221.out] at ho24 | (simp only [Int.reduceToNat] at ho24; rw [← Ny221.out] at ho24))
     have n0_ := Aside0.mk (Kd.R_elder' (ru_ HO233.out) (Kd.R_base ho24) hb)
     have n1_ := Aside0.mk (Kd.R_lower (Kd.R_newB (Kd.R_new' ho24 (Kd.R_lt (ru_ HO233.out))) (g := gb218) (o := .cells #[.int .i64 a1_0, .int .i64 a1_1] 25 (0, 0)) (by (with_reducible repeat (first | refine blk_drewN ?_ _ | refine blk_drew ?_ | refine blk_alloc ?_ _)); exact BK218.out)) (below_size (by repeat (first | (with_reducible first | apply below_alloc | apply pw_below_drewN | apply below_drew1 | refine below_set ?_ GE218.out) | exact HB.out))))
     have n2_ := Aside0.mk (blk_below (g := gb218) (o := .cells #[.int .i64 a1_0, .int .i64 a1_1] 25 (0, 0)) (by (with_reducible repeat (first | refine blk_drewN ?_ _ | refine blk_drew ?_ | refine blk_alloc ?_ _)); exact BK218.out) hb)
     have n3_ := Aside0.mk (below_step (by repeat (first | (with_reducible first | apply below_alloc | apply pw_below_drewN | apply below_drew1 | refine below_set ?_ GE218.out) | exact HB.out)) hb)
     clear HO233
     clear BK218
     clear HB
     have HO233 := n0_
     have HO223 := n1_
     have BK218 := n2_
     have HB := n3_
     clear n0_ n1_ n2_ n3_
     clear hb ho24
     refine hK.out _ _ ⟨(blk_cell BK218.out 0).trans rfl, (blk_cell BK218.out 1).trans rfl⟩ (fun hHeld => ?_)
     clear hK K
     refine norm_ (a' := ?_) ?_ ?_
     rotate_left
     ·show Act.put _ (some 21) _ = _
      simp only [Act.put, sa_, sb_, sc_, i64_w, i32_w]
      rfl
     refine one_ (i := 4) (N := some 25) (bl_ 9 0x7f) rfl rfl (one_of HT_.out (by kernel_rfl)) (by decide) (fun K hK => ?_)
     refine Kd.R_append_rows_step k25 (w0 := w) w.heap.size (by rfl) (.tmp 21) (.tmp 24) 35 25 (.agg #[(.int .i64 0), (.int .i64 0)]) 16 rfl Try.underlying35 info25 rfl (by decide) (by omega) v222 y221 y224 _ _ _ (fun k_ => some k_ ≠ (v232 : Value).ownBlock ∧ k_ ≠ gb218) (fun _ => False) rfl rfl ?aO ?aR (fun _ _ h => h) (fun _ h => h.elim) ?aF ?aB ?aS ?aL ?_
     (case aR => repeat (first | exact (Kd.C_below HR227.out HB.out) | (with_reducible refine Kd.C_alloc ?_ _) | (with_reducible refine Kd.C_drewN ?_ _) | (with_reducible refine Kd.C_drew ?_)))
     (case aB => exact (by repeat (first | (with_reducible first | apply below_alloc | apply pw_below_drewN | apply below_drew1 | refine below_set ?_ GE218.out) | exact HB.out)))
     (case aF => exact (fun k_ hk => ⟨Kd.fresh' (Kd.R_lt (ru_ HO233.out)) k_ hk, Kd.freshB (g := gb218) (o := .cells #[.int .i64 a1_0, .int .i64 a1_1] 25 (0, 0)) (by (with_reducible repeat (first | refine blk_drewN ?_ _ | refine blk_drew ?_ | refine blk_alloc ?_ _)); exact BK218.out) k_ hk⟩))
     (case aO => exact (by (with_reducible repeat (first | apply Kd.R_alloc | apply Kd.R_drewN | apply Kd.R_drew)); exact Kd.R_mono HO223.out (fun _ hk => ⟨hk.1.2, hk.2⟩)))
     (case aS => exact (below_size (by repeat (first | (with_reducible first | apply below_alloc | apply pw_below_drewN | apply below_drew1 | refine below_set ?_ GE218.out) | exact HB.out))))
     (case aL => have := LMc12.out; omega)
     intro v229 w25 ho hb hg hat
     rw [← Ny228.out] at ho
     have n0_ := Aside0.mk (blk_grown (g := gb218) (o := .cells #[.int .i64 a1_0, .int .i64 a1_1] 25 (0, 0)) (by (with_reducible repeat (first | refine blk_drewN ?_ _ | refine blk_drew ?_ | refine blk_alloc ?_ _)); exact BK218.out) hg (Kd.R_away HO223.out (fun _ hk => hk.2)))
     have n1_ := Aside0.mk (Kd.R_after (ok := (fun k_ => k_ ≠ gb218)) (by (with_reducible repeat (first | apply Kd.R_alloc | apply Kd.R_drewN | apply Kd.R_drew)); exact Kd.R_mono HO233.out (fun _ hk => ⟨hk.1.2, hk.2⟩)) hg hat)
     have n2_ := Aside0.mk (hb)
     have n3_ := Aside0.mk (ho)
     clear BK218
     clear HO233
     clear HB
     clear HO223
     have BK218 := n0_
     have HO233 := n1_
     have HB := n2_
     have HO230 := n3_
     clear n0_ n1_ n2_ n3_
     clear ho hb hg hat
     refine hK.out _ _ ⟨(blk_cell BK218.out 0).trans rfl, (blk_cell BK218.out 1).trans rfl⟩ (fun hHeld => ?_)
     clear hK K
     refine norm_ (a' := ?_) ?_ ?_
     rotate_left
     ·show Act.put _ (some 25) _ = _
      simp only [Act.put, sa_, sb_, sc_, i64_w, i32_w]
      rfl
     exact norm_ (by simp only [putAll, Act.put, sa_, sb_, sc_]) (hCont (v222, v229, v232) _ ⟨hHeld, (ru_ HO230.out), (by (with_reducible repeat (first | apply Kd.R_alloc | apply Kd.R_drewN | apply Kd.R_drew)); exact Kd.R_mono HO233.out (fun _ hk => ⟨hk.2, hk.1⟩)), (by (with_reducible repeat (first | refine blk_drewN ?_ _ | refine blk_drew ?_ | refine blk_alloc ?_ _)); exact BK218.out), (by repeat (first | (with_reducible first | apply below_alloc | apply pw_below_drewN | apply below_drew1 | refine below_set ?_ GE218.out) | exact HB.out))⟩)
   rintro ⟨v222, v229, v232⟩ w26 ⟨hS_, h0_, h1_, h2_, h3_⟩
   have n0_ : Aside0 (Kd.R k25 25 w26 w.heap.size (fun k_ => some k_ ≠ (v232 : Value).ownBlock ∧ k_ ≠ gb218) v229 y228) := ⟨h0_⟩
   have n1_ : Aside0 (Kd.R k25 25 w26 w.heap.size (fun k_ => some k_ ≠ (v229 : Value).ownBlock ∧ k_ ≠ gb218) v232 y231) := ⟨h1_⟩
   have n2_ : Aside0 (w26.heap[gb218]? = some (.cells #[.int .i64 a1_0, .int .i64 a1_1] 25 (0, 0))) := ⟨h2_⟩
   have n3_ : Aside0 (Below w.heap.size w w26) := ⟨h3_⟩
   clear BK218
   clear HB
   clear h0_ h1_ h2_ h3_
   have HO230 := n0_
   have HO233 := n1_
   have BK218 := n2_
   have HB := n3_
   clear n0_ n1_ n2_ n3_
   have hHeld : w26.cell? ⟨gb218, 0, none⟩ = some (.int .i64 a1_0) ∧ w26.cell? ⟨gb218, 1, none⟩ = some (.int .i64 a1_1) := hS_
   obtain ⟨Ao28, co28, eo28⟩ := Kd.R_slice HO233.out
   (first | subst eo28 | (injection eo28 with f1_ f2_ f3_; have f4_ := f1_.symm; have f5_ := f3_.symm; clear f1_ f2_ f3_; subst f4_; subst f5_))
   refine norm_ (a' := ?_) ?_ ?_
   rotate_left
   ·simp only [putAll, Act.put, sa_, sb_, sc_]
    rfl
   refine one_ (i := 7) (N := some 28) (bl_ 9 0xff) rfl rfl (one_of HT_.out (by kernel_rfl)) (by decide) (fun K hK => ?_)
   refine Kd.R_append_rows_step k25 (w0 := w) w.heap.size (by rfl) (.tmp 25) (.tmp 27) 35 25 (.agg #[(.int .i64 0), (.int .i64 0)]) 16 rfl Try.underlying35 info25 rfl (by decide) (by omega) v229 y228 y231 _ _ _ (fun k_ => some k_ ≠ (.slice Ao28 y231.length co28 : Value).ownBlock ∧ k_ ≠ gb218) (fun _ => False) rfl rfl ?aO ?aR (fun _ _ h => h) (fun _ h => h.elim) ?aF ?aB ?aS ?aL ?_
   (case aR => repeat (first | exact (Kd.R_reads' HO233.out).2.2 | (with_reducible refine Kd.C_alloc ?_ _) | (with_reducible refine Kd.C_drewN ?_ _) | (with_reducible refine Kd.C_drew ?_)))
   (case aB => exact (by repeat (first | (with_reducible first | apply below_alloc | apply pw_below_drewN | apply below_drew1 | refine below_set ?_ GE218.out) | exact HB.out)))
   (case aF => exact (fun k_ hk => ⟨Kd.fresh' (Kd.R_lt (ru_ HO233.out)) k_ hk, Kd.freshB (g := gb218) (o := .cells #[.int .i64 a1_0, .int .i64 a1_1] 25 (0, 0)) (by (with_reducible repeat (first | refine blk_drewN ?_ _ | refine blk_drew ?_ | refine blk_alloc ?_ _)); exact BK218.out) k_ hk⟩))
   (case aO => exact (ru_ HO230.out))
   (case aS => exact (below_size (by repeat (first | (with_reducible first | apply below_alloc | apply pw_below_drewN | apply below_drew1 | refine below_set ?_ GE218.out) | exact HB.out))))
   (case aL => have := LMc13.out; omega)
   intro v235 w27 ho hb hg hat
   rw [← Ny234.out] at ho
   have n0_ := Aside0.mk (blk_grown (g := gb218) (o := .cells #[.int .i64 a1_0, .int .i64 a1_1] 25 (0, 0)) (by (with_reducible repeat (first | refine blk_drewN ?_ _ | refine blk_drew ?_ | refine blk_alloc ?_ _)); exact BK218.out) hg (Kd.R_away HO230.out (fun _ hk => hk.2)))
   have n1_ := Aside0.mk (Kd.R_after (ok := (fun k_ => k_ ≠ gb218)) (by (with_reducible repeat (first | apply Kd.R_alloc | apply Kd.R_drewN | apply Kd.R_drew)); exact Kd.R_mono HO233.out (fun _ hk => ⟨hk.2, hk.1⟩)) hg hat)
   have n2_ := Aside0.mk (hb)
   have n3_ := Aside0.mk (ho)
   clear BK218
   clear HO233
   clear HB
   clear HO230
   have BK218 := n0_
   have HO233 := n1_
   have HB := n2_
   have HO236 := n3_
   clear n0_ n1_ n2_ n3_
   clear ho hb hg hat
   refine hK.out _ _ ⟨(blk_cell BK218.out 0).trans rfl, (blk_cell BK218.out 1).trans rfl⟩ (fun hHeld => ?_)
   clear hK K
   refine norm_ (a' := ?_) ?_ ?_
   rotate_left
   ·show Act.put _ (some 28) _ = _
    simp only [Act.put, sa_, sb_, sc_, i64_w, i32_w]
    rfl
   refine pz_ 8 6 (bl_ 9 0x1ff) HT_.out ?_
   refine done_ (done_of HT_.out (by kernel_rfl)) ?_
   have q29 : (x5_1 : Int) ≤ ((l0.length : Int) : Int) := of_decide_eq_true (by assumption)
   obtain ⟨i029, hi029, _, hsz29, _⟩ := info_parts info25
   have hroom29 : l0.length ≤ c0 := HC0.out
   have hC29 : Kd.C k25 _ (some ad219) l0.length l0 := HR0.out
   have q029 : (0 : Int) ≤ (x5_1 : Int) := of_decide_eq_true (by assumption)
   have hcut29 := cut_from (P := Try.prog) 35 25 .i64 Try.underlying35 hi029 2 hsz29 (some ad219) l0.length c0 x5_1 q029 q29
   have hr29 := Kd.C_drop (m := (x5_1 : Int).toNat) (c := c0) hC29 (by omega) hroom29
   obtain ⟨A29, hA29⟩ : ∃ A1, A1 = (if c0 = (x5_1 : Int).toNat then (some ad219) else ((some ad219) : Option Addr).map (·.add ((x5_1 : Int).toNat * 2))) := ⟨_, rfl⟩
   obtain ⟨c29, hc29⟩ : ∃ c1, c1 = c0 - (x5_1 : Int).toNat := ⟨_, rfl⟩
   have hy29 : y237.length = l0.length - (x5_1 : Int).toNat := (by rw [Ny237.out, List.length_drop] <;> omega)
   rw [show (l0).drop (x5_1 : Int).toNat = y237 from Ny237.out.symm] at hr29
   replace hr29 : Kd.C k25 _ A29 y237.length y237 := (by rw [hA29]; exact hr29)
   rw [← hy29, ← hA29, ← hc29] at hcut29
   have HR240 := Aside0.mk hr29
   have HC240 := Aside0.mk (show y237.length ≤ c29 from by rw [hy29, hc29]; exact Nat.sub_le_sub_right hroom29 _)
   clear hr29 hC29 hroom29 hi029 hsz29 hc29
   have KY29 := Aside0.mk hy29
   have KA29 := Aside0.mk hA29
   clear hy29 hA29
   replace q29 := eq_true q29
   try go_wp2_with (first | ((with_reducible refine gate_builtin (b := .append) (xs := #[.tmp 29, .tmp 32]) rfl ?_); at_builtin; refine Kd.R_append_rows k25 (w0 := w) w.heap.size rfl (.tmp 29) (.tmp 32) 35 25 (.agg #[(.int .i64 0), (.int .i64 0)]) 16 rfl Try.underlying35 info25 rfl (by decide) (by omega) v235 y234 y237 _ _ _ (fun k_ => some k_ ≠ (.slice Ao28 y231.length co28 : Value).ownBlock ∧ k_ ≠ gb218) (fun _ => False) rfl rfl ?aO ?aR (fun _ _ h => h) (fun _ h => h.elim) ?aF ?aB ?aS ?aL ?_; (case aR => repeat (first | exact (Kd.C_below HR240.out HB.out) | (with_reducible refine Kd.C_alloc ?_ _) | (with_reducible refine Kd.C_drewN ?_ _) | (with_reducible refine Kd.C_drew ?_))); (case aB => exact (by repeat (first | (with_reducible first | apply below_alloc | apply pw_below_drewN | apply below_drew1 | refine below_set ?_ GE218.out) | exact HB.out))); (case aF => exact (fun k_ hk => ⟨Kd.fresh' (Kd.R_lt (ru_ HO233.out)) k_ hk, Kd.freshB (g := gb218) (o := .cells #[.int .i64 a1_0, .int .i64 a1_1] 25 (0, 0)) (by (with_reducible repeat (first | refine blk_drewN ?_ _ | refine blk_drew ?_ | refine blk_alloc ?_ _)); exact BK218.out) k_ hk⟩)); (case aO => exact (ru_ HO236.out)); (case aS => exact (below_size (by repeat (first | (with_reducible first | apply below_alloc | apply pw_below_drewN | apply below_drew1 | refine below_set ?_ GE218.out) | exact HB.out)))); (case aL => have := LMc16.out; omega); intro v242 w30 ho hb hg hat; rw [← Ny241.out] at ho; have n0_ := Aside0.mk (blk_grown (g := gb218) (o := .cells #[.int .i64 a1_0, .int .i64 a1_1] 25 (0, 0)) (by (with_reducible repeat (first | refine blk_drewN ?_ _ | refine blk_drew ?_ | refine blk_alloc ?_ _)); exact BK218.out) hg (Kd.R_away HO236.out (fun _ hk => hk.2))); have n1_ := Aside0.mk (Kd.R_after (ok := (fun k_ => k_ ≠ gb218)) (ru_ HO233.out) hg hat); have n2_ := Aside0.mk (hb); have n3_ := Aside0.mk (ho); clear BK218; clear HO233; clear HB; clear HO236; have BK218 := n0_; have HO233 := n1_; have HB := n2_; have HO243 := n3_; clear n0_ n1_ n2_ n3_; clear ho hb hg hat))
   go_ret
   exact ⟨_, by first | rfl | (simp [errW_none, errW_some] <;> rfl) | (simp [*, errW_none, errW_some] <;> rfl), by (with_reducible repeat (first | apply Kd.R_alloc | apply Kd.R_drewN | apply Kd.R_drew)); exact Kd.R_mono HO243.out (fun _ hk => trivial), by repeat (first | (with_reducible first | apply below_alloc | apply pw_below_drewN | apply below_drew1 | refine below_set ?_ GE218.out) | exact HB.out)⟩
end Go.Proofs.Ytheijdpplihigaa.P
