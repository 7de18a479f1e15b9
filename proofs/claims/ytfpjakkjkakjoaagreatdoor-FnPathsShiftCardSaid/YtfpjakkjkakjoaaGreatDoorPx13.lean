/- A part of this seat's proofs: contracts of the translated functions, written by the session's own program (gp.py) out of the kit's print.py and the session's own contracts; no conditions of its own. -/
import Derived.Test.YtfpjakkjkakjoaaGreatDoorPx0
import Derived.Test.YtfpjakkjkakjoaaGreatDoorPx2
import Derived.Test.YtfpjakkjkakjoaaGreatDoorPx3
import Derived.Test.YtfpjakkjkakjoaaGreatDoorPx6
import Derived.Test.YtfpjakkjkakjoaaGreatDoorPx12
namespace Go.Proofs.YtfpjakkjkakjoaaGreatDoor.P
open Go.RowKit Go.Proofs.YtfpjakkjkakjoaaGreatDoorW.PrintWords Go.Proofs.YtfpjakkjkakjoaaGreatDoorW.PrintLast Go.Proofs.YtfpjakkjkakjoaaGreatDoorW.PrintMore
attribute [local go_sem] max2_int min2_int max_two min_two max_three min_three max_four min_four   -- for this text's walks alone
set_option linter.unusedVariables false
set_option linter.unusedSimpArgs false

/-! ### slices_Reverse_byte_byte: function 36 -/
def slices_Reverse_byte_byte.l0 : Nat → List Int → Int → Int → Option (List Int)
 | 0, _, _, _ => none
 | k + 1, x0, x2, x3 => if x2 < x3 then (if 0 ≤ x3 then (if x3 < (x0.length : Int) then (if 0 ≤ x2 then (if x2 < (x0.length : Int) then (slices_Reverse_byte_byte.l0 k ((x0.set (x2 : Int).toNat (rd x0 x3)).set (x3 : Int).toNat (rd x0 x2)) (wrap64 (x2 + 1)) (wrap64 (x3 - 1))) else (none)) else (none)) else (none)) else (none)) else (some x0)
def slices_Reverse_byte_byte.f (k : Nat) (l0 : List Int) : Option (List Int) := slices_Reverse_byte_byte.l0 k l0 0 (wrap64 ((l0.length : Int) - 1))
theorem slices_Reverse_byte_byte.mono_l : ∀ k, (∀ y0 y1 y2, LeO (slices_Reverse_byte_byte.l0 k y0 y1 y2) (slices_Reverse_byte_byte.l0 (k + 1) y0 y1 y2))
 | 0 => fun _ _ _ r h => by simp [slices_Reverse_byte_byte.l0] at h
 | k + 1 => by
  have ih0 := slices_Reverse_byte_byte.mono_l k
  ·intro y0 y1 y2
   unfold slices_Reverse_byte_byte.l0
   repeat' with_reducible first | apply ih0 | exact LeO.refl _ | exact LeO.none _ | refine LeO.ite ?_ ?_ | refine LeO.bind ?_ (fun _ => ?_)
theorem slices_Reverse_byte_byte.mono : ∀ a0 k, LeO (slices_Reverse_byte_byte.f k a0) (slices_Reverse_byte_byte.f (k + 1) a0) := by
 intro a0 k
 have ih0 := slices_Reverse_byte_byte.mono_l k
 unfold slices_Reverse_byte_byte.f
 repeat' with_reducible first | apply ih0 | exact LeO.refl _ | exact LeO.none _ | refine LeO.ite ?_ ?_ | refine LeO.bind ?_ (fun _ => ?_)
def slices_Reverse_byte_byte.T3 : Bool × List (List Nat × List Nat) := (true, [([], []), ([], []), ([], []), ([], []), ([], []), ([], []), ([4, 5], [4, 5]), ([6], [6]), ([], []), ([], []), ([8, 9], [8, 9]), ([10], [10]), ([0, 1, 0, 1, 4, 5, 6, 7, 11], [0, 1]), ([12, 7, 0, 1, 4, 5, 6, 7, 11], [7, 12]), ([2, 3, 0, 1, 2, 3, 4, 5, 6, 7, 8, 9, 10, 11, 12, 13], [2, 3]), ([14, 11, 13, 0, 1, 2, 3, 4, 5, 6, 7, 8, 9, 10, 11, 12, 13], [11, 14])])
def slices_Reverse_byte_byte.B3 : List Nat := [0, 0, 0, 0, 0, 0, 48, 112, 0, 0, 768, 1792, 4083, 8179, 16383, 32767]
theorem slices_Reverse_byte_byte.tab3 : rtab .any (opsOf Tryz.f36 3) = slices_Reverse_byte_byte.T3 := by kernel_rfl
theorem slices_Reverse_byte_byte.bits3 : waitsOk slices_Reverse_byte_byte.T3.2 slices_Reverse_byte_byte.B3 = true := by kernel_rfl
set_option maxHeartbeats 8000000 in
set_option maxRecDepth 100000 in
theorem slices_Reverse_byte_byte.calls (k : Nat) (P0_ : Nat → Prop) (u9000_ : Value) (l0 : List Int) (r : List Int) (w0 w : World) (hB : Below w0.heap.size w0 w) (ho0 : Kd.R (Kd.int .u8) 5 w w0.heap.size P0_ u9000_ l0) (h : slices_Reverse_byte_byte.f k l0 = some r) :
  Calls Tryz.prog 36 #[u9000_] w fun e w' => e = .returned (.tuple #[]) ∧ Kd.R (Kd.int .u8) 5 w' w0.heap.size (fun k_ => (P0_ k_ ∨ w.heap.size ≤ k_)) u9000_ r ∧ Below w0.heap.size w0 w' ∧ Kept w w' (fun k_ => P0_ k_) := by
 have HO0 := Aside0.mk (show Kd.R (Kd.int .u8) 5 w w0.heap.size (fun k_ => (P0_ k_ ∨ w.heap.size ≤ k_)) u9000_ l0 from Kd.R_mono ho0 (fun k_ hk => (.inl hk)))
 have HK := Aside0.mk (Kept.refl w (fun k_ => P0_ k_))
 have HW0 := Aside0.mk hB.size
 have HB := Aside0.mk hB
 clear hB
 have H : (slices_Reverse_byte_byte.l0 k l0 0 (wrap64 ((l0.length : Int) - 1))) = some r := h
 clear h
 have H' := Aside0.mk H
 clear H
 obtain ⟨Ao2, co2, eo2⟩ := Kd.R_slice HO0.out
 subst eo2
 go_enter Tryz.func36, Tryz.ntmps36
 go_wp2
 go_loopg [2, 3] k (fun kq v2 v3 w' => ∃ (x0_1 : List Int) (x2_1 : Int) (x3_1 : Int), v2 = .int .i64 x2_1 ∧ v3 = .int .i64 x3_1 ∧ Aside0 (slices_Reverse_byte_byte.l0 kq x0_1 x2_1 x3_1 = some r) ∧ Aside0 (kq ≤ k) ∧ Aside0 (Kd.R (Kd.int .u8) 5 w' w0.heap.size (fun k_ => (P0_ k_ ∨ w.heap.size ≤ k_)) (.slice Ao2 l0.length co2) x0_1) ∧ Aside0 (Kept w w' (fun k_ => P0_ k_)) ∧ Aside0 (Below w0.heap.size w0 w'))
 case atStart => exact ⟨(l0), (0), (wrap64 ((l0.length : Int) - 1)), (by first | rfl | (simp; done) | (simp [*]; done)), (by first | rfl | (simp; done) | (simp [*]; done)), H', ⟨Nat.le_refl _⟩, ⟨by (with_reducible repeat (first | apply Kd.R_alloc | apply Kd.R_drewN | apply Kd.R_drew)); exact HO0.out⟩, ⟨by repeat (first | (with_reducible first | apply Kept.alloc | apply Kept.drewN | apply Kept.drew) | exact HK.out)⟩, ⟨bb_⟩⟩
 case round =>
  clear H'
  try clear p2
  obtain ⟨x0_1, x2_1, x3_1, rfl, rfl, HA, HK1, HO_0, HK, HB⟩ := hrel
  have hl0_1 := (Kd.R_reads' HO_0.out).1
  rw [hl0_1] at HO_0
  (try simp only [hl0_1])
  cases gk with
  | zero => exact absurd HA.out (by simp [slices_Reverse_byte_byte.l0])
  | succ k1 =>
   have H := HA.out
   clear HA
   simp only [slices_Reverse_byte_byte.l0] at H
   by_cases c3 : x2_1 < x3_1
   rotate_left
   ·rw [if_neg c3] at H
    have c3b0 : decide (x2_1 < x3_1) = false := decide_eq_false c3
    clear c3
    obtain rfl := Option.some.inj H
    go_wp2
    first | go_end0 | ((try simp only [Exit.inBlock, Exit.then]); refine bodyPost_ret (results_none rfl _ _ _) rfl ?_)
    exact ⟨by first | rfl | (simp [errW_none, errW_some] <;> rfl) | (simp [*, errW_none, errW_some] <;> rfl), (by first | exact (ru_ HO_0.out) | (simp only [hl0_1]; exact (ru_ HO_0.out))), by repeat (first | (with_reducible first | apply below_alloc | apply pw_below_drewN | apply below_drew1) | exact HB.out), by repeat (first | (with_reducible first | apply Kept.alloc | apply Kept.drewN | apply Kept.drew) | exact HK.out)⟩

   rw [if_pos c3] at H
   have c3b0 : decide (x2_1 < x3_1) = true := decide_eq_true c3
   clear c3
   by_cases c4 : 0 ≤ x3_1
   rotate_left
   ·rw [if_neg c4] at H
    exact absurd H (by simp)
   rw [if_pos c4] at H
   have c4b0 : decide (0 ≤ x3_1) = true := decide_eq_true c4
   clear c4
   by_cases c5 : x3_1 < (x0_1.length : Int)
   rotate_left
   ·rw [if_neg c5] at H
    exact absurd H (by simp)
   rw [if_pos c5] at H
   have c5b0 : decide (x3_1 < (x0_1.length : Int)) = true := decide_eq_true c5
   clear c5
   by_cases c6 : 0 ≤ x2_1
   rotate_left
   ·rw [if_neg c6] at H
    exact absurd H (by simp)
   rw [if_pos c6] at H
   have c6b0 : decide (0 ≤ x2_1) = true := decide_eq_true c6
   clear c6
   by_cases c7 : x2_1 < (x0_1.length : Int)
   rotate_left
   ·rw [if_neg c7] at H
    exact absurd H (by simp)
   rw [if_pos c7] at H
   have c7b0 : decide (x2_1 < (x0_1.length : Int)) = true := decide_eq_true c7
   clear c7
   obtain ⟨y311, hy311⟩ : ∃ y_ : List Int, y_ = (x0_1.set (x2_1 : Int).toNat (rd x0_1 x3_1)) := ⟨_, rfl⟩
   replace H : (slices_Reverse_byte_byte.l0 k1 (y311.set (x3_1 : Int).toNat (rd x0_1 x2_1)) (wrap64 (x2_1 + 1)) (wrap64 (x3_1 - 1))) = some r := by first | (rw [hy311]; with_reducible exact H) | (have H2_ := (Option.bind_some _ _).symm.trans H; rw [hy311]; with_reducible exact H2_) | (have H2_ := (Option.bind_some _ _).symm.trans H; with_reducible exact H2_) | with_reducible exact H | (rw [hy311]; exact H) | exact H
   have Ny311 := Aside0.mk hy311
   clear hy311
   obtain ⟨y312, hy312⟩ : ∃ y_ : List Int, y_ = (y311.set (x3_1 : Int).toNat (rd x0_1 x2_1)) := ⟨_, rfl⟩
   replace H : (slices_Reverse_byte_byte.l0 k1 y312 (wrap64 (x2_1 + 1)) (wrap64 (x3_1 - 1))) = some r := by first | (rw [hy312]; with_reducible exact H) | (have H2_ := (Option.bind_some _ _).symm.trans H; rw [hy312]; with_reducible exact H2_) | (have H2_ := (Option.bind_some _ _).symm.trans H; with_reducible exact H2_) | with_reducible exact H | (rw [hy312]; exact H) | exact H
   have Ny312 := Aside0.mk hy312
   clear hy312
   have H' := Aside0.mk H
   clear H
   try go_wp2
   have n0_ := Aside0.mk (Kd.R_drew HO_0.out)
   have n1_ := Aside0.mk (Kept.drew HK.out)
   have n2_ := Aside0.mk (below_drew1 HB.out)
   clear HO_0
   clear HK
   clear HB
   have HO_0 := n0_
   have HK := n1_
   have HB := n2_
   clear n0_ n1_ n2_
   have p309 : 0 ≤ (x3_1 : Int) := of_decide_eq_true (by assumption)
   have q309 : x3_1 < (x0_1.length : Int) := of_decide_eq_true (by assumption)
   obtain ⟨ad309, e309, hx309_0⟩ := Kd.at_int (Kd.R_reads' HO_0.out).2.2 x3_1 p309 q309
   cases e309
   replace p309 := eq_true p309
   replace q309 := eq_true q309
   have p310 : 0 ≤ (x2_1 : Int) := of_decide_eq_true (by assumption)
   have q310 : x2_1 < (x0_1.length : Int) := of_decide_eq_true (by assumption)
   obtain ⟨ad310, e310, hx310_0⟩ := Kd.at_int (Kd.R_reads' HO_0.out).2.2 x2_1 p310 q310
   obtain rfl : ad309 = ad310 := (by injection e310)
   replace p310 := eq_true p310
   replace q310 := eq_true q310
   have p8 : 0 ≤ (x2_1 : Int) := of_decide_eq_true (by assumption)
   have q8 : (x2_1 : Int) < ((x0_1.length : Int) : Int) := of_decide_eq_true (by assumption)
   obtain ⟨go8, co8, eo8, gb8, gl8, cl8, HG8⟩ := Kd.R_form HO_0.out (by omega)
   (first | cases eo8 | (injection eo8 with ea_ en_ ec_; (first | subst ea_ | (injection ea_ with ea_; subst ea_)); subst ec_; clear en_))
   have GB8 := Aside0.mk gb8
   have GG8 := Aside0.mk HG8
   clear gb8 gl8 HG8
   have HMgo8 := Aside0.mk (show (P0_ go8 ∨ w.heap.size ≤ go8) from (HO_0.out.1 _ rfl))
   (first | simp only [add_plain] at hx309_0 | skip)
   (first | simp only [add_plain] at hx310_0 | skip)
   obtain ⟨hx8_0, hf8_0⟩ := Kd.R_celln 0 HO_0.out (x2_1 : Int) p8 q8
   replace p8 := eq_true p8
   replace q8 := eq_true q8
   have HP11 := Kd.R_putn HO_0.out (x2_1 : Int) (rd x0_1 x3_1)
   rw [← Ny311.out] at HP11
   have HQ11 := Aside0.mk HP11
   clear HP11
   have p9 : 0 ≤ (x3_1 : Int) := of_decide_eq_true (by assumption)
   have q9 : (x3_1 : Int) < ((x0_1.length : Int) : Int) := of_decide_eq_true (by assumption)
   obtain ⟨hx9_0, hf9_0⟩ := Kd.R_celln 0 HQ11.out (x3_1 : Int) p9 q9
   replace p9 := eq_true p9
   replace q9 := eq_true q9
   have HP12 := Kd.R_putn HQ11.out (x3_1 : Int) (rd x0_1 x2_1)
   rw [← Ny312.out] at HP12
   have HQ12 := Aside0.mk HP12
   clear HP12
   refine start_ (n := 16) (S := fun w' => w'.cell? ⟨go8, (x3_1).toNat, none⟩ = some (.int .u8 (rd x0_1 x3_1)) ∧ w'.cell? ⟨go8, (x2_1).toNat, none⟩ = some (.int .u8 (rd x0_1 x2_1))) (ds := [13, 15]) (bl_ 16 0x0) (by kernel_rfl) rfl rfl ⟨hx309_0, hx310_0⟩ (fun hHeld => ?_); refine with_tabW slices_Reverse_byte_byte.tab3 slices_Reverse_byte_byte.bits3 (fun HT_ HW_ => ?_)
   generalize wr.drew = w10 at HO_0 HK HB GG8 HQ11 HQ12 hf8_0 hf9_0 hx309_0 hx310_0 hx8_0 hx9_0 hHeld ⊢
   refine pz_ 0 14 (bl_ 16 0x1) HT_.out ?_
   refine pz_ 1 15 (bl_ 16 0x3) HT_.out ?_
   refine pz_ 2 16 (bl_ 16 0x7) HT_.out ?_
   refine pz_ 3 17 (bl_ 16 0xf) HT_.out ?_
   refine pz_ 4 18 (bl_ 16 0x1f) HT_.out ?_
   refine pz_ 5 19 (bl_ 16 0x3f) HT_.out ?_
   refine pz_ 6 20 (bl_ 16 0x7f) HT_.out ?_
   refine pz_ 8 22 (bl_ 16 0x17f) HT_.out ?_
   refine pz_ 9 23 (bl_ 16 0x37f) HT_.out ?_
   refine pz_ 10 24 (bl_ 16 0x77f) HT_.out ?_
   refine take_ (i := 7) (N := some 21) (v := ?_) (a' := ?_) (bl_ 16 0x7ff) rfl rfl (take_ofW HT_.out HW_.out (by kernel_rfl)) (fun _ _ _ h => h) (Or.inl ⟨by rfl, ?_⟩) hHeld ?_ ?_
   rotate_left
   ·rintro w' ⟨s0, s1⟩
    go_simp
    with_reducible rfl
   rotate_left
   ·simp only [Act.put, sa_, sb_, sc_, i64_w, i32_w]
    rfl
   refine take_ (i := 11) (N := some 25) (v := ?_) (a' := ?_) (bl_ 16 0xfff) rfl rfl (take_ofW HT_.out HW_.out (by kernel_rfl)) (fun _ _ _ h => h) (Or.inl ⟨by rfl, ?_⟩) hHeld ?_ ?_
   rotate_left
   ·rintro w' ⟨s0, s1⟩
    go_simp
    with_reducible rfl
   rotate_left
   ·simp only [Act.put, sa_, sb_, sc_, i64_w, i32_w]
    rfl
   refine pz_ 12 26 (bl_ 16 0x1fff) HT_.out ?_
   refine last_ (i := 13) (N := none) (bl_ 16 0x3fff) rfl rfl (one_of HT_.out (by kernel_rfl)) (by decide) (fun K hK => ?_)
   refine skip_ (w1 := ?_) (by rfl) rfl ?_ ?_
   rotate_left
   ·go_simp
    rfl
   refine hK.out _ _ ?_
   clear hK K
   refine pz_ 14 27 (bl_ 16 0x7fff) HT_.out ?_
   refine last_ (i := 15) (N := none) (bl_ 16 0xffff) rfl rfl (one_of HT_.out (by kernel_rfl)) (by decide) (fun K hK => ?_)
   refine skip_ (w1 := ?_) (by rfl) rfl ?_ ?_
   rotate_left
   ·go_simp
    rfl
   refine hK.out _ _ ?_
   clear hK K
   refine done_ (done_of HT_.out (by kernel_rfl)) ?_
   try go_wp2
   (try simp only [← hl0_1])
   go_roundg k1
   case measure => have := HK1.out; omega
   case rel => exact ⟨(y312), (wrap64 (x2_1 + 1)), (wrap64 (x3_1 - 1)), (by first | rfl | (simp; done) | (simp [*]; done)), (by first | rfl | (simp; done) | (simp [*]; done)), H', ⟨by have := HK1.out; omega⟩, ⟨by (try simp only [hl0_1]); (with_reducible repeat (first | apply Kd.R_alloc | apply Kd.R_drewN | apply Kd.R_drew)); exact HQ12.out⟩, ⟨by repeat (first | (with_reducible first | apply Kept.alloc | apply Kept.drewN | apply Kept.drew | refine Kept.setCell ?_ HMgo8.out _ | refine Kept.setCell ?_ HMgo8.out _) | exact HK.out)⟩, ⟨by repeat (first | (with_reducible first | apply below_alloc | apply pw_below_drewN | apply below_drew1 | refine below_set ?_ GB8.out | refine below_set ?_ GB8.out) | exact HB.out)⟩⟩
/-! ### given: 64_backWord.tpl -/
def Tryz.revBytes_ren : Go.Shelf.Ren := ⟨fun | 35 => 36 | n => n, fun | 22 => 22 | 23 => 5 | 3 => 3 | 4 => 4 | 0 => 0 | n => n, fun | n => n⟩
theorem Tryz.revBytes : Go.Proofs.SlLaysE.n35 Tryz.prog Tryz.revBytes_ren := {
  mixed := by kernel_rfl
  f35 := ⟨Tryz.f36.name, by decide, Tryz.func36.trans (congrArg some (by kernel_rfl))⟩
  t0 := Tryz.underlying0
  a0 := Tryz.isAgg0
  z0 := Tryz.sizeOf0
  v0 := Tryz.zeroValue0
  t3 := Tryz.underlying3
  a3 := Tryz.isAgg3
  z3 := Tryz.sizeOf3
  v3 := Tryz.zeroValue3
  t4 := Tryz.underlying4
  a4 := Tryz.isAgg4
  z4 := Tryz.sizeOf4
  v4 := Tryz.zeroValue4
  t22 := Tryz.underlying22
  a22 := Tryz.isAgg22
  z22 := Tryz.sizeOf22
  v22 := Tryz.zeroValue22
  a23 := Tryz.isAgg5
  z23 := Tryz.sizeOf5 }
theorem below_put {w0 w : World} (h : Below w0.heap.size w0 w) {blk : Nat} (hb : w0.heap.size ≤ blk) (n off : Nat) (d : Array Int) : Below w0.heap.size w0 (Go.Sort.putRow (Value.int .u8) (Go.Sort.ahead w n) blk off d) := by
  refine h.trans ⟨rfl, rfl, rfl, by simp [Go.Sort.ahead], fun i hi => ?_⟩
  simp only [Go.Sort.putRow, Go.Sort.mapBlock, Go.Sort.ahead]
  rw [Array.getElem?_modify, if_neg (by omega)]
theorem bytesW_below (w : World) (e : TypeId) (s : ByteArray) : Below w.heap.size w (Go.Lib.bytesWorld w e s) :=
  ⟨rfl, rfl, rfl, by rw [Go.Lib.bytesWorld_size]; omega, fun i hi => Go.Lib.bytesWorld_at_old w e s i hi⟩
theorem str_back {s : ByteArray} {l : List UInt8} (h : s.data.toList = l) : strOfNums (s.data.toList.reverse.map fun b => ((b.toNat : Nat) : Int)) = ⟨l.reverse.toArray⟩ := by
  unfold strOfNums
  rw [h, List.map_map]
  congr 2
  refine (List.map_congr_left (fun b _ => ?_)).trans (List.map_id _)
  show UInt8.ofNat ((b.toNat : Nat) : Int).toNat = b
  rw [Int.toNat_natCast]
  exact UInt8.ofNat_toNat
/-- The byte row that a string's conversion made, turned round in place. -/
theorem rev_bytes (s : ByteArray) (hs : s.size ≤ 1000000) (w : World) (cap : Nat) :
    Calls Tryz.prog 36 #[.slice (some ⟨w.heap.size, 0, none⟩) s.size cap] (Go.Lib.bytesWorld w 5 s) fun e w' => e = .returned (.tuple #[]) ∧
      (∀ j, j < s.size → w'.cell? ⟨w.heap.size, 0 + j, none⟩ = some (.int .u8 ((s.data.toList.reverse.map fun b => ((b.toNat : Nat) : Int)).getD j 0))) ∧ Below w.heap.size w w' := by
  have hz : s.size = (s.data.toList.map fun b => ((b.toNat : Nat) : Int)).length := by
    show s.data.size = _
    simp
  have hH : Go.Sort.Holds (Value.int .u8) (Go.Lib.bytesWorld w 5 s) w.heap.size 0 (s.data.toList.map fun b => ((b.toNat : Nat) : Int)).toArray := by
    intro j hj
    have hj' : j < s.size := by rw [hz]; simpa using hj
    rw [Nat.zero_add]
    refine ⟨?_, bytes_free w 5 s hj'⟩
    rw [Go.Lib.bytesWorld_cell w 5 s j hj', getElem!_pos _ j hj]
    have h2 : j < s.data.toList.length := by rw [List.length_map] at hz; omega
    simp [List.getD, List.getElem?_eq_getElem h2]
  have hc := Go.Proofs.AnyE.slices_Reverse Tryz.revBytes (Value.int .u8) (fun _ => rfl) w.heap.size 0 cap (s.data.toList.map fun b => ((b.toNat : Nat) : Int)) (Go.Lib.bytesWorld w 5 s) hH (by omega)
  rw [← hz] at hc
  refine hc.mono ?_
  rintro e w' ⟨rfl, n, rfl⟩
  refine ⟨rfl, fun j hj => ?_, below_put (bytesW_below w 5 s) (Nat.le_refl _) n 0 _⟩
  have hr : (s.data.toList.map fun b => ((b.toNat : Nat) : Int)).reverse.toArray.size = (s.data.toList.map fun b => ((b.toNat : Nat) : Int)).toArray.size := by simp
  have hA : Go.Sort.Holds (Value.int .u8) (Go.Sort.ahead (Go.Lib.bytesWorld w 5 s) n) w.heap.size 0 (s.data.toList.map fun b => ((b.toNat : Nat) : Int)).toArray := hH
  have hj2 : j < (s.data.toList.map fun b => ((b.toNat : Nat) : Int)).reverse.toArray.size := by rw [hr]; simp; omega
  rw [((Go.Sort.holds_putRow (Value.int .u8) _ w.heap.size 0 _ _ hA hr) j hj2).1, getElem!_pos _ j hj2]
  have h3 : j < s.data.toList.reverse.length := by rw [List.length_reverse]; rw [List.length_map] at hz; omega
  rw [List.map_reverse, List.getD_eq_getElem?_getD, List.getElem?_eq_getElem (by simpa using hj2), Option.getD_some]
  rfl
/-- A word, told back. -/
def impl_BackWord.f (a0 : Int) (a1 : ByteArray) : Option (ByteArray × Bool) := (impl_isWord.f a0 a1).bind fun t => if t = true then (if a1.size ≤ 1000000 then some (⟨(a1.data.toList.map mirB).reverse.toArray⟩, true) else none) else some (⟨#[]⟩, false)
set_option maxHeartbeats 8000000 in
set_option maxRecDepth 100000 in
theorem impl_BackWord.calls (a0 : Int) (a1 : ByteArray) (r1 : ByteArray) (r2 : Bool) (w : World) (h : impl_BackWord.f a0 a1 = some (r1, r2)) :
    Calls Tryz.prog 14 #[.int .i64 a0, .string a1] w fun e w' => e = .returned (.tuple #[.string r1, .bool r2]) ∧ Below w.heap.size w w' := by
  obtain ⟨t, ht, h⟩ := Option.bind_eq_some_iff.mp h
  have HI := Aside0.mk ht
  clear ht
  by_cases hc : t = true
  · subst hc
    rw [if_pos rfl] at h
    by_cases hs : a1.size ≤ 1000000
    · rw [if_pos hs] at h
      simp only [Option.some.injEq, Prod.mk.injEq] at h
      obtain ⟨rfl, rfl⟩ := h
      have HM := Aside0.mk (show impl_mirrored.f a1 = some ⟨(a1.data.toList.map mirB).toArray⟩ by unfold impl_mirrored.f; rw [if_pos hs])
      have hz : (⟨(a1.data.toList.map mirB).toArray⟩ : ByteArray).size = a1.data.toList.length := by
        show (a1.data.toList.map mirB).toArray.size = _
        simp
      have hz1 : a1.size = a1.data.toList.length := by
        show a1.data.size = _
        simp
      obtain ⟨s, hsd⟩ : ∃ s : ByteArray, s = ⟨(a1.data.toList.map mirB).toArray⟩ := ⟨_, rfl⟩
      rw [← hsd] at HM hz
      have hsl : s.data.toList = a1.data.toList.map mirB := by rw [hsd]
      have HS := Aside0.mk (And.intro hsl (And.intro (show s.size = s.data.toList.length by rw [hz, hsl, List.length_map]) (show s.size ≤ 1000000 by rw [hz, ← hz1]; exact hs)))
      clear hz hz1 hsd hsl hs
      have hcv : ∀ w1 : World, (convert 9 22 (.string s)).run Tryz.prog w1 = .ok (.slice (some ⟨w1.heap.size, 0, none⟩) s.size (grownCap w1 s.size 0 5)) (Go.Lib.bytesWorld w1 5 s) := fun w1 => Go.Lib.run_convert_string_bytes w1 9 22 5 s Tryz.underlying9 Tryz.underlying22 Tryz.underlying5
      have HB0 := Aside0.mk (Below.refl w.heap.size w)
      go_enter Tryz.func14, Tryz.ntmps14
      go_wp2_with (first
        | (go_at_call 27; refine (impl_isWord.calls _ _ _ _ HI.out).mono ?_; rintro e w1 ⟨rfl, hb⟩; have HB1 := Aside0.mk hb; clear hb)
        | (go_at_call 35; refine (impl_mirrored.calls _ _ _ HM.out).mono ?_; rintro e w2 ⟨rfl, hb⟩; have HB2 := Aside0.mk (below_then HB1.out HB1.out.size hb); clear hb)
        | (go_at_call 36; refine (rev_bytes s HS.out.2.2 _ _).mono ?_; rintro e w3 ⟨rfl, hcell, hb⟩; have HB3 := Aside0.mk (below_then HB2.out HB2.out.size hb); have hcb := run_convert_bytes_arg w3 22 5 Tryz.underlying22 Tryz.underlying5 _ 0 s.size (grownCap w2 s.size 0 5) _ (by rw [List.length_map, List.length_reverse]; exact HS.out.2.1.symm) hcell 9 Tryz.underlying9; rw [str_back HS.out.1] at hcb; clear hb hcell))
      go_ret2
      exact ⟨rfl, HB3.out⟩
    · rw [if_neg hs] at h; cases h
  · obtain rfl : t = false := by simpa using hc
    rw [if_neg hc] at h
    simp only [Option.some.injEq, Prod.mk.injEq] at h
    obtain ⟨rfl, rfl⟩ := h
    have HB0 := Aside0.mk (Below.refl w.heap.size w)
    go_enter Tryz.func14, Tryz.ntmps14
    go_wp2_with (first
      | (go_at_call 27; refine (impl_isWord.calls _ _ _ _ HI.out).mono ?_; rintro e w1 ⟨rfl, hb⟩; have HB1 := Aside0.mk hb; clear hb))
    go_ret2
    exact ⟨rfl, HB1.out⟩

/-! ### spec_DrawSpiralWord_w: function 15 -/
def spec_DrawSpiralWord_w.f (s0_0 : List Int) (s0_1 : Int) (s0_2 : Int) : Option (Int × Int × Int × Int × Int) := (spec_l1Cur_grid.f s0_0 s0_1 s0_2).bind fun bt313 => ((spec_l1Cur_among.f s0_0 bt313.2.1 bt313.2.2 (([1, 2, 3, 4, 5, 7, 10, 11, 0] : List Int))).bind fun bt319 => ((spec_l1Cur_among.f s0_0 bt319.2.1 bt319.2.2 (([0, 1, 2, 3, 4, 5, 6, (-1)] : List Int))).bind fun bt325 => (some (bt313.1, bt319.1, bt325.1, bt325.2.1, bt325.2.2))))
set_option maxHeartbeats 8000000 in
set_option maxRecDepth 100000 in
theorem spec_DrawSpiralWord_w.callsC (A0 : Option Addr) (c0 : Nat) (s0_0 : List Int) (s0_1 : Int) (s0_2 : Int) (r1 : Int) (r2 : Int) (r3 : Int) (r4 : Int) (r5 : Int) (w0 : World) (hr0 : Kd.C (Kd.int .u8) w0 A0 s0_0.length s0_0) (zf1 : s0_1 = 0) (zf2 : s0_2 = 0) (h : spec_DrawSpiralWord_w.f s0_0 s0_1 s0_2 = some (r1, r2, r3, r4, r5)) :
  Calls Tryz.prog 15 #[.slice A0 s0_0.length c0] w0 fun e w' => ∃ g w, w0.heap.size ≤ w.heap.size ∧ (e = .returned (.tuple #[.int .i64 r1, .int .i64 r2, .int .i64 r3]) ∧ IsS45 w0 w' g s0_0 r4 r5 ∧ Below w0.heap.size w0 w' ∧ KeepBut w w' g none) := by
 have hu45 := Tryz.underlying45
 have ZR := Aside0.mk hr0
 clear hr0
 have H : ((spec_l1Cur_grid.f s0_0 s0_1 s0_2).bind fun bt313 => ((spec_l1Cur_among.f s0_0 bt313.2.1 bt313.2.2 (([1, 2, 3, 4, 5, 7, 10, 11, 0] : List Int))).bind fun bt319 => ((spec_l1Cur_among.f s0_0 bt319.2.1 bt319.2.2 (([0, 1, 2, 3, 4, 5, 6, (-1)] : List Int))).bind fun bt325 => (some (bt313.1, bt319.1, bt325.1, bt325.2.1, bt325.2.2))))) = some (r1, r2, r3, r4, r5) := h
 clear h
 replace H := Option.bind_eq_some_iff.mp H
 obtain ⟨⟨t313, t314, t315⟩, A20, H⟩ := H
 (try dsimp only at H)
 have A2 := Aside0.mk A20
 clear A20
 obtain ⟨y316, hy316⟩ : ∃ y_ : List Int, y_ = (([1, 2, 3, 4, 5, 7, 10, 11, 0] : List Int)) := ⟨_, rfl⟩
 replace H : ((spec_l1Cur_among.f s0_0 t314 t315 y316).bind fun bt319 => ((spec_l1Cur_among.f s0_0 bt319.2.1 bt319.2.2 (([0, 1, 2, 3, 4, 5, 6, (-1)] : List Int))).bind fun bt325 => (some (t313, bt319.1, bt325.1, bt325.2.1, bt325.2.2)))) = some (r1, r2, r3, r4, r5) := by first | (rw [hy316]; with_reducible exact H) | (have H2_ := (Option.bind_some _ _).symm.trans H; rw [hy316]; with_reducible exact H2_) | (have H2_ := (Option.bind_some _ _).symm.trans H; with_reducible exact H2_) | with_reducible exact H | (rw [hy316]; exact H) | exact H
 have Ny316 := Aside0.mk hy316
 clear hy316
 replace H := Option.bind_eq_some_iff.mp H
 obtain ⟨⟨t319, t320, t321⟩, A30, H⟩ := H
 (try dsimp only at H)
 have A3 := Aside0.mk A30
 clear A30
 obtain ⟨y322, hy322⟩ : ∃ y_ : List Int, y_ = (([0, 1, 2, 3, 4, 5, 6, (-1)] : List Int)) := ⟨_, rfl⟩
 replace H : ((spec_l1Cur_among.f s0_0 t320 t321 y322).bind fun bt325 => (some (t313, t319, bt325.1, bt325.2.1, bt325.2.2))) = some (r1, r2, r3, r4, r5) := by first | (rw [hy322]; with_reducible exact H) | (have H2_ := (Option.bind_some _ _).symm.trans H; rw [hy322]; with_reducible exact H2_) | (have H2_ := (Option.bind_some _ _).symm.trans H; with_reducible exact H2_) | with_reducible exact H | (rw [hy322]; exact H) | exact H
 have Ny322 := Aside0.mk hy322
 clear hy322
 replace H := Option.bind_eq_some_iff.mp H
 obtain ⟨⟨t325, t326, t327⟩, A40, H⟩ := H
 replace H : (some (t313, t319, t325, t326, t327)) = some (r1, r2, r3, r4, r5) := H
 have A4 := Aside0.mk A40
 clear A40
 simp only [Option.some.injEq, Prod.mk.injEq] at H
 obtain ⟨rfl, rfl, rfl, rfl, rfl⟩ := H
 go_enter Tryz.func15, Tryz.ntmps15
 go_wp2_with (first | ((with_reducible refine gate_dst (N := 8) rfl ?_); refine box_event ?hg (N := 8) ?hd (cs := #[.slice A0 s0_0.length c0, .int .i64 0, .int .u64 0]) (t := 45) ?hr ?_; (case hd => rfl); (case hg => rfl); (case hr => first | (go_simp; done) | (go_simp; rfl)); intro g hg w hbox hb; have hB : Below w0.heap.size w0 w := hb; have hI : IsS45 w0 w g s0_0 s0_1 s0_2 := ⟨A0, c0, by (first | exact hbox | (simp only [zf1, zf2]; exact hbox)), by (rw [hg]; exact Nat.le_refl _), ZR.out⟩; clear hbox hb hg; have HI0 := Aside0.mk hI; have HK := Aside0.mk (KeepBut.refl w g none); have HL := Aside0.mk hB.size; clear hI; have HW0 := Aside0.mk hB.size; have HB := Aside0.mk hB; clear hB) | ((with_reducible refine gate_callee (f := 37) rfl ?_); refine gl_ (some 10) Tryz.func37 #[.pointer (some ⟨g, 0, none⟩)] ?_; (with_reducible refine (spec_l1Cur_grid.calls g s0_0 s0_1 s0_2 t313 t314 t315 w0 _ ?side1 ?side2 A2.out).mono ?_); (case side1 => repeat (first | (with_reducible first | apply IsS45.alloc | apply IsS45.drewN | apply IsS45.drew | apply IsS45.set_1 | apply IsS45.set_2) | exact HI0.out)); (case side2 => repeat (first | (with_reducible first | exact HB.out | apply below_alloc | apply pw_below_drewN | apply below_drew1 | refine below_set ?_ (IsS45.ge HI0.out)) | exact HB.out)); rintro e w5 ⟨rfl, hi, hb, hk⟩; refine ⟨_, rfl, ?_⟩; have n0_ := Aside0.mk (KeepBut.trans (by repeat (first | (with_reducible first | apply KeepBut.set_ | apply keep_drewN | apply keep_drew | apply keep_alloc) | exact HK.out)) hk (.inl rfl)); have n1_ := Aside0.mk (hb); have n2_ := Aside0.mk (hi); clear HK; clear HB; clear HI0; have HK := n0_; have HB := n1_; have HI0 := n2_; clear n0_ n1_ n2_; (try clear hb)) | ((with_reducible refine gate_dst (N := 12) rfl ?_); refine Kd.R_lit (Kd.int .i64) _ 3 ?hg (N := 12) ?hd (xs := ([1, 2, 3, 4, 5, 7, 10, 11, 0] : List Int)) (inner := [.int .i64 1, .int .i64 2, .int .i64 3, .int .i64 4, .int .i64 5, .int .i64 7, .int .i64 10, .int .i64 11, .int .i64 0]) (ok := fun _ => True) (okp := fun _ => True) ?hr ?hp (fun _ hk => hk) trivial (Below.refl _ _) (Nat.le_refl _) (by simp) ?_; (case hd => rfl); (case hg => rfl); (case hr => first | (go_simp; done) | (go_simp; rfl)); (case hp => exact (Reps.one (show Kd.M (Kd.int .i64) _ _ _ 1 [.int .i64 1] from rfl) (Reps.one (show Kd.M (Kd.int .i64) _ _ _ 2 [.int .i64 2] from rfl) (Reps.one (show Kd.M (Kd.int .i64) _ _ _ 3 [.int .i64 3] from rfl) (Reps.one (show Kd.M (Kd.int .i64) _ _ _ 4 [.int .i64 4] from rfl) (Reps.one (show Kd.M (Kd.int .i64) _ _ _ 5 [.int .i64 5] from rfl) (Reps.one (show Kd.M (Kd.int .i64) _ _ _ 7 [.int .i64 7] from rfl) (Reps.one (show Kd.M (Kd.int .i64) _ _ _ 10 [.int .i64 10] from rfl) (Reps.one (show Kd.M (Kd.int .i64) _ _ _ 11 [.int .i64 11] from rfl) (Reps.one (show Kd.M (Kd.int .i64) _ _ _ 0 [.int .i64 0] from rfl) (Reps.none _ _))))))))))); intro v317 w6 ho7 hb hg_ hnew_; clear hg_ hnew_; (first | rw [← Ny316.out] at ho7 | (simp only [Int.reduceToNat] at ho7; rw [← Ny316.out] at ho7)); have n0_ := Aside0.mk (Kd.R_lower ho7 (keep_size (w := w) (g := g) (row := none) (by repeat (first | (with_reducible first | apply KeepBut.set_ | apply keep_drewN | apply keep_drew | apply keep_alloc) | exact HK.out)))); have n1_ := Aside0.mk (IsS45.below (by repeat (first | (with_reducible first | apply IsS45.alloc | apply IsS45.drewN | apply IsS45.drew | apply IsS45.set_1 | apply IsS45.set_2) | exact HI0.out)) hb); have n2_ := Aside0.mk (KeepBut.trans (by repeat (first | (with_reducible first | apply KeepBut.set_ | apply keep_drewN | apply keep_drew | apply keep_alloc) | exact HK.out)) (KeepBut.of_below hb g none) (.inl rfl)); have n3_ := Aside0.mk (below_step (by repeat (first | (with_reducible first | exact HB.out | apply below_alloc | apply pw_below_drewN | apply below_drew1 | refine below_set ?_ (IsS45.ge HI0.out)) | exact HB.out)) hb); clear HI0; clear HK; clear HB; have HO318 := n0_; have HI0 := n1_; have HK := n2_; have HB := n3_; clear n0_ n1_ n2_ n3_; clear hb ho7; obtain ⟨Ao8, co8, eo8⟩ := Kd.R_slice HO318.out; subst eo8) | ((with_reducible refine gate_callee (f := 38) rfl ?_); refine gl_ (some 13) Tryz.func38 #[.pointer (some ⟨g, 0, none⟩), .slice Ao8 y316.length co8] ?_; (with_reducible refine (spec_l1Cur_among.calls g s0_0 t314 t315 _ _ y316 t319 t320 t321 w0 _ ?side1 ?side2 ?side3 ?side4 ?side5 A3.out).mono ?_); (case side1 => repeat (first | (with_reducible first | apply IsS45.alloc | apply IsS45.drewN | apply IsS45.drew | apply IsS45.set_1 | apply IsS45.set_2) | exact HI0.out)); (case side2 => repeat (first | (with_reducible first | exact HB.out | apply below_alloc | apply pw_below_drewN | apply below_drew1 | refine below_set ?_ (IsS45.ge HI0.out)) | exact HB.out)); (case side3 => exact cu_ (Kd.R_reads' HO318.out).2.2); (case side4 => exact (Kd.R_reads' HO318.out).2.1); (case side5 => exact far_slice (IsS45.own_ne HI0.out HO318.out (by decide))); rintro e w9 ⟨rfl, hi, hb, hk⟩; refine ⟨_, rfl, ?_⟩; have n0_ := Aside0.mk (Kd.R_mono (Kd.R_keep (IsS45.apart (show IsS45 w0 _ g s0_0 t314 t315 from by repeat (first | (with_reducible first | apply IsS45.alloc | apply IsS45.drewN | apply IsS45.drew | apply IsS45.set_1 | apply IsS45.set_2) | exact HI0.out)) (ru_ HO318.out) (by decide)) hk (fun _ h => h.2)) (fun _ h => h.1)); have n1_ := Aside0.mk (KeepBut.trans (by repeat (first | (with_reducible first | apply KeepBut.set_ | apply keep_drewN | apply keep_drew | apply keep_alloc) | exact HK.out)) hk (.inl rfl)); have n2_ := Aside0.mk (hb); have n3_ := Aside0.mk (hi); clear HO318; clear HK; clear HB; clear HI0; have HO318 := n0_; have HK := n1_; have HB := n2_; have HI0 := n3_; clear n0_ n1_ n2_ n3_; (try clear hb)) | ((with_reducible refine gate_dst (N := 15) rfl ?_); refine Kd.R_lit (Kd.int .i64) _ 3 ?hg (N := 15) ?hd (xs := ([0, 1, 2, 3, 4, 5, 6, (-1)] : List Int)) (inner := [.int .i64 0, .int .i64 1, .int .i64 2, .int .i64 3, .int .i64 4, .int .i64 5, .int .i64 6, .int .i64 (-1)]) (ok := fun _ => True) (okp := fun _ => True) ?hr ?hp (fun _ hk => hk) trivial (Below.refl _ _) (Nat.le_refl _) (by simp) ?_; (case hd => rfl); (case hg => rfl); (case hr => first | (go_simp; done) | (go_simp; rfl)); (case hp => exact (Reps.one (show Kd.M (Kd.int .i64) _ _ _ 0 [.int .i64 0] from rfl) (Reps.one (show Kd.M (Kd.int .i64) _ _ _ 1 [.int .i64 1] from rfl) (Reps.one (show Kd.M (Kd.int .i64) _ _ _ 2 [.int .i64 2] from rfl) (Reps.one (show Kd.M (Kd.int .i64) _ _ _ 3 [.int .i64 3] from rfl) (Reps.one (show Kd.M (Kd.int .i64) _ _ _ 4 [.int .i64 4] from rfl) (Reps.one (show Kd.M (Kd.int .i64) _ _ _ 5 [.int .i64 5] from rfl) (Reps.one (show Kd.M (Kd.int .i64) _ _ _ 6 [.int .i64 6] from rfl) (Reps.one (show Kd.M (Kd.int .i64) _ _ _ (-1) [.int .i64 (-1)] from rfl) (Reps.none _ _)))))))))); intro v323 w10 ho11 hb hg_ hnew_; clear hg_ hnew_; (first | rw [← Ny322.out] at ho11 | (simp only [Int.reduceToNat] at ho11; rw [← Ny322.out] at ho11)); have n0_ := Aside0.mk (Kd.R_elder' (ru_ HO318.out) (Kd.R_base ho11) hb); have n1_ := Aside0.mk (Kd.R_lower (Kd.R_new' ho11 (Kd.R_lt (ru_ HO318.out))) (keep_size (w := w) (g := g) (row := none) (by repeat (first | (with_reducible first | apply KeepBut.set_ | apply keep_drewN | apply keep_drew | apply keep_alloc) | exact HK.out)))); have n2_ := Aside0.mk (IsS45.below (by repeat (first | (with_reducible first | apply IsS45.alloc | apply IsS45.drewN | apply IsS45.drew | apply IsS45.set_1 | apply IsS45.set_2) | exact HI0.out)) hb); have n3_ := Aside0.mk (KeepBut.trans (by repeat (first | (with_reducible first | apply KeepBut.set_ | apply keep_drewN | apply keep_drew | apply keep_alloc) | exact HK.out)) (KeepBut.of_below hb g none) (.inl rfl)); have n4_ := Aside0.mk (below_step (by repeat (first | (with_reducible first | exact HB.out | apply below_alloc | apply pw_below_drewN | apply below_drew1 | refine below_set ?_ (IsS45.ge HI0.out)) | exact HB.out)) hb); clear HO318; clear HI0; clear HK; clear HB; have HO318 := n0_; have HO324 := n1_; have HI0 := n2_; have HK := n3_; have HB := n4_; clear n0_ n1_ n2_ n3_ n4_; clear hb ho11; obtain ⟨Ao12, co12, eo12⟩ := Kd.R_slice HO324.out; subst eo12) | ((with_reducible refine gate_callee (f := 38) rfl ?_); refine gl_ (some 16) Tryz.func38 #[.pointer (some ⟨g, 0, none⟩), .slice Ao12 y322.length co12] ?_; (with_reducible refine (spec_l1Cur_among.calls g s0_0 t320 t321 _ _ y322 t325 t326 t327 w0 _ ?side1 ?side2 ?side3 ?side4 ?side5 A4.out).mono ?_); (case side1 => repeat (first | (with_reducible first | apply IsS45.alloc | apply IsS45.drewN | apply IsS45.drew | apply IsS45.set_1 | apply IsS45.set_2) | exact HI0.out)); (case side2 => repeat (first | (with_reducible first | exact HB.out | apply below_alloc | apply pw_below_drewN | apply below_drew1 | refine below_set ?_ (IsS45.ge HI0.out)) | exact HB.out)); (case side3 => exact cu_ (Kd.R_reads' HO324.out).2.2); (case side4 => exact (Kd.R_reads' HO324.out).2.1); (case side5 => exact far_slice (IsS45.own_ne HI0.out HO324.out (by decide))); rintro e w13 ⟨rfl, hi, hb, hk⟩; refine ⟨_, rfl, ?_⟩; have n0_ := Aside0.mk (Kd.R_mono (Kd.R_keep (IsS45.apart (show IsS45 w0 _ g s0_0 t320 t321 from by repeat (first | (with_reducible first | apply IsS45.alloc | apply IsS45.drewN | apply IsS45.drew | apply IsS45.set_1 | apply IsS45.set_2) | exact HI0.out)) (ru_ HO318.out) (by decide)) hk (fun _ h => h.2)) (fun _ h => h.1)); have n1_ := Aside0.mk (Kd.R_mono (Kd.R_keep (IsS45.apart (show IsS45 w0 _ g s0_0 t320 t321 from by repeat (first | (with_reducible first | apply IsS45.alloc | apply IsS45.drewN | apply IsS45.drew | apply IsS45.set_1 | apply IsS45.set_2) | exact HI0.out)) (ru_ HO324.out) (by decide)) hk (fun _ h => h.2)) (fun _ h => h.1)); have n2_ := Aside0.mk (KeepBut.trans (by repeat (first | (with_reducible first | apply KeepBut.set_ | apply keep_drewN | apply keep_drew | apply keep_alloc) | exact HK.out)) hk (.inl rfl)); have n3_ := Aside0.mk (hb); have n4_ := Aside0.mk (hi); clear HO318; clear HO324; clear HK; clear HB; clear HI0; have HO318 := n0_; have HO324 := n1_; have HK := n2_; have HB := n3_; have HI0 := n4_; clear n0_ n1_ n2_ n3_ n4_; (try clear hb)))
 go_ret3
 refine ⟨g, w, HW0.out, ?_⟩
 exact ⟨by first | rfl | (simp [errW_none, errW_some] <;> rfl) | (simp [*, errW_none, errW_some] <;> rfl), by repeat (first | (with_reducible first | apply IsS45.alloc | apply IsS45.drewN | apply IsS45.drew | apply IsS45.set_1 | apply IsS45.set_2) | exact HI0.out), by repeat (first | (with_reducible first | exact HB.out | apply below_alloc | apply pw_below_drewN | apply below_drew1 | refine below_set ?_ (IsS45.ge HI0.out)) | exact HB.out), by repeat (first | (with_reducible first | apply KeepBut.set_ | apply keep_drewN | apply keep_drew | apply keep_alloc) | exact HK.out)⟩

def spec_DrawSpiralWord.f (l0 : List Int) : Option (Int × Int × Int) := (spec_DrawSpiralWord_w.f l0 0 0).bind fun t => match t with | (t0, t1, t2, t3, t4) => some (t0, t1, t2)
theorem spec_DrawSpiralWord.calls (A0 : Option Addr) (c0 : Nat) (l0 : List Int) (r1 : Int) (r2 : Int) (r3 : Int) (w : World) (hr0 : Kd.C (Kd.int .u8) w A0 l0.length l0) (hc0 : l0.length ≤ c0) (h : spec_DrawSpiralWord.f l0 = some (r1, r2, r3)) :
  Calls Tryz.prog 15 #[.slice A0 l0.length c0] w fun e w' => e = .returned (.tuple #[.int .i64 r1, .int .i64 r2, .int .i64 r3]) ∧ Below w.heap.size w w' := by
 unfold spec_DrawSpiralWord.f at h
 obtain ⟨⟨t0, t1, t2, t3, t4⟩, ht, h⟩ := Option.bind_eq_some_iff.mp h
 simp only [Option.some.injEq, Prod.mk.injEq] at h
 obtain ⟨rfl, rfl, rfl⟩ := h
 exact (spec_DrawSpiralWord_w.callsC A0 c0 l0 0 0 _ _ _ _ _ w hr0 rfl rfl ht).mono (by rintro e w' ⟨g, w1, hle, he, _, hb, _⟩; exact ⟨he, hb⟩)

-- NOT PRINTED: function 75 (bits_Mul32)

-- NOT PRINTED: function 76 (bits_Mul64)

-- NOT PRINTED: function 56 (bits_Mul)

-- NOT PRINTED: function 88 (abi_NoEscape)

-- NOT PRINTED: function 78 (strings_Builder_copyCheck)

-- NOT PRINTED: function 89 (bytealg_MakeNoZero)

-- NOT PRINTED: function 79 (strings_Builder_grow)

-- NOT PRINTED: function 58 (strings_Builder_Grow)

-- NOT PRINTED: function 59 (strings_Builder_WriteString)

-- NOT PRINTED: function 60 (strings_Builder_Len)

-- NOT PRINTED: function 61 (strings_Builder_String)

/-! ### given: 62_repeat.tpl -/
def Tryz.laysRepeat_ren : Go.Shelf.Ren := ⟨fun | 105 => 40 | 212 => 56 | 99 => 57 | 165 => 58 | 166 => 59 | 170 => 60 | 169 => 61 | 263 => 75 | 264 => 76 | 206 => 77 | 240 => 78 | 241 => 79 | 276 => 88 | 277 => 89 | n => n, fun | 9 => 9 | 3 => 3 | 4 => 4 | 20 => 20 | 0 => 0 | 46 => 74 | 109 => 75 | 5 => 5 | 72 => 80 | 76 => 84 | 51 => 102 | 146 => 116 | 53 => 43 | 148 => 118 | 70 => 78 | 37 => 22 | 75 => 83 | 127 => 120 | 164 => 128 | 80 => 67 | n => n, fun | n => n⟩
theorem Tryz.laysRepeat : Go.Proofs.Lays.n105 Tryz.prog Tryz.laysRepeat_ren := {
  mixed := by kernel_rfl
  f99 := Tryz.func57.trans (congrArg some (by kernel_rfl))
  f105 := Tryz.func40.trans (congrArg some (by kernel_rfl))
  f165 := Tryz.func58.trans (congrArg some (by kernel_rfl))
  f166 := Tryz.func59.trans (congrArg some (by kernel_rfl))
  f169 := Tryz.func61.trans (congrArg some (by kernel_rfl))
  f170 := Tryz.func60.trans (congrArg some (by kernel_rfl))
  f206 := Tryz.func77.trans (congrArg some (by kernel_rfl))
  f212 := Tryz.func56.trans (congrArg some (by kernel_rfl))
  f240 := Tryz.func78.trans (congrArg some (by kernel_rfl))
  f241 := Tryz.func79.trans (congrArg some (by kernel_rfl))
  f263 := Tryz.func75.trans (congrArg some (by kernel_rfl))
  f264 := Tryz.func76.trans (congrArg some (by kernel_rfl))
  f276 := Tryz.func88.trans (congrArg some (by kernel_rfl))
  f277 := Tryz.func89.trans (congrArg some (by kernel_rfl))
  t0 := Tryz.underlying0
  a0 := Tryz.isAgg0
  z0 := Tryz.sizeOf0
  v0 := Tryz.zeroValue0
  t3 := Tryz.underlying3
  a3 := Tryz.isAgg3
  z3 := Tryz.sizeOf3
  v3 := Tryz.zeroValue3
  t4 := Tryz.underlying4
  a4 := Tryz.isAgg4
  z4 := Tryz.sizeOf4
  v4 := Tryz.zeroValue4
  t5 := Tryz.underlying5
  a5 := Tryz.isAgg5
  z5 := Tryz.sizeOf5
  v5 := Tryz.zeroValue5
  t9 := Tryz.underlying9
  a9 := Tryz.isAgg9
  z9 := Tryz.sizeOf9
  v9 := Tryz.zeroValue9
  t20 := Tryz.underlying20
  a20 := Tryz.isAgg20
  z20 := Tryz.sizeOf20
  v20 := Tryz.zeroValue20
  t37 := Tryz.underlying22
  a37 := Tryz.isAgg22
  z37 := Tryz.sizeOf22
  v37 := Tryz.zeroValue22
  t46 := Tryz.underlying74
  a46 := Tryz.isAgg74
  z46 := Tryz.sizeOf74
  v46 := Tryz.zeroValue74
  t51 := Tryz.underlying102
  a51 := Tryz.isAgg102
  z51 := Tryz.sizeOf102
  v51 := Tryz.zeroValue102
  t53 := Tryz.underlying43
  a53 := Tryz.isAgg43
  z53 := Tryz.sizeOf43
  v53 := Tryz.zeroValue43
  t70 := Tryz.underlying78
  a70 := Tryz.isAgg78
  z70 := Tryz.sizeOf78
  v70 := Tryz.zeroValue78
  t72 := Tryz.underlying80
  a72 := Tryz.isAgg80
  z72 := Tryz.sizeOf80
  v72 := Tryz.zeroValue80
  t75 := Tryz.underlying83
  a75 := Tryz.isAgg83
  z75 := Tryz.sizeOf83
  v75 := Tryz.zeroValue83
  t76 := Tryz.underlying84
  a76 := Tryz.isAgg84
  z76 := Tryz.sizeOf84
  v76 := Tryz.zeroValue84
  t109 := Tryz.underlying75
  a109 := Tryz.isAgg75
  z109 := Tryz.sizeOf75
  v109 := Tryz.zeroValue75
  t127 := Tryz.underlying120
  a127 := Tryz.isAgg120
  z127 := Tryz.sizeOf120
  v127 := Tryz.zeroValue120
  t146 := Tryz.underlying116
  a146 := Tryz.isAgg116
  z146 := Tryz.sizeOf116
  v146 := Tryz.zeroValue116
  t148 := Tryz.underlying118
  a148 := Tryz.isAgg118
  z148 := Tryz.sizeOf118
  v148 := Tryz.zeroValue118
  t164 := Tryz.underlying128
  a164 := Tryz.isAgg128
  z164 := Tryz.sizeOf128
  v164 := Tryz.zeroValue128 }
theorem extraRepeat : Go.Proofs.Builder.Extra Tryz.prog Tryz.laysRepeat_ren := {
  sizeBuilder := by kernel_rfl
  liesBuilder := by kernel_rfl
  t5 := by kernel_rfl
  a5 := fun _ => by kernel_rfl
  z5 := fun _ => by kernel_rfl
  v5 := fun _ => by kernel_rfl
  infoByte := by kernel_rfl
  cellsByte := by kernel_rfl
  sizeByte := by kernel_rfl
  neB5 := by decide }
/-- A text, so many times. -/
def strings_Repeat.f (a0 : ByteArray) (a1 : Int) : Option ByteArray := if 0 ≤ a1 ∧ a1 ≤ 1000000 ∧ a0.size ≤ 1000000 then some ⟨(Go.Lib.repeatL a0.data.toList a1.toNat).toArray⟩ else none
theorem strings_Repeat.calls (a0 : ByteArray) (a1 : Int) (r : ByteArray) (w : World) (h : strings_Repeat.f a0 a1 = some r) :
    Calls Tryz.prog 40 #[.string a0, .int .i64 a1] w fun e w' => e = .returned (.string r) ∧ Below w.heap.size w w' := by
  unfold strings_Repeat.f at h
  by_cases hs : 0 ≤ a1 ∧ a1 ≤ 1000000 ∧ a0.size ≤ 1000000
  · rw [if_pos hs] at h
    obtain rfl := Option.some.inj h
    obtain ⟨c, rfl⟩ : ∃ c : Nat, a1 = (c : Int) := ⟨a1.toNat, by omega⟩
    rw [Int.toNat_natCast]
    have hm : a0.size * c ≤ 1000000 * 1000000 := Nat.mul_le_mul (by omega) (by omega)
    have hc := Go.Proofs.Any.strings_Repeat Tryz.laysRepeat extraRepeat a0 c w (by omega) (by omega)
    change Calls Tryz.prog 40 #[.string a0, .int .i64 (c : Int)] w _ at hc
    refine hc.mono ?_
    rintro e w' ⟨rfl, hb⟩
    exact ⟨rfl, hb⟩
  · rw [if_neg hs] at h; cases h

end Go.Proofs.YtfpjakkjkakjoaaGreatDoor.P
