/- A part of this seat's proofs: contracts of the translated functions, written by the session's own program (gp.py) out of the kit's print.py and the session's own contracts; no conditions of its own. -/
import Derived.Test.YteihhjieihgojaaGreatPx0
import Derived.Test.YteihhjieihgojaaGreatPx2
import Derived.Test.YteihhjieihgojaaGreatPx3
namespace Go.Proofs.YteihhjieihgojaaGreat.P
open Go.RowKit Go.Proofs.YteihhjieihgojaaGreatW.PrintWords Go.Proofs.YteihhjieihgojaaGreatW.PrintLast Go.Proofs.YteihhjieihgojaaGreatW.PrintMore
attribute [local go_sem] max2_int min2_int max_two min_two max_three min_three max_four min_four   -- for this text's walks alone
set_option linter.unusedVariables false
set_option linter.unusedSimpArgs false

/-! ### slices_Index_int_int: function 73 -/
def slices_Index_int_int.l0 : Nat → List Int → Int → Int → Int → Option (Int)
 | 0, _, _, _, _ => none
 | k + 1, x0, x1, x7, x8 => if x8 < x7 then (if 0 ≤ x8 then (if x8 < (x0.length : Int) then (if x1 = (rd x0 x8) then (some x8) else (slices_Index_int_int.l0 k x0 x1 x7 (wrap64 (x8 + 1)))) else (none)) else (none)) else (some (-1))
def slices_Index_int_int.f (k : Nat) (l0 : List Int) (a1 : Int) : Option (Int) := slices_Index_int_int.l0 k l0 a1 (l0.length : Int) 0
theorem slices_Index_int_int.mono_l : ∀ k, (∀ y0 y1 y2 y3, LeO (slices_Index_int_int.l0 k y0 y1 y2 y3) (slices_Index_int_int.l0 (k + 1) y0 y1 y2 y3))
 | 0 => fun _ _ _ _ r h => by simp [slices_Index_int_int.l0] at h
 | k + 1 => by
  have ih0 := slices_Index_int_int.mono_l k
  ·intro y0 y1 y2 y3
   unfold slices_Index_int_int.l0
   repeat' with_reducible first | apply ih0 | exact LeO.refl _ | exact LeO.none _ | refine LeO.ite ?_ ?_ | refine LeO.bind ?_ (fun _ => ?_)
theorem slices_Index_int_int.mono : ∀ a0 a1 k, LeO (slices_Index_int_int.f k a0 a1) (slices_Index_int_int.f (k + 1) a0 a1) := by
 intro a0 a1 k
 have ih0 := slices_Index_int_int.mono_l k
 unfold slices_Index_int_int.f
 repeat' with_reducible first | apply ih0 | exact LeO.refl _ | exact LeO.none _ | refine LeO.ite ?_ ?_ | refine LeO.bind ?_ (fun _ => ?_)
set_option maxHeartbeats 8000000 in
set_option maxRecDepth 100000 in
theorem slices_Index_int_int.calls (k : Nat) (A0 : Option Addr) (c0 : Nat) (l0 : List Int) (a1 : Int) (r : Int) (w : World) (hr0 : Kd.C (Kd.int .i64) w A0 l0.length l0) (hc0 : l0.length ≤ c0) (h : slices_Index_int_int.f k l0 a1 = some r) :
  Calls Tryz.prog 73 #[.slice A0 l0.length c0, .int .i64 a1] w fun e w' => e = .returned (.int .i64 r) ∧ Drawn0 w w' := by
 have HR0 := Aside0.mk hr0
 have HC0 := Aside0.mk hc0
 clear hr0 hc0
 have H : (slices_Index_int_int.l0 k l0 a1 (l0.length : Int) 0) = some r := h
 clear h
 have H' := Aside0.mk H
 clear H
 go_enter Tryz.func73, Tryz.ntmps73
 go_wp2
 go_loopg [8] k (fun kq v8 w' => ∃ (x8_1 : Int), v8 = .int .i64 x8_1 ∧ Aside0 (slices_Index_int_int.l0 kq l0 a1 (l0.length : Int) x8_1 = some r) ∧ Aside0 (kq ≤ k) ∧ Drawn0 w w')
 case atStart => exact ⟨(0), (by first | rfl | (simp; done) | (simp [*]; done)), H', ⟨Nat.le_refl _⟩, by repeat (first | exact Drawn0.refl _ | apply Drawn0.step)⟩
 case round =>
  clear H'
  try clear p2
  obtain ⟨x8_1, rfl, HA, HK1, ⟨m1, rfl⟩⟩ := hrel
  cases gk with
  | zero => exact absurd HA.out (by simp [slices_Index_int_int.l0])
  | succ k1 =>
   have H := HA.out
   clear HA
   simp only [slices_Index_int_int.l0] at H
   by_cases c3 : x8_1 < (l0.length : Int)
   rotate_left
   ·rw [if_neg c3] at H
    have c3b0 : decide (x8_1 < (l0.length : Int)) = false := decide_eq_false c3
    clear c3
    obtain rfl := Option.some.inj H
    go_wp2
    go_ret
    exact ⟨by first | rfl | (simp; done) | (simp [*]; done), by repeat (first | exact Drawn0.refl _ | apply Drawn0.step)⟩

   rw [if_pos c3] at H
   have c3b0 : decide (x8_1 < (l0.length : Int)) = true := decide_eq_true c3
   clear c3
   by_cases c4 : 0 ≤ x8_1
   rotate_left
   ·rw [if_neg c4] at H
    exact absurd H (by simp)
   rw [if_pos c4] at H
   have c4b0 : decide (0 ≤ x8_1) = true := decide_eq_true c4
   clear c4
   by_cases c5 : x8_1 < (l0.length : Int)
   rotate_left
   ·rw [if_neg c5] at H
    exact absurd H (by simp)
   rw [if_pos c5] at H
   have c5b0 : decide (x8_1 < (l0.length : Int)) = true := decide_eq_true c5
   clear c5
   by_cases c6 : a1 = (rd l0 x8_1)
   ·rw [if_pos c6] at H
    have c6b0 : (a1 == (rd l0 x8_1)) = true := beq_iff_eq.mpr c6
    have c6b1 : (a1 != (rd l0 x8_1)) = false := bne_eq_false_iff_eq.mpr c6
    clear c6
    obtain rfl := Option.some.inj H
    have p325 : 0 ≤ (x8_1 : Int) := of_decide_eq_true (by assumption)
    have q325 : x8_1 < (l0.length : Int) := of_decide_eq_true (by assumption)
    obtain ⟨ad325, e325, hx325_0⟩ := Kd.at_int HR0.out x8_1 p325 q325
    cases e325
    replace p325 := eq_true p325
    replace q325 := eq_true q325
    go_wp2
    go_ret
    exact ⟨by first | rfl | (simp; done) | (simp [*]; done), by repeat (first | exact Drawn0.refl _ | apply Drawn0.step)⟩
   rw [if_neg c6] at H
   have c6b0 : (a1 == (rd l0 x8_1)) = false := beq_eq_false_iff_ne.mpr c6
   have c6b1 : (a1 != (rd l0 x8_1)) = true := bne_iff_ne.mpr c6
   have H' := Aside0.mk H
   clear H
   have p325 : 0 ≤ (x8_1 : Int) := of_decide_eq_true (by assumption)
   have q325 : x8_1 < (l0.length : Int) := of_decide_eq_true (by assumption)
   obtain ⟨ad325, e325, hx325_0⟩ := Kd.at_int HR0.out x8_1 p325 q325
   cases e325
   replace p325 := eq_true p325
   replace q325 := eq_true q325
   go_wp2
   go_roundg k1
   case measure => have := HK1.out; omega
   case rel => exact ⟨(wrap64 (x8_1 + 1)), (by first | rfl | (simp; done) | (simp [*]; done)), H', ⟨by have := HK1.out; omega⟩, by repeat (first | exact Drawn0.refl _ | apply Drawn0.step)⟩
/-! ### impl_leadOf: function 54 -/
def impl_leadOf.l0 : Nat → Int → Int → Int → List Int → Option (Int × List Int)
 | 0, _, _, _, _ => none
 | k + 1, x0, x1, x2, x8 => (slices_Index_int_int.f k x8 x2).bind fun t329 => (if t329 ≥ 0 then (if 0 ≤ t329 then (if t329 ≤ (x8.length : Int) then (some (t329, (x8.drop (t329 : Int).toNat))) else (none)) else (none)) else (if x8.length < 17592186044416 then (if x0 = 0 then (none) else (impl_leadOf.l0 k x0 x1 (Int.tmod (wrap64 (x2 * x1)) x0) (x8 ++ [x2]))) else (none)))
def impl_leadOf.f (k : Nat) (a0 : Int) (a1 : Int) (a2 : Int) : Option (Int × List Int) := impl_leadOf.l0 k a0 a1 a2 (([] : List Int))
theorem impl_leadOf.mono_l : ∀ k, (∀ y0 y1 y2 y3, LeO (impl_leadOf.l0 k y0 y1 y2 y3) (impl_leadOf.l0 (k + 1) y0 y1 y2 y3))
 | 0 => fun _ _ _ _ r h => by simp [impl_leadOf.l0] at h
 | k + 1 => by
  have ih0 := impl_leadOf.mono_l k
  ·intro y0 y1 y2 y3
   unfold impl_leadOf.l0
   repeat' with_reducible first | apply ih0 | apply slices_Index_int_int.mono | exact LeO.refl _ | exact LeO.none _ | refine LeO.ite ?_ ?_ | refine LeO.bind ?_ (fun _ => ?_)
theorem impl_leadOf.mono : ∀ a0 a1 a2 k, LeO (impl_leadOf.f k a0 a1 a2) (impl_leadOf.f (k + 1) a0 a1 a2) := by
 intro a0 a1 a2 k
 have ih0 := impl_leadOf.mono_l k
 unfold impl_leadOf.f
 repeat' with_reducible first | apply ih0 | apply slices_Index_int_int.mono | exact LeO.refl _ | exact LeO.none _ | refine LeO.ite ?_ ?_ | refine LeO.bind ?_ (fun _ => ?_)
set_option maxHeartbeats 8000000 in
set_option maxRecDepth 100000 in
theorem impl_leadOf.calls (k : Nat) (a0 : Int) (a1 : Int) (a2 : Int) (r1 : Int) (r2 : List Int) (w : World) (h : impl_leadOf.f k a0 a1 a2 = some (r1, r2)) :
  Calls Tryz.prog 54 #[.int .i64 a0, .int .i64 a1, .int .i64 a2] w fun e w' => ∃ v1_ : Value, e = .returned (.tuple #[.int .i64 r1, v1_]) ∧ Kd.Q (Kd.int .i64) 3 w' w.heap.size (fun _ => True) v1_ r2 ∧ Below w.heap.size w w' := by
 have HB := Aside0.mk (Below.refl w.heap.size w)
 have H : (impl_leadOf.l0 k a0 a1 a2 (([] : List Int))) = some (r1, r2) := h
 clear h
 obtain ⟨y326, hy326⟩ : ∃ y_ : List Int, y_ = (([] : List Int)) := ⟨_, rfl⟩
 replace H : (impl_leadOf.l0 k a0 a1 a2 y326) = some (r1, r2) := by first | (rw [hy326]; with_reducible exact H) | (have H2_ := (Option.bind_some _ _).symm.trans H; rw [hy326]; with_reducible exact H2_) | (have H2_ := (Option.bind_some _ _).symm.trans H; with_reducible exact H2_) | with_reducible exact H | (rw [hy326]; exact H) | exact H
 have Ny326 := Aside0.mk hy326
 clear hy326
 have H' := Aside0.mk H
 clear H
 go_enter Tryz.func54, Tryz.ntmps54
 go_wp2_with (first | ((with_reducible refine gate_dst (N := 10) rfl ?_); refine Kd.R_lit (Kd.int .i64) _ 3 ?hg (N := 10) ?hd (xs := ([] : List Int)) (inner := []) (ok := fun _ => True) (okp := fun _ => True) ?hr ?hp (fun _ hk => hk) trivial (Below.refl _ _) (Nat.le_refl _) (by simp) ?_; (case hd => rfl); (case hg => rfl); (case hr => first | (go_simp; done) | (go_simp; rfl)); (case hp => exact (Reps.none _ _)); intro v327 w4 ho5 hb hg_ hnew_; clear hg_ hnew_; (first | rw [← Ny326.out] at ho5 | (simp only [Int.reduceToNat] at ho5; rw [← Ny326.out] at ho5)); have n0_ := Aside0.mk (Kd.R_lower ho5 bz_); have n1_ := Aside0.mk (bs_ hb); clear HB; have HO328 := n0_; have HB := n1_; clear n0_ n1_; clear hb ho5))
 go_loopg [2, 8] k (fun kq v2 v8 w' => ∃ (x2_1 : Int) (x8_1 : List Int), v2 = .int .i64 x2_1 ∧ Aside0 (impl_leadOf.l0 kq a0 a1 x2_1 x8_1 = some (r1, r2)) ∧ Aside0 (kq ≤ k) ∧ Aside0 (Kd.R (Kd.int .i64) 3 w' w.heap.size (fun _ => True) v8 x8_1) ∧ Aside0 (Below w.heap.size w w'))
 case atStart => exact ⟨(a2), (y326), (by first | rfl | (simp; done) | (simp [*]; done)), H', ⟨Nat.le_refl _⟩, ⟨by (with_reducible repeat (first | apply Kd.R_alloc | apply Kd.R_drewN | apply Kd.R_drew)); exact HO328.out⟩, ⟨bb_⟩⟩
 case round =>
  clear H'
  (try clear p2); (try clear c5)
  obtain ⟨x2_1, x8_1, rfl, HA, HK1, HO_8, HB⟩ := hrel
  cases gk with
  | zero => exact absurd HA.out (by simp [impl_leadOf.l0])
  | succ k1 =>
   have H := HA.out
   clear HA
   simp only [impl_leadOf.l0] at H
   replace H := Option.bind_eq_some_iff.mp H
   obtain ⟨t329, A60, H⟩ := H
   (try dsimp only at H)
   have A6 := Aside0.mk A60
   clear A60
   by_cases c7 : t329 ≥ 0
   rotate_left
   ·rw [if_neg c7] at H
    have c7b0 : decide (0 ≤ t329) = false := decide_eq_false c7
    clear c7
    by_cases c12 : x8_1.length < 17592186044416
    rotate_left
    ·rw [if_neg c12] at H
     exact absurd H (by simp)

    rw [if_pos c12] at H
    have LMc12 := Aside0.mk c12
    clear c12
    obtain ⟨y333, hy333⟩ : ∃ y_ : List Int, y_ = (x8_1 ++ [x2_1]) := ⟨_, rfl⟩
    replace H : (if a0 = 0 then (none) else (impl_leadOf.l0 k1 a0 a1 (Int.tmod (wrap64 (x2_1 * a1)) a0) y333)) = some (r1, r2) := by first | (rw [hy333]; with_reducible exact H) | (have H2_ := (Option.bind_some _ _).symm.trans H; rw [hy333]; with_reducible exact H2_) | (have H2_ := (Option.bind_some _ _).symm.trans H; with_reducible exact H2_) | with_reducible exact H | (rw [hy333]; exact H) | exact H
    have Ny333 := Aside0.mk hy333
    clear hy333
    by_cases c13 : a0 = 0
    ·rw [if_pos c13] at H
     exact absurd H (by simp)
    rw [if_neg c13] at H
    have c13b0 : (a0 == 0) = false := beq_eq_false_iff_ne.mpr c13
    have c13b1 : (a0 != 0) = true := bne_iff_ne.mpr c13
    have H' := Aside0.mk H
    clear H
    obtain ⟨Ao14, co14, eo14⟩ := Kd.R_slice HO_8.out
    subst eo14
    go_wp2_with (first | (go_at_call 73; (with_reducible refine (slices_Index_int_int.calls k1 _ _ x8_1 x2_1 t329 _ ?side1 ?side2 A6.out).mono ?_); (case side1 => exact cu_ (Kd.R_reads' HO_8.out).2.2); (case side2 => exact (Kd.R_reads' HO_8.out).2.1); rintro e w' ⟨rfl, ⟨nd, rfl⟩⟩; (try first | exact ⟨rfl, _, dn_⟩ | exact ⟨rfl, _, dm_⟩)) | ((with_reducible refine gate_builtin (b := .append) (xs := #[.tmp 20, .tmp 22]) rfl ?_); at_builtin; refine Kd.R_append (Kd.int .i64) (w0 := w) w.heap.size rfl (.tmp 20) (.tmp 22) 33 3 (.int .i64 0) 8 rfl Tryz.underlying33 info3 rfl (by decide) (by omega) (.slice Ao14 x8_1.length co14) x8_1 x2_1 [.int .i64 x2_1] (fun _ => True) (fun _ => False) rfl rfl ?aP (fun _ hk => hk.elim) ?aF ?aO ?aB ?aS ?aL ?_; (case aP => exact rfl); (case aB => exact bb_); (case aF => exact (fun _ _ => trivial)); (case aO => exact (ru_ HO_8.out)); (case aS => exact bz_); (case aL => have := LMc12.out; omega); intro v334 w15 ho hb hg hat; rw [← Ny333.out] at ho; have n0_ := Aside0.mk (hb); have n1_ := Aside0.mk (ho); clear HB; clear HO_8; have HB := n0_; have HO335 := n1_; clear n0_ n1_; clear ho hb hg hat))
    go_roundg k1
    case measure => have := HK1.out; omega
    case rel => exact ⟨(Int.tmod (wrap64 (x2_1 * a1)) a0), (y333), (by first | rfl | (simp; done) | (simp [*]; done)), H', ⟨by have := HK1.out; omega⟩, ⟨by (with_reducible repeat (first | apply Kd.R_alloc | apply Kd.R_drewN | apply Kd.R_drew)); exact HO335.out⟩, ⟨bb_⟩⟩
   rw [if_pos c7] at H
   have c7b0 : decide (0 ≤ t329) = true := decide_eq_true c7
   clear c7
   by_cases c8 : 0 ≤ t329
   rotate_left
   ·rw [if_neg c8] at H
    exact absurd H (by simp)
   rw [if_pos c8] at H
   have c8b0 := eq_true c8
   have c8b1 : decide (0 ≤ t329) = true := decide_eq_true c8
   clear c8
   by_cases c9 : t329 ≤ (x8_1.length : Int)
   rotate_left
   ·rw [if_neg c9] at H
    exact absurd H (by simp)
   rw [if_pos c9] at H
   have c9b0 := eq_true c9
   have c9b1 : decide (t329 ≤ (x8_1.length : Int)) = true := decide_eq_true c9
   clear c9
   obtain ⟨y330, hy330⟩ : ∃ y_ : List Int, y_ = (x8_1.drop (t329 : Int).toNat) := ⟨_, rfl⟩
   replace H : (some (t329, y330)) = some (r1, r2) := by first | (rw [hy330]; with_reducible exact H) | (have H2_ := (Option.bind_some _ _).symm.trans H; rw [hy330]; with_reducible exact H2_) | (have H2_ := (Option.bind_some _ _).symm.trans H; with_reducible exact H2_) | with_reducible exact H | (rw [hy330]; exact H) | exact H
   have Ny330 := Aside0.mk hy330
   clear hy330
   simp only [Option.some.injEq, Prod.mk.injEq] at H
   obtain ⟨rfl, rfl⟩ := H
   obtain ⟨Ao10, co10, eo10⟩ := Kd.R_slice HO_8.out
   subst eo10
   go_wp2_with (first | (go_at_call 73; (with_reducible refine (slices_Index_int_int.calls k1 _ _ x8_1 x2_1 t329 _ ?side1 ?side2 A6.out).mono ?_); (case side1 => exact cu_ (Kd.R_reads' HO_8.out).2.2); (case side2 => exact (Kd.R_reads' HO_8.out).2.1); rintro e w' ⟨rfl, ⟨nd, rfl⟩⟩; (try first | exact ⟨rfl, _, dn_⟩ | exact ⟨rfl, _, dm_⟩); have q11 : (t329 : Int) ≤ ((x8_1.length : Int) : Int) := of_decide_eq_true (by assumption); obtain ⟨i011, hi011, _, hsz11, _⟩ := info_parts info3; have hcut11 := cut_from (P := Tryz.prog) 33 3 .i64 Tryz.underlying33 hi011 1 hsz11 Ao10 x8_1.length co10 t329 (of_decide_eq_true (by assumption)) q11; have hr11 := Kd.Q_drop (k := (t329 : Int).toNat) (Kd.Q_of_R HO_8.out) (by omega); obtain ⟨A11, hA11⟩ : ∃ A1, A1 = (if co10 = (t329 : Int).toNat then Ao10 else (Ao10 : Option Addr).map (·.add ((t329 : Int).toNat * 1))) := ⟨_, rfl⟩; obtain ⟨c11, hc11⟩ : ∃ c1, c1 = co10 - (t329 : Int).toNat := ⟨_, rfl⟩; have hy11 : y330.length = x8_1.length - (t329 : Int).toNat := (by rw [Ny330.out, List.length_drop]); rw [← Ny330.out] at hr11; rw [← hy11, ← hA11, ← hc11] at hcut11; replace hr11 : Kd.Q (Kd.int .i64) 3 wr w.heap.size (fun _ => True) (.slice A11 y330.length c11) y330 := (by rw [hA11, hc11, hy11]; exact hr11); have HE11 : Aside0 ((Value.slice A11 y330.length c11).ownBlock = (.slice Ao10 x8_1.length co10 : Value).ownBlock) := ⟨by rw [hA11]; split <;> (cases (Ao10 : Option Addr) <;> first | rfl | (simp only [Value.ownBlock, Option.map, Addr.add]; split <;> rfl))⟩; clear hy11 hi011 hsz11 HO_8 hA11 hc11; have HO332 := Aside0.mk hr11; clear hr11; replace q11 := eq_true q11))
   repeat (go_quiet (first | (go_at_call 73; (with_reducible refine (slices_Index_int_int.calls k1 _ _ x8_1 x2_1 t329 _ ?side1 ?side2 A6.out).mono ?_); (case side1 => exact cu_ (Kd.R_reads' HO_8.out).2.2); (case side2 => exact (Kd.R_reads' HO_8.out).2.1); rintro e w' ⟨rfl, ⟨nd, rfl⟩⟩; (try first | exact ⟨rfl, _, dn_⟩ | exact ⟨rfl, _, dm_⟩); have q11 : (t329 : Int) ≤ ((x8_1.length : Int) : Int) := of_decide_eq_true (by assumption); obtain ⟨i011, hi011, _, hsz11, _⟩ := info_parts info3; have hcut11 := cut_from (P := Tryz.prog) 33 3 .i64 Tryz.underlying33 hi011 1 hsz11 Ao10 x8_1.length co10 t329 (of_decide_eq_true (by assumption)) q11; have hr11 := Kd.Q_drop (k := (t329 : Int).toNat) (Kd.Q_of_R HO_8.out) (by omega); obtain ⟨A11, hA11⟩ : ∃ A1, A1 = (if co10 = (t329 : Int).toNat then Ao10 else (Ao10 : Option Addr).map (·.add ((t329 : Int).toNat * 1))) := ⟨_, rfl⟩; obtain ⟨c11, hc11⟩ : ∃ c1, c1 = co10 - (t329 : Int).toNat := ⟨_, rfl⟩; have hy11 : y330.length = x8_1.length - (t329 : Int).toNat := (by rw [Ny330.out, List.length_drop]); rw [← Ny330.out] at hr11; rw [← hy11, ← hA11, ← hc11] at hcut11; replace hr11 : Kd.Q (Kd.int .i64) 3 wr w.heap.size (fun _ => True) (.slice A11 y330.length c11) y330 := (by rw [hA11, hc11, hy11]; exact hr11); have HE11 : Aside0 ((Value.slice A11 y330.length c11).ownBlock = (.slice Ao10 x8_1.length co10 : Value).ownBlock) := ⟨by rw [hA11]; split <;> (cases (Ao10 : Option Addr) <;> first | rfl | (simp only [Value.ownBlock, Option.map, Addr.add]; split <;> rfl))⟩; clear hy11 hi011 hsz11 HO_8 hA11 hc11; have HO332 := Aside0.mk hr11; clear hr11; replace q11 := eq_true q11)); try go_wp2_with (first | (go_at_call 73; (with_reducible refine (slices_Index_int_int.calls k1 _ _ x8_1 x2_1 t329 _ ?side1 ?side2 A6.out).mono ?_); (case side1 => exact cu_ (Kd.R_reads' HO_8.out).2.2); (case side2 => exact (Kd.R_reads' HO_8.out).2.1); rintro e w' ⟨rfl, ⟨nd, rfl⟩⟩; (try first | exact ⟨rfl, _, dn_⟩ | exact ⟨rfl, _, dm_⟩); have q11 : (t329 : Int) ≤ ((x8_1.length : Int) : Int) := of_decide_eq_true (by assumption); obtain ⟨i011, hi011, _, hsz11, _⟩ := info_parts info3; have hcut11 := cut_from (P := Tryz.prog) 33 3 .i64 Tryz.underlying33 hi011 1 hsz11 Ao10 x8_1.length co10 t329 (of_decide_eq_true (by assumption)) q11; have hr11 := Kd.Q_drop (k := (t329 : Int).toNat) (Kd.Q_of_R HO_8.out) (by omega); obtain ⟨A11, hA11⟩ : ∃ A1, A1 = (if co10 = (t329 : Int).toNat then Ao10 else (Ao10 : Option Addr).map (·.add ((t329 : Int).toNat * 1))) := ⟨_, rfl⟩; obtain ⟨c11, hc11⟩ : ∃ c1, c1 = co10 - (t329 : Int).toNat := ⟨_, rfl⟩; have hy11 : y330.length = x8_1.length - (t329 : Int).toNat := (by rw [Ny330.out, List.length_drop]); rw [← Ny330.out] at hr11; rw [← hy11, ← hA11, ← hc11] at hcut11; replace hr11 : Kd.Q (Kd.int .i64) 3 wr w.heap.size (fun _ => True) (.slice A11 y330.length c11) y330 := (by rw [hA11, hc11, hy11]; exact hr11); have HE11 : Aside0 ((Value.slice A11 y330.length c11).ownBlock = (.slice Ao10 x8_1.length co10 : Value).ownBlock) := ⟨by rw [hA11]; split <;> (cases (Ao10 : Option Addr) <;> first | rfl | (simp only [Value.ownBlock, Option.map, Addr.add]; split <;> rfl))⟩; clear hy11 hi011 hsz11 HO_8 hA11 hc11; have HO332 := Aside0.mk hr11; clear hr11; replace q11 := eq_true q11)))
   go_ret2
   exact ⟨_, by first | rfl | (simp [errW_none, errW_some] <;> rfl) | (simp [*, errW_none, errW_some] <;> rfl), by (with_reducible repeat (first | apply Kd.Q_alloc | apply Kd.Q_drewN | apply Kd.Q_drew)); exact HO332.out, bb_⟩
/-! ### impl_DepthOfTable: function 23 -/
def impl_DepthOfTable.l0 : Nat → Int → Int → Int → Int → Int → Option (Int × Bool)
 | 0, _, _, _, _, _ => none
 | k + 1, x0, x1, x6, x14, x15 => if x15 < x14 then ((impl_leadOf.f k x0 x1 x15).bind fun bt337 => (impl_DepthOfTable.l0 k x0 x1 (mx x6 bt337.1) x14 (wrap64 (x15 + 1)))) else (some (x6, true))
def impl_DepthOfTable.f (k : Nat) (a0 : Int) (a1 : Int) : Option (Int × Bool) := (impl_isTable.f a0 a1 ([] : List Int)).bind fun t336 => (if t336 = true then (impl_DepthOfTable.l0 k a0 a1 0 a0 0) else (some (0, false)))
theorem impl_DepthOfTable.mono_l : ∀ k, (∀ y0 y1 y2 y3 y4, LeO (impl_DepthOfTable.l0 k y0 y1 y2 y3 y4) (impl_DepthOfTable.l0 (k + 1) y0 y1 y2 y3 y4))
 | 0 => fun _ _ _ _ _ r h => by simp [impl_DepthOfTable.l0] at h
 | k + 1 => by
  have ih0 := impl_DepthOfTable.mono_l k
  ·intro y0 y1 y2 y3 y4
   unfold impl_DepthOfTable.l0
   repeat' with_reducible first | apply ih0 | apply impl_leadOf.mono | exact LeO.refl _ | exact LeO.none _ | refine LeO.ite ?_ ?_ | refine LeO.bind ?_ (fun _ => ?_)
theorem impl_DepthOfTable.mono : ∀ a0 a1 k, LeO (impl_DepthOfTable.f k a0 a1) (impl_DepthOfTable.f (k + 1) a0 a1) := by
 intro a0 a1 k
 have ih0 := impl_DepthOfTable.mono_l k
 unfold impl_DepthOfTable.f
 repeat' with_reducible first | apply ih0 | apply impl_leadOf.mono | exact LeO.refl _ | exact LeO.none _ | refine LeO.ite ?_ ?_ | refine LeO.bind ?_ (fun _ => ?_)
set_option maxHeartbeats 8000000 in
set_option maxRecDepth 100000 in
theorem impl_DepthOfTable.calls (k : Nat) (a0 : Int) (a1 : Int) (r1 : Int) (r2 : Bool) (w : World) (h : impl_DepthOfTable.f k a0 a1 = some (r1, r2)) :
  Calls Tryz.prog 23 #[.int .i64 a0, .int .i64 a1] w fun e w' => e = .returned (.tuple #[.int .i64 r1, .bool r2]) ∧ Below w.heap.size w w' := by
 have HB := Aside0.mk (Below.refl w.heap.size w)
 have H : ((impl_isTable.f a0 a1 ([] : List Int)).bind fun t336 => (if t336 = true then (impl_DepthOfTable.l0 k a0 a1 0 a0 0) else (some (0, false)))) = some (r1, r2) := h
 clear h
 replace H := Option.bind_eq_some_iff.mp H
 obtain ⟨t336, A30, H⟩ := H
 (try dsimp only at H)
 have A3 := Aside0.mk A30
 clear A30
 by_cases c4 : t336 = true
 rotate_left
 ·replace c4 := Bool.eq_false_iff.mpr c4
  subst c4
  rw [if_neg (show ¬ (false = true) by decide)] at H
  simp only [Option.some.injEq, Prod.mk.injEq] at H
  obtain ⟨rfl, rfl⟩ := H
  go_enter Tryz.func23, Tryz.ntmps23
  go_wp2_with (first | ((with_reducible refine gate_callee (f := 35) rfl ?_); refine gl_ (some 12) Tryz.func35 #[.int .i64 a0, .int .i64 a1, .slice none 0 0] ?_; (refine (impl_isTable.calls a0 a1 _ _ ([] : List Int) false _ ?side1 ?side2 A3.out).mono ?_); (case side1 => exact Kd.C_nil _ _); (case side2 => exact Nat.le_refl _); rintro e w10 ⟨rfl, hb⟩; refine ⟨_, rfl, ?_⟩; have n0_ := Aside0.mk (bs_ hb); clear HB; have HB := n0_; clear n0_; (try clear hb)))
  go_ret2
  exact ⟨by first | rfl | (simp [errW_none, errW_some] <;> rfl) | (simp [*, errW_none, errW_some] <;> rfl), bb_⟩

 subst c4
 rw [if_pos rfl] at H
 have H' := Aside0.mk H
 clear H
 go_enter Tryz.func23, Tryz.ntmps23
 go_wp2_with (first | ((with_reducible refine gate_callee (f := 35) rfl ?_); refine gl_ (some 12) Tryz.func35 #[.int .i64 a0, .int .i64 a1, .slice none 0 0] ?_; (refine (impl_isTable.calls a0 a1 _ _ ([] : List Int) true _ ?side1 ?side2 A3.out).mono ?_); (case side1 => exact Kd.C_nil _ _); (case side2 => exact Nat.le_refl _); rintro e w5 ⟨rfl, hb⟩; refine ⟨_, rfl, ?_⟩; have n0_ := Aside0.mk (bs_ hb); clear HB; have HB := n0_; clear n0_; (try clear hb)))
 go_loopg [6, 15] k (fun kq v6 v15 w' => ∃ (x6_1 : Int) (x15_1 : Int), v6 = .int .i64 x6_1 ∧ v15 = .int .i64 x15_1 ∧ Aside0 (impl_DepthOfTable.l0 kq a0 a1 x6_1 a0 x15_1 = some (r1, r2)) ∧ Aside0 (kq ≤ k) ∧ Aside0 (Below w.heap.size w w'))
 case atStart => exact ⟨(0), (0), (by first | rfl | (simp; done) | (simp [*]; done)), (by first | rfl | (simp; done) | (simp [*]; done)), H', ⟨Nat.le_refl _⟩, ⟨bb_⟩⟩
 case round =>
  clear H'
  (try clear c2); (try clear p2); (try clear c3); (try clear c4)
  obtain ⟨x6_1, x15_1, rfl, rfl, HA, HK1, HB⟩ := hrel
  cases gk with
  | zero => exact absurd HA.out (by simp [impl_DepthOfTable.l0])
  | succ k1 =>
   have H := HA.out
   clear HA
   simp only [impl_DepthOfTable.l0] at H
   by_cases c6 : x15_1 < a0
   rotate_left
   ·rw [if_neg c6] at H
    have c6b0 : decide (x15_1 < a0) = false := decide_eq_false c6
    clear c6
    simp only [Option.some.injEq, Prod.mk.injEq] at H
    obtain ⟨rfl, rfl⟩ := H
    go_wp2
    go_ret2
    exact ⟨by first | rfl | (simp [errW_none, errW_some] <;> rfl) | (simp [*, errW_none, errW_some] <;> rfl), bb_⟩
   rw [if_pos c6] at H
   have c6b0 : decide (x15_1 < a0) = true := decide_eq_true c6
   clear c6
   replace H := Option.bind_eq_some_iff.mp H
   obtain ⟨⟨t337, t338⟩, A70, H⟩ := H
   (try dsimp only at H)
   have A7 := Aside0.mk A70
   clear A70
   obtain ⟨ji8, hji8⟩ : ∃ j_ : Int, (mx x6_1 t337) = j_ := ⟨_, rfl⟩
   replace H : (impl_DepthOfTable.l0 k1 a0 a1 ji8 a0 (wrap64 (x15_1 + 1))) = some (r1, r2) := by first | (rw [hji8] at H; exact H) | (simp only [hji8] at H ⊢; exact H)
   (try rw [hji8] at A7)
   have hji8_ : (if x6_1 < t337 then t337 else x6_1) = ji8 := hji8
   have H' := Aside0.mk H
   clear H
   go_wp2_with (first | ((with_reducible refine gate_callee (f := 54) rfl ?_); refine gl_ (some 22) Tryz.func54 #[.int .i64 a0, .int .i64 a1, .int .i64 x15_1] ?_; (with_reducible refine (impl_leadOf.calls k1 a0 a1 x15_1 t337 t338 _ A7.out).mono ?_); rintro e w9 ⟨v339, rfl, ho0, hb⟩; refine ⟨_, rfl, ?_⟩; have n0_ := Aside0.mk (Kd.Q_lower ho0 bz_); have n1_ := Aside0.mk (bs_ hb); clear HB; have HO340 := n0_; have HB := n1_; clear n0_ n1_; (try clear hb); (try clear ho0)))
   go_roundg k1
   case measure => have := HK1.out; omega
   case rel => exact ⟨(ji8), (wrap64 (x15_1 + 1)), (by first | rfl | (simp; done) | (simp only [← hji8] <;> (first | rfl | simp)) | (simp [*]; done)), (by first | rfl | (simp; done) | (simp [*]; done)), H', ⟨by have := HK1.out; omega⟩, ⟨bb_⟩⟩
/-! ### given: 44_isChord.tpl -/
def impl_isChord.f (a0 : Int) (a1_0 : Int) (a1_1 : Int) : Option (Bool) := some (decide (0 ≤ a1_0 ∧ a1_0 < a1_1 ∧ a1_1 < a0))
set_option maxHeartbeats 8000000 in
set_option maxRecDepth 100000 in
theorem impl_isChord.calls (a0 : Int) (a1_0 : Int) (a1_1 : Int) (r : Bool) (w : World) (h : impl_isChord.f a0 a1_0 a1_1 = some r) :
    Calls Tryz.prog 86 #[.int .i64 a0, .agg #[.int .i64 a1_0, .int .i64 a1_1]] w fun e w' => e = .returned (.bool r) ∧ Below w.heap.size w w' := by
  have hu := Tryz.underlying41
  obtain rfl := Option.some.inj h
  clear h
  go_enter Tryz.func86, Tryz.ntmps86
  go_wp2
  all_goals
    go_ret
    refine ⟨congrArg (fun b => Ending.returned (Value.bool b)) ?_, below_alloc (Below.refl _ _) _⟩
    grind

end Go.Proofs.YteihhjieihgojaaGreat.P
