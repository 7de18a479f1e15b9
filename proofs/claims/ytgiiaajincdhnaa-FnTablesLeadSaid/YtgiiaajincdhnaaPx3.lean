/- A part of this seat's proofs: contracts of the translated functions, written by the session's own program (gp.py) out of the kit's print.py and the session's own contracts; no conditions of its own. -/
import Derived.Test.YtgiiaajincdhnaaPx0
import Derived.Test.YtgiiaajincdhnaaPx1
import Derived.Test.YtgiiaajincdhnaaPx2
namespace Go.Proofs.Ytgiiaajincdhnaa.P
open Go.RowKit Go.Proofs.YtgiiaajincdhnaaW.PrintWords Go.Proofs.YtgiiaajincdhnaaW.PrintLast Go.Proofs.YtgiiaajincdhnaaW.PrintMore
attribute [local go_sem] max2_int min2_int max_two min_two max_three min_three max_four min_four   -- for this text's walks alone
set_option linter.unusedVariables false
set_option linter.unusedSimpArgs false

/-! ### slices_Index_int_int: function 56 -/
def slices_Index_int_int.l0 : Nat → List Int → Int → Int → Int → Option (Int)
 | 0, _, _, _, _ => none
 | k + 1, x0, x1, x7, x8 => if x8 < x7 then (if 0 ≤ x8 then (if x8 < (x0.length : Int) then (if x1 = (rd x0 x8) then (some x8) else (slices_Index_int_int.l0 k x0 x1 x7 (wrap64 (x8 + 1)))) else (none)) else (none)) else (some (-1))
def slices_Index_int_int.f (k : Nat) (l0 : List Int) (a1 : Int) : Option (Int) := slices_Index_int_int.l0 k l0 a1 (l0.length : Int) 0
theorem slices_Index_int_int.mono_l : ∀ k, (∀ y0 y1 y2 y3, LeO (slices_Index_int_int.l0 k y0 y1 y2 y3) (slices_Index_int_int.l0 (k + 1) y0 y1 y2 y3))
 | 0 => fun _ _ _ _ r h => by simp [slices_Index_int_int.l0] at h
 | k + 1 => by
  have ih0 := slices_Index_int_int.mono_l k
  ·intro y0 y1 y2 y3
   unfold slices_Index_int_int.l0
   repeat' with_reducible first | apply ih0 | exact LeO.refl _ | exact LeO.none _ | refine LeO.ite ?_ ?_ | refine LeO.bind ?_ (fun _ => ?_)
theorem slices_Index_int_int.mono : ∀ a0 a1 k, LeO (slices_Index_int_int.f k a0 a1) (slices_Index_int_int.f (k + 1) a0 a1) := by
 intro a0 a1 k
 have ih0 := slices_Index_int_int.mono_l k
 unfold slices_Index_int_int.f
 repeat' with_reducible first | apply ih0 | exact LeO.refl _ | exact LeO.none _ | refine LeO.ite ?_ ?_ | refine LeO.bind ?_ (fun _ => ?_)
set_option maxHeartbeats 8000000 in
set_option maxRecDepth 100000 in
theorem slices_Index_int_int.calls (k : Nat) (A0 : Option Addr) (c0 : Nat) (l0 : List Int) (a1 : Int) (r : Int) (w : World) (hr0 : Kd.C (Kd.int .i64) w A0 l0.length l0) (hc0 : l0.length ≤ c0) (h : slices_Index_int_int.f k l0 a1 = some r) :
  Calls Try.prog 56 #[.slice A0 l0.length c0, .int .i64 a1] w fun e w' => e = .returned (.int .i64 r) ∧ Drawn0 w w' := by
 have HR0 := Aside0.mk hr0
 have HC0 := Aside0.mk hc0
 clear hr0 hc0
 have H : (slices_Index_int_int.l0 k l0 a1 (l0.length : Int) 0) = some r := h
 clear h
 have H' := Aside0.mk H
 clear H
 go_enter Try.func56, Try.ntmps56
 go_wp2
 go_loopg [8] k (fun kq v8 w' => ∃ (x8_1 : Int), v8 = .int .i64 x8_1 ∧ Aside0 (slices_Index_int_int.l0 kq l0 a1 (l0.length : Int) x8_1 = some r) ∧ Aside0 (kq ≤ k) ∧ Drawn0 w w')
 case atStart => exact ⟨(0), (by first | rfl | (simp; done) | (simp [*]; done)), H', ⟨Nat.le_refl _⟩, by repeat (first | exact Drawn0.refl _ | apply Drawn0.step)⟩
 case round =>
  clear H'
  try clear p2
  obtain ⟨x8_1, rfl, HA, HK1, ⟨m1, rfl⟩⟩ := hrel
  cases gk with
  | zero => exact absurd HA.out (by simp [slices_Index_int_int.l0])
  | succ k1 =>
   have H := HA.out
   clear HA
   simp only [slices_Index_int_int.l0] at H
   by_cases c3 : x8_1 < (l0.length : Int)
   rotate_left
   ·rw [if_neg c3] at H
    have c3b0 : decide (x8_1 < (l0.length : Int)) = false := decide_eq_false c3
    clear c3
    obtain rfl := Option.some.inj H
    go_wp2
    go_ret
    exact ⟨by first | rfl | (simp; done) | (simp [*]; done), by repeat (first | exact Drawn0.refl _ | apply Drawn0.step)⟩

   rw [if_pos c3] at H
   have c3b0 : decide (x8_1 < (l0.length : Int)) = true := decide_eq_true c3
   clear c3
   by_cases c4 : 0 ≤ x8_1
   rotate_left
   ·rw [if_neg c4] at H
    exact absurd H (by simp)
   rw [if_pos c4] at H
   have c4b0 : decide (0 ≤ x8_1) = true := decide_eq_true c4
   clear c4
   by_cases c5 : x8_1 < (l0.length : Int)
   rotate_left
   ·rw [if_neg c5] at H
    exact absurd H (by simp)
   rw [if_pos c5] at H
   have c5b0 : decide (x8_1 < (l0.length : Int)) = true := decide_eq_true c5
   clear c5
   by_cases c6 : a1 = (rd l0 x8_1)
   ·rw [if_pos c6] at H
    have c6b0 : (a1 == (rd l0 x8_1)) = true := beq_iff_eq.mpr c6
    have c6b1 : (a1 != (rd l0 x8_1)) = false := bne_eq_false_iff_eq.mpr c6
    clear c6
    obtain rfl := Option.some.inj H
    have p184 : 0 ≤ (x8_1 : Int) := of_decide_eq_true (by assumption)
    have q184 : x8_1 < (l0.length : Int) := of_decide_eq_true (by assumption)
    obtain ⟨ad184, e184, hx184_0⟩ := Kd.at_int HR0.out x8_1 p184 q184
    cases e184
    replace p184 := eq_true p184
    replace q184 := eq_true q184
    go_wp2
    go_ret
    exact ⟨by first | rfl | (simp; done) | (simp [*]; done), by repeat (first | exact Drawn0.refl _ | apply Drawn0.step)⟩
   rw [if_neg c6] at H
   have c6b0 : (a1 == (rd l0 x8_1)) = false := beq_eq_false_iff_ne.mpr c6
   have c6b1 : (a1 != (rd l0 x8_1)) = true := bne_iff_ne.mpr c6
   have H' := Aside0.mk H
   clear H
   have p184 : 0 ≤ (x8_1 : Int) := of_decide_eq_true (by assumption)
   have q184 : x8_1 < (l0.length : Int) := of_decide_eq_true (by assumption)
   obtain ⟨ad184, e184, hx184_0⟩ := Kd.at_int HR0.out x8_1 p184 q184
   cases e184
   replace p184 := eq_true p184
   replace q184 := eq_true q184
   go_wp2
   go_roundg k1
   case measure => have := HK1.out; omega
   case rel => exact ⟨(wrap64 (x8_1 + 1)), (by first | rfl | (simp; done) | (simp [*]; done)), H', ⟨by have := HK1.out; omega⟩, by repeat (first | exact Drawn0.refl _ | apply Drawn0.step)⟩
/-! ### impl_leadOf: function 38 -/
def impl_leadOf.l0 : Nat → Int → Int → Int → List Int → Option (Int × List Int)
 | 0, _, _, _, _ => none
 | k + 1, x0, x1, x2, x8 => (slices_Index_int_int.f k x8 x2).bind fun t188 => (if t188 ≥ 0 then (if 0 ≤ t188 then (if t188 ≤ (x8.length : Int) then (some (t188, (x8.drop (t188 : Int).toNat))) else (none)) else (none)) else (if x8.length < 17592186044416 then (if x0 = 0 then (none) else (impl_leadOf.l0 k x0 x1 (Int.tmod (wrap64 (x2 * x1)) x0) (x8 ++ [x2]))) else (none)))
def impl_leadOf.f (k : Nat) (a0 : Int) (a1 : Int) (a2 : Int) : Option (Int × List Int) := impl_leadOf.l0 k a0 a1 a2 (([] : List Int))
theorem impl_leadOf.mono_l : ∀ k, (∀ y0 y1 y2 y3, LeO (impl_leadOf.l0 k y0 y1 y2 y3) (impl_leadOf.l0 (k + 1) y0 y1 y2 y3))
 | 0 => fun _ _ _ _ r h => by simp [impl_leadOf.l0] at h
 | k + 1 => by
  have ih0 := impl_leadOf.mono_l k
  ·intro y0 y1 y2 y3
   unfold impl_leadOf.l0
   repeat' with_reducible first | apply ih0 | apply slices_Index_int_int.mono | exact LeO.refl _ | exact LeO.none _ | refine LeO.ite ?_ ?_ | refine LeO.bind ?_ (fun _ => ?_)
theorem impl_leadOf.mono : ∀ a0 a1 a2 k, LeO (impl_leadOf.f k a0 a1 a2) (impl_leadOf.f (k + 1) a0 a1 a2) := by
 intro a0 a1 a2 k
 have ih0 := impl_leadOf.mono_l k
 unfold impl_leadOf.f
 repeat' with_reducible first | apply ih0 | apply slices_Index_int_int.mono | exact LeO.refl _ | exact LeO.none _ | refine LeO.ite ?_ ?_ | refine LeO.bind ?_ (fun _ => ?_)
set_option maxHeartbeats 8000000 in
set_option maxRecDepth 100000 in
theorem impl_leadOf.calls (k : Nat) (a0 : Int) (a1 : Int) (a2 : Int) (r1 : Int) (r2 : List Int) (w : World) (h : impl_leadOf.f k a0 a1 a2 = some (r1, r2)) :
  Calls Try.prog 38 #[.int .i64 a0, .int .i64 a1, .int .i64 a2] w fun e w' => ∃ v1_ : Value, e = .returned (.tuple #[.int .i64 r1, v1_]) ∧ Kd.Q (Kd.int .i64) 3 w' w.heap.size (fun _ => True) v1_ r2 ∧ Below w.heap.size w w' := by
 have HB := Aside0.mk (Below.refl w.heap.size w)
 have H : (impl_leadOf.l0 k a0 a1 a2 (([] : List Int))) = some (r1, r2) := h
 clear h
 obtain ⟨y185, hy185⟩ : ∃ y_ : List Int, y_ = (([] : List Int)) := ⟨_, rfl⟩
 replace H : (impl_leadOf.l0 k a0 a1 a2 y185) = some (r1, r2) := by first | (rw [hy185]; with_reducible exact H) | (have H2_ := (Option.bind_some _ _).symm.trans H; rw [hy185]; with_reducible exact H2_) | (have H2_ := (Option.bind_some _ _).symm.trans H; with_reducible exact H2_) | with_reducible exact H | (rw [hy185]; exact H) | exact H
 have Ny185 := Aside0.mk hy185
 clear hy185
 have H' := Aside0.mk H
 clear H
 go_enter Try.func38, Try.ntmps38
 go_wp2_with (first | ((with_reducible refine gate_dst (N := 10) rfl ?_); refine Kd.R_lit (Kd.int .i64) _ 3 ?hg (N := 10) ?hd (xs := ([] : List Int)) (inner := []) (ok := fun _ => True) (okp := fun _ => True) ?hr ?hp (fun _ hk => hk) trivial (Below.refl _ _) (Nat.le_refl _) (by simp) ?_; (case hd => rfl); (case hg => rfl); (case hr => first | (go_simp; done) | (go_simp; rfl)); (case hp => exact (Reps.none _ _)); intro v186 w4 ho5 hb hg_ hnew_; clear hg_ hnew_; (first | rw [← Ny185.out] at ho5 | (simp only [Int.reduceToNat] at ho5; rw [← Ny185.out] at ho5)); have n0_ := Aside0.mk (Kd.R_lower ho5 bz_); have n1_ := Aside0.mk (bs_ hb); clear HB; have HO187 := n0_; have HB := n1_; clear n0_ n1_; clear hb ho5))
 repeat (go_quiet (first | ((with_reducible refine gate_dst (N := 10) rfl ?_); refine Kd.R_lit (Kd.int .i64) _ 3 ?hg (N := 10) ?hd (xs := ([] : List Int)) (inner := []) (ok := fun _ => True) (okp := fun _ => True) ?hr ?hp (fun _ hk => hk) trivial (Below.refl _ _) (Nat.le_refl _) (by simp) ?_; (case hd => rfl); (case hg => rfl); (case hr => first | (go_simp; done) | (go_simp; rfl)); (case hp => exact (Reps.none _ _)); intro v186 w4 ho5 hb hg_ hnew_; clear hg_ hnew_; (first | rw [← Ny185.out] at ho5 | (simp only [Int.reduceToNat] at ho5; rw [← Ny185.out] at ho5)); have n0_ := Aside0.mk (Kd.R_lower ho5 bz_); have n1_ := Aside0.mk (bs_ hb); clear HB; have HO187 := n0_; have HB := n1_; clear n0_ n1_; clear hb ho5)); try go_wp2_with (first | ((with_reducible refine gate_dst (N := 10) rfl ?_); refine Kd.R_lit (Kd.int .i64) _ 3 ?hg (N := 10) ?hd (xs := ([] : List Int)) (inner := []) (ok := fun _ => True) (okp := fun _ => True) ?hr ?hp (fun _ hk => hk) trivial (Below.refl _ _) (Nat.le_refl _) (by simp) ?_; (case hd => rfl); (case hg => rfl); (case hr => first | (go_simp; done) | (go_simp; rfl)); (case hp => exact (Reps.none _ _)); intro v186 w4 ho5 hb hg_ hnew_; clear hg_ hnew_; (first | rw [← Ny185.out] at ho5 | (simp only [Int.reduceToNat] at ho5; rw [← Ny185.out] at ho5)); have n0_ := Aside0.mk (Kd.R_lower ho5 bz_); have n1_ := Aside0.mk (bs_ hb); clear HB; have HO187 := n0_; have HB := n1_; clear n0_ n1_; clear hb ho5)))
 go_loopg [2, 8] k (fun kq v2 v8 w' => ∃ (x2_1 : Int) (x8_1 : List Int), v2 = .int .i64 x2_1 ∧ Aside0 (impl_leadOf.l0 kq a0 a1 x2_1 x8_1 = some (r1, r2)) ∧ Aside0 (kq ≤ k) ∧ Aside0 (Kd.R (Kd.int .i64) 3 w' w.heap.size (fun _ => True) v8 x8_1) ∧ Aside0 (Below w.heap.size w w'))
 case atStart => exact ⟨(a2), (y185), (by first | rfl | (simp; done) | (simp [*]; done)), H', ⟨Nat.le_refl _⟩, ⟨by (with_reducible repeat (first | apply Kd.R_alloc | apply Kd.R_drewN | apply Kd.R_drew)); exact HO187.out⟩, ⟨bb_⟩⟩
 case round =>
  clear H'
  (try clear p2); (try clear c3)
  obtain ⟨x2_1, x8_1, rfl, HA, HK1, HO_8, HB⟩ := hrel
  cases gk with
  | zero => exact absurd HA.out (by simp [impl_leadOf.l0])
  | succ k1 =>
   have H := HA.out
   clear HA
   simp only [impl_leadOf.l0] at H
   replace H := Option.bind_eq_some_iff.mp H
   obtain ⟨t188, A60, H⟩ := H
   (try dsimp only at H)
   have A6 := Aside0.mk A60
   clear A60
   by_cases c7 : t188 ≥ 0
   ·rw [if_pos c7] at H
    have c7b0 : decide (0 ≤ t188) = true := decide_eq_true c7
    clear c7
    by_cases c8 : 0 ≤ t188
    ·rw [if_pos c8] at H
     have c8b0 := eq_true c8
     have c8b1 : decide (0 ≤ t188) = true := decide_eq_true c8
     clear c8
     by_cases c9 : t188 ≤ (x8_1.length : Int)
     ·rw [if_pos c9] at H
      have c9b0 := eq_true c9
      have c9b1 : decide (t188 ≤ (x8_1.length : Int)) = true := decide_eq_true c9
      clear c9
      obtain ⟨y189, hy189⟩ : ∃ y_ : List Int, y_ = (x8_1.drop (t188 : Int).toNat) := ⟨_, rfl⟩
      replace H : (some (t188, y189)) = some (r1, r2) := by first | (rw [hy189]; with_reducible exact H) | (have H2_ := (Option.bind_some _ _).symm.trans H; rw [hy189]; with_reducible exact H2_) | (have H2_ := (Option.bind_some _ _).symm.trans H; with_reducible exact H2_) | with_reducible exact H | (rw [hy189]; exact H) | exact H
      have Ny189 := Aside0.mk hy189
      clear hy189
      simp only [Option.some.injEq, Prod.mk.injEq] at H
      obtain ⟨rfl, rfl⟩ := H
      obtain ⟨Ao10, co10, eo10⟩ := Kd.R_slice HO_8.out
      subst eo10
      go_wp2_with (first | (go_at_call 56; (with_reducible refine (slices_Index_int_int.calls k1 _ _ x8_1 x2_1 t188 _ ?side1 ?side2 A6.out).mono ?_); (case side1 => exact cu_ (Kd.R_reads' HO_8.out).2.2); (case side2 => exact (Kd.R_reads' HO_8.out).2.1); rintro e w' ⟨rfl, ⟨nd, rfl⟩⟩; (try first | exact ⟨rfl, _, dn_⟩ | exact ⟨rfl, _, dm_⟩); have q11 : (t188 : Int) ≤ ((x8_1.length : Int) : Int) := of_decide_eq_true (by assumption); obtain ⟨i011, hi011, _, hsz11, _⟩ := info_parts info3; have hcut11 := cut_from (P := Try.prog) 33 3 .i64 Try.underlying33 hi011 1 hsz11 Ao10 x8_1.length co10 t188 (of_decide_eq_true (by assumption)) q11; have hr11 := Kd.Q_drop (k := (t188 : Int).toNat) (Kd.Q_of_R HO_8.out) (by omega); obtain ⟨A11, hA11⟩ : ∃ A1, A1 = (if co10 = (t188 : Int).toNat then Ao10 else (Ao10 : Option Addr).map (·.add ((t188 : Int).toNat * 1))) := ⟨_, rfl⟩; obtain ⟨c11, hc11⟩ : ∃ c1, c1 = co10 - (t188 : Int).toNat := ⟨_, rfl⟩; have hy11 : y189.length = x8_1.length - (t188 : Int).toNat := (by rw [Ny189.out, List.length_drop]); rw [← Ny189.out] at hr11; rw [← hy11, ← hA11, ← hc11] at hcut11; replace hr11 : Kd.Q (Kd.int .i64) 3 wr w.heap.size (fun _ => True) (.slice A11 y189.length c11) y189 := (by rw [hA11, hc11, hy11]; exact hr11); have HE11 : Aside0 ((Value.slice A11 y189.length c11).ownBlock = (.slice Ao10 x8_1.length co10 : Value).ownBlock) := ⟨by rw [hA11]; split <;> (cases (Ao10 : Option Addr) <;> first | rfl | (simp only [Value.ownBlock, Option.map, Addr.add]; split <;> rfl))⟩; clear hy11 hi011 hsz11 HO_8 hA11 hc11; have HO191 := Aside0.mk hr11; clear hr11; replace q11 := eq_true q11))
      repeat (go_quiet (first | (go_at_call 56; (with_reducible refine (slices_Index_int_int.calls k1 _ _ x8_1 x2_1 t188 _ ?side1 ?side2 A6.out).mono ?_); (case side1 => exact cu_ (Kd.R_reads' HO_8.out).2.2); (case side2 => exact (Kd.R_reads' HO_8.out).2.1); rintro e w' ⟨rfl, ⟨nd, rfl⟩⟩; (try first | exact ⟨rfl, _, dn_⟩ | exact ⟨rfl, _, dm_⟩); have q11 : (t188 : Int) ≤ ((x8_1.length : Int) : Int) := of_decide_eq_true (by assumption); obtain ⟨i011, hi011, _, hsz11, _⟩ := info_parts info3; have hcut11 := cut_from (P := Try.prog) 33 3 .i64 Try.underlying33 hi011 1 hsz11 Ao10 x8_1.length co10 t188 (of_decide_eq_true (by assumption)) q11; have hr11 := Kd.Q_drop (k := (t188 : Int).toNat) (Kd.Q_of_R HO_8.out) (by omega); obtain ⟨A11, hA11⟩ : ∃ A1, A1 = (if co10 = (t188 : Int).toNat then Ao10 else (Ao10 : Option Addr).map (·.add ((t188 : Int).toNat * 1))) := ⟨_, rfl⟩; obtain ⟨c11, hc11⟩ : ∃ c1, c1 = co10 - (t188 : Int).toNat := ⟨_, rfl⟩; have hy11 : y189.length = x8_1.length - (t188 : Int).toNat := (by rw [Ny189.out, List.length_drop]); rw [← Ny189.out] at hr11; rw [← hy11, ← hA11, ← hc11] at hcut11; replace hr11 : Kd.Q (Kd.int .i64) 3 wr w.heap.size (fun _ => True) (.slice A11 y189.length c11) y189 := (by rw [hA11, hc11, hy11]; exact hr11); have HE11 : Aside0 ((Value.slice A11 y189.length c11).ownBlock = (.slice Ao10 x8_1.length co10 : Value).ownBlock) := ⟨by rw [hA11]; split <;> (cases (Ao10 : Option Addr) <;> first | rfl | (simp only [Value.ownBlock, Option.map, Addr.add]; split <;> rfl))⟩; clear hy11 hi011 hsz11 HO_8 hA11 hc11; have HO191 := Aside0.mk hr11; clear hr11; replace q11 := eq_true q11)); try go_wp2_with (first | (go_at_call 56; (with_reducible refine (slices_Index_int_int.calls k1 _ _ x8_1 x2_1 t188 _ ?side1 ?side2 A6.out).mono ?_); (case side1 => exact cu_ (Kd.R_reads' HO_8.out).2.2); (case side2 => exact (Kd.R_reads' HO_8.out).2.1); rintro e w' ⟨rfl, ⟨nd, rfl⟩⟩; (try first | exact ⟨rfl, _, dn_⟩ | exact ⟨rfl, _, dm_⟩); have q11 : (t188 : Int) ≤ ((x8_1.length : Int) : Int) := of_decide_eq_true (by assumption); obtain ⟨i011, hi011, _, hsz11, _⟩ := info_parts info3; have hcut11 := cut_from (P := Try.prog) 33 3 .i64 Try.underlying33 hi011 1 hsz11 Ao10 x8_1.length co10 t188 (of_decide_eq_true (by assumption)) q11; have hr11 := Kd.Q_drop (k := (t188 : Int).toNat) (Kd.Q_of_R HO_8.out) (by omega); obtain ⟨A11, hA11⟩ : ∃ A1, A1 = (if co10 = (t188 : Int).toNat then Ao10 else (Ao10 : Option Addr).map (·.add ((t188 : Int).toNat * 1))) := ⟨_, rfl⟩; obtain ⟨c11, hc11⟩ : ∃ c1, c1 = co10 - (t188 : Int).toNat := ⟨_, rfl⟩; have hy11 : y189.length = x8_1.length - (t188 : Int).toNat := (by rw [Ny189.out, List.length_drop]); rw [← Ny189.out] at hr11; rw [← hy11, ← hA11, ← hc11] at hcut11; replace hr11 : Kd.Q (Kd.int .i64) 3 wr w.heap.size (fun _ => True) (.slice A11 y189.length c11) y189 := (by rw [hA11, hc11, hy11]; exact hr11); have HE11 : Aside0 ((Value.slice A11 y189.length c11).ownBlock = (.slice Ao10 x8_1.length co10 : Value).ownBlock) := ⟨by rw [hA11]; split <;> (cases (Ao10 : Option Addr) <;> first | rfl | (simp only [Value.ownBlock, Option.map, Addr.add]; split <;> rfl))⟩; clear hy11 hi011 hsz11 HO_8 hA11 hc11; have HO191 := Aside0.mk hr11; clear hr11; replace q11 := eq_true q11)))
      go_ret2
      exact ⟨_, by first | rfl | (simp [errW_none, errW_some] <;> rfl) | (simp [*, errW_none, errW_some] <;> rfl), by (with_reducible repeat (first | apply Kd.Q_alloc | apply Kd.Q_drewN | apply Kd.Q_drew)); exact HO191.out, bb_⟩
     ·rw [if_neg c9] at H
      exact absurd H (by simp)
    ·rw [if_neg c8] at H
     exact absurd H (by simp)
   ·rw [if_neg c7] at H
    have c7b0 : decide (0 ≤ t188) = false := decide_eq_false c7
    clear c7
    by_cases c12 : x8_1.length < 17592186044416
    ·rw [if_pos c12] at H
     have LMc12 := Aside0.mk c12
     clear c12
     obtain ⟨y192, hy192⟩ : ∃ y_ : List Int, y_ = (x8_1 ++ [x2_1]) := ⟨_, rfl⟩
     replace H : (if a0 = 0 then (none) else (impl_leadOf.l0 k1 a0 a1 (Int.tmod (wrap64 (x2_1 * a1)) a0) y192)) = some (r1, r2) := by first | (rw [hy192]; with_reducible exact H) | (have H2_ := (Option.bind_some _ _).symm.trans H; rw [hy192]; with_reducible exact H2_) | (have H2_ := (Option.bind_some _ _).symm.trans H; with_reducible exact H2_) | with_reducible exact H | (rw [hy192]; exact H) | exact H
     have Ny192 := Aside0.mk hy192
     clear hy192
     by_cases c13 : a0 = 0
     ·rw [if_pos c13] at H
      exact absurd H (by simp)
     ·rw [if_neg c13] at H
      have c13b0 : (a0 == 0) = false := beq_eq_false_iff_ne.mpr c13
      have c13b1 : (a0 != 0) = true := bne_iff_ne.mpr c13
      have H' := Aside0.mk H
      clear H
      obtain ⟨Ao14, co14, eo14⟩ := Kd.R_slice HO_8.out
      subst eo14
      go_wp2_with (first | (go_at_call 56; (with_reducible refine (slices_Index_int_int.calls k1 _ _ x8_1 x2_1 t188 _ ?side1 ?side2 A6.out).mono ?_); (case side1 => exact cu_ (Kd.R_reads' HO_8.out).2.2); (case side2 => exact (Kd.R_reads' HO_8.out).2.1); rintro e w' ⟨rfl, ⟨nd, rfl⟩⟩; (try first | exact ⟨rfl, _, dn_⟩ | exact ⟨rfl, _, dm_⟩)) | ((with_reducible refine gate_builtin (b := .append) (xs := #[.tmp 20, .tmp 22]) rfl ?_); at_builtin; refine Kd.R_append (Kd.int .i64) (w0 := w) w.heap.size rfl (.tmp 20) (.tmp 22) 33 3 (.int .i64 0) 8 rfl Try.underlying33 info3 rfl (by decide) (by omega) (.slice Ao14 x8_1.length co14) x8_1 x2_1 [.int .i64 x2_1] (fun _ => True) (fun _ => False) rfl rfl ?aP (fun _ hk => hk.elim) ?aF ?aO ?aB ?aS ?aL ?_; (case aP => exact rfl); (case aB => exact bb_); (case aF => exact (fun _ _ => trivial)); (case aO => exact (ru_ HO_8.out)); (case aS => exact bz_); (case aL => have := LMc12.out; omega); intro v193 w15 ho hb hg hat; rw [← Ny192.out] at ho; have n0_ := Aside0.mk (hb); have n1_ := Aside0.mk (ho); clear HB; clear HO_8; have HB := n0_; have HO194 := n1_; clear n0_ n1_; clear ho hb hg hat))
      repeat (go_quiet (first | (go_at_call 56; (with_reducible refine (slices_Index_int_int.calls k1 _ _ x8_1 x2_1 t188 _ ?side1 ?side2 A6.out).mono ?_); (case side1 => exact cu_ (Kd.R_reads' HO_8.out).2.2); (case side2 => exact (Kd.R_reads' HO_8.out).2.1); rintro e w' ⟨rfl, ⟨nd, rfl⟩⟩; (try first | exact ⟨rfl, _, dn_⟩ | exact ⟨rfl, _, dm_⟩)) | ((with_reducible refine gate_builtin (b := .append) (xs := #[.tmp 20, .tmp 22]) rfl ?_); at_builtin; refine Kd.R_append (Kd.int .i64) (w0 := w) w.heap.size rfl (.tmp 20) (.tmp 22) 33 3 (.int .i64 0) 8 rfl Try.underlying33 info3 rfl (by decide) (by omega) (.slice Ao14 x8_1.length co14) x8_1 x2_1 [.int .i64 x2_1] (fun _ => True) (fun _ => False) rfl rfl ?aP (fun _ hk => hk.elim) ?aF ?aO ?aB ?aS ?aL ?_; (case aP => exact rfl); (case aB => exact bb_); (case aF => exact (fun _ _ => trivial)); (case aO => exact (ru_ HO_8.out)); (case aS => exact bz_); (case aL => have := LMc12.out; omega); intro v193 w15 ho hb hg hat; rw [← Ny192.out] at ho; have n0_ := Aside0.mk (hb); have n1_ := Aside0.mk (ho); clear HB; clear HO_8; have HB := n0_; have HO194 := n1_; clear n0_ n1_; clear ho hb hg hat)); try go_wp2_with (first | (go_at_call 56; (with_reducible refine (slices_Index_int_int.calls k1 _ _ x8_1 x2_1 t188 _ ?side1 ?side2 A6.out).mono ?_); (case side1 => exact cu_ (Kd.R_reads' HO_8.out).2.2); (case side2 => exact (Kd.R_reads' HO_8.out).2.1); rintro e w' ⟨rfl, ⟨nd, rfl⟩⟩; (try first | exact ⟨rfl, _, dn_⟩ | exact ⟨rfl, _, dm_⟩)) | ((with_reducible refine gate_builtin (b := .append) (xs := #[.tmp 20, .tmp 22]) rfl ?_); at_builtin; refine Kd.R_append (Kd.int .i64) (w0 := w) w.heap.size rfl (.tmp 20) (.tmp 22) 33 3 (.int .i64 0) 8 rfl Try.underlying33 info3 rfl (by decide) (by omega) (.slice Ao14 x8_1.length co14) x8_1 x2_1 [.int .i64 x2_1] (fun _ => True) (fun _ => False) rfl rfl ?aP (fun _ hk => hk.elim) ?aF ?aO ?aB ?aS ?aL ?_; (case aP => exact rfl); (case aB => exact bb_); (case aF => exact (fun _ _ => trivial)); (case aO => exact (ru_ HO_8.out)); (case aS => exact bz_); (case aL => have := LMc12.out; omega); intro v193 w15 ho hb hg hat; rw [← Ny192.out] at ho; have n0_ := Aside0.mk (hb); have n1_ := Aside0.mk (ho); clear HB; clear HO_8; have HB := n0_; have HO194 := n1_; clear n0_ n1_; clear ho hb hg hat)))
      go_roundg k1
      case measure => have := HK1.out; omega
      case rel => exact ⟨(Int.tmod (wrap64 (x2_1 * a1)) a0), (y192), (by first | rfl | (simp; done) | (simp [*]; done)), H', ⟨by have := HK1.out; omega⟩, ⟨by (with_reducible repeat (first | apply Kd.R_alloc | apply Kd.R_drewN | apply Kd.R_drew)); exact HO194.out⟩, ⟨bb_⟩⟩
    ·rw [if_neg c12] at H
     exact absurd H (by simp)

set_option maxHeartbeats 8000000 in
set_option maxRecDepth 100000 in
theorem impl_leadOf.callsR (k : Nat) (a0 : Int) (a1 : Int) (a2 : Int) (r1 : Int) (r2 : List Int) (w : World) (h : impl_leadOf.f k a0 a1 a2 = some (r1, r2)) :
  Calls Try.prog 38 #[.int .i64 a0, .int .i64 a1, .int .i64 a2] w fun e w' => ∃ v1_ : Value, e = .returned (.tuple #[.int .i64 r1, v1_]) ∧ (r1 = 0 → Kd.R (Kd.int .i64) 3 w' w.heap.size (fun _ => True) v1_ r2) ∧ Below w.heap.size w w' := by
 have HB := Aside0.mk (Below.refl w.heap.size w)
 have H : (impl_leadOf.l0 k a0 a1 a2 (([] : List Int))) = some (r1, r2) := h
 clear h
 obtain ⟨y185, hy185⟩ : ∃ y_ : List Int, y_ = (([] : List Int)) := ⟨_, rfl⟩
 replace H : (impl_leadOf.l0 k a0 a1 a2 y185) = some (r1, r2) := by first | (rw [hy185]; with_reducible exact H) | (have H2_ := (Option.bind_some _ _).symm.trans H; rw [hy185]; with_reducible exact H2_) | (have H2_ := (Option.bind_some _ _).symm.trans H; with_reducible exact H2_) | with_reducible exact H | (rw [hy185]; exact H) | exact H
 have Ny185 := Aside0.mk hy185
 clear hy185
 have H' := Aside0.mk H
 clear H
 go_enter Try.func38, Try.ntmps38
 go_wp2_with (first | ((with_reducible refine gate_dst (N := 10) rfl ?_); refine Kd.R_lit (Kd.int .i64) _ 3 ?hg (N := 10) ?hd (xs := ([] : List Int)) (inner := []) (ok := fun _ => True) (okp := fun _ => True) ?hr ?hp (fun _ hk => hk) trivial (Below.refl _ _) (Nat.le_refl _) (by simp) ?_; (case hd => rfl); (case hg => rfl); (case hr => first | (go_simp; done) | (go_simp; rfl)); (case hp => exact (Reps.none _ _)); intro v186 w4 ho5 hb hg_ hnew_; clear hg_ hnew_; (first | rw [← Ny185.out] at ho5 | (simp only [Int.reduceToNat] at ho5; rw [← Ny185.out] at ho5)); have n0_ := Aside0.mk (Kd.R_lower ho5 bz_); have n1_ := Aside0.mk (bs_ hb); clear HB; have HO187 := n0_; have HB := n1_; clear n0_ n1_; clear hb ho5))
 repeat (go_quiet (first | ((with_reducible refine gate_dst (N := 10) rfl ?_); refine Kd.R_lit (Kd.int .i64) _ 3 ?hg (N := 10) ?hd (xs := ([] : List Int)) (inner := []) (ok := fun _ => True) (okp := fun _ => True) ?hr ?hp (fun _ hk => hk) trivial (Below.refl _ _) (Nat.le_refl _) (by simp) ?_; (case hd => rfl); (case hg => rfl); (case hr => first | (go_simp; done) | (go_simp; rfl)); (case hp => exact (Reps.none _ _)); intro v186 w4 ho5 hb hg_ hnew_; clear hg_ hnew_; (first | rw [← Ny185.out] at ho5 | (simp only [Int.reduceToNat] at ho5; rw [← Ny185.out] at ho5)); have n0_ := Aside0.mk (Kd.R_lower ho5 bz_); have n1_ := Aside0.mk (bs_ hb); clear HB; have HO187 := n0_; have HB := n1_; clear n0_ n1_; clear hb ho5)); try go_wp2_with (first | ((with_reducible refine gate_dst (N := 10) rfl ?_); refine Kd.R_lit (Kd.int .i64) _ 3 ?hg (N := 10) ?hd (xs := ([] : List Int)) (inner := []) (ok := fun _ => True) (okp := fun _ => True) ?hr ?hp (fun _ hk => hk) trivial (Below.refl _ _) (Nat.le_refl _) (by simp) ?_; (case hd => rfl); (case hg => rfl); (case hr => first | (go_simp; done) | (go_simp; rfl)); (case hp => exact (Reps.none _ _)); intro v186 w4 ho5 hb hg_ hnew_; clear hg_ hnew_; (first | rw [← Ny185.out] at ho5 | (simp only [Int.reduceToNat] at ho5; rw [← Ny185.out] at ho5)); have n0_ := Aside0.mk (Kd.R_lower ho5 bz_); have n1_ := Aside0.mk (bs_ hb); clear HB; have HO187 := n0_; have HB := n1_; clear n0_ n1_; clear hb ho5)))
 go_loopg [2, 8] k (fun kq v2 v8 w' => ∃ (x2_1 : Int) (x8_1 : List Int), v2 = .int .i64 x2_1 ∧ Aside0 (impl_leadOf.l0 kq a0 a1 x2_1 x8_1 = some (r1, r2)) ∧ Aside0 (kq ≤ k) ∧ Aside0 (Kd.R (Kd.int .i64) 3 w' w.heap.size (fun _ => True) v8 x8_1) ∧ Aside0 (Below w.heap.size w w'))
 case atStart => exact ⟨(a2), (y185), (by first | rfl | (simp; done) | (simp [*]; done)), H', ⟨Nat.le_refl _⟩, ⟨by (with_reducible repeat (first | apply Kd.R_alloc | apply Kd.R_drewN | apply Kd.R_drew)); exact HO187.out⟩, ⟨bb_⟩⟩
 case round =>
  clear H'
  (try clear p2); (try clear c3)
  obtain ⟨x2_1, x8_1, rfl, HA, HK1, HO_8, HB⟩ := hrel
  cases gk with
  | zero => exact absurd HA.out (by simp [impl_leadOf.l0])
  | succ k1 =>
   have H := HA.out
   clear HA
   simp only [impl_leadOf.l0] at H
   replace H := Option.bind_eq_some_iff.mp H
   obtain ⟨t188, A60, H⟩ := H
   (try dsimp only at H)
   have A6 := Aside0.mk A60
   clear A60
   by_cases c7 : t188 ≥ 0
   rotate_left
   ·rw [if_neg c7] at H
    have c7b0 : decide (0 ≤ t188) = false := decide_eq_false c7
    clear c7
    by_cases c12 : x8_1.length < 17592186044416
    rotate_left
    ·rw [if_neg c12] at H
     exact absurd H (by simp)

    rw [if_pos c12] at H
    have LMc12 := Aside0.mk c12
    clear c12
    obtain ⟨y192, hy192⟩ : ∃ y_ : List Int, y_ = (x8_1 ++ [x2_1]) := ⟨_, rfl⟩
    replace H : (if a0 = 0 then (none) else (impl_leadOf.l0 k1 a0 a1 (Int.tmod (wrap64 (x2_1 * a1)) a0) y192)) = some (r1, r2) := by first | (rw [hy192]; with_reducible exact H) | (have H2_ := (Option.bind_some _ _).symm.trans H; rw [hy192]; with_reducible exact H2_) | (have H2_ := (Option.bind_some _ _).symm.trans H; with_reducible exact H2_) | with_reducible exact H | (rw [hy192]; exact H) | exact H
    have Ny192 := Aside0.mk hy192
    clear hy192
    by_cases c13 : a0 = 0
    ·rw [if_pos c13] at H
     exact absurd H (by simp)
    rw [if_neg c13] at H
    have c13b0 : (a0 == 0) = false := beq_eq_false_iff_ne.mpr c13
    have c13b1 : (a0 != 0) = true := bne_iff_ne.mpr c13
    have H' := Aside0.mk H
    clear H
    obtain ⟨Ao14, co14, eo14⟩ := Kd.R_slice HO_8.out
    subst eo14
    go_wp2_with (first | (go_at_call 56; (with_reducible refine (slices_Index_int_int.calls k1 _ _ x8_1 x2_1 t188 _ ?side1 ?side2 A6.out).mono ?_); (case side1 => exact cu_ (Kd.R_reads' HO_8.out).2.2); (case side2 => exact (Kd.R_reads' HO_8.out).2.1); rintro e w' ⟨rfl, ⟨nd, rfl⟩⟩; (try first | exact ⟨rfl, _, dn_⟩ | exact ⟨rfl, _, dm_⟩)) | ((with_reducible refine gate_builtin (b := .append) (xs := #[.tmp 20, .tmp 22]) rfl ?_); at_builtin; refine Kd.R_append (Kd.int .i64) (w0 := w) w.heap.size rfl (.tmp 20) (.tmp 22) 33 3 (.int .i64 0) 8 rfl Try.underlying33 info3 rfl (by decide) (by omega) (.slice Ao14 x8_1.length co14) x8_1 x2_1 [.int .i64 x2_1] (fun _ => True) (fun _ => False) rfl rfl ?aP (fun _ hk => hk.elim) ?aF ?aO ?aB ?aS ?aL ?_; (case aP => exact rfl); (case aB => exact bb_); (case aF => exact (fun _ _ => trivial)); (case aO => exact (ru_ HO_8.out)); (case aS => exact bz_); (case aL => have := LMc12.out; omega); intro v193 w15 ho hb hg hat; rw [← Ny192.out] at ho; have n0_ := Aside0.mk (hb); have n1_ := Aside0.mk (ho); clear HB; clear HO_8; have HB := n0_; have HO194 := n1_; clear n0_ n1_; clear ho hb hg hat))
    repeat (go_quiet (first | (go_at_call 56; (with_reducible refine (slices_Index_int_int.calls k1 _ _ x8_1 x2_1 t188 _ ?side1 ?side2 A6.out).mono ?_); (case side1 => exact cu_ (Kd.R_reads' HO_8.out).2.2); (case side2 => exact (Kd.R_reads' HO_8.out).2.1); rintro e w' ⟨rfl, ⟨nd, rfl⟩⟩; (try first | exact ⟨rfl, _, dn_⟩ | exact ⟨rfl, _, dm_⟩)) | ((with_reducible refine gate_builtin (b := .append) (xs := #[.tmp 20, .tmp 22]) rfl ?_); at_builtin; refine Kd.R_append (Kd.int .i64) (w0 := w) w.heap.size rfl (.tmp 20) (.tmp 22) 33 3 (.int .i64 0) 8 rfl Try.underlying33 info3 rfl (by decide) (by omega) (.slice Ao14 x8_1.length co14) x8_1 x2_1 [.int .i64 x2_1] (fun _ => True) (fun _ => False) rfl rfl ?aP (fun _ hk => hk.elim) ?aF ?aO ?aB ?aS ?aL ?_; (case aP => exact rfl); (case aB => exact bb_); (case aF => exact (fun _ _ => trivial)); (case aO => exact (ru_ HO_8.out)); (case aS => exact bz_); (case aL => have := LMc12.out; omega); intro v193 w15 ho hb hg hat; rw [← Ny192.out] at ho; have n0_ := Aside0.mk (hb); have n1_ := Aside0.mk (ho); clear HB; clear HO_8; have HB := n0_; have HO194 := n1_; clear n0_ n1_; clear ho hb hg hat)); try go_wp2_with (first | (go_at_call 56; (with_reducible refine (slices_Index_int_int.calls k1 _ _ x8_1 x2_1 t188 _ ?side1 ?side2 A6.out).mono ?_); (case side1 => exact cu_ (Kd.R_reads' HO_8.out).2.2); (case side2 => exact (Kd.R_reads' HO_8.out).2.1); rintro e w' ⟨rfl, ⟨nd, rfl⟩⟩; (try first | exact ⟨rfl, _, dn_⟩ | exact ⟨rfl, _, dm_⟩)) | ((with_reducible refine gate_builtin (b := .append) (xs := #[.tmp 20, .tmp 22]) rfl ?_); at_builtin; refine Kd.R_append (Kd.int .i64) (w0 := w) w.heap.size rfl (.tmp 20) (.tmp 22) 33 3 (.int .i64 0) 8 rfl Try.underlying33 info3 rfl (by decide) (by omega) (.slice Ao14 x8_1.length co14) x8_1 x2_1 [.int .i64 x2_1] (fun _ => True) (fun _ => False) rfl rfl ?aP (fun _ hk => hk.elim) ?aF ?aO ?aB ?aS ?aL ?_; (case aP => exact rfl); (case aB => exact bb_); (case aF => exact (fun _ _ => trivial)); (case aO => exact (ru_ HO_8.out)); (case aS => exact bz_); (case aL => have := LMc12.out; omega); intro v193 w15 ho hb hg hat; rw [← Ny192.out] at ho; have n0_ := Aside0.mk (hb); have n1_ := Aside0.mk (ho); clear HB; clear HO_8; have HB := n0_; have HO194 := n1_; clear n0_ n1_; clear ho hb hg hat)))
    go_roundg k1
    case measure => have := HK1.out; omega
    case rel => exact ⟨(Int.tmod (wrap64 (x2_1 * a1)) a0), (y192), (by first | rfl | (simp; done) | (simp [*]; done)), H', ⟨by have := HK1.out; omega⟩, ⟨by (with_reducible repeat (first | apply Kd.R_alloc | apply Kd.R_drewN | apply Kd.R_drew)); exact HO194.out⟩, ⟨bb_⟩⟩
   rw [if_pos c7] at H
   have c7b0 : decide (0 ≤ t188) = true := decide_eq_true c7
   clear c7
   by_cases c8 : 0 ≤ t188
   rotate_left
   ·rw [if_neg c8] at H
    exact absurd H (by simp)
   rw [if_pos c8] at H
   have c8b0 := eq_true c8
   have c8b1 : decide (0 ≤ t188) = true := decide_eq_true c8
   clear c8
   by_cases c9 : t188 ≤ (x8_1.length : Int)
   rotate_left
   ·rw [if_neg c9] at H
    exact absurd H (by simp)
   rw [if_pos c9] at H
   have c9b0 := eq_true c9
   have c9b1 : decide (t188 ≤ (x8_1.length : Int)) = true := decide_eq_true c9
   clear c9
   obtain ⟨y189, hy189⟩ : ∃ y_ : List Int, y_ = (x8_1.drop (t188 : Int).toNat) := ⟨_, rfl⟩
   replace H : (some (t188, y189)) = some (r1, r2) := by first | (rw [hy189]; with_reducible exact H) | (have H2_ := (Option.bind_some _ _).symm.trans H; rw [hy189]; with_reducible exact H2_) | (have H2_ := (Option.bind_some _ _).symm.trans H; with_reducible exact H2_) | with_reducible exact H | (rw [hy189]; exact H) | exact H
   have Ny189 := Aside0.mk hy189
   clear hy189
   simp only [Option.some.injEq, Prod.mk.injEq] at H
   obtain ⟨rfl, rfl⟩ := H
   obtain ⟨Ao10, co10, eo10⟩ := Kd.R_slice HO_8.out
   subst eo10
   go_wp2_with (first | (go_at_call 56; (with_reducible refine (slices_Index_int_int.calls k1 _ _ x8_1 x2_1 t188 _ ?side1 ?side2 A6.out).mono ?_); (case side1 => exact cu_ (Kd.R_reads' HO_8.out).2.2); (case side2 => exact (Kd.R_reads' HO_8.out).2.1); rintro e w' ⟨rfl, ⟨nd, rfl⟩⟩; (try first | exact ⟨rfl, _, dn_⟩ | exact ⟨rfl, _, dm_⟩); have q11 : (t188 : Int) ≤ ((x8_1.length : Int) : Int) := of_decide_eq_true (by assumption); obtain ⟨i011, hi011, _, hsz11, _⟩ := info_parts info3; have hcut11 := cut_from (P := Try.prog) 33 3 .i64 Try.underlying33 hi011 1 hsz11 Ao10 x8_1.length co10 t188 (of_decide_eq_true (by assumption)) q11; have hr11 := Kd.Q_drop (k := (t188 : Int).toNat) (Kd.Q_of_R HO_8.out) (by omega); obtain ⟨A11, hA11⟩ : ∃ A1, A1 = (if co10 = (t188 : Int).toNat then Ao10 else (Ao10 : Option Addr).map (·.add ((t188 : Int).toNat * 1))) := ⟨_, rfl⟩; obtain ⟨c11, hc11⟩ : ∃ c1, c1 = co10 - (t188 : Int).toNat := ⟨_, rfl⟩; have hy11 : y189.length = x8_1.length - (t188 : Int).toNat := (by rw [Ny189.out, List.length_drop]); rw [← Ny189.out] at hr11; rw [← hy11, ← hA11, ← hc11] at hcut11; replace hr11 : Kd.Q (Kd.int .i64) 3 wr w.heap.size (fun _ => True) (.slice A11 y189.length c11) y189 := (by rw [hA11, hc11, hy11]; exact hr11); have HE11 : Aside0 ((Value.slice A11 y189.length c11).ownBlock = (.slice Ao10 x8_1.length co10 : Value).ownBlock) := ⟨by rw [hA11]; split <;> (cases (Ao10 : Option Addr) <;> first | rfl | (simp only [Value.ownBlock, Option.map, Addr.add]; split <;> rfl))⟩; have HR99 : Aside0 (t188 = 0 → Kd.R (Kd.int .i64) 3 wr w.heap.size (fun _ => True) (.slice A11 y189.length c11) y189) := ⟨fun h0 => by (have e1 : (if co10 = (0 : Int).toNat then Ao10 else (Ao10 : Option Addr).map (·.add ((0 : Int).toNat * 1))) = Ao10 := by cases (Ao10 : Option Addr) <;> simp [Addr.add]); rw [hA11, hc11, Ny189.out, h0, e1]; simp only [Int.toNat_zero, List.drop_zero, Nat.sub_zero]; exact HO_8.out⟩; clear hy11 hi011 hsz11 HO_8 hA11 hc11; have HO191 := Aside0.mk hr11; clear hr11; replace q11 := eq_true q11))
   repeat (go_quiet (first | (go_at_call 56; (with_reducible refine (slices_Index_int_int.calls k1 _ _ x8_1 x2_1 t188 _ ?side1 ?side2 A6.out).mono ?_); (case side1 => exact cu_ (Kd.R_reads' HO_8.out).2.2); (case side2 => exact (Kd.R_reads' HO_8.out).2.1); rintro e w' ⟨rfl, ⟨nd, rfl⟩⟩; (try first | exact ⟨rfl, _, dn_⟩ | exact ⟨rfl, _, dm_⟩); have q11 : (t188 : Int) ≤ ((x8_1.length : Int) : Int) := of_decide_eq_true (by assumption); obtain ⟨i011, hi011, _, hsz11, _⟩ := info_parts info3; have hcut11 := cut_from (P := Try.prog) 33 3 .i64 Try.underlying33 hi011 1 hsz11 Ao10 x8_1.length co10 t188 (of_decide_eq_true (by assumption)) q11; have hr11 := Kd.Q_drop (k := (t188 : Int).toNat) (Kd.Q_of_R HO_8.out) (by omega); obtain ⟨A11, hA11⟩ : ∃ A1, A1 = (if co10 = (t188 : Int).toNat then Ao10 else (Ao10 : Option Addr).map (·.add ((t188 : Int).toNat * 1))) := ⟨_, rfl⟩; obtain ⟨c11, hc11⟩ : ∃ c1, c1 = co10 - (t188 : Int).toNat := ⟨_, rfl⟩; have hy11 : y189.length = x8_1.length - (t188 : Int).toNat := (by rw [Ny189.out, List.length_drop]); rw [← Ny189.out] at hr11; rw [← hy11, ← hA11, ← hc11] at hcut11; replace hr11 : Kd.Q (Kd.int .i64) 3 wr w.heap.size (fun _ => True) (.slice A11 y189.length c11) y189 := (by rw [hA11, hc11, hy11]; exact hr11); have HE11 : Aside0 ((Value.slice A11 y189.length c11).ownBlock = (.slice Ao10 x8_1.length co10 : Value).ownBlock) := ⟨by rw [hA11]; split <;> (cases (Ao10 : Option Addr) <;> first | rfl | (simp only [Value.ownBlock, Option.map, Addr.add]; split <;> rfl))⟩; have HR99 : Aside0 (t188 = 0 → Kd.R (Kd.int .i64) 3 wr w.heap.size (fun _ => True) (.slice A11 y189.length c11) y189) := ⟨fun h0 => by (have e1 : (if co10 = (0 : Int).toNat then Ao10 else (Ao10 : Option Addr).map (·.add ((0 : Int).toNat * 1))) = Ao10 := by cases (Ao10 : Option Addr) <;> simp [Addr.add]); rw [hA11, hc11, Ny189.out, h0, e1]; simp only [Int.toNat_zero, List.drop_zero, Nat.sub_zero]; exact HO_8.out⟩; clear hy11 hi011 hsz11 HO_8 hA11 hc11; have HO191 := Aside0.mk hr11; clear hr11; replace q11 := eq_true q11)); try go_wp2_with (first | (go_at_call 56; (with_reducible refine (slices_Index_int_int.calls k1 _ _ x8_1 x2_1 t188 _ ?side1 ?side2 A6.out).mono ?_); (case side1 => exact cu_ (Kd.R_reads' HO_8.out).2.2); (case side2 => exact (Kd.R_reads' HO_8.out).2.1); rintro e w' ⟨rfl, ⟨nd, rfl⟩⟩; (try first | exact ⟨rfl, _, dn_⟩ | exact ⟨rfl, _, dm_⟩); have q11 : (t188 : Int) ≤ ((x8_1.length : Int) : Int) := of_decide_eq_true (by assumption); obtain ⟨i011, hi011, _, hsz11, _⟩ := info_parts info3; have hcut11 := cut_from (P := Try.prog) 33 3 .i64 Try.underlying33 hi011 1 hsz11 Ao10 x8_1.length co10 t188 (of_decide_eq_true (by assumption)) q11; have hr11 := Kd.Q_drop (k := (t188 : Int).toNat) (Kd.Q_of_R HO_8.out) (by omega); obtain ⟨A11, hA11⟩ : ∃ A1, A1 = (if co10 = (t188 : Int).toNat then Ao10 else (Ao10 : Option Addr).map (·.add ((t188 : Int).toNat * 1))) := ⟨_, rfl⟩; obtain ⟨c11, hc11⟩ : ∃ c1, c1 = co10 - (t188 : Int).toNat := ⟨_, rfl⟩; have hy11 : y189.length = x8_1.length - (t188 : Int).toNat := (by rw [Ny189.out, List.length_drop]); rw [← Ny189.out] at hr11; rw [← hy11, ← hA11, ← hc11] at hcut11; replace hr11 : Kd.Q (Kd.int .i64) 3 wr w.heap.size (fun _ => True) (.slice A11 y189.length c11) y189 := (by rw [hA11, hc11, hy11]; exact hr11); have HE11 : Aside0 ((Value.slice A11 y189.length c11).ownBlock = (.slice Ao10 x8_1.length co10 : Value).ownBlock) := ⟨by rw [hA11]; split <;> (cases (Ao10 : Option Addr) <;> first | rfl | (simp only [Value.ownBlock, Option.map, Addr.add]; split <;> rfl))⟩; have HR99 : Aside0 (t188 = 0 → Kd.R (Kd.int .i64) 3 wr w.heap.size (fun _ => True) (.slice A11 y189.length c11) y189) := ⟨fun h0 => by (have e1 : (if co10 = (0 : Int).toNat then Ao10 else (Ao10 : Option Addr).map (·.add ((0 : Int).toNat * 1))) = Ao10 := by cases (Ao10 : Option Addr) <;> simp [Addr.add]); rw [hA11, hc11, Ny189.out, h0, e1]; simp only [Int.toNat_zero, List.drop_zero, Nat.sub_zero]; exact HO_8.out⟩; clear hy11 hi011 hsz11 HO_8 hA11 hc11; have HO191 := Aside0.mk hr11; clear hr11; replace q11 := eq_true q11)))
   go_ret2
   exact ⟨_, by first | rfl | (simp [errW_none, errW_some] <;> rfl) | (simp [*, errW_none, errW_some] <;> rfl), fun h0 => by (with_reducible repeat (first | apply Kd.R_alloc | apply Kd.R_drewN | apply Kd.R_drew)); exact HR99.out h0, bb_⟩
/-! ### impl_LeadOfPoint: function 10 -/
def impl_LeadOfPoint.f (k : Nat) (a0 : Int) (a1 : Int) (a2 : Int) : Option (Int × Int × Bool) := (impl_isTable.f a0 a1 (([a2] : List Int))).bind fun t198 => (if t198 = true then ((impl_leadOf.f k a0 a1 a2).bind fun bt199 => (some (bt199.1, (bt199.2.length : Int), true))) else (some (0, 0, false)))
theorem impl_LeadOfPoint.mono : ∀ a0 a1 a2 k, LeO (impl_LeadOfPoint.f k a0 a1 a2) (impl_LeadOfPoint.f (k + 1) a0 a1 a2) := by
 intro a0 a1 a2 k
 unfold impl_LeadOfPoint.f
 repeat' with_reducible first | apply impl_leadOf.mono | exact LeO.refl _ | exact LeO.none _ | refine LeO.ite ?_ ?_ | refine LeO.bind ?_ (fun _ => ?_)
set_option maxHeartbeats 8000000 in
set_option maxRecDepth 100000 in
theorem impl_LeadOfPoint.calls (k : Nat) (a0 : Int) (a1 : Int) (a2 : Int) (r1 : Int) (r2 : Int) (r3 : Bool) (w : World) (h : impl_LeadOfPoint.f k a0 a1 a2 = some (r1, r2, r3)) :
  Calls Try.prog 10 #[.int .i64 a0, .int .i64 a1, .int .i64 a2] w fun e w' => e = .returned (.tuple #[.int .i64 r1, .int .i64 r2, .bool r3]) ∧ Below w.heap.size w w' := by
 have HB := Aside0.mk (Below.refl w.heap.size w)
 have H : ((impl_isTable.f a0 a1 (([a2] : List Int))).bind fun t198 => (if t198 = true then ((impl_leadOf.f k a0 a1 a2).bind fun bt199 => (some (bt199.1, (bt199.2.length : Int), true))) else (some (0, 0, false)))) = some (r1, r2, r3) := h
 clear h
 obtain ⟨y195, hy195⟩ : ∃ y_ : List Int, y_ = (([a2] : List Int)) := ⟨_, rfl⟩
 replace H : ((impl_isTable.f a0 a1 y195).bind fun t198 => (if t198 = true then ((impl_leadOf.f k a0 a1 a2).bind fun bt199 => (some (bt199.1, (bt199.2.length : Int), true))) else (some (0, 0, false)))) = some (r1, r2, r3) := by first | (rw [hy195]; with_reducible exact H) | (have H2_ := (Option.bind_some _ _).symm.trans H; rw [hy195]; with_reducible exact H2_) | (have H2_ := (Option.bind_some _ _).symm.trans H; with_reducible exact H2_) | with_reducible exact H | (rw [hy195]; exact H) | exact H
 have Ny195 := Aside0.mk hy195
 clear hy195
 replace H := Option.bind_eq_some_iff.mp H
 obtain ⟨t198, A40, H⟩ := H
 (try dsimp only at H)
 have A4 := Aside0.mk A40
 clear A40
 by_cases c5 : t198 = true
 rotate_left
 ·replace c5 := Bool.eq_false_iff.mpr c5
  subst c5
  rw [if_neg (show ¬ (false = true) by decide)] at H
  simp only [Option.some.injEq, Prod.mk.injEq] at H
  obtain ⟨rfl, rfl, rfl⟩ := H
  go_enter Try.func10, Try.ntmps10
  go_wp2_with (first | ((with_reducible refine gate_dst (N := 14) rfl ?_); refine Kd.R_lit (Kd.int .i64) _ 3 ?hg (N := 14) ?hd (xs := ([a2] : List Int)) (inner := [.int .i64 a2]) (ok := fun _ => True) (okp := fun _ => True) ?hr ?hp (fun _ hk => hk) trivial (Below.refl _ _) (Nat.le_refl _) (by simp) ?_; (case hd => rfl); (case hg => rfl); (case hr => first | (go_simp; done) | (go_simp; rfl)); (case hp => exact (Reps.one (show Kd.M (Kd.int .i64) _ _ _ a2 [.int .i64 a2] from rfl) (Reps.none _ _))); intro v196 w13 ho14 hb hg_ hnew_; clear hg_ hnew_; (first | rw [← Ny195.out] at ho14 | (simp only [Int.reduceToNat] at ho14; rw [← Ny195.out] at ho14)); have n0_ := Aside0.mk (Kd.R_lower ho14 bz_); have n1_ := Aside0.mk (bs_ hb); clear HB; have HO197 := n0_; have HB := n1_; clear n0_ n1_; clear hb ho14; obtain ⟨Ao15, co15, eo15⟩ := Kd.R_slice HO197.out; subst eo15) | ((with_reducible refine gate_callee (f := 33) rfl ?_); refine gl_ (some 15) Try.func33 #[.int .i64 a0, .int .i64 a1, .slice Ao15 y195.length co15] ?_; (with_reducible refine (impl_isTable.calls a0 a1 _ _ y195 false _ ?side1 ?side2 A4.out).mono ?_); (case side1 => exact cu_ (Kd.R_reads' HO197.out).2.2); (case side2 => exact (Kd.R_reads' HO197.out).2.1); rintro e w16 ⟨rfl, hb⟩; refine ⟨_, rfl, ?_⟩; have n0_ := Aside0.mk (Kd.R_below (ru_ HO197.out) hb); have n1_ := Aside0.mk (bs_ hb); clear HO197; clear HB; have HO197 := n0_; have HB := n1_; clear n0_ n1_; (try clear hb)))
  go_ret3
  exact ⟨by first | rfl | (simp [errW_none, errW_some] <;> rfl) | (simp [*, errW_none, errW_some] <;> rfl), bb_⟩

 subst c5
 rw [if_pos rfl] at H
 replace H := Option.bind_eq_some_iff.mp H
 obtain ⟨⟨t199, t200⟩, A60, H⟩ := H
 replace H : (some (t199, (t200.length : Int), true)) = some (r1, r2, r3) := H
 have A6 := Aside0.mk A60
 clear A60
 simp only [Option.some.injEq, Prod.mk.injEq] at H
 obtain ⟨rfl, rfl, rfl⟩ := H
 go_enter Try.func10, Try.ntmps10
 go_wp2_with (first | ((with_reducible refine gate_dst (N := 14) rfl ?_); refine Kd.R_lit (Kd.int .i64) _ 3 ?hg (N := 14) ?hd (xs := ([a2] : List Int)) (inner := [.int .i64 a2]) (ok := fun _ => True) (okp := fun _ => True) ?hr ?hp (fun _ hk => hk) trivial (Below.refl _ _) (Nat.le_refl _) (by simp) ?_; (case hd => rfl); (case hg => rfl); (case hr => first | (go_simp; done) | (go_simp; rfl)); (case hp => exact (Reps.one (show Kd.M (Kd.int .i64) _ _ _ a2 [.int .i64 a2] from rfl) (Reps.none _ _))); intro v196 w7 ho8 hb hg_ hnew_; clear hg_ hnew_; (first | rw [← Ny195.out] at ho8 | (simp only [Int.reduceToNat] at ho8; rw [← Ny195.out] at ho8)); have n0_ := Aside0.mk (Kd.R_lower ho8 bz_); have n1_ := Aside0.mk (bs_ hb); clear HB; have HO197 := n0_; have HB := n1_; clear n0_ n1_; clear hb ho8; obtain ⟨Ao9, co9, eo9⟩ := Kd.R_slice HO197.out; subst eo9) | ((with_reducible refine gate_callee (f := 33) rfl ?_); refine gl_ (some 15) Try.func33 #[.int .i64 a0, .int .i64 a1, .slice Ao9 y195.length co9] ?_; (with_reducible refine (impl_isTable.calls a0 a1 _ _ y195 true _ ?side1 ?side2 A4.out).mono ?_); (case side1 => exact cu_ (Kd.R_reads' HO197.out).2.2); (case side2 => exact (Kd.R_reads' HO197.out).2.1); rintro e w10 ⟨rfl, hb⟩; refine ⟨_, rfl, ?_⟩; have n0_ := Aside0.mk (Kd.R_below (ru_ HO197.out) hb); have n1_ := Aside0.mk (bs_ hb); clear HO197; clear HB; have HO197 := n0_; have HB := n1_; clear n0_ n1_; (try clear hb)) | ((with_reducible refine gate_callee (f := 38) rfl ?_); refine gl_ (some 21) Try.func38 #[.int .i64 a0, .int .i64 a1, .int .i64 a2] ?_; (with_reducible refine (impl_leadOf.calls k a0 a1 a2 t199 t200 _ A6.out).mono ?_); rintro e w11 ⟨v201, rfl, ho0, hb⟩; refine ⟨_, rfl, ?_⟩; have n0_ := Aside0.mk (Kd.R_elder' (ru_ HO197.out) (Kd.Q_base ho0) hb); have n1_ := Aside0.mk (Kd.Q_lower (Kd.Q_new' ho0 (Kd.R_lt (ru_ HO197.out))) bz_); have n2_ := Aside0.mk (bs_ hb); clear HO197; clear HB; have HO197 := n0_; have HO202 := n1_; have HB := n2_; clear n0_ n1_ n2_; (try clear hb); (try clear ho0); obtain ⟨Ao12, co12, eo12, _⟩ := Kd.Q_slice HO202.out; subst eo12))
 go_ret3
 exact ⟨by first | rfl | (simp [errW_none, errW_some] <;> rfl) | (simp [*, errW_none, errW_some] <;> rfl), bb_⟩
/-! ### spec_taLead: function 39 -/
def spec_taLead.l0 : Nat → Int → Int → Int → List Int → List Int → Option (List Int × Int)
 | 0, _, _, _, _, _ => none
 | k + 1, x0, x1, x2, x8, x9 => if 0 ≤ x2 then (if x2 < (x8.length : Int) then (if (rd x8 x2) = 0 then (if x9.length < 17592186044416 then ((some (x9 ++ [x2] : List Int)).bind fun y207 => (if x0 = 0 then (none) else (spec_taLead.l0 k x0 x1 (Int.tmod (wrap64 (x2 * x1)) x0) (x8.set (x2 : Int).toNat (y207.length : Int)) y207))) else (none)) else (some (x9, wrap64 ((rd x8 x2) - 1)))) else (none)) else (none)
def spec_taLead.f (k : Nat) (a0 : Int) (a1 : Int) (a2 : Int) : Option (List Int × Int) := if 0 ≤ a0 then (if (a0 : Int).toNat ≤ 35184372088832 then (spec_taLead.l0 k a0 a1 a2 (List.replicate (a0 : Int).toNat 0) ([] : List Int)) else (none)) else (none)
theorem spec_taLead.mono_l : ∀ k, (∀ y0 y1 y2 y3 y4, LeO (spec_taLead.l0 k y0 y1 y2 y3 y4) (spec_taLead.l0 (k + 1) y0 y1 y2 y3 y4))
 | 0 => fun _ _ _ _ _ r h => by simp [spec_taLead.l0] at h
 | k + 1 => by
  have ih0 := spec_taLead.mono_l k
  ·intro y0 y1 y2 y3 y4
   unfold spec_taLead.l0
   repeat' with_reducible first | apply ih0 | exact LeO.refl _ | exact LeO.none _ | refine LeO.ite ?_ ?_ | refine LeO.bind ?_ (fun _ => ?_)
theorem spec_taLead.mono : ∀ a0 a1 a2 k, LeO (spec_taLead.f k a0 a1 a2) (spec_taLead.f (k + 1) a0 a1 a2) := by
 intro a0 a1 a2 k
 have ih0 := spec_taLead.mono_l k
 unfold spec_taLead.f
 repeat' with_reducible first | apply ih0 | exact LeO.refl _ | exact LeO.none _ | refine LeO.ite ?_ ?_ | refine LeO.bind ?_ (fun _ => ?_)
set_option maxHeartbeats 8000000 in
set_option maxRecDepth 100000 in
theorem spec_taLead.calls (k : Nat) (a0 : Int) (a1 : Int) (a2 : Int) (r1 : List Int) (r2 : Int) (w : World) (h : spec_taLead.f k a0 a1 a2 = some (r1, r2)) :
  Calls Try.prog 39 #[.int .i64 a0, .int .i64 a1, .int .i64 a2] w fun e w' => ∃ v0_ : Value, e = .returned (.tuple #[v0_, .int .i64 r2]) ∧ Kd.R (Kd.int .i64) 3 w' w.heap.size (fun _ => True) v0_ r1 ∧ Below w.heap.size w w' := by
 have HB := Aside0.mk (Below.refl w.heap.size w)
 have H : (if 0 ≤ a0 then (if (a0 : Int).toNat ≤ 35184372088832 then (spec_taLead.l0 k a0 a1 a2 (List.replicate (a0 : Int).toNat 0) ([] : List Int)) else (none)) else (none)) = some (r1, r2) := h
 clear h
 by_cases c4 : 0 ≤ a0
 rotate_left
 ·rw [if_neg c4] at H
  exact absurd H (by simp)

 rw [if_pos c4] at H
 have c4b0 := eq_true c4
 have c4b1 : decide (0 ≤ a0) = true := decide_eq_true c4
 clear c4
 by_cases c5 : (a0 : Int).toNat ≤ 35184372088832
 rotate_left
 ·rw [if_neg c5] at H
  exact absurd H (by simp)
 rw [if_pos c5] at H
 have c5b0 := eq_true c5
 have c5b1 : decide ((a0 : Int).toNat ≤ 35184372088832) = true := decide_eq_true c5
 clear c5
 obtain ⟨y203, hy203⟩ : ∃ y_ : List Int, y_ = (List.replicate (a0 : Int).toNat 0) := ⟨_, rfl⟩
 replace H : (spec_taLead.l0 k a0 a1 a2 y203 ([] : List Int)) = some (r1, r2) := by first | (rw [hy203]; with_reducible exact H) | (have H2_ := (Option.bind_some _ _).symm.trans H; rw [hy203]; with_reducible exact H2_) | (have H2_ := (Option.bind_some _ _).symm.trans H; with_reducible exact H2_) | with_reducible exact H | (rw [hy203]; exact H) | exact H
 have Ny203 := Aside0.mk hy203
 clear hy203
 have H' := Aside0.mk H
 clear H
 go_enter Try.func39, Try.ntmps39
 go_wp2_with (first | ((with_reducible refine gate_dst (N := 11) rfl ?_); refine Kd.R_make (Kd.int .i64) _ 3 rfl (N := 11) rfl 33 _ _ rfl a0 rfl rfl Try.underlying33 (.int .i64 0) 8 info3 rfl (by decide) (by omega) 0 (ok := fun _ => True) (okp := fun _ => True) rfl (fun _ hk => hk) trivial (of_decide_eq_true (by assumption)) (Nat.le_trans (Nat.mul_le_mul_right _ (of_decide_eq_true (by assumption) : a0.toNat ≤ 35184372088832)) (by omega)) (Below.refl _ _) (Nat.le_refl _) ?_; intro v204 w6 ho7 hb hg_ hnew_; clear hg_ hnew_; (first | rw [← Ny203.out] at ho7 | (simp only [Int.reduceToNat] at ho7; rw [← Ny203.out] at ho7)); have n0_ := Aside0.mk (Kd.R_lower ho7 bz_); have n1_ := Aside0.mk (bs_ hb); clear HB; have HO205 := n0_; have HB := n1_; clear n0_ n1_; clear hb ho7))
 repeat (go_quiet (first | ((with_reducible refine gate_dst (N := 11) rfl ?_); refine Kd.R_make (Kd.int .i64) _ 3 rfl (N := 11) rfl 33 _ _ rfl a0 rfl rfl Try.underlying33 (.int .i64 0) 8 info3 rfl (by decide) (by omega) 0 (ok := fun _ => True) (okp := fun _ => True) rfl (fun _ hk => hk) trivial (of_decide_eq_true (by assumption)) (Nat.le_trans (Nat.mul_le_mul_right _ (of_decide_eq_true (by assumption) : a0.toNat ≤ 35184372088832)) (by omega)) (Below.refl _ _) (Nat.le_refl _) ?_; intro v204 w6 ho7 hb hg_ hnew_; clear hg_ hnew_; (first | rw [← Ny203.out] at ho7 | (simp only [Int.reduceToNat] at ho7; rw [← Ny203.out] at ho7)); have n0_ := Aside0.mk (Kd.R_lower ho7 bz_); have n1_ := Aside0.mk (bs_ hb); clear HB; have HO205 := n0_; have HB := n1_; clear n0_ n1_; clear hb ho7)); try go_wp2_with (first | ((with_reducible refine gate_dst (N := 11) rfl ?_); refine Kd.R_make (Kd.int .i64) _ 3 rfl (N := 11) rfl 33 _ _ rfl a0 rfl rfl Try.underlying33 (.int .i64 0) 8 info3 rfl (by decide) (by omega) 0 (ok := fun _ => True) (okp := fun _ => True) rfl (fun _ hk => hk) trivial (of_decide_eq_true (by assumption)) (Nat.le_trans (Nat.mul_le_mul_right _ (of_decide_eq_true (by assumption) : a0.toNat ≤ 35184372088832)) (by omega)) (Below.refl _ _) (Nat.le_refl _) ?_; intro v204 w6 ho7 hb hg_ hnew_; clear hg_ hnew_; (first | rw [← Ny203.out] at ho7 | (simp only [Int.reduceToNat] at ho7; rw [← Ny203.out] at ho7)); have n0_ := Aside0.mk (Kd.R_lower ho7 bz_); have n1_ := Aside0.mk (bs_ hb); clear HB; have HO205 := n0_; have HB := n1_; clear n0_ n1_; clear hb ho7)))
 go_loopg [2, 9] k (fun kq v2 v9 w' => ∃ (x2_1 : Int) (x8_1 : List Int) (x9_1 : List Int), v2 = .int .i64 x2_1 ∧ Aside0 (spec_taLead.l0 kq a0 a1 x2_1 x8_1 x9_1 = some (r1, r2)) ∧ Aside0 (kq ≤ k) ∧ Aside0 (Kd.R (Kd.int .i64) 3 w' w.heap.size (fun k_ => some k_ ≠ (v9 : Value).ownBlock) v204 x8_1) ∧ Aside0 (Kd.R (Kd.int .i64) 3 w' w.heap.size (fun k_ => some k_ ≠ (v204 : Value).ownBlock) v9 x9_1) ∧ Aside0 (Below w.heap.size w w'))
 case atStart => exact ⟨(a2), (y203), (([] : List Int)), (by first | rfl | (simp; done) | (simp [*]; done)), H', ⟨Nat.le_refl _⟩, ⟨by (with_reducible repeat (first | apply Kd.R_alloc | apply Kd.R_drewN | apply Kd.R_drew)); exact Kd.R_mono HO205.out (fun _ hk => (by simp [Value.ownBlock]))⟩, ⟨by first | exact Kd.R_nil _ _ _ _ _ | exact Kd.N_nil _ _ _ _ _ | exact Kd.V_nil _ _ _ _ _ | exact Kd.Q_nil _ _ _ _ _ | exact Kd.S_nil _ _ _ _ _⟩, ⟨bb_⟩⟩
 case round =>
  clear H'
  (try clear p2); (try clear c3); (try clear c4); (try clear c4b0); (try clear c4b1); (try clear c5); (try clear c5b0); (try clear c5b1)
  obtain ⟨x2_1, x8_1, x9_1, rfl, HA, HK1, HO_8, HO_9, HB⟩ := hrel
  cases gk with
  | zero => exact absurd HA.out (by simp [spec_taLead.l0])
  | succ k1 =>
   have H := HA.out
   clear HA
   simp only [spec_taLead.l0] at H
   by_cases c8 : 0 ≤ x2_1
   rotate_left
   ·rw [if_neg c8] at H
    exact absurd H (by simp)
   rw [if_pos c8] at H
   have c8b0 : decide (0 ≤ x2_1) = true := decide_eq_true c8
   clear c8
   by_cases c9 : x2_1 < (x8_1.length : Int)
   rotate_left
   ·rw [if_neg c9] at H
    exact absurd H (by simp)
   rw [if_pos c9] at H
   have c9b0 : decide (x2_1 < (x8_1.length : Int)) = true := decide_eq_true c9
   clear c9
   by_cases c10 : (rd x8_1 x2_1) = 0
   rotate_left
   ·rw [if_neg c10] at H
    have c10b0 : ((rd x8_1 x2_1) == 0) = false := beq_eq_false_iff_ne.mpr c10
    have c10b1 : ((rd x8_1 x2_1) != 0) = true := bne_iff_ne.mpr c10
    simp only [Option.some.injEq, Prod.mk.injEq] at H
    obtain ⟨rfl, rfl⟩ := H
    obtain ⟨Ao19, co19, eo19⟩ := Kd.R_slice HO_8.out
    subst eo19
    have p206 : 0 ≤ (x2_1 : Int) := of_decide_eq_true (by assumption)
    have q206 : x2_1 < (x8_1.length : Int) := of_decide_eq_true (by assumption)
    obtain ⟨ad206, e206, hx206_0⟩ := Kd.at_int (Kd.R_reads' HO_8.out).2.2 x2_1 p206 q206
    cases e206
    replace p206 := eq_true p206
    replace q206 := eq_true q206
    have p211 : 0 ≤ (x2_1 : Int) := of_decide_eq_true (by assumption)
    have q211 : x2_1 < (x8_1.length : Int) := of_decide_eq_true (by assumption)
    obtain ⟨ad211, e211, hx211_0⟩ := Kd.at_int (Kd.R_reads' HO_8.out).2.2 x2_1 p211 q211
    obtain rfl : ad206 = ad211 := (by injection e211)
    replace p211 := eq_true p211
    replace q211 := eq_true q211
    go_wp2
    repeat (go_quiet (fail); try go_wp2)
    go_ret2
    exact ⟨_, by first | rfl | (simp [errW_none, errW_some] <;> rfl) | (simp [*, errW_none, errW_some] <;> rfl), by (with_reducible repeat (first | apply Kd.R_alloc | apply Kd.R_drewN | apply Kd.R_drew)); exact Kd.R_mono HO_9.out (fun _ hk => trivial), bb_⟩
   rw [if_pos c10] at H
   have c10b0 : ((rd x8_1 x2_1) == 0) = true := beq_iff_eq.mpr c10
   have c10b1 : ((rd x8_1 x2_1) != 0) = false := bne_eq_false_iff_eq.mpr c10
   clear c10
   by_cases c11 : x9_1.length < 17592186044416
   rotate_left
   ·rw [if_neg c11] at H
    exact absurd H (by simp)
   rw [if_pos c11] at H
   have LMc11 := Aside0.mk c11
   clear c11
   obtain ⟨y207, hy207⟩ : ∃ y_ : List Int, y_ = (x9_1 ++ [x2_1]) := ⟨_, rfl⟩
   replace H : (if a0 = 0 then (none) else (spec_taLead.l0 k1 a0 a1 (Int.tmod (wrap64 (x2_1 * a1)) a0) (x8_1.set (x2_1 : Int).toNat (y207.length : Int)) y207)) = some (r1, r2) := by first | (rw [hy207]; with_reducible exact H) | (have H2_ := (Option.bind_some _ _).symm.trans H; rw [hy207]; with_reducible exact H2_) | (have H2_ := (Option.bind_some _ _).symm.trans H; with_reducible exact H2_) | with_reducible exact H | (rw [hy207]; exact H) | exact H
   have Ny207 := Aside0.mk hy207
   clear hy207
   obtain ⟨y210, hy210⟩ : ∃ y_ : List Int, y_ = (x8_1.set (x2_1 : Int).toNat (y207.length : Int)) := ⟨_, rfl⟩
   replace H : (if a0 = 0 then (none) else (spec_taLead.l0 k1 a0 a1 (Int.tmod (wrap64 (x2_1 * a1)) a0) y210 y207)) = some (r1, r2) := by first | (rw [hy210]; with_reducible exact H) | (have H2_ := (Option.bind_some _ _).symm.trans H; rw [hy210]; with_reducible exact H2_) | (have H2_ := (Option.bind_some _ _).symm.trans H; with_reducible exact H2_) | with_reducible exact H | (rw [hy210]; exact H) | exact H
   have Ny210 := Aside0.mk hy210
   clear hy210
   by_cases c13 : a0 = 0
   ·rw [if_pos c13] at H
    exact absurd H (by simp)
   rw [if_neg c13] at H
   have c13b0 : (a0 == 0) = false := beq_eq_false_iff_ne.mpr c13
   have c13b1 : (a0 != 0) = true := bne_iff_ne.mpr c13
   have H' := Aside0.mk H
   clear H
   obtain ⟨Ao14, co14, eo14⟩ := Kd.R_slice HO_8.out
   subst eo14
   have p206 : 0 ≤ (x2_1 : Int) := of_decide_eq_true (by assumption)
   have q206 : x2_1 < (x8_1.length : Int) := of_decide_eq_true (by assumption)
   obtain ⟨ad206, e206, hx206_0⟩ := Kd.at_int (Kd.R_reads' HO_8.out).2.2 x2_1 p206 q206
   cases e206
   replace p206 := eq_true p206
   replace q206 := eq_true q206
   go_wp2_with (first | ((with_reducible refine gate_builtin (b := .append) (xs := #[.tmp 17, .tmp 19]) rfl ?_); at_builtin; refine Kd.R_append (Kd.int .i64) (w0 := w) w.heap.size rfl (.tmp 17) (.tmp 19) 33 3 (.int .i64 0) 8 rfl Try.underlying33 info3 rfl (by decide) (by omega) u9 x9_1 x2_1 [.int .i64 x2_1] (fun k_ => some k_ ≠ (.slice (some ad206) x8_1.length co14 : Value).ownBlock) (fun _ => False) rfl rfl ?aP (fun _ hk => hk.elim) ?aF ?aO ?aB ?aS ?aL ?_; (case aP => exact rfl); (case aB => exact bb_); (case aF => exact (fun k_ hk => Kd.fresh' (Kd.R_lt (ru_ HO_8.out)) k_ hk)); (case aO => exact (ru_ HO_9.out)); (case aS => exact bz_); (case aL => have := LMc11.out; omega); intro v208 w15 ho hb hg hat; rw [← Ny207.out] at ho; have n0_ := Aside0.mk (Kd.R_after (ok := (fun _ => True)) (by (with_reducible repeat (first | apply Kd.R_alloc | apply Kd.R_drewN | apply Kd.R_drew)); exact Kd.R_mono HO_8.out (fun _ hk => ⟨trivial, hk⟩)) hg hat); have n1_ := Aside0.mk (hb); have n2_ := Aside0.mk (ho); clear HO_8; clear HB; clear HO_9; have HO_8 := n0_; have HB := n1_; have HO209 := n2_; clear n0_ n1_ n2_; clear ho hb hg hat; obtain ⟨Ao16, co16, eo16⟩ := Kd.R_slice HO209.out; subst eo16; have p12 : 0 ≤ (x2_1 : Int) := of_decide_eq_true (by assumption); have q12 : (x2_1 : Int) < ((x8_1.length : Int) : Int) := of_decide_eq_true (by assumption); obtain ⟨go12, co12, eo12, gb12, gl12, cl12, HG12⟩ := Kd.R_form HO_8.out (by omega); (first | cases eo12 | (injection eo12 with ea_ en_ ec_; (first | subst ea_ | (injection ea_ with ea_; subst ea_)); subst ec_; clear en_)); have GB12 := Aside0.mk gb12; have GG12 := Aside0.mk HG12; clear gb12 gl12 HG12; (first | simp only [add_plain] at hx206_0 | skip); obtain ⟨hx12_0, hf12_0⟩ := Kd.R_celln 0 HO_8.out (x2_1 : Int) p12 q12; replace p12 := eq_true p12; replace q12 := eq_true q12; have n_ := Aside0.mk (Kd.R_mono (ok' := (fun k_ => some k_ ≠ (.slice Ao16 y207.length co16 : Value).ownBlock)) HO_8.out (fun k_ hk => hk.2)); clear HO_8; have HO_8 := n_; clear n_; obtain ⟨hy17_, hz17_⟩ := Kd.R_celln 0 HO_8.out (x2_1 : Int) (of_decide_eq_true (by assumption)) (of_decide_eq_true (by assumption)); have HP17 := Kd.R_putg HO_8.out (x2_1 : Int) (y207.length : Int)) | ((with_reducible refine gate_store (t := 3) (p := 25) rfl ?_); (try (rw [drewN_self w15]; generalize hq_ : World.drewN w15 _ = w15; have n0_ := Aside0.mk (Kd.R_at hq_ HO_8.out); have n1_ := Aside0.mk (Kd.R_at hq_ HO209.out); have n2_ := Aside0.mk (below_at hq_ HB.out); clear hq_ HO_8 HO209 HB; have HO_8 := n0_; have HO209 := n1_; have HB := n2_; clear n0_ n1_ n2_; (try (have n_ := Aside0.mk (Kd.R_mono (ok' := (fun k_ => some k_ ≠ (.slice Ao16 y207.length co16 : Value).ownBlock)) HO_8.out (fun k_ hk => hk.2)); clear HO_8; have HO_8 := n_; clear n_)); (try (obtain ⟨hy17_, hz17_⟩ := Kd.R_celln 0 HO_8.out (x2_1 : Int) (of_decide_eq_true (by assumption)) (of_decide_eq_true (by assumption)))); (try (have HP17 := Kd.R_putg HO_8.out (x2_1 : Int) (y207.length : Int))))); refine store_event (t := 3) (p := 25) (v := ?vo_w18) (w1 := (w15.setCell ⟨go12, (x2_1 : Int).toNat, none⟩ (.int .i64 (y207.length : Int)))) ?hg ?ho ?hn ?hr ?_; (case ho => rfl); (case hg => rfl); (case hn => rfl); (case hr => first | (go_simp; done) | (go_simp; rfl)); intro w18 hw; have hg : w15.grownBy w18 (some go12) := (by rw [hw]; exact HP17.2); have hp_ : Kd.R (Kd.int .i64) 3 w18 w.heap.size (fun k_ => some k_ ≠ (.slice Ao16 y207.length co16 : Value).ownBlock) (.slice (some ⟨go12, 0, none⟩) x8_1.length co14) y210 := (by rw [hw, Ny210.out]; exact HP17.1); clear HP17; have n0_ := Aside0.mk (hp_); have n1_ := Aside0.mk (Kd.R_after (v := (.slice (some ⟨go12, 0, none⟩) x8_1.length co14)) (v1 := (.slice (some ⟨go12, 0, none⟩) x8_1.length co14)) (ok := (fun _ => True)) (by (with_reducible repeat (first | apply Kd.R_alloc | apply Kd.R_drewN | apply Kd.R_drew)); exact Kd.R_mono HO209.out (fun _ hk => ⟨trivial, hk⟩)) hg (.inl rfl)); have n2_ := Aside0.mk ((by rw [hw]; exact below_set (HB.out) GB12.out : Below w.heap.size w w18)); clear HO_8; clear HO209; clear HB; have HO_8 := n0_; have HO209 := n1_; have HB := n2_; clear n0_ n1_ n2_; clear hg hw hp_))
   repeat (go_quiet (first | ((with_reducible refine gate_builtin (b := .append) (xs := #[.tmp 17, .tmp 19]) rfl ?_); at_builtin; refine Kd.R_append (Kd.int .i64) (w0 := w) w.heap.size rfl (.tmp 17) (.tmp 19) 33 3 (.int .i64 0) 8 rfl Try.underlying33 info3 rfl (by decide) (by omega) u9 x9_1 x2_1 [.int .i64 x2_1] (fun k_ => some k_ ≠ (.slice (some ad206) x8_1.length co14 : Value).ownBlock) (fun _ => False) rfl rfl ?aP (fun _ hk => hk.elim) ?aF ?aO ?aB ?aS ?aL ?_; (case aP => exact rfl); (case aB => exact bb_); (case aF => exact (fun k_ hk => Kd.fresh' (Kd.R_lt (ru_ HO_8.out)) k_ hk)); (case aO => exact (ru_ HO_9.out)); (case aS => exact bz_); (case aL => have := LMc11.out; omega); intro v208 w15 ho hb hg hat; rw [← Ny207.out] at ho; have n0_ := Aside0.mk (Kd.R_after (ok := (fun _ => True)) (by (with_reducible repeat (first | apply Kd.R_alloc | apply Kd.R_drewN | apply Kd.R_drew)); exact Kd.R_mono HO_8.out (fun _ hk => ⟨trivial, hk⟩)) hg hat); have n1_ := Aside0.mk (hb); have n2_ := Aside0.mk (ho); clear HO_8; clear HB; clear HO_9; have HO_8 := n0_; have HB := n1_; have HO209 := n2_; clear n0_ n1_ n2_; clear ho hb hg hat; obtain ⟨Ao16, co16, eo16⟩ := Kd.R_slice HO209.out; subst eo16; have p12 : 0 ≤ (x2_1 : Int) := of_decide_eq_true (by assumption); have q12 : (x2_1 : Int) < ((x8_1.length : Int) : Int) := of_decide_eq_true (by assumption); obtain ⟨go12, co12, eo12, gb12, gl12, cl12, HG12⟩ := Kd.R_form HO_8.out (by omega); (first | cases eo12 | (injection eo12 with ea_ en_ ec_; (first | subst ea_ | (injection ea_ with ea_; subst ea_)); subst ec_; clear en_)); have GB12 := Aside0.mk gb12; have GG12 := Aside0.mk HG12; clear gb12 gl12 HG12; (first | simp only [add_plain] at hx206_0 | skip); obtain ⟨hx12_0, hf12_0⟩ := Kd.R_celln 0 HO_8.out (x2_1 : Int) p12 q12; replace p12 := eq_true p12; replace q12 := eq_true q12; have n_ := Aside0.mk (Kd.R_mono (ok' := (fun k_ => some k_ ≠ (.slice Ao16 y207.length co16 : Value).ownBlock)) HO_8.out (fun k_ hk => hk.2)); clear HO_8; have HO_8 := n_; clear n_; obtain ⟨hy17_, hz17_⟩ := Kd.R_celln 0 HO_8.out (x2_1 : Int) (of_decide_eq_true (by assumption)) (of_decide_eq_true (by assumption)); have HP17 := Kd.R_putg HO_8.out (x2_1 : Int) (y207.length : Int)) | ((with_reducible refine gate_store (t := 3) (p := 25) rfl ?_); (try (rw [drewN_self w15]; generalize hq_ : World.drewN w15 _ = w15; have n0_ := Aside0.mk (Kd.R_at hq_ HO_8.out); have n1_ := Aside0.mk (Kd.R_at hq_ HO209.out); have n2_ := Aside0.mk (below_at hq_ HB.out); clear hq_ HO_8 HO209 HB; have HO_8 := n0_; have HO209 := n1_; have HB := n2_; clear n0_ n1_ n2_; (try (have n_ := Aside0.mk (Kd.R_mono (ok' := (fun k_ => some k_ ≠ (.slice Ao16 y207.length co16 : Value).ownBlock)) HO_8.out (fun k_ hk => hk.2)); clear HO_8; have HO_8 := n_; clear n_)); (try (obtain ⟨hy17_, hz17_⟩ := Kd.R_celln 0 HO_8.out (x2_1 : Int) (of_decide_eq_true (by assumption)) (of_decide_eq_true (by assumption)))); (try (have HP17 := Kd.R_putg HO_8.out (x2_1 : Int) (y207.length : Int))))); refine store_event (t := 3) (p := 25) (v := ?vo_w18) (w1 := (w15.setCell ⟨go12, (x2_1 : Int).toNat, none⟩ (.int .i64 (y207.length : Int)))) ?hg ?ho ?hn ?hr ?_; (case ho => rfl); (case hg => rfl); (case hn => rfl); (case hr => first | (go_simp; done) | (go_simp; rfl)); intro w18 hw; have hg : w15.grownBy w18 (some go12) := (by rw [hw]; exact HP17.2); have hp_ : Kd.R (Kd.int .i64) 3 w18 w.heap.size (fun k_ => some k_ ≠ (.slice Ao16 y207.length co16 : Value).ownBlock) (.slice (some ⟨go12, 0, none⟩) x8_1.length co14) y210 := (by rw [hw, Ny210.out]; exact HP17.1); clear HP17; have n0_ := Aside0.mk (hp_); have n1_ := Aside0.mk (Kd.R_after (v := (.slice (some ⟨go12, 0, none⟩) x8_1.length co14)) (v1 := (.slice (some ⟨go12, 0, none⟩) x8_1.length co14)) (ok := (fun _ => True)) (by (with_reducible repeat (first | apply Kd.R_alloc | apply Kd.R_drewN | apply Kd.R_drew)); exact Kd.R_mono HO209.out (fun _ hk => ⟨trivial, hk⟩)) hg (.inl rfl)); have n2_ := Aside0.mk ((by rw [hw]; exact below_set (HB.out) GB12.out : Below w.heap.size w w18)); clear HO_8; clear HO209; clear HB; have HO_8 := n0_; have HO209 := n1_; have HB := n2_; clear n0_ n1_ n2_; clear hg hw hp_)); try go_wp2_with (first | ((with_reducible refine gate_builtin (b := .append) (xs := #[.tmp 17, .tmp 19]) rfl ?_); at_builtin; refine Kd.R_append (Kd.int .i64) (w0 := w) w.heap.size rfl (.tmp 17) (.tmp 19) 33 3 (.int .i64 0) 8 rfl Try.underlying33 info3 rfl (by decide) (by omega) u9 x9_1 x2_1 [.int .i64 x2_1] (fun k_ => some k_ ≠ (.slice (some ad206) x8_1.length co14 : Value).ownBlock) (fun _ => False) rfl rfl ?aP (fun _ hk => hk.elim) ?aF ?aO ?aB ?aS ?aL ?_; (case aP => exact rfl); (case aB => exact bb_); (case aF => exact (fun k_ hk => Kd.fresh' (Kd.R_lt (ru_ HO_8.out)) k_ hk)); (case aO => exact (ru_ HO_9.out)); (case aS => exact bz_); (case aL => have := LMc11.out; omega); intro v208 w15 ho hb hg hat; rw [← Ny207.out] at ho; have n0_ := Aside0.mk (Kd.R_after (ok := (fun _ => True)) (by (with_reducible repeat (first | apply Kd.R_alloc | apply Kd.R_drewN | apply Kd.R_drew)); exact Kd.R_mono HO_8.out (fun _ hk => ⟨trivial, hk⟩)) hg hat); have n1_ := Aside0.mk (hb); have n2_ := Aside0.mk (ho); clear HO_8; clear HB; clear HO_9; have HO_8 := n0_; have HB := n1_; have HO209 := n2_; clear n0_ n1_ n2_; clear ho hb hg hat; obtain ⟨Ao16, co16, eo16⟩ := Kd.R_slice HO209.out; subst eo16; have p12 : 0 ≤ (x2_1 : Int) := of_decide_eq_true (by assumption); have q12 : (x2_1 : Int) < ((x8_1.length : Int) : Int) := of_decide_eq_true (by assumption); obtain ⟨go12, co12, eo12, gb12, gl12, cl12, HG12⟩ := Kd.R_form HO_8.out (by omega); (first | cases eo12 | (injection eo12 with ea_ en_ ec_; (first | subst ea_ | (injection ea_ with ea_; subst ea_)); subst ec_; clear en_)); have GB12 := Aside0.mk gb12; have GG12 := Aside0.mk HG12; clear gb12 gl12 HG12; (first | simp only [add_plain] at hx206_0 | skip); obtain ⟨hx12_0, hf12_0⟩ := Kd.R_celln 0 HO_8.out (x2_1 : Int) p12 q12; replace p12 := eq_true p12; replace q12 := eq_true q12; have n_ := Aside0.mk (Kd.R_mono (ok' := (fun k_ => some k_ ≠ (.slice Ao16 y207.length co16 : Value).ownBlock)) HO_8.out (fun k_ hk => hk.2)); clear HO_8; have HO_8 := n_; clear n_; obtain ⟨hy17_, hz17_⟩ := Kd.R_celln 0 HO_8.out (x2_1 : Int) (of_decide_eq_true (by assumption)) (of_decide_eq_true (by assumption)); have HP17 := Kd.R_putg HO_8.out (x2_1 : Int) (y207.length : Int)) | ((with_reducible refine gate_store (t := 3) (p := 25) rfl ?_); (try (rw [drewN_self w15]; generalize hq_ : World.drewN w15 _ = w15; have n0_ := Aside0.mk (Kd.R_at hq_ HO_8.out); have n1_ := Aside0.mk (Kd.R_at hq_ HO209.out); have n2_ := Aside0.mk (below_at hq_ HB.out); clear hq_ HO_8 HO209 HB; have HO_8 := n0_; have HO209 := n1_; have HB := n2_; clear n0_ n1_ n2_; (try (have n_ := Aside0.mk (Kd.R_mono (ok' := (fun k_ => some k_ ≠ (.slice Ao16 y207.length co16 : Value).ownBlock)) HO_8.out (fun k_ hk => hk.2)); clear HO_8; have HO_8 := n_; clear n_)); (try (obtain ⟨hy17_, hz17_⟩ := Kd.R_celln 0 HO_8.out (x2_1 : Int) (of_decide_eq_true (by assumption)) (of_decide_eq_true (by assumption)))); (try (have HP17 := Kd.R_putg HO_8.out (x2_1 : Int) (y207.length : Int))))); refine store_event (t := 3) (p := 25) (v := ?vo_w18) (w1 := (w15.setCell ⟨go12, (x2_1 : Int).toNat, none⟩ (.int .i64 (y207.length : Int)))) ?hg ?ho ?hn ?hr ?_; (case ho => rfl); (case hg => rfl); (case hn => rfl); (case hr => first | (go_simp; done) | (go_simp; rfl)); intro w18 hw; have hg : w15.grownBy w18 (some go12) := (by rw [hw]; exact HP17.2); have hp_ : Kd.R (Kd.int .i64) 3 w18 w.heap.size (fun k_ => some k_ ≠ (.slice Ao16 y207.length co16 : Value).ownBlock) (.slice (some ⟨go12, 0, none⟩) x8_1.length co14) y210 := (by rw [hw, Ny210.out]; exact HP17.1); clear HP17; have n0_ := Aside0.mk (hp_); have n1_ := Aside0.mk (Kd.R_after (v := (.slice (some ⟨go12, 0, none⟩) x8_1.length co14)) (v1 := (.slice (some ⟨go12, 0, none⟩) x8_1.length co14)) (ok := (fun _ => True)) (by (with_reducible repeat (first | apply Kd.R_alloc | apply Kd.R_drewN | apply Kd.R_drew)); exact Kd.R_mono HO209.out (fun _ hk => ⟨trivial, hk⟩)) hg (.inl rfl)); have n2_ := Aside0.mk ((by rw [hw]; exact below_set (HB.out) GB12.out : Below w.heap.size w w18)); clear HO_8; clear HO209; clear HB; have HO_8 := n0_; have HO209 := n1_; have HB := n2_; clear n0_ n1_ n2_; clear hg hw hp_)))
   go_roundg k1
   case measure => have := HK1.out; omega
   case rel => exact ⟨(Int.tmod (wrap64 (x2_1 * a1)) a0), (y210), (y207), (by first | rfl | (simp; done) | (simp [*]; done)), H', ⟨by have := HK1.out; omega⟩, ⟨by (with_reducible repeat (first | apply Kd.R_alloc | apply Kd.R_drewN | apply Kd.R_drew)); exact HO_8.out⟩, ⟨by (with_reducible repeat (first | apply Kd.R_alloc | apply Kd.R_drewN | apply Kd.R_drew)); exact Kd.R_mono HO209.out (fun _ hk => hk.2)⟩, ⟨bb_⟩⟩
/-! ### spec_LeadOfPoint: function 11 -/
def spec_LeadOfPoint.f (k : Nat) (a0 : Int) (a1 : Int) (a2 : Int) : Option (Int × Int × Bool) := (spec_taAsked.f a0 a1 a2).bind fun t212 => (if t212 = true then ((spec_taLead.f k a0 a1 a2).bind fun bt213 => (some (bt213.2, wrap64 ((bt213.1.length : Int) - bt213.2), true))) else (some (0, 0, false)))
theorem spec_LeadOfPoint.mono : ∀ a0 a1 a2 k, LeO (spec_LeadOfPoint.f k a0 a1 a2) (spec_LeadOfPoint.f (k + 1) a0 a1 a2) := by
 intro a0 a1 a2 k
 unfold spec_LeadOfPoint.f
 repeat' with_reducible first | apply spec_taLead.mono | exact LeO.refl _ | exact LeO.none _ | refine LeO.ite ?_ ?_ | refine LeO.bind ?_ (fun _ => ?_)
set_option maxHeartbeats 8000000 in
set_option maxRecDepth 100000 in
theorem spec_LeadOfPoint.calls (k : Nat) (a0 : Int) (a1 : Int) (a2 : Int) (r1 : Int) (r2 : Int) (r3 : Bool) (w : World) (h : spec_LeadOfPoint.f k a0 a1 a2 = some (r1, r2, r3)) :
  Calls Try.prog 11 #[.int .i64 a0, .int .i64 a1, .int .i64 a2] w fun e w' => e = .returned (.tuple #[.int .i64 r1, .int .i64 r2, .bool r3]) ∧ Below w.heap.size w w' := by
 have HB := Aside0.mk (Below.refl w.heap.size w)
 have H : ((spec_taAsked.f a0 a1 a2).bind fun t212 => (if t212 = true then ((spec_taLead.f k a0 a1 a2).bind fun bt213 => (some (bt213.2, wrap64 ((bt213.1.length : Int) - bt213.2), true))) else (some (0, 0, false)))) = some (r1, r2, r3) := h
 clear h
 replace H := Option.bind_eq_some_iff.mp H
 obtain ⟨t212, A40, H⟩ := H
 (try dsimp only at H)
 have A4 := Aside0.mk A40
 clear A40
 by_cases c5 : t212 = true
 rotate_left
 ·replace c5 := Bool.eq_false_iff.mpr c5
  subst c5
  rw [if_neg (show ¬ (false = true) by decide)] at H
  simp only [Option.some.injEq, Prod.mk.injEq] at H
  obtain ⟨rfl, rfl, rfl⟩ := H
  go_enter Try.func11, Try.ntmps11
  go_wp2_with (first | ((with_reducible refine gate_callee (f := 35) rfl ?_); refine gl_ (some 14) Try.func35 #[.int .i64 a0, .int .i64 a1, .int .i64 a2] ?_; (with_reducible refine (spec_taAsked.calls a0 a1 a2 false _ A4.out).mono ?_); rintro e w' ⟨rfl, ⟨nd, rfl⟩⟩; refine ⟨_, rfl, ?_⟩))
  go_ret3
  exact ⟨by first | rfl | (simp [errW_none, errW_some] <;> rfl) | (simp [*, errW_none, errW_some] <;> rfl), bb_⟩

 subst c5
 rw [if_pos rfl] at H
 replace H := Option.bind_eq_some_iff.mp H
 obtain ⟨⟨t213, t214⟩, A60, H⟩ := H
 (try dsimp only at H)
 have A6 := Aside0.mk A60
 clear A60
 simp only [Option.some.injEq, Prod.mk.injEq] at H
 obtain ⟨rfl, rfl, rfl⟩ := H
 go_enter Try.func11, Try.ntmps11
 go_wp2_with (first | ((with_reducible refine gate_callee (f := 35) rfl ?_); refine gl_ (some 14) Try.func35 #[.int .i64 a0, .int .i64 a1, .int .i64 a2] ?_; (with_reducible refine (spec_taAsked.calls a0 a1 a2 true _ A4.out).mono ?_); rintro e w' ⟨rfl, ⟨nd, rfl⟩⟩; refine ⟨_, rfl, ?_⟩) | ((with_reducible refine gate_callee (f := 39) rfl ?_); refine gl_ (some 20) Try.func39 #[.int .i64 a0, .int .i64 a1, .int .i64 a2] ?_; (with_reducible refine (spec_taLead.calls k a0 a1 a2 t213 t214 _ A6.out).mono ?_); rintro e w7 ⟨v215, rfl, ho0, hb⟩; refine ⟨_, rfl, ?_⟩; have n0_ := Aside0.mk (Kd.R_lower ho0 bz_); have n1_ := Aside0.mk (bs_ hb); clear HB; have HO216 := n0_; have HB := n1_; clear n0_ n1_; (try clear hb); (try clear ho0); obtain ⟨Ao8, co8, eo8⟩ := Kd.R_slice HO216.out; subst eo8))
 go_ret3
 exact ⟨by first | rfl | (simp [errW_none, errW_some] <;> rfl) | (simp [*, errW_none, errW_some] <;> rfl), bb_⟩
/-! ### given: 04_numbersWith.tpl -/
/-- The numbers of a range at which p holds. -/
def numsW (p : Int → Bool) (lo hi : Int) : List Int := ((List.range (hi + 1 - lo).toNat).map fun (j : Nat) => lo + (j : Int)).filter p
/-- The first k numbers from lo on at which p holds. -/
def numsK (p : Int → Bool) (lo : Int) (k : Nat) : List Int := ((List.range k).map fun (j : Nat) => lo + (j : Int)).filter p
theorem numsK_len (p : Int → Bool) (lo : Int) (k : Nat) : (numsK p lo k).length ≤ k := by
  have := List.length_filter_le p ((List.range k).map fun (j : Nat) => lo + (j : Int))
  simpa [numsK] using this
theorem numsK_yes {p : Int → Bool} {lo : Int} {k : Nat} (h : p (lo + k) = true) : numsK p lo (k + 1) = numsK p lo k ++ [lo + k] := by
  simp [numsK, List.range_succ, h]
theorem numsK_no {p : Int → Bool} {lo : Int} {k : Nat} (h : p (lo + k) = false) : numsK p lo (k + 1) = numsK p lo k := by
  simp [numsK, List.range_succ, h]

set_option maxHeartbeats 2000000 in
set_option maxRecDepth 100000 in
theorem impl_numbersWith.ask (lo hi : Int) (g : Nat) (lb : Array Value) (p : Int → Bool) (D : Int → Prop) (w : World)
    (eg : ∀ args w, (callFunc g args).run Try.prog w = .ok (.enter g args) w) (h1 : -1000000000 ≤ lo) (h2 : hi ≤ 1000000000)
    (hp : Asks Try.prog g lb (Value.int .i64) p D w) (hD : ∀ x, lo ≤ x → x ≤ hi → D x) :
    Calls Try.prog 40 #[.int .i64 lo, .int .i64 hi, .func (.func g) #[] lb] w fun e w' => ∃ v0_ : Value, e = .returned (v0_) ∧ Kd.R (Kd.int .i64) 3 w' w.heap.size (fun _ => True) v0_ (numsW p lo hi) ∧ Below w.heap.size w w' := by
  have HB := Aside0.mk (Below.refl w.heap.size w)
  have HP := Aside0.mk hp
  have HD := Aside0.mk hD
  clear hp hD
  go_enter Try.func40, Try.ntmps40
  go_wp2_with (first | ((with_reducible refine gate_dst (N := 9) rfl ?_); refine Kd.R_lit (Kd.int .i64) _ 3 ?hg (N := 9) ?hd (xs := ([] : List Int)) (inner := []) (ok := fun _ => True) (okp := fun _ => True) ?hr ?hp (fun _ hk => hk) trivial (Below.refl _ _) (Nat.le_refl _) (by simp) ?_; (case hd => rfl); (case hg => rfl); (case hr => first | (go_simp; done) | (go_simp; rfl)); (case hp => exact (Reps.none _ _)); intro v247 w6 ho7 hb hg_ hnew_; clear hg_ hnew_; have n1_ := Aside0.mk (below_step HB.out hb); clear HB; have HO := Aside0.mk ho7; have HB := n1_; clear n1_; clear hb ho7))
  go_loopg [7, 8] (hi + 1 - lo).toNat (fun gg v7 v8 wr => ∃ kk : Nat, (kk : Int) ≤ max 0 (hi + 1 - lo) ∧ (hi + 1 - lo).toNat - kk ≤ gg ∧ v8 = .int .i64 (lo + kk) ∧ Aside0 (Kd.R (Kd.int .i64) 3 wr w.heap.size (fun _ => True) v7 (numsK p lo kk)) ∧ Aside0 (Below w.heap.size w wr))
  case atStart => exact ⟨0, by omega, by omega, by simp, HO, HB⟩
  case round =>
    obtain ⟨kk, hkk, hg, rfl, HO, HB⟩ := hrel
    by_cases hlt : lo + (kk : Int) ≤ hi
    · have hcall := HP.out wr (lo + kk) HB.out (HD.out _ (by omega) hlt)
      rcases Bool.eq_false_or_eq_true (p (lo + kk)) with hq | hq
      · have HC := Aside0.mk (hq ▸ hcall)
        have HQ := Aside0.mk (numsK_yes (lo := lo) hq)
        have HL := Aside0.mk (numsK_len p lo kk)
        clear hq hcall HP HD
        go_wp2_with (fail)
        refine HC.out.mono ?_
        rintro e w1 ⟨rfl, hb⟩
        have HO1 := Aside0.mk (Kd.R_below HO.out hb)
        have HB1 := Aside0.mk (below_then HB.out HB.out.size hb)
        clear hb HC HO HB
        go_wp2_with (first | ((with_reducible refine gate_builtin (b := .append) (xs := #[.tmp 19, .tmp 21]) rfl ?_); at_builtin; refine Kd.R_append (Kd.int .i64) (w0 := w) w.heap.size rfl (.tmp 19) (.tmp 21) 33 3 (.int .i64 0) 8 rfl Try.underlying33 info3 rfl (by decide) (by omega) u7 (numsK p lo kk) (lo + kk) [.int .i64 (lo + kk)] (fun _ => True) (fun _ => False) rfl rfl ?aP (fun _ hk => hk.elim) ?aF ?aO ?aB ?aS ?aL ?_; (case aP => exact rfl); (case aB => exact HB1.out); (case aF => exact (fun _ _ => trivial)); (case aO => exact HO1.out); (case aS => exact (below_size HB1.out)); (case aL => have := HL.out; omega); intro v238 w8 ho hb hg hat; rw [← HQ.out] at ho; have HB := Aside0.mk hb; have HO := Aside0.mk ho; clear ho hb hg hat HB1 HO1))
        go_roundg ((hi + 1 - lo).toNat - (kk + 1))
        case measure => omega
        case rel => exact ⟨kk + 1, by omega, by omega, by first | go_num | (congr 1; omega), HO, HB⟩
      · have HC := Aside0.mk (hq ▸ hcall)
        have HQ := Aside0.mk (numsK_no (lo := lo) hq)
        clear hq hcall HP HD
        go_wp2_with (fail)
        refine HC.out.mono ?_
        rintro e w1 ⟨rfl, hb⟩
        have HO1 := Aside0.mk (Kd.R_below HO.out hb)
        have HB1 := Aside0.mk (below_then HB.out HB.out.size hb)
        clear hb HC HO HB
        go_wp2
        go_roundg ((hi + 1 - lo).toNat - (kk + 1))
        case measure => omega
        case rel => exact ⟨kk + 1, by omega, by omega, by first | go_num | (congr 1; omega), ⟨by rw [HQ.out]; exact HO1.out⟩, HB1⟩
    · have hk' : kk = (hi + 1 - lo).toNat := by omega
      subst hk'
      clear HP HD
      go_wp2
      go_ret
      exact ⟨_, rfl, HO.out, HB.out⟩

/-! ### given: 04b_one.tpl -/
/-- A literal of one number, just laid. -/
theorem C_one (W : World) (T : Nat) (x : Int) : Kd.C (Kd.int .i64) (W.alloc (.cells #[.int .i64 x] T)) (some ⟨W.heap.size, 0, none⟩) [x].length [x] := by
  refine ⟨rfl, by simp, fun _ => ⟨_, rfl, fun j p hj => ?_⟩⟩
  obtain ⟨rfl, rfl⟩ : j = 0 ∧ x = p := by
    cases j with
    | zero => exact ⟨rfl, by simpa using hj⟩
    | succ j => simp at hj
  refine ⟨[.int .i64 x], rfl, rfl, fun i u hu => ?_⟩
  obtain ⟨rfl, rfl⟩ : i = 0 ∧ (Value.int .i64 x) = u := by
    cases i with
    | zero => exact ⟨rfl, by simpa using hu⟩
    | succ i => simp at hu
  simp [Addr.add]

/-! ### given: 08_linesTo.tpl -/
def impl_LinesTo.f (a0 : Int) (a1 : Int) (a2 : Int) : Option (List Int × Bool) :=
  some (if (inR a0 3 60 && inR a1 0 (a0 - 1) && inR a2 0 (a0 - 1)) = true then (numsW (fun p => p * a1 % a0 == a2) 0 (a0 - 1), true) else ([], false))

set_option maxHeartbeats 2000000 in
theorem impl_LinesTo_1.asks (a0 a1 a2 : Int) (B C D : Nat) (w : World) (hB : B < w.heap.size) (hC : C < w.heap.size) (hD : D < w.heap.size) (h0 : 3 ≤ a0) (h1 : a0 ≤ 60) (h2 : 0 ≤ a1) (h3 : a1 < a0)
    (hb : w.cell? ⟨B, 0, none⟩ = some (.int .i64 a0)) (hc : w.cell? ⟨C, 0, none⟩ = some (.int .i64 a1)) (hd : w.cell? ⟨D, 0, none⟩ = some (.int .i64 a2)) :
    Asks Try.prog 41 #[.pointer (some ⟨C, 0, none⟩), .pointer (some ⟨B, 0, none⟩), .pointer (some ⟨D, 0, none⟩)] (Value.int .i64) (fun p => p * a1 % a0 == a2) (fun x => 0 ≤ x ∧ x ≤ 60) w := by
  intro W x hW hx
  obtain ⟨hx0, hx1⟩ := hx
  have hb' : W.cell? ⟨B, 0, none⟩ = some (.int .i64 a0) := (hW.cell (p := ⟨B, 0, none⟩) hB).trans hb
  have hc' : W.cell? ⟨C, 0, none⟩ = some (.int .i64 a1) := (hW.cell (p := ⟨C, 0, none⟩) hC).trans hc
  have hd' : W.cell? ⟨D, 0, none⟩ = some (.int .i64 a2) := (hW.cell (p := ⟨D, 0, none⟩) hD).trans hd
  clear hb hc hd hW
  have hm : 0 ≤ x * a1 := Int.mul_nonneg hx0 h2
  have hm2 : x * a1 ≤ 60 * 60 := by
    have := Int.mul_le_mul hx1 (show a1 ≤ 60 by omega) h2 (by omega)
    omega
  have hz : (a0 == 0) = false := beq_eq_false_iff_ne.mpr (by omega)
  go_enter Try.func41, Try.ntmps41
  go_wp2
  repeat (go_quiet (fail); try go_wp2)
  go_ret
  exact ⟨rfl, by repeat (first | exact Below.refl _ _ | apply pw_below_drewN | apply below_alloc)⟩

set_option maxHeartbeats 2000000 in
theorem impl_LinesTo.calls (a0 : Int) (a1 : Int) (a2 : Int) (r1 : List Int) (r2 : Bool) (w : World) (h : impl_LinesTo.f a0 a1 a2 = some (r1, r2)) :
    Calls Try.prog 12 #[.int .i64 a0, .int .i64 a1, .int .i64 a2] w fun e w' => ∃ v0_ : Value, e = .returned (.tuple #[v0_, .bool r2]) ∧ Kd.R (Kd.int .i64) 3 w' w.heap.size (fun _ => True) v0_ r1 ∧ Below w.heap.size w w' := by
  unfold impl_LinesTo.f at h
  have hB2 : Below w.heap.size w ((((w.alloc (.cells #[.int .i64 a0] 3)).alloc (.cells #[.int .i64 a1] 3)).alloc (.cells #[.int .i64 a2] 3)).alloc (.cells #[.int .i64 a2] 3)) := below_alloc (below_alloc (below_alloc (below_alloc (Below.refl _ _) _) _) _) _
  have HB2 := Aside0.mk hB2
  clear hB2
  by_cases hq : (inR a0 3 60 && inR a1 0 (a0 - 1) && inR a2 0 (a0 - 1)) = true
  · rw [if_pos hq] at h
    simp only [Option.some.injEq, Prod.mk.injEq] at h
    obtain ⟨rfl, rfl⟩ := h
    have hT : impl_isTable.f a0 a1 [a2] = some true := by
      unfold impl_isTable.f; rw [← hq]; simp
    simp only [Bool.and_eq_true, inR_true] at hq
    obtain ⟨⟨⟨h0, h1⟩, h2, h3⟩, h4, h5⟩ := hq
    have HT := impl_isTable.calls a0 a1 (some ⟨w.heap.size + 3, 0, none⟩) 1 [a2] true ((((w.alloc (.cells #[.int .i64 a0] 3)).alloc (.cells #[.int .i64 a1] 3)).alloc (.cells #[.int .i64 a2] 3)).alloc (.cells #[.int .i64 a2] 3)) (by have := C_one (((w.alloc (.cells #[.int .i64 a0] 3)).alloc (.cells #[.int .i64 a1] 3)).alloc (.cells #[.int .i64 a2] 3)) 3 a2; simpa using this) (by simp) hT
    have HT := Aside0.mk HT
    clear hT
    go_enter Try.func12, Try.ntmps12
    go_wp2_with (fail)
    refine HT.out.mono ?_
    rintro e w1 ⟨rfl, hb⟩
    have hc0 : w1.cell? ⟨w.heap.size, 0, none⟩ = some (.int .i64 a0) := (hb.cell (p := ⟨w.heap.size, 0, none⟩) (by simp; omega)).trans (by repeat (first | (refine cell_new ?_; (simp; done)) | refine cell_later _ ?_))
    have hc1 : w1.cell? ⟨w.heap.size + 1, 0, none⟩ = some (.int .i64 a1) := (hb.cell (p := ⟨w.heap.size + 1, 0, none⟩) (by simp)).trans (by repeat (first | (refine cell_new ?_; (simp; done)) | refine cell_later _ ?_))
    have hc2 : w1.cell? ⟨w.heap.size + 1 + 1, 0, none⟩ = some (.int .i64 a2) := (hb.cell (p := ⟨w.heap.size + 1 + 1, 0, none⟩) (by simp)).trans (by repeat (first | (refine cell_new ?_; (simp; done)) | refine cell_later _ ?_))
    have hz : w.heap.size + 4 ≤ w1.heap.size := by have := hb.size; simp at this; omega
    have HK := Aside0.mk (impl_numbersWith.ask 0 (a0 - 1) 41 #[.pointer (some ⟨w.heap.size + 1, 0, none⟩), .pointer (some ⟨w.heap.size, 0, none⟩), .pointer (some ⟨w.heap.size + 1 + 1, 0, none⟩)] (fun p => p * a1 % a0 == a2) (fun x => 0 ≤ x ∧ x ≤ 60)
      w1 (enters_of Try.func41 (by kernel_rfl) rfl) (by omega) (by omega)
      (impl_LinesTo_1.asks a0 a1 a2 _ _ _ _ (by omega) (by omega) (by omega) h0 h1 h2 (by omega) hc0 hc1 hc2) (fun x hx hy => ⟨hx, by omega⟩))
    have HB3 := Aside0.mk (below_then HB2.out HB2.out.size hb)
    clear hb HT HB2
    go_wp2_with (fail)
    refine HK.out.mono ?_
    rintro e w2 ⟨v, rfl, ho, hb⟩
    have HO := Aside0.mk (Kd.R_lower ho HB3.out.size)
    have HB := Aside0.mk (below_then HB3.out HB3.out.size hb)
    clear ho hb HK HB3
    go_wp2
    go_ret2
    exact ⟨_, rfl, HO.out, HB.out⟩
  · rw [if_neg hq] at h
    simp only [Option.some.injEq, Prod.mk.injEq] at h
    obtain ⟨rfl, rfl⟩ := h
    have hT : impl_isTable.f a0 a1 [a2] = some false := by
      simp only [Bool.not_eq_true] at hq
      unfold impl_isTable.f; rw [← hq]; simp
    have HT := impl_isTable.calls a0 a1 (some ⟨w.heap.size + 3, 0, none⟩) 1 [a2] false ((((w.alloc (.cells #[.int .i64 a0] 3)).alloc (.cells #[.int .i64 a1] 3)).alloc (.cells #[.int .i64 a2] 3)).alloc (.cells #[.int .i64 a2] 3)) (by have := C_one (((w.alloc (.cells #[.int .i64 a0] 3)).alloc (.cells #[.int .i64 a1] 3)).alloc (.cells #[.int .i64 a2] 3)) 3 a2; simpa using this) (by simp) hT
    have HT := Aside0.mk HT
    clear hT hq
    go_enter Try.func12, Try.ntmps12
    go_wp2_with (fail)
    refine HT.out.mono ?_
    rintro e w1 ⟨rfl, hb⟩
    have HB3 := Aside0.mk (below_then HB2.out HB2.out.size hb)
    clear hb HT HB2
    go_wp2
    go_ret2
    exact ⟨_, rfl, Kd.R_nil _ _ _ _ _, HB3.out⟩

end Go.Proofs.Ytgiiaajincdhnaa.P
