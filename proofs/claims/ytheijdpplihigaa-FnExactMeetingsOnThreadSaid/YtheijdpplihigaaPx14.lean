/- A part of this seat's proofs: contracts of the translated functions, written by the session's own program (gp.py) out of the kit's print.py and the session's own contracts; no conditions of its own. -/
import Derived.Test.YtheijdpplihigaaPx0
import Derived.Test.YtheijdpplihigaaPx1
import Derived.Test.YtheijdpplihigaaPx7
import Derived.Test.YtheijdpplihigaaPx11
import Derived.Test.YtheijdpplihigaaPx12
import Derived.Test.YtheijdpplihigaaPx13
namespace Go.Proofs.Ytheijdpplihigaa.P
open Go.RowKit Go.Proofs.YtheijdpplihigaaW.PrintWords Go.Proofs.YtheijdpplihigaaW.PrintLast Go.Proofs.YtheijdpplihigaaW.PrintMore
attribute [local go_sem] max2_int min2_int max_two min_two max_three min_three max_four min_four   -- for this text's walks alone
set_option linter.unusedVariables false
set_option linter.unusedSimpArgs false

/-! ### laws_markIntS: function 30 -/
def laws_markIntS.l0 : Nat → List Int → Int → Int → Option (Int × List Int)
 | 0, _, _, _ => none
 | k + 1, x0, x1, x5 => if x5 < (x0.length : Int) then (if 0 ≤ x5 then (laws_markIntS.l0 k (x0.set (x5 : Int).toNat x1) (wrap64 (x1 + 1)) (wrap64 (x5 + 1))) else (none)) else (some (x1, x0))
def laws_markIntS.f (k : Nat) (l0 : List Int) (a1 : Int) : Option (Int × List Int) := laws_markIntS.l0 k l0 a1 0
theorem laws_markIntS.mono_l : ∀ k, (∀ y0 y1 y2, LeO (laws_markIntS.l0 k y0 y1 y2) (laws_markIntS.l0 (k + 1) y0 y1 y2))
 | 0 => fun _ _ _ r h => by simp [laws_markIntS.l0] at h
 | k + 1 => by
  have ih0 := laws_markIntS.mono_l k
  ·intro y0 y1 y2
   unfold laws_markIntS.l0
   repeat' with_reducible first | apply ih0 | exact LeO.refl _ | exact LeO.none _ | refine LeO.ite ?_ ?_ | refine LeO.bind ?_ (fun _ => ?_)
theorem laws_markIntS.mono : ∀ a0 a1 k, LeO (laws_markIntS.f k a0 a1) (laws_markIntS.f (k + 1) a0 a1) := by
 intro a0 a1 k
 have ih0 := laws_markIntS.mono_l k
 unfold laws_markIntS.f
 repeat' with_reducible first | apply ih0 | exact LeO.refl _ | exact LeO.none _ | refine LeO.ite ?_ ?_ | refine LeO.bind ?_ (fun _ => ?_)
set_option maxHeartbeats 8000000 in
set_option maxRecDepth 100000 in
theorem laws_markIntS.calls (k : Nat) (P0_ : Nat → Prop) (u9000_ : Value) (l0 : List Int) (a1 : Int) (r1 : Int) (r2 : List Int) (w0 w : World) (hB : Below w0.heap.size w0 w) (ho0 : Kd.R (Kd.int .i64) 3 w w0.heap.size P0_ u9000_ l0) (h : laws_markIntS.f k l0 a1 = some (r1, r2)) :
  Calls Try.prog 30 #[u9000_, .int .i64 a1] w fun e w' => e = .returned (.int .i64 r1) ∧ Kd.R (Kd.int .i64) 3 w' w0.heap.size (fun k_ => (P0_ k_ ∨ w.heap.size ≤ k_)) u9000_ r2 ∧ Below w0.heap.size w0 w' ∧ Kept w w' (fun k_ => P0_ k_) := by
 have HO0 := Aside0.mk (show Kd.R (Kd.int .i64) 3 w w0.heap.size (fun k_ => (P0_ k_ ∨ w.heap.size ≤ k_)) u9000_ l0 from Kd.R_mono ho0 (fun k_ hk => (.inl hk)))
 have HK := Aside0.mk (Kept.refl w (fun k_ => P0_ k_))
 have HW0 := Aside0.mk hB.size
 have HB := Aside0.mk hB
 clear hB
 have H : (laws_markIntS.l0 k l0 a1 0) = some (r1, r2) := h
 clear h
 have H' := Aside0.mk H
 clear H
 go_enter Try.func30, Try.ntmps30
 go_wp2
 go_loopg [1, 5] k (fun kq v1 v5 w' => ∃ (x0_1 : List Int) (x1_1 : Int) (x5_1 : Int), v1 = .int .i64 x1_1 ∧ v5 = .int .i64 x5_1 ∧ Aside0 (laws_markIntS.l0 kq x0_1 x1_1 x5_1 = some (r1, r2)) ∧ Aside0 (kq ≤ k) ∧ Aside0 (Kd.R (Kd.int .i64) 3 w' w0.heap.size (fun k_ => (P0_ k_ ∨ w.heap.size ≤ k_)) u9000_ x0_1) ∧ Aside0 (Kept w w' (fun k_ => P0_ k_)) ∧ Aside0 (Below w0.heap.size w0 w'))
 case atStart => exact ⟨(l0), (a1), (0), (by first | rfl | (simp; done) | (simp [*]; done)), (by first | rfl | (simp; done) | (simp [*]; done)), H', ⟨Nat.le_refl _⟩, ⟨by (with_reducible repeat (first | apply Kd.R_alloc | apply Kd.R_drewN | apply Kd.R_drew)); exact HO0.out⟩, ⟨by repeat (first | (with_reducible first | apply Kept.alloc | apply Kept.drewN | apply Kept.drew) | exact HK.out)⟩, ⟨bb_⟩⟩
 case round =>
  clear H'
  try clear p2
  obtain ⟨x0_1, x1_1, x5_1, rfl, rfl, HA, HK1, HO_0, HK, HB⟩ := hrel
  cases gk with
  | zero => exact absurd HA.out (by simp [laws_markIntS.l0])
  | succ k1 =>
   have H := HA.out
   clear HA
   simp only [laws_markIntS.l0] at H
   by_cases c3 : x5_1 < (x0_1.length : Int)
   rotate_left
   ·rw [if_neg c3] at H
    have c3b0 : decide (x5_1 < (x0_1.length : Int)) = false := decide_eq_false c3
    clear c3
    simp only [Option.some.injEq, Prod.mk.injEq] at H
    obtain ⟨rfl, rfl⟩ := H
    obtain ⟨Ao9, co9, eo9⟩ := Kd.R_slice HO_0.out
    subst eo9
    go_wp2
    go_ret
    exact ⟨by first | rfl | (simp [errW_none, errW_some] <;> rfl) | (simp [*, errW_none, errW_some] <;> rfl), by (with_reducible repeat (first | apply Kd.R_alloc | apply Kd.R_drewN | apply Kd.R_drew)); exact HO_0.out, by repeat (first | (with_reducible first | apply below_alloc | apply pw_below_drewN | apply below_drew1) | exact HB.out), by repeat (first | (with_reducible first | apply Kept.alloc | apply Kept.drewN | apply Kept.drew) | exact HK.out)⟩

   rw [if_pos c3] at H
   have c3b0 : decide (x5_1 < (x0_1.length : Int)) = true := decide_eq_true c3
   clear c3
   by_cases c4 : 0 ≤ x5_1
   rotate_left
   ·rw [if_neg c4] at H
    exact absurd H (by simp)
   rw [if_pos c4] at H
   have c4b0 : decide (0 ≤ x5_1) = true := decide_eq_true c4
   clear c4
   obtain ⟨y248, hy248⟩ : ∃ y_ : List Int, y_ = (x0_1.set (x5_1 : Int).toNat x1_1) := ⟨_, rfl⟩
   replace H : (laws_markIntS.l0 k1 y248 (wrap64 (x1_1 + 1)) (wrap64 (x5_1 + 1))) = some (r1, r2) := by first | (rw [hy248]; with_reducible exact H) | (have H2_ := (Option.bind_some _ _).symm.trans H; rw [hy248]; with_reducible exact H2_) | (have H2_ := (Option.bind_some _ _).symm.trans H; with_reducible exact H2_) | with_reducible exact H | (rw [hy248]; exact H) | exact H
   have Ny248 := Aside0.mk hy248
   clear hy248
   have H' := Aside0.mk H
   clear H
   obtain ⟨Ao6, co6, eo6⟩ := Kd.R_slice HO_0.out
   subst eo6
   have p5 : 0 ≤ (x5_1 : Int) := of_decide_eq_true (by assumption)
   have q5 : (x5_1 : Int) < ((x0_1.length : Int) : Int) := of_decide_eq_true (by assumption)
   obtain ⟨go5, co5, eo5, gb5, gl5, cl5, HG5⟩ := Kd.R_form HO_0.out (by omega)
   (first | cases eo5 | (injection eo5 with ea_ en_ ec_; (first | subst ea_ | (injection ea_ with ea_; subst ea_)); subst ec_; clear en_))
   have GB5 := Aside0.mk gb5
   have GG5 := Aside0.mk HG5
   clear gb5 gl5 HG5
   have HMgo5 := Aside0.mk (show (P0_ go5 ∨ w.heap.size ≤ go5) from (HO_0.out.1 _ rfl))
   obtain ⟨hx5_0, hf5_0⟩ := Kd.R_celln 0 HO_0.out (x5_1 : Int) p5 q5
   replace p5 := eq_true p5
   replace q5 := eq_true q5
   have HP7 := Kd.R_putg HO_0.out (x5_1 : Int) x1_1
   go_wp2_with (first | ((with_reducible refine gate_store (t := 3) (p := 15) rfl ?_); refine store_event (t := 3) (p := 15) (v := ?vo_w8) (w1 := (wr.setCell ⟨go5, (x5_1 : Int).toNat, none⟩ (.int .i64 x1_1))) ?hg ?ho ?hn ?hr ?_; (case ho => rfl); (case hg => rfl); (case hn => rfl); (case hr => first | (go_simp; done) | (go_simp; rfl)); intro w8 hw; have hg : wr.grownBy w8 (some go5) := (by rw [hw]; exact HP7.2); have hp_ : Kd.R (Kd.int .i64) 3 w8 w0.heap.size (fun k_ => (P0_ k_ ∨ w.heap.size ≤ k_)) (.slice (some ⟨go5, 0, none⟩) x0_1.length co6) y248 := (by rw [hw, Ny248.out]; exact HP7.1); clear HP7; have n0_ := Aside0.mk (hp_); have n1_ := Aside0.mk ((by rw [hw]; exact below_set (HB.out) GB5.out : Below w0.heap.size w0 w8)); have n2_ := Aside0.mk (Kept.of_grown (S := (fun k_ => P0_ k_)) hg (by repeat (first | (with_reducible first | apply Kept.alloc | apply Kept.drewN | apply Kept.drew) | exact HK.out)) (fun k_ e_ => (HO_0.out.1 k_ e_))); clear HO_0; clear HB; clear HK; have HO_0 := n0_; have HB := n1_; have HK := n2_; clear n0_ n1_ n2_; clear hg hw hp_))
   go_roundg k1
   case measure => have := HK1.out; omega
   case rel => exact ⟨(y248), (wrap64 (x1_1 + 1)), (wrap64 (x5_1 + 1)), (by first | rfl | (simp; done) | (simp [*]; done)), (by first | rfl | (simp; done) | (simp [*]; done)), H', ⟨by have := HK1.out; omega⟩, ⟨by (with_reducible repeat (first | apply Kd.R_alloc | apply Kd.R_drewN | apply Kd.R_drew)); exact HO_0.out⟩, ⟨by repeat (first | (with_reducible first | apply Kept.alloc | apply Kept.drewN | apply Kept.drew) | exact HK.out)⟩, ⟨bb_⟩⟩
/-! ### laws_heldIntS: function 31 -/
def laws_heldIntS.l0 : Nat → List Int → Int → Int → Option (Int)
 | 0, _, _, _ => none
 | k + 1, x0, x1, x5 => if x5 < (x0.length : Int) then (if 0 ≤ x5 then (if (rd x0 x5) = x1 then (laws_heldIntS.l0 k x0 (wrap64 (x1 + 1)) (wrap64 (x5 + 1))) else (some (-1))) else (none)) else (some x1)
def laws_heldIntS.f (k : Nat) (l0 : List Int) (a1 : Int) : Option (Int) := laws_heldIntS.l0 k l0 a1 0
theorem laws_heldIntS.mono_l : ∀ k, (∀ y0 y1 y2, LeO (laws_heldIntS.l0 k y0 y1 y2) (laws_heldIntS.l0 (k + 1) y0 y1 y2))
 | 0 => fun _ _ _ r h => by simp [laws_heldIntS.l0] at h
 | k + 1 => by
  have ih0 := laws_heldIntS.mono_l k
  ·intro y0 y1 y2
   unfold laws_heldIntS.l0
   repeat' with_reducible first | apply ih0 | exact LeO.refl _ | exact LeO.none _ | refine LeO.ite ?_ ?_ | refine LeO.bind ?_ (fun _ => ?_)
theorem laws_heldIntS.mono : ∀ a0 a1 k, LeO (laws_heldIntS.f k a0 a1) (laws_heldIntS.f (k + 1) a0 a1) := by
 intro a0 a1 k
 have ih0 := laws_heldIntS.mono_l k
 unfold laws_heldIntS.f
 repeat' with_reducible first | apply ih0 | exact LeO.refl _ | exact LeO.none _ | refine LeO.ite ?_ ?_ | refine LeO.bind ?_ (fun _ => ?_)
set_option maxHeartbeats 8000000 in
set_option maxRecDepth 100000 in
theorem laws_heldIntS.calls (k : Nat) (A0 : Option Addr) (c0 : Nat) (l0 : List Int) (a1 : Int) (r : Int) (w : World) (hr0 : Kd.C (Kd.int .i64) w A0 l0.length l0) (hc0 : l0.length ≤ c0) (h : laws_heldIntS.f k l0 a1 = some r) :
  Calls Try.prog 31 #[.slice A0 l0.length c0, .int .i64 a1] w fun e w' => e = .returned (.int .i64 r) ∧ Drawn0 w w' := by
 have HR0 := Aside0.mk hr0
 have HC0 := Aside0.mk hc0
 clear hr0 hc0
 have H : (laws_heldIntS.l0 k l0 a1 0) = some r := h
 clear h
 have H' := Aside0.mk H
 clear H
 go_enter Try.func31, Try.ntmps31
 go_wp2
 go_loopg [1, 5] k (fun kq v1 v5 w' => ∃ (x1_1 : Int) (x5_1 : Int), v1 = .int .i64 x1_1 ∧ v5 = .int .i64 x5_1 ∧ Aside0 (laws_heldIntS.l0 kq l0 x1_1 x5_1 = some r) ∧ Aside0 (kq ≤ k) ∧ Drawn0 w w')
 case atStart => exact ⟨(a1), (0), (by first | rfl | (simp; done) | (simp [*]; done)), (by first | rfl | (simp; done) | (simp [*]; done)), H', ⟨Nat.le_refl _⟩, by repeat (first | exact Drawn0.refl _ | apply Drawn0.step)⟩
 case round =>
  clear H'
  try clear p2
  obtain ⟨x1_1, x5_1, rfl, rfl, HA, HK1, ⟨m1, rfl⟩⟩ := hrel
  cases gk with
  | zero => exact absurd HA.out (by simp [laws_heldIntS.l0])
  | succ k1 =>
   have H := HA.out
   clear HA
   simp only [laws_heldIntS.l0] at H
   by_cases c3 : x5_1 < (l0.length : Int)
   rotate_left
   ·rw [if_neg c3] at H
    have c3b0 : decide (x5_1 < (l0.length : Int)) = false := decide_eq_false c3
    clear c3
    obtain rfl := Option.some.inj H
    go_wp2
    go_ret
    exact ⟨by first | rfl | (simp; done) | (simp [*]; done), by repeat (first | exact Drawn0.refl _ | apply Drawn0.step)⟩

   rw [if_pos c3] at H
   have c3b0 : decide (x5_1 < (l0.length : Int)) = true := decide_eq_true c3
   clear c3
   by_cases c4 : 0 ≤ x5_1
   rotate_left
   ·rw [if_neg c4] at H
    exact absurd H (by simp)
   rw [if_pos c4] at H
   have c4b0 : decide (0 ≤ x5_1) = true := decide_eq_true c4
   clear c4
   by_cases c5 : (rd l0 x5_1) = x1_1
   rotate_left
   ·rw [if_neg c5] at H
    have c5b0 : ((rd l0 x5_1) == x1_1) = false := beq_eq_false_iff_ne.mpr c5
    have c5b1 : ((rd l0 x5_1) != x1_1) = true := bne_iff_ne.mpr c5
    obtain rfl := Option.some.inj H
    have p249 : 0 ≤ (x5_1 : Int) := of_decide_eq_true (by assumption)
    have q249 : x5_1 < (l0.length : Int) := of_decide_eq_true (by assumption)
    obtain ⟨ad249, e249, hx249_0⟩ := Kd.at_int HR0.out x5_1 p249 q249
    cases e249
    replace p249 := eq_true p249
    replace q249 := eq_true q249
    go_wp2
    go_ret
    exact ⟨by first | rfl | (simp; done) | (simp [*]; done), by repeat (first | exact Drawn0.refl _ | apply Drawn0.step)⟩
   rw [if_pos c5] at H
   have c5b0 : ((rd l0 x5_1) == x1_1) = true := beq_iff_eq.mpr c5
   have c5b1 : ((rd l0 x5_1) != x1_1) = false := bne_eq_false_iff_eq.mpr c5
   clear c5
   have H' := Aside0.mk H
   clear H
   have p249 : 0 ≤ (x5_1 : Int) := of_decide_eq_true (by assumption)
   have q249 : x5_1 < (l0.length : Int) := of_decide_eq_true (by assumption)
   obtain ⟨ad249, e249, hx249_0⟩ := Kd.at_int HR0.out x5_1 p249 q249
   cases e249
   replace p249 := eq_true p249
   replace q249 := eq_true q249
   go_wp2
   go_roundg k1
   case measure => have := HK1.out; omega
   case rel => exact ⟨(wrap64 (x1_1 + 1)), (wrap64 (x5_1 + 1)), (by first | rfl | (simp; done) | (simp [*]; done)), (by first | rfl | (simp; done) | (simp [*]; done)), H', ⟨by have := HK1.out; omega⟩, by repeat (first | exact Drawn0.refl _ | apply Drawn0.step)⟩
/-! ### laws_FnExactMeetingsOnThread: function 4 -/
def laws_FnExactMeetingsOnThread.f (k : Nat) (l0 : List (S77)) (a1 : Int) : Option (Bool) := (laws_szThreadS.f l0 1048576).bind fun t250 => (if t250 < 0 then (some true) else ((laws_toThreadS.f k l0).bind fun t251 => ((spec_MeetingsOnThread.f k t251 a1).bind fun bt254 => ((laws_toThreadS.f k l0).bind fun t258 => ((impl_MeetingsOnThread.f k t258 a1).bind fun bt261 => ((laws_eqIntS.f k bt261.1 bt254.1).bind fun t265 => (if t265 = true then (if (bt261.2 != bt254.2) = true then (none) else ((laws_toThreadS.f k l0).bind fun t266 => ((laws_eqThreadS.f k t258 t266).bind fun t269 => (if t269 = true then ((laws_markThreadS.f k t258 1).bind fun bt270 => (if bt270.1 < 0 then (none) else ((laws_eqIntS.f k bt261.1 bt254.1).bind fun t272 => (if t272 = true then ((laws_markIntS.f k bt261.1 1).bind fun bt273 => ((laws_heldIntS.f k bt273.2 1).bind fun t275 => (if t275 < 0 then (none) else (if t275 = bt273.1 then ((laws_toThreadS.f k l0).bind fun t276 => ((impl_MeetingsOnThread.f k t276 a1).bind fun bt279 => ((laws_eqIntS.f k bt279.1 bt254.1).bind fun t283 => (if t283 = true then (if (bt279.2 != bt254.2) = true then (none) else ((laws_heldIntS.f k bt273.2 1).bind fun t284 => (if t284 < 0 then (none) else (if t284 = bt273.1 then (some true) else (none))))) else (none))))) else (none))))) else (none))))) else (none))))) else (none))))))))
theorem laws_FnExactMeetingsOnThread.mono : ∀ a0 a1 k, LeO (laws_FnExactMeetingsOnThread.f k a0 a1) (laws_FnExactMeetingsOnThread.f (k + 1) a0 a1) := by
 intro a0 a1 k
 unfold laws_FnExactMeetingsOnThread.f
 repeat' with_reducible first | apply impl_MeetingsOnThread.mono | apply laws_eqIntS.mono | apply laws_eqThreadS.mono | apply laws_heldIntS.mono | apply laws_markIntS.mono | apply laws_markThreadS.mono | apply laws_toThreadS.mono | apply spec_MeetingsOnThread.mono | exact LeO.refl _ | exact LeO.none _ | refine LeO.ite ?_ ?_ | refine LeO.bind ?_ (fun _ => ?_)
set_option maxHeartbeats 8000000 in
set_option maxRecDepth 100000 in
theorem laws_FnExactMeetingsOnThread.calls (k : Nat) (A0 : Option Addr) (c0 : Nat) (l0 : List (S77)) (a1 : Int) (r : Bool) (w : World) (hr0 : Kd.C k77 w A0 l0.length l0) (hc0 : l0.length ≤ c0) (h : laws_FnExactMeetingsOnThread.f k l0 a1 = some r) :
  Calls Try.prog 4 #[.slice A0 l0.length c0, .int .i64 a1] w fun e w' => e = .returned (.bool r) ∧ Below w.heap.size w w' := by
 have HR0 := Aside0.mk hr0
 have HC0 := Aside0.mk hc0
 clear hr0 hc0
 have HB := Aside0.mk (Below.refl w.heap.size w)
 have H : ((laws_szThreadS.f l0 1048576).bind fun t250 => (if t250 < 0 then (some true) else ((laws_toThreadS.f k l0).bind fun t251 => ((spec_MeetingsOnThread.f k t251 a1).bind fun bt254 => ((laws_toThreadS.f k l0).bind fun t258 => ((impl_MeetingsOnThread.f k t258 a1).bind fun bt261 => ((laws_eqIntS.f k bt261.1 bt254.1).bind fun t265 => (if t265 = true then (if (bt261.2 != bt254.2) = true then (none) else ((laws_toThreadS.f k l0).bind fun t266 => ((laws_eqThreadS.f k t258 t266).bind fun t269 => (if t269 = true then ((laws_markThreadS.f k t258 1).bind fun bt270 => (if bt270.1 < 0 then (none) else ((laws_eqIntS.f k bt261.1 bt254.1).bind fun t272 => (if t272 = true then ((laws_markIntS.f k bt261.1 1).bind fun bt273 => ((laws_heldIntS.f k bt273.2 1).bind fun t275 => (if t275 < 0 then (none) else (if t275 = bt273.1 then ((laws_toThreadS.f k l0).bind fun t276 => ((impl_MeetingsOnThread.f k t276 a1).bind fun bt279 => ((laws_eqIntS.f k bt279.1 bt254.1).bind fun t283 => (if t283 = true then (if (bt279.2 != bt254.2) = true then (none) else ((laws_heldIntS.f k bt273.2 1).bind fun t284 => (if t284 < 0 then (none) else (if t284 = bt273.1 then (some true) else (none))))) else (none))))) else (none))))) else (none))))) else (none))))) else (none))))))))) = some r := h
 clear h
 replace H := Option.bind_eq_some_iff.mp H
 obtain ⟨t250, A30, H⟩ := H
 (try dsimp only at H)
 have A3 := Aside0.mk A30
 clear A30
 by_cases c4 : t250 < 0
 ·as_aux_lemma =>
  rw [if_pos c4] at H
  have c4b0 : decide (t250 < 0) = true := decide_eq_true c4
  clear c4
  obtain rfl := Option.some.inj H
  go_enter Try.func4, Try.ntmps4
  go_wp2_with (first | ((with_reducible refine gate_callee (f := 25) rfl ?_); refine gl_ (some 18) Try.func25 #[.slice A0 l0.length c0, .int .i64 1048576] ?_; (with_reducible refine (laws_szThreadS.calls _ _ l0 1048576 t250 _ ?side1 ?side2 A3.out).mono ?_); (case side1 => exact cu_ HR0.out); (case side2 => exact HC0.out); rintro e w' ⟨rfl, ⟨nd, rfl⟩⟩; refine ⟨_, rfl, ?_⟩))
  go_ret
  exact ⟨by first | rfl | (simp [errW_none, errW_some] <;> rfl) | (simp [*, errW_none, errW_some] <;> rfl), bb_⟩
 rw [if_neg c4] at H
 have c4b0 : decide (t250 < 0) = false := decide_eq_false c4
 clear c4
 replace H := Option.bind_eq_some_iff.mp H
 obtain ⟨t251, A50, H⟩ := H
 (try dsimp only at H)
 have A5 := Aside0.mk A50
 clear A50
 replace H := Option.bind_eq_some_iff.mp H
 obtain ⟨⟨t254, t255⟩, A60, H⟩ := H
 (try dsimp only at H)
 have A6 := Aside0.mk A60
 clear A60
 replace H := Option.bind_eq_some_iff.mp H
 obtain ⟨t258, A70, H⟩ := H
 (try dsimp only at H)
 have A7 := Aside0.mk A70
 clear A70
 replace H := Option.bind_eq_some_iff.mp H
 obtain ⟨⟨t261, t262⟩, A80, H⟩ := H
 (try dsimp only at H)
 have A8 := Aside0.mk A80
 clear A80
 replace H := Option.bind_eq_some_iff.mp H
 obtain ⟨t265, A90, H⟩ := H
 (try dsimp only at H)
 have A9 := Aside0.mk A90
 clear A90
 by_cases c10 : t265 = true
 rotate_left
 ·replace c10 := Bool.eq_false_iff.mpr c10
  subst c10
  rw [if_neg (show ¬ (false = true) by decide)] at H
  exact absurd H (by simp)

 subst c10
 rw [if_pos rfl] at H
 by_cases c11 : (t262 != t255) = true
 ·rw [if_pos c11] at H
  exact absurd H (by simp)
 rw [if_neg c11] at H
 have c11b0 : (t262 != t255) = false := by simpa using c11
 (try (have c11b1 : decide (t262 = t255) = true := by simpa using c11))
 (try (have c11b2 : (t262 == t255) = true := by simpa using c11))
 clear c11
 replace H := Option.bind_eq_some_iff.mp H
 obtain ⟨t266, A120, H⟩ := H
 (try dsimp only at H)
 have A12 := Aside0.mk A120
 clear A120
 replace H := Option.bind_eq_some_iff.mp H
 obtain ⟨t269, A130, H⟩ := H
 (try dsimp only at H)
 have A13 := Aside0.mk A130
 clear A130
 by_cases c14 : t269 = true
 rotate_left
 ·replace c14 := Bool.eq_false_iff.mpr c14
  subst c14
  rw [if_neg (show ¬ (false = true) by decide)] at H
  exact absurd H (by simp)
 subst c14
 rw [if_pos rfl] at H
 replace H := Option.bind_eq_some_iff.mp H
 obtain ⟨⟨t270, t271⟩, A150, H⟩ := H
 (try dsimp only at H)
 have A15 := Aside0.mk A150
 clear A150
 by_cases c16 : t270 < 0
 ·rw [if_pos c16] at H
  exact absurd H (by simp)
 rw [if_neg c16] at H
 have c16b0 : decide (t270 < 0) = false := decide_eq_false c16
 clear c16
 replace H := Option.bind_eq_some_iff.mp H
 obtain ⟨t272, A170, H⟩ := H
 (try dsimp only at H)
 have A17 := Aside0.mk A170
 clear A170
 by_cases c18 : t272 = true
 rotate_left
 ·replace c18 := Bool.eq_false_iff.mpr c18
  subst c18
  rw [if_neg (show ¬ (false = true) by decide)] at H
  exact absurd H (by simp)
 subst c18
 rw [if_pos rfl] at H
 replace H := Option.bind_eq_some_iff.mp H
 obtain ⟨⟨t273, t274⟩, A190, H⟩ := H
 (try dsimp only at H)
 have A19 := Aside0.mk A190
 clear A190
 replace H := Option.bind_eq_some_iff.mp H
 obtain ⟨t275, A200, H⟩ := H
 (try dsimp only at H)
 have A20 := Aside0.mk A200
 clear A200
 by_cases c21 : t275 < 0
 ·rw [if_pos c21] at H
  exact absurd H (by simp)
 rw [if_neg c21] at H
 have c21b0 : decide (t275 < 0) = false := decide_eq_false c21
 clear c21
 by_cases c22 : t275 = t273
 rotate_left
 ·rw [if_neg c22] at H
  exact absurd H (by simp)
 rw [if_pos c22] at H
 have c22b0 : (t275 == t273) = true := beq_iff_eq.mpr c22
 have c22b1 : (t275 != t273) = false := bne_eq_false_iff_eq.mpr c22
 clear c22
 replace H := Option.bind_eq_some_iff.mp H
 obtain ⟨t276, A230, H⟩ := H
 (try dsimp only at H)
 have A23 := Aside0.mk A230
 clear A230
 replace H := Option.bind_eq_some_iff.mp H
 obtain ⟨⟨t279, t280⟩, A240, H⟩ := H
 (try dsimp only at H)
 have A24 := Aside0.mk A240
 clear A240
 replace H := Option.bind_eq_some_iff.mp H
 obtain ⟨t283, A250, H⟩ := H
 (try dsimp only at H)
 have A25 := Aside0.mk A250
 clear A250
 by_cases c26 : t283 = true
 rotate_left
 ·replace c26 := Bool.eq_false_iff.mpr c26
  subst c26
  rw [if_neg (show ¬ (false = true) by decide)] at H
  exact absurd H (by simp)
 subst c26
 rw [if_pos rfl] at H
 by_cases c27 : (t280 != t255) = true
 ·rw [if_pos c27] at H
  exact absurd H (by simp)
 rw [if_neg c27] at H
 have c27b0 : (t280 != t255) = false := by simpa using c27
 (try (have c27b1 : decide (t280 = t255) = true := by simpa using c27))
 (try (have c27b2 : (t280 == t255) = true := by simpa using c27))
 clear c27
 replace H := Option.bind_eq_some_iff.mp H
 obtain ⟨t284, A280, H⟩ := H
 (try dsimp only at H)
 have A28 := Aside0.mk A280
 clear A280
 by_cases c29 : t284 < 0
 ·rw [if_pos c29] at H
  exact absurd H (by simp)
 rw [if_neg c29] at H
 have c29b0 : decide (t284 < 0) = false := decide_eq_false c29
 clear c29
 by_cases c30 : t284 = t273
 rotate_left
 ·rw [if_neg c30] at H
  exact absurd H (by simp)
 as_aux_lemma =>
 rw [if_pos c30] at H
 have c30b0 : (t284 == t273) = true := beq_iff_eq.mpr c30
 have c30b1 : (t284 != t273) = false := bne_eq_false_iff_eq.mpr c30
 clear c30
 obtain rfl := Option.some.inj H
 go_enter Try.func4, Try.ntmps4
 go_wp2_with (first | ((with_reducible refine gate_callee (f := 25) rfl ?_); refine gl_ (some 18) Try.func25 #[.slice A0 l0.length c0, .int .i64 1048576] ?_; (with_reducible refine (laws_szThreadS.calls _ _ l0 1048576 t250 _ ?side1 ?side2 A3.out).mono ?_); (case side1 => exact cu_ HR0.out); (case side2 => exact HC0.out); rintro e w' ⟨rfl, ⟨nd, rfl⟩⟩; refine ⟨_, rfl, ?_⟩) | ((with_reducible refine gate_callee (f := 26) rfl ?_); refine gl_ (some 23) Try.func26 #[.slice A0 l0.length c0] ?_; (with_reducible refine (laws_toThreadS.calls k _ _ l0 t251 _ ?side1 ?side2 A5.out).mono ?_); (case side1 => exact cu_ HR0.out); (case side2 => exact HC0.out); rintro e w31 ⟨v252, rfl, ho0, hb⟩; refine ⟨_, rfl, ?_⟩; have n0_ := Aside0.mk (Kd.R_lower ho0 bz_); have n1_ := Aside0.mk (bs_ hb); clear HB; have HO253 := n0_; have HB := n1_; clear n0_ n1_; (try clear hb); (try clear ho0); obtain ⟨Ao32, co32, eo32⟩ := Kd.R_slice HO253.out; subst eo32) | ((with_reducible refine gate_callee (f := 15) rfl ?_); refine gl_ (some 25) Try.func15 #[.slice Ao32 t251.length co32, .int .i64 a1] ?_; (with_reducible refine (spec_MeetingsOnThread.calls k _ _ t251 a1 t254 t255 _ ?side1 ?side2 A6.out).mono ?_); (case side1 => exact cu_ (Kd.R_reads' HO253.out).2.2); (case side2 => exact (Kd.R_reads' HO253.out).2.1); rintro e w33 ⟨v256, rfl, ho0, hb⟩; refine ⟨_, rfl, ?_⟩; have n0_ := Aside0.mk (Kd.R_below (ru_ HO253.out) hb); have n1_ := Aside0.mk (Kd.R_lower ho0 bz_); have n2_ := Aside0.mk (bs_ hb); clear HO253; clear HB; have HO253 := n0_; have HO257 := n1_; have HB := n2_; clear n0_ n1_ n2_; (try clear hb); (try clear ho0)) | ((with_reducible refine gate_callee (f := 26) rfl ?_); refine gl_ (some 29) Try.func26 #[.slice A0 l0.length c0] ?_; (with_reducible refine (laws_toThreadS.calls k _ _ l0 t258 _ ?side1 ?side2 A7.out).mono ?_); (case side1 => repeat (first | exact (Kd.C_below HR0.out HB.out) | (with_reducible refine Kd.C_alloc ?_ _) | (with_reducible refine Kd.C_drewN ?_ _) | (with_reducible refine Kd.C_drew ?_))); (case side2 => exact HC0.out); rintro e w34 ⟨v259, rfl, ho0, hb⟩; refine ⟨_, rfl, ?_⟩; have n0_ := Aside0.mk (Kd.R_elder' (ru_ HO253.out) (Kd.R_base ho0) hb); have n1_ := Aside0.mk (Kd.R_below (ru_ HO257.out) hb); have n2_ := Aside0.mk (Kd.R_lower (Kd.R_new' ho0 (Kd.R_lt (ru_ HO253.out))) bz_); have n3_ := Aside0.mk (bs_ hb); clear HO253; clear HO257; clear HB; have HO253 := n0_; have HO257 := n1_; have HO260 := n2_; have HB := n3_; clear n0_ n1_ n2_ n3_; (try clear hb); (try clear ho0); obtain ⟨Ao35, co35, eo35⟩ := Kd.R_slice HO260.out; subst eo35) | ((with_reducible refine gate_callee (f := 14) rfl ?_); refine gl_ (some 33) Try.func14 #[.slice Ao35 t258.length co35, .int .i64 a1] ?_; (with_reducible refine (impl_MeetingsOnThread.calls k _ _ t258 a1 t261 t262 _ ?side1 ?side2 A8.out).mono ?_); (case side1 => exact cu_ (Kd.R_reads' HO260.out).2.2); (case side2 => exact (Kd.R_reads' HO260.out).2.1); rintro e w36 ⟨v263, rfl, ho0, hb⟩; refine ⟨_, rfl, ?_⟩; have n0_ := Aside0.mk (Kd.R_below (ru_ HO253.out) hb); have n1_ := Aside0.mk (Kd.R_elder' (ru_ HO257.out) (Kd.R_base ho0) hb); have n2_ := Aside0.mk (Kd.R_below (ru_ HO260.out) hb); have n3_ := Aside0.mk (Kd.R_lower (Kd.R_new' ho0 (Kd.R_lt (ru_ HO257.out))) bz_); have n4_ := Aside0.mk (bs_ hb); clear HO253; clear HO257; clear HO260; clear HB; have HO253 := n0_; have HO257 := n1_; have HO260 := n2_; have HO264 := n3_; have HB := n4_; clear n0_ n1_ n2_ n3_ n4_; (try clear hb); (try clear ho0); obtain ⟨Ao37, co37, eo37⟩ := Kd.R_slice HO264.out; subst eo37; obtain ⟨Ao38, co38, eo38⟩ := Kd.R_slice HO257.out; subst eo38) | ((with_reducible refine gate_callee (f := 27) rfl ?_); refine gl_ (some 38) Try.func27 #[.slice Ao37 t261.length co37, .slice Ao38 t254.length co38] ?_; (with_reducible refine (laws_eqIntS.calls k _ _ t261 _ _ t254 true _ ?side1 ?side2 ?side3 ?side4 A9.out).mono ?_); (case side1 => exact cu_ (Kd.R_reads' HO264.out).2.2); (case side2 => exact (Kd.R_reads' HO264.out).2.1); (case side3 => exact cu_ (Kd.R_reads' HO257.out).2.2); (case side4 => exact (Kd.R_reads' HO257.out).2.1); rintro e w' ⟨rfl, ⟨nd, rfl⟩⟩; refine ⟨_, rfl, ?_⟩) | ((with_reducible refine gate_callee (f := 26) rfl ?_); refine gl_ (some 47) Try.func26 #[.slice A0 l0.length c0] ?_; (with_reducible refine (laws_toThreadS.calls k _ _ l0 t266 _ ?side1 ?side2 A12.out).mono ?_); (case side1 => repeat (first | exact (Kd.C_below HR0.out bb_) | (with_reducible refine Kd.C_alloc ?_ _) | (with_reducible refine Kd.C_drewN ?_ _) | (with_reducible refine Kd.C_drew ?_))); (case side2 => exact HC0.out); rintro e w39 ⟨v267, rfl, ho0, hb⟩; refine ⟨_, rfl, ?_⟩; have n0_ := Aside0.mk (Kd.R_elder' (ru_ HO253.out) (Kd.R_base ho0) hb); have n1_ := Aside0.mk (Kd.R_below (ru_ HO257.out) hb); have n2_ := Aside0.mk (Kd.R_elder' (ru_ HO260.out) (Kd.R_base ho0) hb); have n3_ := Aside0.mk (Kd.R_below (ru_ HO264.out) hb); have n4_ := Aside0.mk (Kd.R_lower (Kd.R_new' (Kd.R_new' ho0 (Kd.R_lt (ru_ HO253.out))) (Kd.R_lt (ru_ HO260.out))) bz_); have n5_ := Aside0.mk (bs_ hb); clear HO253; clear HO257; clear HO260; clear HO264; clear HB; have HO253 := n0_; have HO257 := n1_; have HO260 := n2_; have HO264 := n3_; have HO268 := n4_; have HB := n5_; clear n0_ n1_ n2_ n3_ n4_ n5_; (try clear hb); (try clear ho0); obtain ⟨Ao40, co40, eo40⟩ := Kd.R_slice HO268.out; subst eo40) | ((with_reducible refine gate_callee (f := 28) rfl ?_); refine gl_ (some 48) Try.func28 #[.slice Ao35 t258.length co35, .slice Ao40 t266.length co40] ?_; (with_reducible refine (laws_eqThreadS.calls k _ _ t258 _ _ t266 true _ ?side1 ?side2 ?side3 ?side4 A13.out).mono ?_); (case side1 => exact cu_ (Kd.R_reads' HO260.out).2.2); (case side2 => exact (Kd.R_reads' HO260.out).2.1); (case side3 => exact cu_ (Kd.R_reads' HO268.out).2.2); (case side4 => exact (Kd.R_reads' HO268.out).2.1); rintro e w41 ⟨rfl, hb⟩; refine ⟨_, rfl, ?_⟩; have n0_ := Aside0.mk (Kd.R_below (ru_ HO253.out) hb); have n1_ := Aside0.mk (Kd.R_below (ru_ HO257.out) hb); have n2_ := Aside0.mk (Kd.R_below (ru_ HO260.out) hb); have n3_ := Aside0.mk (Kd.R_below (ru_ HO264.out) hb); have n4_ := Aside0.mk (Kd.R_below (ru_ HO268.out) hb); have n5_ := Aside0.mk (bs_ hb); clear HO253; clear HO257; clear HO260; clear HO264; clear HO268; clear HB; have HO253 := n0_; have HO257 := n1_; have HO260 := n2_; have HO264 := n3_; have HO268 := n4_; have HB := n5_; clear n0_ n1_ n2_ n3_ n4_ n5_; (try clear hb)) | ((with_reducible refine gate_callee (f := 29) rfl ?_); refine gl_ (some 52) Try.func29 #[.slice Ao35 t258.length co35, .int .i64 1] ?_; (with_reducible refine (laws_markThreadS.calls k (fun k_ => some k_ = (.slice Ao35 t258.length co35 : Value).ownBlock) (.slice Ao35 t258.length co35) t258 1 t270 t271 w _ ?side1 ?side2 A15.out).mono ?_); (case side1 => repeat (first | (with_reducible first | apply below_alloc | apply pw_below_drewN | apply below_drew1) | exact HB.out)); (case side2 => exact Kd.R_tight rfl HO260.out); rintro e w42 ⟨rfl, hy0, hb, hkp⟩; refine ⟨_, rfl, ?_⟩; have n0_ := Aside0.mk (Kd.R_mono (ok' := fun k_ => some k_ ≠ (.slice Ao35 t258.length co35 : Value).ownBlock ∧ some k_ ≠ (.slice Ao40 t266.length co40 : Value).ownBlock) (Kd.R_keptB (HO253.out) hkp (fun k_ hk_ hs_ => (hk_.1.2) hs_)) (fun k_ hk_ => ⟨hk_.1.1.2, hk_.1.2⟩)); have n1_ := Aside0.mk (Kd.R_mono (ok' := fun k_ => some k_ ≠ (.slice Ao37 t261.length co37 : Value).ownBlock) (Kd.R_keptB ((Kd.R_apart' HO257.out (Kd.R_typed HO260.out) (by decide))) hkp (fun k_ hk_ hs_ => (hk_.2) hs_)) (fun k_ hk_ => hk_.1.1.2)); have n2_ := Aside0.mk (Kd.R_reok rfl hy0 (fun k_ e_ => HO260.out.1 k_ e_)); have n3_ := Aside0.mk (Kd.R_mono (ok' := fun k_ => some k_ ≠ (.slice Ao38 t254.length co38 : Value).ownBlock) (Kd.R_keptB ((Kd.R_apart' HO264.out (Kd.R_typed HO260.out) (by decide))) hkp (fun k_ hk_ hs_ => (hk_.2) hs_)) (fun k_ hk_ => hk_.1.1.2)); have n4_ := Aside0.mk (Kd.R_mono (ok' := fun k_ => some k_ ≠ (.slice Ao32 t251.length co32 : Value).ownBlock ∧ some k_ ≠ (.slice Ao35 t258.length co35 : Value).ownBlock) (Kd.R_keptB (HO268.out) hkp (fun k_ hk_ hs_ => (hk_.2) hs_)) (fun k_ hk_ => ⟨hk_.1.1.2, hk_.1.2⟩)); have n5_ := Aside0.mk (hb); clear HO253; clear HO257; clear HO260; clear HO264; clear HO268; clear HB; have HO253 := n0_; have HO257 := n1_; have HO260 := n2_; have HO264 := n3_; have HO268 := n4_; have HB := n5_; clear n0_ n1_ n2_ n3_ n4_ n5_; (try clear hb); (try clear hkp); (try clear hy0)) | (go_at_call 27; (with_reducible refine (laws_eqIntS.calls k _ _ t261 _ _ t254 true _ ?side1 ?side2 ?side3 ?side4 A17.out).mono ?_); (case side1 => exact cu_ (Kd.R_reads' HO264.out).2.2); (case side2 => exact (Kd.R_reads' HO264.out).2.1); (case side3 => exact cu_ (Kd.R_reads' HO257.out).2.2); (case side4 => exact (Kd.R_reads' HO257.out).2.1); rintro e w' ⟨rfl, ⟨nd, rfl⟩⟩) | ((with_reducible refine gate_callee (f := 30) rfl ?_); refine gl_ (some 68) Try.func30 #[.slice Ao37 t261.length co37, .int .i64 1] ?_; (with_reducible refine (laws_markIntS.calls k (fun k_ => some k_ = (.slice Ao37 t261.length co37 : Value).ownBlock) (.slice Ao37 t261.length co37) t261 1 t273 t274 w _ ?side1 ?side2 A19.out).mono ?_); (case side1 => repeat (first | (with_reducible first | apply below_alloc | apply pw_below_drewN | apply below_drew1) | exact HB.out)); (case side2 => exact Kd.R_tight rfl HO264.out); rintro e w43 ⟨rfl, hy0, hb, hkp⟩; refine ⟨_, rfl, ?_⟩; have n0_ := Aside0.mk (Kd.R_mono (ok' := fun k_ => some k_ ≠ (.slice Ao35 t258.length co35 : Value).ownBlock ∧ some k_ ≠ (.slice Ao40 t266.length co40 : Value).ownBlock) (Kd.R_keptB ((Kd.R_apart' HO253.out (Kd.R_typed HO264.out) (by decide))) hkp (fun k_ hk_ hs_ => (hk_.2) hs_)) (fun k_ hk_ => ⟨hk_.1.1.1, hk_.1.1.2⟩)); have n1_ := Aside0.mk (Kd.R_mono (ok' := fun k_ => some k_ ≠ (.slice Ao37 t261.length co37 : Value).ownBlock) (Kd.R_keptB (HO257.out) hkp (fun k_ hk_ hs_ => (hk_) hs_)) (fun k_ hk_ => hk_.1)); have n2_ := Aside0.mk (Kd.R_mono (ok' := fun k_ => some k_ ≠ (.slice Ao32 t251.length co32 : Value).ownBlock ∧ some k_ ≠ (.slice Ao40 t266.length co40 : Value).ownBlock) (Kd.R_keptB ((Kd.R_apart' HO260.out (Kd.R_typed HO264.out) (by decide))) hkp (fun k_ hk_ hs_ => (hk_.2) hs_)) (fun k_ hk_ => ⟨hk_.1.1.1.2, hk_.1.1.2⟩)); have n3_ := Aside0.mk (Kd.R_reok rfl hy0 (fun k_ e_ => HO264.out.1 k_ e_)); have n4_ := Aside0.mk (Kd.R_mono (ok' := fun k_ => some k_ ≠ (.slice Ao32 t251.length co32 : Value).ownBlock ∧ some k_ ≠ (.slice Ao35 t258.length co35 : Value).ownBlock) (Kd.R_keptB ((Kd.R_apart' HO268.out (Kd.R_typed HO264.out) (by decide))) hkp (fun k_ hk_ hs_ => (hk_.2) hs_)) (fun k_ hk_ => ⟨hk_.1.1.1, hk_.1.1.2⟩)); have n5_ := Aside0.mk (hb); clear HO253; clear HO257; clear HO260; clear HO264; clear HO268; clear HB; have HO253 := n0_; have HO257 := n1_; have HO260 := n2_; have HO264 := n3_; have HO268 := n4_; have HB := n5_; clear n0_ n1_ n2_ n3_ n4_ n5_; (try clear hb); (try clear hkp); (try clear hy0)) | ((with_reducible refine gate_callee (f := 31) rfl ?_); refine goesL_ (some 71) rfl rfl Try.func31 (by kernel_rfl) rfl #[.slice Ao37 t274.length co37, .int .i64 1] rfl (by (try simp only [List.map_toArray, List.map_cons, List.map_nil]); first | done | (rw [show t274.length = t261.length from (Kd.R_reads' HO264.out).1.symm] <;> rfl) | rfl | (simp only [List.length_drop, List.length_take]; rfl)) ?_; (with_reducible refine (laws_heldIntS.calls k _ _ t274 1 t275 _ ?side1 ?side2 A20.out).mono ?_); (case side1 => exact cu_ (Kd.R_reads' HO264.out).2.2); (case side2 => rw [show t274.length = t261.length from (Kd.R_reads' HO264.out).1.symm]; exact (Kd.R_reads' HO264.out).2.1); rintro e w' ⟨rfl, ⟨nd, rfl⟩⟩; refine ⟨_, rfl, ?_⟩) | ((with_reducible refine gate_callee (f := 26) rfl ?_); refine gl_ (some 79) Try.func26 #[.slice A0 l0.length c0] ?_; (with_reducible refine (laws_toThreadS.calls k _ _ l0 t276 _ ?side1 ?side2 A23.out).mono ?_); (case side1 => repeat (first | exact (Kd.C_below HR0.out bb_) | (with_reducible refine Kd.C_alloc ?_ _) | (with_reducible refine Kd.C_drewN ?_ _) | (with_reducible refine Kd.C_drew ?_))); (case side2 => exact HC0.out); rintro e w44 ⟨v277, rfl, ho0, hb⟩; refine ⟨_, rfl, ?_⟩; have n0_ := Aside0.mk (Kd.R_elder' (ru_ HO253.out) (Kd.R_base ho0) hb); have n1_ := Aside0.mk (Kd.R_below (ru_ HO257.out) hb); have n2_ := Aside0.mk (Kd.R_elder' (ru_ HO260.out) (Kd.R_base ho0) hb); have n3_ := Aside0.mk (Kd.R_below (ru_ HO264.out) hb); have n4_ := Aside0.mk (Kd.R_elder' (ru_ HO268.out) (Kd.R_base ho0) hb); have n5_ := Aside0.mk (Kd.R_lower (Kd.R_new' (Kd.R_new' (Kd.R_new' ho0 (Kd.R_lt (ru_ HO253.out))) (Kd.R_lt (ru_ HO260.out))) (Kd.R_lt (ru_ HO268.out))) bz_); have n6_ := Aside0.mk (bs_ hb); clear HO253; clear HO257; clear HO260; clear HO264; clear HO268; clear HB; have HO253 := n0_; have HO257 := n1_; have HO260 := n2_; have HO264 := n3_; have HO268 := n4_; have HO278 := n5_; have HB := n6_; clear n0_ n1_ n2_ n3_ n4_ n5_ n6_; (try clear hb); (try clear ho0); obtain ⟨Ao45, co45, eo45⟩ := Kd.R_slice HO278.out; subst eo45) | ((with_reducible refine gate_callee (f := 14) rfl ?_); refine gl_ (some 81) Try.func14 #[.slice Ao45 t276.length co45, .int .i64 a1] ?_; (with_reducible refine (impl_MeetingsOnThread.calls k _ _ t276 a1 t279 t280 _ ?side1 ?side2 A24.out).mono ?_); (case side1 => exact cu_ (Kd.R_reads' HO278.out).2.2); (case side2 => exact (Kd.R_reads' HO278.out).2.1); rintro e w46 ⟨v281, rfl, ho0, hb⟩; refine ⟨_, rfl, ?_⟩; have n0_ := Aside0.mk (Kd.R_below (ru_ HO253.out) hb); have n1_ := Aside0.mk (Kd.R_elder' (ru_ HO257.out) (Kd.R_base ho0) hb); have n2_ := Aside0.mk (Kd.R_below (ru_ HO260.out) hb); have n3_ := Aside0.mk (Kd.R_elder' (ru_ HO264.out) (Kd.R_base ho0) hb); have n4_ := Aside0.mk (Kd.R_below (ru_ HO268.out) hb); have n5_ := Aside0.mk (Kd.R_below (ru_ HO278.out) hb); have n6_ := Aside0.mk (Kd.R_lower (Kd.R_new' (Kd.R_new' ho0 (Kd.R_lt (ru_ HO257.out))) (Kd.R_lt (ru_ HO264.out))) bz_); have n7_ := Aside0.mk (bs_ hb); clear HO253; clear HO257; clear HO260; clear HO264; clear HO268; clear HO278; clear HB; have HO253 := n0_; have HO257 := n1_; have HO260 := n2_; have HO264 := n3_; have HO268 := n4_; have HO278 := n5_; have HO282 := n6_; have HB := n7_; clear n0_ n1_ n2_ n3_ n4_ n5_ n6_ n7_; (try clear hb); (try clear ho0); obtain ⟨Ao47, co47, eo47⟩ := Kd.R_slice HO282.out; subst eo47) | ((with_reducible refine gate_callee (f := 27) rfl ?_); refine gl_ (some 86) Try.func27 #[.slice Ao47 t279.length co47, .slice Ao38 t254.length co38] ?_; (with_reducible refine (laws_eqIntS.calls k _ _ t279 _ _ t254 true _ ?side1 ?side2 ?side3 ?side4 A25.out).mono ?_); (case side1 => exact cu_ (Kd.R_reads' HO282.out).2.2); (case side2 => exact (Kd.R_reads' HO282.out).2.1); (case side3 => exact cu_ (Kd.R_reads' HO257.out).2.2); (case side4 => exact (Kd.R_reads' HO257.out).2.1); rintro e w' ⟨rfl, ⟨nd, rfl⟩⟩; refine ⟨_, rfl, ?_⟩) | ((with_reducible refine gate_callee (f := 31) rfl ?_); refine goesL_ (some 95) rfl rfl Try.func31 (by kernel_rfl) rfl #[.slice Ao37 t274.length co37, .int .i64 1] rfl (by (try simp only [List.map_toArray, List.map_cons, List.map_nil]); first | done | (rw [show t274.length = t261.length from (Kd.R_reads' HO264.out).1.symm] <;> rfl) | rfl | (simp only [List.length_drop, List.length_take]; rfl)) ?_; (with_reducible refine (laws_heldIntS.calls k _ _ t274 1 t284 _ ?side1 ?side2 A28.out).mono ?_); (case side1 => exact cu_ (Kd.R_reads' HO264.out).2.2); (case side2 => rw [show t274.length = t261.length from (Kd.R_reads' HO264.out).1.symm]; exact (Kd.R_reads' HO264.out).2.1); rintro e w' ⟨rfl, ⟨nd, rfl⟩⟩; refine ⟨_, rfl, ?_⟩))
 go_ret
 exact ⟨by first | rfl | (simp [errW_none, errW_some] <;> rfl) | (simp [*, errW_none, errW_some] <;> rfl), bb_⟩
end Go.Proofs.Ytheijdpplihigaa.P
