/- A part of this seat's proofs: contracts of the translated functions, written by the session's own program (gp.py) out of the kit's print.py and the session's own contracts; no conditions of its own. -/
import Derived.Test.YtgiiaajincdhnaaPx0
import Derived.Test.YtgiiaajincdhnaaPx1
namespace Go.Proofs.Ytgiiaajincdhnaa.P
open Go.RowKit Go.Proofs.YtgiiaajincdhnaaW.PrintWords Go.Proofs.YtgiiaajincdhnaaW.PrintLast Go.Proofs.YtgiiaajincdhnaaW.PrintMore
attribute [local go_sem] max2_int min2_int max_two min_two max_three min_three max_four min_four   -- for this text's walks alone
set_option linter.unusedVariables false
set_option linter.unusedSimpArgs false

/-! ### given: 01_ask.tpl -/
set_option maxHeartbeats 1000000 in
set_option maxRecDepth 100000 in
theorem slices_IndexFunc.ask (A : Option Addr) (c : Nat) (l : List Int) (g : Nat) (lb : Array Value) (p : Int → Bool) (D : Int → Prop) (w : World)
    (eg : ∀ args w, (callFunc g args).run Try.prog w = .ok (.enter g args) w)
    (hr : Kd.C (Kd.int .i64) w A l.length l) (hp : Asks Try.prog g lb (Value.int .i64) p D w) (hD : ∀ x ∈ l, D x) :
    Calls Try.prog 61 #[.slice A l.length c, .func (.func g) #[] lb] w fun e w' => e = .returned (.int .i64 (idxP p l)) ∧ Below w.heap.size w w' := by
  have hbig := Kd.C_max hr
  have HR := Aside0.mk hr
  have HP := Aside0.mk hp
  have HD := Aside0.mk hD
  clear hr hp hD
  go_enter Try.func61, Try.ntmps61
  go_wp2
  go_loopg [5, 8] l.length (fun gg _ s8 wr => ∃ kk : Nat, kk ≤ l.length ∧ l.length - kk ≤ gg ∧ s8 = .int .i64 kk ∧ Aside0 (Below w.heap.size w wr) ∧ Aside0 (∀ j, j < kk → p (l.getD j 0) = false))
  case atStart => exact ⟨0, Nat.zero_le _, by omega, rfl, ⟨Below.refl _ _⟩, ⟨fun j hj => absurd hj (Nat.not_lt_zero _)⟩⟩
  case round =>
    obtain ⟨kk, hkk, hg, rfl, HB, HA⟩ := hrel
    by_cases hlt : kk < l.length
    · have hltz : (kk : Int) < (l.length : Int) := by omega
      obtain ⟨ad, y, rfl, hcell, HY, hm⟩ := read_at (Kd.C_below HR.out HB.out) kk hlt
      have hcall := HP.out wr y HB.out (HD.out _ hm)
      clear hm
      rcases Bool.eq_false_or_eq_true (p y) with hq | hq
      · have HC := Aside0.mk (hq ▸ hcall)
        have HQ := Aside0.mk hq
        clear hq hcall
        go_wp2_with (fail)
        refine HC.out.mono ?_
        rintro e w' ⟨rfl, hb⟩
        have HB2 := Aside0.mk hb
        clear hb
        clear HC HD HP
        go_wp2_with (fail)
        go_ret
        refine ⟨?_, below_then HB.out HB.out.size HB2.out⟩
        show Ending.returned (.int .i64 (kk : Int)) = _
        rw [idxP_hit p l kk 0 hlt (by rw [← HY.out]; exact HQ.out) HA.out]
      · have HC := Aside0.mk (hq ▸ hcall)
        have HQ := Aside0.mk hq
        clear hq hcall
        go_wp2_with (fail)
        refine HC.out.mono ?_
        rintro e w' ⟨rfl, hb⟩
        have HB2 := Aside0.mk hb
        clear hb
        clear HC HD HP
        go_wp2_with (fail)
        go_roundg (l.length - (kk + 1))
        case measure => omega
        case rel =>
          refine ⟨kk + 1, by omega, by omega, by go_num, ⟨below_then HB.out HB.out.size HB2.out⟩, ⟨fun j hj => ?_⟩⟩
          by_cases e : j = kk
          · subst e
            rw [← HY.out]; exact HQ.out
          · exact HA.out j (by omega)
    · have hltz : ¬ (kk : Int) < (l.length : Int) := by omega
      have hk' : kk = l.length := by omega
      subst hk'
      go_wp2
      go_ret
      refine ⟨?_, HB.out⟩
      show Ending.returned (.int .i64 (-1)) = _
      rw [idxP_miss p l (fun x hx => by
        obtain ⟨j, hj, rfl⟩ := List.getElem_of_mem hx
        have := HA.out j hj
        rwa [List.getD_eq_getElem?_getD, List.getElem?_eq_getElem hj] at this)]

set_option maxHeartbeats 1000000 in
theorem slices_ContainsFunc.ask (A : Option Addr) (c : Nat) (l : List Int) (g : Nat) (lb : Array Value) (p : Int → Bool) (D : Int → Prop) (w : World)
    (eg : ∀ args w, (callFunc g args).run Try.prog w = .ok (.enter g args) w)
    (hr : Kd.C (Kd.int .i64) w A l.length l) (hp : Asks Try.prog g lb (Value.int .i64) p D w) (hD : ∀ x ∈ l, D x) :
    Calls Try.prog 54 #[.slice A l.length c, .func (.func g) #[] lb] w fun e w' => e = .returned (.bool (l.any p)) ∧ Below w.heap.size w w' := by
  have HC := Aside0.mk (slices_IndexFunc.ask A c l g lb p D w eg hr hp hD)
  have HA := Aside0.mk (idxP_any p l)
  clear eg hr hp hD
  go_enter Try.func54, Try.ntmps54
  go_wp2_with (go_at_call 61; refine HC.out.mono ?_; rintro e w' ⟨rfl, hb⟩; have HB := Aside0.mk hb; clear hb)
  go_ret
  exact ⟨by rw [← HA.out]; rfl, HB.out⟩


/-! ### given: 02_within.tpl -/
theorem within_eq (n lo hi : Int) : impl_within.f n lo hi = some (inR n lo hi) := by
  unfold impl_within.f inR
  by_cases h : n ≥ lo
  · rw [if_pos h]; congr 1; simp only [decide_eq_decide]; omega
  · rw [if_neg h]; congr 1; exact (decide_eq_false (by omega)).symm
theorem impl_within.is (n lo hi : Int) (w : World) (b : Bool) (hb : inR n lo hi = b) :
    Calls Try.prog 34 #[.int .i64 n, .int .i64 lo, .int .i64 hi] w fun e w' => e = .returned (.bool b) ∧ Drawn0 w w' :=
  impl_within.calls n lo hi b w (by rw [within_eq, hb])


/-! ### given: 06_isTable.tpl -/
def impl_isTable.f (a0 : Int) (a1 : Int) (l2 : List Int) : Option (Bool) := some (inR a0 3 60 && inR a1 0 (a0 - 1) && l2.all fun x => inR x 0 (a0 - 1))

theorem isCircle_eq (a : Int) : impl_isCircle.f a = some (inR a 3 60) := by unfold impl_isCircle.f; rw [within_eq]; rfl
theorem impl_isCircle.is (a : Int) (w : World) (b : Bool) (hb : inR a 3 60 = b) :
    Calls Try.prog 53 #[.int .i64 a] w fun e w' => e = .returned (.bool b) ∧ Drawn0 w w' :=
  impl_isCircle.calls a b w (by rw [isCircle_eq, hb])

set_option maxHeartbeats 1000000 in
theorem impl_isTable_1.asks (a0 : Int) (B : Nat) (w : World) (hB : B < w.heap.size) (h0 : 3 ≤ a0) (h1 : a0 ≤ 60) (hc : w.cell? ⟨B, 0, none⟩ = some (.int .i64 a0)) :
    Asks Try.prog 55 #[.pointer (some ⟨B, 0, none⟩)] (Value.int .i64) (fun x => !inR x 0 (a0 - 1)) (fun _ => True) w := by
  intro W x hb _
  have hc' : W.cell? ⟨B, 0, none⟩ = some (.int .i64 a0) := (hb.cell (p := ⟨B, 0, none⟩) hB).trans hc
  clear hc hb
  go_enter Try.func55, Try.ntmps55
  go_wp2_with (go_at_call 34; refine (impl_within.is _ _ _ _ _ rfl).mono ?_; rintro e w' ⟨rfl, ⟨nd, rfl⟩⟩)
  go_ret
  exact ⟨rfl, pw_below_drewN (Below.refl _ _) _⟩

set_option maxHeartbeats 2000000 in
theorem impl_isTable.calls (a0 : Int) (a1 : Int) (A2 : Option Addr) (c2 : Nat) (l2 : List Int) (r : Bool) (w : World) (hr2 : Kd.C (Kd.int .i64) w A2 l2.length l2) (hc2 : l2.length ≤ c2) (h : impl_isTable.f a0 a1 l2 = some r) :
    Calls Try.prog 33 #[.int .i64 a0, .int .i64 a1, .slice A2 l2.length c2] w fun e w' => e = .returned (.bool r) ∧ Below w.heap.size w w' := by
  obtain rfl := Option.some.inj h
  clear h
  have HR := Aside0.mk hr2
  clear hr2 hc2
  rcases Bool.eq_false_or_eq_true (inR a0 3 60) with hq | hq
  · obtain ⟨h0, h1⟩ := inR_true.1 hq
    have HQ := Aside0.mk hq
    rw [hq]
    clear hq
    rcases Bool.eq_false_or_eq_true (inR a1 0 (a0 - 1)) with hp | hp
    · have HP := Aside0.mk hp
      rw [hp]
      clear hp
      have HK := fun nd => slices_ContainsFunc.ask A2 c2 l2 55 #[.pointer (some ⟨w.heap.size, 0, none⟩)] (fun x => !inR x 0 (a0 - 1)) (fun _ => True) ((w.alloc (.cells #[.int .i64 a0] 3)).drewN nd)
        (enters_of Try.func55 (by kernel_rfl) rfl) (Kd.C_drewN (Kd.C_alloc HR.out _) nd) (impl_isTable_1.asks a0 _ _ (by simp) h0 h1 (by simp)) (fun _ _ => trivial)
      have HK := Aside0.mk HK
      go_enter Try.func33, Try.ntmps33
      go_wp2_with (first | (go_at_call 53; refine (impl_isCircle.is _ _ true HQ.out).mono ?_; rintro e w' ⟨rfl, ⟨nd, rfl⟩⟩) | (go_at_call 34; refine (impl_within.is _ _ _ _ true HP.out).mono ?_; rintro e w' ⟨rfl, ⟨nd, rfl⟩⟩) | fail)
      refine (HK.out _).mono ?_
      rintro e w' ⟨rfl, hb⟩
      have HB := Aside0.mk hb
      clear hb HK
      go_wp2
      go_ret
      refine ⟨?_, below_then (pw_below_drewN (below_alloc (Below.refl _ _) _) _) (by simp) HB.out⟩
      rw [List.all_eq_not_any_not]
      rfl
    · have HP := Aside0.mk hp
      rw [hp]
      clear hp
      go_enter Try.func33, Try.ntmps33
      go_wp2_with (first | (go_at_call 53; refine (impl_isCircle.is _ _ true HQ.out).mono ?_; rintro e w' ⟨rfl, ⟨nd, rfl⟩⟩) | (go_at_call 34; refine (impl_within.is _ _ _ _ false HP.out).mono ?_; rintro e w' ⟨rfl, ⟨nd, rfl⟩⟩) | fail)
      go_ret
      exact ⟨rfl, by repeat (first | exact Below.refl _ _ | apply pw_below_drewN | apply below_alloc)⟩
  · have HQ := Aside0.mk hq
    rw [hq]
    clear hq
    go_enter Try.func33, Try.ntmps33
    go_wp2_with (first | (go_at_call 53; refine (impl_isCircle.is _ _ false HQ.out).mono ?_; rintro e w' ⟨rfl, ⟨nd, rfl⟩⟩) | fail)
    go_ret
    exact ⟨rfl, by repeat (first | exact Below.refl _ _ | apply pw_below_drewN | apply below_alloc)⟩

/-! ### impl_TimesAfter: function 6 -/
mutual
def impl_TimesAfter.j0 : Nat → Int → Int → Int → Int → Bool → Option (Int × Bool)
 | 0, _, _, _, _, _ => none
 | k + 1, x0, x1, x2, x3, x20 => if x20 = true then (some (0, false)) else (impl_TimesAfter.l0 k x0 x1 x2 x3 0)
def impl_TimesAfter.l0 : Nat → Int → Int → Int → Int → Int → Option (Int × Bool)
 | 0, _, _, _, _, _ => none
 | k + 1, x0, x1, x2, x21, x22 => if x22 < x21 then (if x0 = 0 then (none) else (impl_TimesAfter.l0 k x0 x1 (Int.tmod (wrap64 (x2 * x1)) x0) x21 (wrap64 (x22 + 1)))) else (some (x2, true))
end
def impl_TimesAfter.f (k : Nat) (a0 : Int) (a1 : Int) (a2 : Int) (a3 : Int) : Option (Int × Bool) := (impl_isTable.f a0 a1 (([a2] : List Int))).bind fun t158 => (if t158 = true then ((impl_within.f a3 0 1000000).bind fun t159 => (impl_TimesAfter.j0 k a0 a1 a2 a3 (!t159))) else (impl_TimesAfter.j0 k a0 a1 a2 a3 true))
theorem impl_TimesAfter.mono_l : ∀ k, (∀ y0 y1 y2 y3 y4, LeO (impl_TimesAfter.j0 k y0 y1 y2 y3 y4) (impl_TimesAfter.j0 (k + 1) y0 y1 y2 y3 y4)) ∧ (∀ y0 y1 y2 y3 y4, LeO (impl_TimesAfter.l0 k y0 y1 y2 y3 y4) (impl_TimesAfter.l0 (k + 1) y0 y1 y2 y3 y4))
 | 0 => ⟨fun _ _ _ _ _ r h => by simp [impl_TimesAfter.j0] at h, fun _ _ _ _ _ r h => by simp [impl_TimesAfter.l0] at h⟩
 | k + 1 => by
  obtain ⟨ih0, ih1⟩ := impl_TimesAfter.mono_l k
  refine ⟨?_, ?_⟩
  all_goals (intros; first | unfold impl_TimesAfter.j0 | unfold impl_TimesAfter.l0)
  all_goals repeat' with_reducible first | apply ih0 | apply ih1 | exact LeO.refl _ | exact LeO.none _ | refine LeO.ite ?_ ?_ | refine LeO.bind ?_ (fun _ => ?_)
theorem impl_TimesAfter.mono : ∀ a0 a1 a2 a3 k, LeO (impl_TimesAfter.f k a0 a1 a2 a3) (impl_TimesAfter.f (k + 1) a0 a1 a2 a3) := by
 intro a0 a1 a2 a3 k
 obtain ⟨ih0, ih1⟩ := impl_TimesAfter.mono_l k
 unfold impl_TimesAfter.f
 repeat' with_reducible first | apply ih0 | apply ih1 | exact LeO.refl _ | exact LeO.none _ | refine LeO.ite ?_ ?_ | refine LeO.bind ?_ (fun _ => ?_)
set_option maxHeartbeats 8000000 in
set_option maxRecDepth 100000 in
theorem impl_TimesAfter.calls (k : Nat) (a0 : Int) (a1 : Int) (a2 : Int) (a3 : Int) (r1 : Int) (r2 : Bool) (w : World) (h : impl_TimesAfter.f k a0 a1 a2 a3 = some (r1, r2)) :
  Calls Try.prog 6 #[.int .i64 a0, .int .i64 a1, .int .i64 a2, .int .i64 a3] w fun e w' => e = .returned (.tuple #[.int .i64 r1, .bool r2]) ∧ Below w.heap.size w w' := by
 have HB := Aside0.mk (Below.refl w.heap.size w)
 have H : ((impl_isTable.f a0 a1 (([a2] : List Int))).bind fun t158 => (if t158 = true then ((impl_within.f a3 0 1000000).bind fun t159 => (impl_TimesAfter.j0 k a0 a1 a2 a3 (!t159))) else (impl_TimesAfter.j0 k a0 a1 a2 a3 true))) = some (r1, r2) := h
 clear h
 have HC5 := Aside0.mk H
 clear H
 go_enter Try.func6, Try.ntmps6
 go_upto_region 1 with (fail)
 go_cut [20] (fun v20 wc => ∃ (kq : Nat) (x20_4 : Bool), v20 = .bool x20_4 ∧ Aside0 (impl_TimesAfter.j0 kq a0 a1 a2 a3 x20_4 = some (r1, r2)) ∧ Aside0 (kq ≤ k) ∧ Aside0 (Below w.heap.size w wc))
 case first =>
  have H := HC5.out
  clear HC5
  obtain ⟨y155, hy155⟩ : ∃ y_ : List Int, y_ = (([a2] : List Int)) := ⟨_, rfl⟩
  replace H : ((impl_isTable.f a0 a1 y155).bind fun t158 => (if t158 = true then ((impl_within.f a3 0 1000000).bind fun t159 => (impl_TimesAfter.j0 k a0 a1 a2 a3 (!t159))) else (impl_TimesAfter.j0 k a0 a1 a2 a3 true))) = some (r1, r2) := by first | (rw [hy155]; with_reducible exact H) | (have H2_ := (Option.bind_some _ _).symm.trans H; rw [hy155]; with_reducible exact H2_) | (have H2_ := (Option.bind_some _ _).symm.trans H; with_reducible exact H2_) | with_reducible exact H | (rw [hy155]; exact H) | exact H
  have Ny155 := Aside0.mk hy155
  clear hy155
  replace H := Option.bind_eq_some_iff.mp H
  obtain ⟨t158, A60, H⟩ := H
  (try dsimp only at H)
  have A6 := Aside0.mk A60
  clear A60
  by_cases c7 : t158 = true
  ·subst c7
   rw [if_pos rfl] at H
   replace H := Option.bind_eq_some_iff.mp H
   obtain ⟨t159, A80, H⟩ := H
   replace H : (impl_TimesAfter.j0 k a0 a1 a2 a3 (!t159)) = some (r1, r2) := H
   have A8 := Aside0.mk A80
   clear A80
   have H' := Aside0.mk H
   clear H
   go_wp2_with (first | ((with_reducible refine gate_dst (N := 13) rfl ?_); refine Kd.R_lit (Kd.int .i64) _ 3 ?hg (N := 13) ?hd (xs := ([a2] : List Int)) (inner := [.int .i64 a2]) (ok := fun _ => True) (okp := fun _ => True) ?hr ?hp (fun _ hk => hk) trivial (Below.refl _ _) (Nat.le_refl _) (by simp) ?_; (case hd => rfl); (case hg => rfl); (case hr => first | (go_simp; done) | (go_simp; rfl)); (case hp => exact (Reps.one (show Kd.M (Kd.int .i64) _ _ _ a2 [.int .i64 a2] from rfl) (Reps.none _ _))); intro v156 w9 ho10 hb hg_ hnew_; clear hg_ hnew_; (first | rw [← Ny155.out] at ho10 | (simp only [Int.reduceToNat] at ho10; rw [← Ny155.out] at ho10)); have n0_ := Aside0.mk (Kd.R_lower ho10 bz_); have n1_ := Aside0.mk (bs_ hb); clear HB; have HO157 := n0_; have HB := n1_; clear n0_ n1_; clear hb ho10; obtain ⟨Ao11, co11, eo11⟩ := Kd.R_slice HO157.out; subst eo11) | ((with_reducible refine gate_callee (f := 33) rfl ?_); refine gl_ (some 14) Try.func33 #[.int .i64 a0, .int .i64 a1, .slice Ao11 y155.length co11] ?_; (with_reducible refine (impl_isTable.calls a0 a1 _ _ y155 true _ ?side1 ?side2 A6.out).mono ?_); (case side1 => exact cu_ (Kd.R_reads' HO157.out).2.2); (case side2 => exact (Kd.R_reads' HO157.out).2.1); rintro e w12 ⟨rfl, hb⟩; refine ⟨_, rfl, ?_⟩; have n0_ := Aside0.mk (Kd.R_below (ru_ HO157.out) hb); have n1_ := Aside0.mk (bs_ hb); clear HO157; clear HB; have HO157 := n0_; have HB := n1_; clear n0_ n1_; (try clear hb)) | (go_at_call 34; (with_reducible refine (impl_within.calls a3 0 1000000 t159 _ A8.out).mono ?_); rintro e w' ⟨rfl, ⟨nd, rfl⟩⟩))
   go_meet
   case rel => exact ⟨_, (!t159), (by first | rfl | (simp; done) | (simp [*]; done)), H', ⟨by first | omega | exact Nat.le_refl _⟩, ⟨bb_⟩⟩
  ·replace c7 := Bool.eq_false_iff.mpr c7
   subst c7
   rw [if_neg (show ¬ (false = true) by decide)] at H
   have H' := Aside0.mk H
   clear H
   go_wp2_with (first | ((with_reducible refine gate_dst (N := 13) rfl ?_); refine Kd.R_lit (Kd.int .i64) _ 3 ?hg (N := 13) ?hd (xs := ([a2] : List Int)) (inner := [.int .i64 a2]) (ok := fun _ => True) (okp := fun _ => True) ?hr ?hp (fun _ hk => hk) trivial (Below.refl _ _) (Nat.le_refl _) (by simp) ?_; (case hd => rfl); (case hg => rfl); (case hr => first | (go_simp; done) | (go_simp; rfl)); (case hp => exact (Reps.one (show Kd.M (Kd.int .i64) _ _ _ a2 [.int .i64 a2] from rfl) (Reps.none _ _))); intro v156 w13 ho14 hb hg_ hnew_; clear hg_ hnew_; (first | rw [← Ny155.out] at ho14 | (simp only [Int.reduceToNat] at ho14; rw [← Ny155.out] at ho14)); have n0_ := Aside0.mk (Kd.R_lower ho14 bz_); have n1_ := Aside0.mk (bs_ hb); clear HB; have HO157 := n0_; have HB := n1_; clear n0_ n1_; clear hb ho14; obtain ⟨Ao15, co15, eo15⟩ := Kd.R_slice HO157.out; subst eo15) | ((with_reducible refine gate_callee (f := 33) rfl ?_); refine gl_ (some 14) Try.func33 #[.int .i64 a0, .int .i64 a1, .slice Ao15 y155.length co15] ?_; (with_reducible refine (impl_isTable.calls a0 a1 _ _ y155 false _ ?side1 ?side2 A6.out).mono ?_); (case side1 => exact cu_ (Kd.R_reads' HO157.out).2.2); (case side2 => exact (Kd.R_reads' HO157.out).2.1); rintro e w16 ⟨rfl, hb⟩; refine ⟨_, rfl, ?_⟩; have n0_ := Aside0.mk (Kd.R_below (ru_ HO157.out) hb); have n1_ := Aside0.mk (bs_ hb); clear HO157; clear HB; have HO157 := n0_; have HB := n1_; clear n0_ n1_; (try clear hb)))
   go_meet
   case rel => exact ⟨_, (true), (by first | rfl | (simp; done) | (simp [*]; done)), H', ⟨by first | omega | exact Nat.le_refl _⟩, ⟨bb_⟩⟩
 case rest =>
  clear HC5
  (try clear p2); (try clear c3); (try clear c6); (try clear c7)
  obtain ⟨kq, x20_4, rfl, HA, HJ4, HB⟩ := hcut
  cases kq with
  | zero => exact absurd HA.out (by simp [impl_TimesAfter.j0])
  | succ kj4 =>
   have H := HA.out
   clear HA
   simp only [impl_TimesAfter.j0] at H
   by_cases c17 : x20_4 = true
   ·subst c17
    rw [if_pos rfl] at H
    simp only [Option.some.injEq, Prod.mk.injEq] at H
    obtain ⟨rfl, rfl⟩ := H
    go_wp2
    go_ret2
    exact ⟨by first | rfl | (simp [errW_none, errW_some] <;> rfl) | (simp [*, errW_none, errW_some] <;> rfl), bb_⟩
   replace c17 := Bool.eq_false_iff.mpr c17
   subst c17
   rw [if_neg (show ¬ (false = true) by decide)] at H
   have H' := Aside0.mk H
   clear H
   go_wp2
   go_loopg [2, 22] kj4 (fun kq v2 v22 w' => ∃ (x2_2 : Int) (x22_2 : Int), v2 = .int .i64 x2_2 ∧ v22 = .int .i64 x22_2 ∧ Aside0 (impl_TimesAfter.l0 kq a0 a1 x2_2 a3 x22_2 = some (r1, r2)) ∧ Aside0 (kq ≤ kj4) ∧ Aside0 (Below w.heap.size w w'))
   case atStart => exact ⟨(a2), (0), (by first | rfl | (simp; done) | (simp [*]; done)), (by first | rfl | (simp; done) | (simp [*]; done)), H', ⟨Nat.le_refl _⟩, ⟨bb_⟩⟩
   case round =>
    clear H'
    (try clear c1); (try clear p2); (try clear c3); (try clear c6); (try clear c7); (try clear c17); (try clear p2)
    obtain ⟨x2_2, x22_2, rfl, rfl, HA, HK2, HB⟩ := hrel
    cases gk with
    | zero => exact absurd HA.out (by simp [impl_TimesAfter.l0])
    | succ k2 =>
     have H := HA.out
     clear HA
     simp only [impl_TimesAfter.l0] at H
     by_cases c18 : x22_2 < a3
     rotate_left
     ·rw [if_neg c18] at H
      have c18b0 : decide (x22_2 < a3) = false := decide_eq_false c18
      clear c18
      simp only [Option.some.injEq, Prod.mk.injEq] at H
      obtain ⟨rfl, rfl⟩ := H
      go_wp2
      go_ret2
      exact ⟨by first | rfl | (simp [errW_none, errW_some] <;> rfl) | (simp [*, errW_none, errW_some] <;> rfl), bb_⟩

     rw [if_pos c18] at H
     have c18b0 : decide (x22_2 < a3) = true := decide_eq_true c18
     clear c18
     by_cases c19 : a0 = 0
     ·rw [if_pos c19] at H
      exact absurd H (by simp)
     rw [if_neg c19] at H
     have c19b0 : (a0 == 0) = false := beq_eq_false_iff_ne.mpr c19
     have c19b1 : (a0 != 0) = true := bne_iff_ne.mpr c19
     have H' := Aside0.mk H
     clear H
     go_wp2
     go_roundg k2
     case measure => have := HJ4.out; have := HK2.out; omega
     case rel => exact ⟨(Int.tmod (wrap64 (x2_2 * a1)) a0), (wrap64 (x22_2 + 1)), (by first | rfl | (simp; done) | (simp [*]; done)), (by first | rfl | (simp; done) | (simp [*]; done)), H', ⟨by have := HJ4.out; have := HK2.out; omega⟩, ⟨bb_⟩⟩
/-! ### spec_l1In: function 36 -/
def spec_l1In.f (a0 : Int) (a1 : Int) (a2 : Int) : Option (Bool) := if a0 ≥ a1 then (some (decide (a0 ≤ a2))) else (some false)
set_option maxHeartbeats 8000000 in
set_option maxRecDepth 100000 in
theorem spec_l1In.calls (a0 : Int) (a1 : Int) (a2 : Int) (r : Bool) (w : World) (h : spec_l1In.f a0 a1 a2 = some r) :
  Calls Try.prog 36 #[.int .i64 a0, .int .i64 a1, .int .i64 a2] w fun e w' => e = .returned (.bool r) ∧ Drawn0 w w' := by
 have H : (if a0 ≥ a1 then (some (decide (a0 ≤ a2))) else (some false)) = some r := h
 clear h
 by_cases c4 : a0 ≥ a1
 ·rw [if_pos c4] at H
  have c4b0 : decide (a1 ≤ a0) = true := decide_eq_true c4
  clear c4
  obtain rfl := Option.some.inj H
  go_enter Try.func36, Try.ntmps36
  go_wp2
  go_ret
  exact ⟨by first | rfl | (simp; done) | (simp [*]; done), by repeat (first | exact Drawn0.refl _ | apply Drawn0.step)⟩
 rw [if_neg c4] at H
 have c4b0 : decide (a1 ≤ a0) = false := decide_eq_false c4
 clear c4
 obtain rfl := Option.some.inj H
 go_enter Try.func36, Try.ntmps36
 go_wp2
 go_ret
 exact ⟨by first | rfl | (simp; done) | (simp [*]; done), by repeat (first | exact Drawn0.refl _ | apply Drawn0.step)⟩

/-! ### spec_srPoints: function 57 -/
def spec_srPoints.f (a0 : Int) : Option (Bool) := (spec_l1In.f a0 3 60).bind fun t160 => (some t160)
set_option maxHeartbeats 8000000 in
set_option maxRecDepth 100000 in
theorem spec_srPoints.calls (a0 : Int) (r : Bool) (w : World) (h : spec_srPoints.f a0 = some r) :
  Calls Try.prog 57 #[.int .i64 a0] w fun e w' => e = .returned (.bool r) ∧ Drawn0 w w' := by
 have H : ((spec_l1In.f a0 3 60).bind fun t160 => (some t160)) = some r := h
 clear h
 replace H := Option.bind_eq_some_iff.mp H
 obtain ⟨t160, A20, H⟩ := H
 replace H : (some t160) = some r := H
 have A2 := Aside0.mk A20
 clear A20
 obtain rfl := Option.some.inj H
 go_enter Try.func57, Try.ntmps57
 go_wp2_with (first | ((with_reducible refine gate_callee (f := 36) rfl ?_); refine gl_ (some 4) Try.func36 #[.int .i64 a0, .int .i64 3, .int .i64 60] ?_; (with_reducible refine (spec_l1In.calls a0 3 60 t160 _ A2.out).mono ?_); rintro e w' ⟨rfl, ⟨nd, rfl⟩⟩; refine ⟨_, rfl, ?_⟩))
 go_ret
 exact ⟨by first | rfl | (simp; done) | (simp [*]; done), by repeat (first | exact Drawn0.refl _ | apply Drawn0.step)⟩

/-! ### spec_taGood: function 44 -/
def spec_taGood.f (a0 : Int) (a1 : Int) : Option (Bool) := (spec_srPoints.f a0).bind fun t161 => (if t161 = true then ((spec_l1In.f a1 0 (wrap64 (a0 - 1))).bind fun t162 => (some t162)) else (some false))
set_option maxHeartbeats 8000000 in
set_option maxRecDepth 100000 in
theorem spec_taGood.calls (a0 : Int) (a1 : Int) (r : Bool) (w : World) (h : spec_taGood.f a0 a1 = some r) :
  Calls Try.prog 44 #[.int .i64 a0, .int .i64 a1] w fun e w' => e = .returned (.bool r) ∧ Drawn0 w w' := by
 have H : ((spec_srPoints.f a0).bind fun t161 => (if t161 = true then ((spec_l1In.f a1 0 (wrap64 (a0 - 1))).bind fun t162 => (some t162)) else (some false))) = some r := h
 clear h
 replace H := Option.bind_eq_some_iff.mp H
 obtain ⟨t161, A30, H⟩ := H
 (try dsimp only at H)
 have A3 := Aside0.mk A30
 clear A30
 by_cases c4 : t161 = true
 rotate_left
 ·replace c4 := Bool.eq_false_iff.mpr c4
  subst c4
  rw [if_neg (show ¬ (false = true) by decide)] at H
  obtain rfl := Option.some.inj H
  go_enter Try.func44, Try.ntmps44
  go_wp2_with (first | ((with_reducible refine gate_callee (f := 57) rfl ?_); refine gl_ (some 6) Try.func57 #[.int .i64 a0] ?_; (with_reducible refine (spec_srPoints.calls a0 false _ A3.out).mono ?_); rintro e w' ⟨rfl, ⟨nd, rfl⟩⟩; refine ⟨_, rfl, ?_⟩))
  go_ret
  exact ⟨by first | rfl | (simp; done) | (simp [*]; done), by repeat (first | exact Drawn0.refl _ | apply Drawn0.step)⟩

 subst c4
 rw [if_pos rfl] at H
 replace H := Option.bind_eq_some_iff.mp H
 obtain ⟨t162, A50, H⟩ := H
 replace H : (some t162) = some r := H
 have A5 := Aside0.mk A50
 clear A50
 obtain rfl := Option.some.inj H
 go_enter Try.func44, Try.ntmps44
 go_wp2_with (first | ((with_reducible refine gate_callee (f := 57) rfl ?_); refine gl_ (some 6) Try.func57 #[.int .i64 a0] ?_; (with_reducible refine (spec_srPoints.calls a0 true _ A3.out).mono ?_); rintro e w' ⟨rfl, ⟨nd, rfl⟩⟩; refine ⟨_, rfl, ?_⟩) | (go_at_call 36; (with_reducible refine (spec_l1In.calls a1 0 (wrap64 (a0 - 1)) t162 _ A5.out).mono ?_); rintro e w' ⟨rfl, ⟨nd, rfl⟩⟩))
 go_ret
 exact ⟨by first | rfl | (simp; done) | (simp [*]; done), by repeat (first | exact Drawn0.refl _ | apply Drawn0.step)⟩
/-! ### spec_taAsked: function 35 -/
def spec_taAsked.f (a0 : Int) (a1 : Int) (a2 : Int) : Option (Bool) := (spec_taGood.f a0 a1).bind fun t163 => (if t163 = true then ((spec_l1In.f a2 0 (wrap64 (a0 - 1))).bind fun t164 => (some t164)) else (some false))
set_option maxHeartbeats 8000000 in
set_option maxRecDepth 100000 in
theorem spec_taAsked.calls (a0 : Int) (a1 : Int) (a2 : Int) (r : Bool) (w : World) (h : spec_taAsked.f a0 a1 a2 = some r) :
  Calls Try.prog 35 #[.int .i64 a0, .int .i64 a1, .int .i64 a2] w fun e w' => e = .returned (.bool r) ∧ Drawn0 w w' := by
 have H : ((spec_taGood.f a0 a1).bind fun t163 => (if t163 = true then ((spec_l1In.f a2 0 (wrap64 (a0 - 1))).bind fun t164 => (some t164)) else (some false))) = some r := h
 clear h
 replace H := Option.bind_eq_some_iff.mp H
 obtain ⟨t163, A40, H⟩ := H
 (try dsimp only at H)
 have A4 := Aside0.mk A40
 clear A40
 by_cases c5 : t163 = true
 rotate_left
 ·replace c5 := Bool.eq_false_iff.mpr c5
  subst c5
  rw [if_neg (show ¬ (false = true) by decide)] at H
  obtain rfl := Option.some.inj H
  go_enter Try.func35, Try.ntmps35
  go_wp2_with (first | ((with_reducible refine gate_callee (f := 44) rfl ?_); refine gl_ (some 9) Try.func44 #[.int .i64 a0, .int .i64 a1] ?_; (with_reducible refine (spec_taGood.calls a0 a1 false _ A4.out).mono ?_); rintro e w' ⟨rfl, ⟨nd, rfl⟩⟩; refine ⟨_, rfl, ?_⟩))
  go_ret
  exact ⟨by first | rfl | (simp; done) | (simp [*]; done), by repeat (first | exact Drawn0.refl _ | apply Drawn0.step)⟩

 subst c5
 rw [if_pos rfl] at H
 replace H := Option.bind_eq_some_iff.mp H
 obtain ⟨t164, A60, H⟩ := H
 replace H : (some t164) = some r := H
 have A6 := Aside0.mk A60
 clear A60
 obtain rfl := Option.some.inj H
 go_enter Try.func35, Try.ntmps35
 go_wp2_with (first | ((with_reducible refine gate_callee (f := 44) rfl ?_); refine gl_ (some 9) Try.func44 #[.int .i64 a0, .int .i64 a1] ?_; (with_reducible refine (spec_taGood.calls a0 a1 true _ A4.out).mono ?_); rintro e w' ⟨rfl, ⟨nd, rfl⟩⟩; refine ⟨_, rfl, ?_⟩) | (go_at_call 36; (with_reducible refine (spec_l1In.calls a2 0 (wrap64 (a0 - 1)) t164 _ A6.out).mono ?_); rintro e w' ⟨rfl, ⟨nd, rfl⟩⟩))
 go_ret
 exact ⟨by first | rfl | (simp; done) | (simp [*]; done), by repeat (first | exact Drawn0.refl _ | apply Drawn0.step)⟩
/-! ### spec_TimesAfter: function 7 -/
mutual
def spec_TimesAfter.j0 : Nat → Int → Int → Int → Int → Bool → Option (Int × Bool)
 | 0, _, _, _, _, _ => none
 | k + 1, x0, x1, x2, x3, x20 => if x20 = true then (some (0, false)) else (spec_TimesAfter.l0 k x0 x2 x3 x1)
def spec_TimesAfter.l0 : Nat → Int → Int → Int → Int → Option (Int × Bool)
 | 0, _, _, _, _ => none
 | k + 1, x0, x2, x3, x10 => if x3 > 0 then (if (Int.tmod x3 2) = 1 then (if x0 = 0 then (none) else (spec_TimesAfter.l0 k x0 (Int.tmod (wrap64 (x2 * x10)) x0) (wrap64 (Int.tdiv x3 2)) (Int.tmod (wrap64 (x10 * x10)) x0))) else (if x0 = 0 then (none) else (spec_TimesAfter.l0 k x0 x2 (wrap64 (Int.tdiv x3 2)) (Int.tmod (wrap64 (x10 * x10)) x0)))) else (some (x2, true))
end
def spec_TimesAfter.f (k : Nat) (a0 : Int) (a1 : Int) (a2 : Int) (a3 : Int) : Option (Int × Bool) := (spec_taAsked.f a0 a1 a2).bind fun t165 => (if t165 = true then ((spec_l1In.f a3 0 1000000).bind fun t166 => (spec_TimesAfter.j0 k a0 a1 a2 a3 (!t166))) else (spec_TimesAfter.j0 k a0 a1 a2 a3 true))
theorem spec_TimesAfter.mono_l : ∀ k, (∀ y0 y1 y2 y3 y4, LeO (spec_TimesAfter.j0 k y0 y1 y2 y3 y4) (spec_TimesAfter.j0 (k + 1) y0 y1 y2 y3 y4)) ∧ (∀ y0 y1 y2 y3, LeO (spec_TimesAfter.l0 k y0 y1 y2 y3) (spec_TimesAfter.l0 (k + 1) y0 y1 y2 y3))
 | 0 => ⟨fun _ _ _ _ _ r h => by simp [spec_TimesAfter.j0] at h, fun _ _ _ _ r h => by simp [spec_TimesAfter.l0] at h⟩
 | k + 1 => by
  obtain ⟨ih0, ih1⟩ := spec_TimesAfter.mono_l k
  refine ⟨?_, ?_⟩
  all_goals (intros; first | unfold spec_TimesAfter.j0 | unfold spec_TimesAfter.l0)
  all_goals repeat' with_reducible first | apply ih0 | apply ih1 | exact LeO.refl _ | exact LeO.none _ | refine LeO.ite ?_ ?_ | refine LeO.bind ?_ (fun _ => ?_)
theorem spec_TimesAfter.mono : ∀ a0 a1 a2 a3 k, LeO (spec_TimesAfter.f k a0 a1 a2 a3) (spec_TimesAfter.f (k + 1) a0 a1 a2 a3) := by
 intro a0 a1 a2 a3 k
 obtain ⟨ih0, ih1⟩ := spec_TimesAfter.mono_l k
 unfold spec_TimesAfter.f
 repeat' with_reducible first | apply ih0 | apply ih1 | exact LeO.refl _ | exact LeO.none _ | refine LeO.ite ?_ ?_ | refine LeO.bind ?_ (fun _ => ?_)
set_option maxHeartbeats 8000000 in
set_option maxRecDepth 100000 in
theorem spec_TimesAfter.calls (k : Nat) (a0 : Int) (a1 : Int) (a2 : Int) (a3 : Int) (r1 : Int) (r2 : Bool) (w : World) (h : spec_TimesAfter.f k a0 a1 a2 a3 = some (r1, r2)) :
  Calls Try.prog 7 #[.int .i64 a0, .int .i64 a1, .int .i64 a2, .int .i64 a3] w fun e w' => e = .returned (.tuple #[.int .i64 r1, .bool r2]) ∧ Drawn0 w w' := by
 have H : ((spec_taAsked.f a0 a1 a2).bind fun t165 => (if t165 = true then ((spec_l1In.f a3 0 1000000).bind fun t166 => (spec_TimesAfter.j0 k a0 a1 a2 a3 (!t166))) else (spec_TimesAfter.j0 k a0 a1 a2 a3 true))) = some (r1, r2) := h
 clear h
 have HC5 := Aside0.mk H
 clear H
 go_enter Try.func7, Try.ntmps7
 go_upto_region 1 with (fail)
 go_cut [20] (fun v20 wc => ∃ (kq : Nat) (x20_4 : Bool), v20 = .bool x20_4 ∧ Aside0 (spec_TimesAfter.j0 kq a0 a1 a2 a3 x20_4 = some (r1, r2)) ∧ Aside0 (kq ≤ k) ∧ Drawn0 w wc)
 case first =>
  have H := HC5.out
  clear HC5
  replace H := Option.bind_eq_some_iff.mp H
  obtain ⟨t165, A60, H⟩ := H
  (try dsimp only at H)
  have A6 := Aside0.mk A60
  clear A60
  by_cases c7 : t165 = true
  ·subst c7
   rw [if_pos rfl] at H
   replace H := Option.bind_eq_some_iff.mp H
   obtain ⟨t166, A80, H⟩ := H
   replace H : (spec_TimesAfter.j0 k a0 a1 a2 a3 (!t166)) = some (r1, r2) := H
   have A8 := Aside0.mk A80
   clear A80
   have H' := Aside0.mk H
   clear H
   go_wp2_with (first | ((with_reducible refine gate_callee (f := 35) rfl ?_); refine gl_ (some 14) Try.func35 #[.int .i64 a0, .int .i64 a1, .int .i64 a2] ?_; (with_reducible refine (spec_taAsked.calls a0 a1 a2 true _ A6.out).mono ?_); rintro e w' ⟨rfl, ⟨nd, rfl⟩⟩; refine ⟨_, rfl, ?_⟩) | (go_at_call 36; (with_reducible refine (spec_l1In.calls a3 0 1000000 t166 _ A8.out).mono ?_); rintro e w' ⟨rfl, ⟨nd, rfl⟩⟩))
   go_meet
   case rel => exact ⟨_, (!t166), (by first | rfl | (simp; done) | (simp [*]; done)), H', ⟨by first | omega | exact Nat.le_refl _⟩, by repeat (first | exact Drawn0.refl _ | apply Drawn0.step)⟩
  ·replace c7 := Bool.eq_false_iff.mpr c7
   subst c7
   rw [if_neg (show ¬ (false = true) by decide)] at H
   have H' := Aside0.mk H
   clear H
   go_wp2_with (first | ((with_reducible refine gate_callee (f := 35) rfl ?_); refine gl_ (some 14) Try.func35 #[.int .i64 a0, .int .i64 a1, .int .i64 a2] ?_; (with_reducible refine (spec_taAsked.calls a0 a1 a2 false _ A6.out).mono ?_); rintro e w' ⟨rfl, ⟨nd, rfl⟩⟩; refine ⟨_, rfl, ?_⟩))
   go_meet
   case rel => exact ⟨_, (true), (by first | rfl | (simp; done) | (simp [*]; done)), H', ⟨by first | omega | exact Nat.le_refl _⟩, by repeat (first | exact Drawn0.refl _ | apply Drawn0.step)⟩
 case rest =>
  clear HC5
  (try clear p2); (try clear c3); (try clear c7)
  obtain ⟨kq, x20_4, rfl, HA, HJ4, ⟨mc4, rfl⟩⟩ := hcut
  cases kq with
  | zero => exact absurd HA.out (by simp [spec_TimesAfter.j0])
  | succ kj4 =>
   have H := HA.out
   clear HA
   simp only [spec_TimesAfter.j0] at H
   by_cases c9 : x20_4 = true
   ·subst c9
    rw [if_pos rfl] at H
    simp only [Option.some.injEq, Prod.mk.injEq] at H
    obtain ⟨rfl, rfl⟩ := H
    go_wp2
    go_ret2
    exact ⟨by first | rfl | (simp; done) | (simp [*]; done), by repeat (first | exact Drawn0.refl _ | apply Drawn0.step)⟩
   replace c9 := Bool.eq_false_iff.mpr c9
   subst c9
   rw [if_neg (show ¬ (false = true) by decide)] at H
   have H' := Aside0.mk H
   clear H
   go_wp2
   go_loopg [2, 3, 10] kj4 (fun kq v2 v3 v10 w' => ∃ (x2_2 : Int) (x3_2 : Int) (x10_2 : Int), v2 = .int .i64 x2_2 ∧ v3 = .int .i64 x3_2 ∧ v10 = .int .i64 x10_2 ∧ Aside0 (spec_TimesAfter.l0 kq a0 x2_2 x3_2 x10_2 = some (r1, r2)) ∧ Aside0 (kq ≤ kj4) ∧ Drawn0 w w')
   case atStart => exact ⟨(a2), (a3), (a1), (by first | rfl | (simp; done) | (simp [*]; done)), (by first | rfl | (simp; done) | (simp [*]; done)), (by first | rfl | (simp; done) | (simp [*]; done)), H', ⟨Nat.le_refl _⟩, by repeat (first | exact Drawn0.refl _ | apply Drawn0.step)⟩
   case round =>
    clear H'
    (try clear p2); (try clear c3); (try clear c4); (try clear c7); (try clear c9); (try clear p2)
    obtain ⟨x2_2, x3_2, x10_2, rfl, rfl, rfl, HA, HK2, ⟨m2, rfl⟩⟩ := hrel
    cases gk with
    | zero => exact absurd HA.out (by simp [spec_TimesAfter.l0])
    | succ k2 =>
     have H := HA.out
     clear HA
     simp only [spec_TimesAfter.l0] at H
     by_cases c10 : x3_2 > 0
     rotate_left
     ·rw [if_neg c10] at H
      have c10b0 : decide (0 < x3_2) = false := decide_eq_false c10
      clear c10
      simp only [Option.some.injEq, Prod.mk.injEq] at H
      obtain ⟨rfl, rfl⟩ := H
      go_wp2
      go_ret2
      exact ⟨by first | rfl | (simp; done) | (simp [*]; done), by repeat (first | exact Drawn0.refl _ | apply Drawn0.step)⟩

     rw [if_pos c10] at H
     have c10b0 : decide (0 < x3_2) = true := decide_eq_true c10
     clear c10
     by_cases c11 : (Int.tmod x3_2 2) = 1
     rotate_left
     ·rw [if_neg c11] at H
      have c11b0 : ((Int.tmod x3_2 2) == 1) = false := beq_eq_false_iff_ne.mpr c11
      have c11b1 : ((Int.tmod x3_2 2) != 1) = true := bne_iff_ne.mpr c11
      by_cases c13 : a0 = 0
      ·rw [if_pos c13] at H
       exact absurd H (by simp)
      rw [if_neg c13] at H
      have c13b0 : (a0 == 0) = false := beq_eq_false_iff_ne.mpr c13
      have c13b1 : (a0 != 0) = true := bne_iff_ne.mpr c13
      have H' := Aside0.mk H
      clear H
      go_wp2
      go_roundg k2
      case measure => have := HJ4.out; have := HK2.out; omega
      case rel => exact ⟨(x2_2), (wrap64 (Int.tdiv x3_2 2)), (Int.tmod (wrap64 (x10_2 * x10_2)) a0), (by first | rfl | (simp; done) | (simp [*]; done)), (by first | rfl | (simp; done) | (simp [*]; done)), (by first | rfl | (simp; done) | (simp [*]; done)), H', ⟨by have := HJ4.out; have := HK2.out; omega⟩, by repeat (first | exact Drawn0.refl _ | apply Drawn0.step)⟩
     rw [if_pos c11] at H
     have c11b0 : ((Int.tmod x3_2 2) == 1) = true := beq_iff_eq.mpr c11
     have c11b1 : ((Int.tmod x3_2 2) != 1) = false := bne_eq_false_iff_eq.mpr c11
     clear c11
     by_cases c12 : a0 = 0
     ·rw [if_pos c12] at H
      exact absurd H (by simp)
     rw [if_neg c12] at H
     have c12b0 : (a0 == 0) = false := beq_eq_false_iff_ne.mpr c12
     have c12b1 : (a0 != 0) = true := bne_iff_ne.mpr c12
     have H' := Aside0.mk H
     clear H
     go_wp2
     go_roundg k2
     case measure => have := HJ4.out; have := HK2.out; omega
     case rel => exact ⟨(Int.tmod (wrap64 (x2_2 * x10_2)) a0), (wrap64 (Int.tdiv x3_2 2)), (Int.tmod (wrap64 (x10_2 * x10_2)) a0), (by first | rfl | (simp; done) | (simp [*]; done)), (by first | rfl | (simp; done) | (simp [*]; done)), (by first | rfl | (simp; done) | (simp [*]; done)), H', ⟨by have := HJ4.out; have := HK2.out; omega⟩, by repeat (first | exact Drawn0.refl _ | apply Drawn0.step)⟩
/-! ### impl_TimesPoint: function 8 -/
def impl_TimesPoint.f (k : Nat) (a0 : Int) (a1 : Int) (a2 : Int) : Option (Int × Bool) := (impl_TimesAfter.f k a0 a1 a2 1).bind fun bt167 => (some (bt167.1, bt167.2))
theorem impl_TimesPoint.mono : ∀ a0 a1 a2 k, LeO (impl_TimesPoint.f k a0 a1 a2) (impl_TimesPoint.f (k + 1) a0 a1 a2) := by
 intro a0 a1 a2 k
 unfold impl_TimesPoint.f
 repeat' with_reducible first | apply impl_TimesAfter.mono | exact LeO.refl _ | exact LeO.none _ | refine LeO.ite ?_ ?_ | refine LeO.bind ?_ (fun _ => ?_)
set_option maxHeartbeats 8000000 in
set_option maxRecDepth 100000 in
theorem impl_TimesPoint.calls (k : Nat) (a0 : Int) (a1 : Int) (a2 : Int) (r1 : Int) (r2 : Bool) (w : World) (h : impl_TimesPoint.f k a0 a1 a2 = some (r1, r2)) :
  Calls Try.prog 8 #[.int .i64 a0, .int .i64 a1, .int .i64 a2] w fun e w' => e = .returned (.tuple #[.int .i64 r1, .bool r2]) ∧ Below w.heap.size w w' := by
 have HB := Aside0.mk (Below.refl w.heap.size w)
 have H : ((impl_TimesAfter.f k a0 a1 a2 1).bind fun bt167 => (some (bt167.1, bt167.2))) = some (r1, r2) := h
 clear h
 replace H := Option.bind_eq_some_iff.mp H
 obtain ⟨⟨t167, t168⟩, A40, H⟩ := H
 replace H : (some (t167, t168)) = some (r1, r2) := H
 have A4 := Aside0.mk A40
 clear A40
 simp only [Option.some.injEq, Prod.mk.injEq] at H
 obtain ⟨rfl, rfl⟩ := H
 go_enter Try.func8, Try.ntmps8
 go_wp2_with (first | ((with_reducible refine gate_callee (f := 6) rfl ?_); refine gl_ (some 11) Try.func6 #[.int .i64 a0, .int .i64 a1, .int .i64 a2, .int .i64 1] ?_; (with_reducible refine (impl_TimesAfter.calls k a0 a1 a2 1 t167 t168 _ A4.out).mono ?_); rintro e w5 ⟨rfl, hb⟩; refine ⟨_, rfl, ?_⟩; have n0_ := Aside0.mk (bs_ hb); clear HB; have HB := n0_; clear n0_; (try clear hb)))
 go_ret2
 exact ⟨by first | rfl | (simp [errW_none, errW_some] <;> rfl) | (simp [*, errW_none, errW_some] <;> rfl), bb_⟩

/-! ### spec_DrawTimesPoint_w: function 37 -/
def spec_DrawTimesPoint_w.f (s0_0 : List Int) (s0_1 : Int) (s0_2 : Int) : Option (Int × Int × Int × Int × Int) := (spec_l1Cur_table.f s0_0 s0_1 s0_2).bind fun bt169 => ((spec_l1Most.f 1 bt169.1).bind fun t173 => ((spec_l1Least.f 60 t173).bind fun t174 => ((spec_l1Cur_pick.f s0_0 bt169.2.2.1 bt169.2.2.2 t174).bind fun bt175 => ((spec_l1Cur_pick.f s0_0 bt175.2.1 bt175.2.2 9).bind fun bt178 => (some (bt169.1, bt169.2.1, wrap64 (bt175.1 - (wrap64 (Int.tdiv bt178.1 8))), bt178.2.1, bt178.2.2))))))
set_option maxHeartbeats 8000000 in
set_option maxRecDepth 100000 in
theorem spec_DrawTimesPoint_w.callsC (A0 : Option Addr) (c0 : Nat) (s0_0 : List Int) (s0_1 : Int) (s0_2 : Int) (r1 : Int) (r2 : Int) (r3 : Int) (r4 : Int) (r5 : Int) (w0 : World) (hr0 : Kd.C (Kd.int .u8) w0 A0 s0_0.length s0_0) (zf1 : s0_1 = 0) (zf2 : s0_2 = 0) (h : spec_DrawTimesPoint_w.f s0_0 s0_1 s0_2 = some (r1, r2, r3, r4, r5)) :
  Calls Try.prog 37 #[.slice A0 s0_0.length c0] w0 fun e w' => ∃ g w, w0.heap.size ≤ w.heap.size ∧ (e = .returned (.tuple #[.int .i64 r1, .int .i64 r2, .int .i64 r3]) ∧ IsS48 w0 w' g s0_0 r4 r5 ∧ Below w0.heap.size w0 w' ∧ KeepBut w w' g none) := by
 have hu48 := Try.underlying48
 have ZR := Aside0.mk hr0
 clear hr0
 have H : ((spec_l1Cur_table.f s0_0 s0_1 s0_2).bind fun bt169 => ((spec_l1Most.f 1 bt169.1).bind fun t173 => ((spec_l1Least.f 60 t173).bind fun t174 => ((spec_l1Cur_pick.f s0_0 bt169.2.2.1 bt169.2.2.2 t174).bind fun bt175 => ((spec_l1Cur_pick.f s0_0 bt175.2.1 bt175.2.2 9).bind fun bt178 => (some (bt169.1, bt169.2.1, wrap64 (bt175.1 - (wrap64 (Int.tdiv bt178.1 8))), bt178.2.1, bt178.2.2))))))) = some (r1, r2, r3, r4, r5) := h
 clear h
 replace H := Option.bind_eq_some_iff.mp H
 obtain ⟨⟨t169, t170, t171, t172⟩, A20, H⟩ := H
 (try dsimp only at H)
 have A2 := Aside0.mk A20
 clear A20
 replace H := Option.bind_eq_some_iff.mp H
 obtain ⟨t173, A30, H⟩ := H
 (try dsimp only at H)
 have A3 := Aside0.mk A30
 clear A30
 replace H := Option.bind_eq_some_iff.mp H
 obtain ⟨t174, A40, H⟩ := H
 (try dsimp only at H)
 have A4 := Aside0.mk A40
 clear A40
 replace H := Option.bind_eq_some_iff.mp H
 obtain ⟨⟨t175, t176, t177⟩, A50, H⟩ := H
 (try dsimp only at H)
 have A5 := Aside0.mk A50
 clear A50
 replace H := Option.bind_eq_some_iff.mp H
 obtain ⟨⟨t178, t179, t180⟩, A60, H⟩ := H
 (try dsimp only at H)
 have A6 := Aside0.mk A60
 clear A60
 simp only [Option.some.injEq, Prod.mk.injEq] at H
 obtain ⟨rfl, rfl, rfl, rfl, rfl⟩ := H
 go_enter Try.func37, Try.ntmps37
 go_wp2_with (first | ((with_reducible refine gate_dst (N := 10) rfl ?_); refine box_event ?hg (N := 10) ?hd (cs := #[.slice A0 s0_0.length c0, .int .i64 0, .int .u64 0]) (t := 48) ?hr ?_; (case hd => rfl); (case hg => rfl); (case hr => first | (go_simp; done) | (go_simp; rfl)); intro g hg w hbox hb; have hB : Below w0.heap.size w0 w := hb; have hI : IsS48 w0 w g s0_0 s0_1 s0_2 := ⟨A0, c0, by (first | exact hbox | (simp only [zf1, zf2]; exact hbox)), by (rw [hg]; exact Nat.le_refl _), ZR.out⟩; clear hbox hb hg; have HI0 := Aside0.mk hI; have HK := Aside0.mk (KeepBut.refl w g none); have HL := Aside0.mk hB.size; clear hI; have HW0 := Aside0.mk hB.size; have HB := Aside0.mk hB; clear hB) | ((with_reducible refine gate_callee (f := 28) rfl ?_); refine gl_ (some 13) Try.func28 #[.pointer (some ⟨g, 0, none⟩)] ?_; (with_reducible refine (spec_l1Cur_table.calls g s0_0 s0_1 s0_2 t169 t170 t171 t172 w0 _ ?side1 ?side2 A2.out).mono ?_); (case side1 => repeat (first | (with_reducible first | apply IsS48.alloc | apply IsS48.drewN | apply IsS48.drew | apply IsS48.set_1 | apply IsS48.set_2) | exact HI0.out)); (case side2 => repeat (first | (with_reducible first | exact HB.out | apply below_alloc | apply pw_below_drewN | apply below_drew1 | refine below_set ?_ (IsS48.ge HI0.out)) | exact HB.out)); rintro e w7 ⟨rfl, hi, hb, hk⟩; refine ⟨_, rfl, ?_⟩; have n0_ := Aside0.mk (KeepBut.trans (by repeat (first | (with_reducible first | apply KeepBut.set_ | apply keep_drewN | apply keep_drew | apply keep_alloc) | exact HK.out)) hk (.inl rfl)); have n1_ := Aside0.mk (hb); have n2_ := Aside0.mk (hi); clear HK; clear HB; clear HI0; have HK := n0_; have HB := n1_; have HI0 := n2_; clear n0_ n1_ n2_; (try clear hb)) | ((with_reducible refine gate_callee (f := 31) rfl ?_); refine gl_ (some 20) Try.func31 #[.int .i64 1, .int .i64 t169] ?_; (with_reducible refine (spec_l1Most.calls 1 t169 t173 _ A3.out).mono ?_); rintro e w' ⟨rfl, ⟨nd, rfl⟩⟩; refine ⟨_, rfl, ?_⟩) | ((with_reducible refine gate_callee (f := 30) rfl ?_); refine gl_ (some 21) Try.func30 #[.int .i64 60, .int .i64 t173] ?_; (with_reducible refine (spec_l1Least.calls 60 t173 t174 _ A4.out).mono ?_); rintro e w' ⟨rfl, ⟨nd, rfl⟩⟩; refine ⟨_, rfl, ?_⟩) | ((with_reducible refine gate_callee (f := 29) rfl ?_); refine gl_ (some 22) Try.func29 #[.pointer (some ⟨g, 0, none⟩), .int .i64 t174] ?_; (with_reducible refine (spec_l1Cur_pick.calls g s0_0 t171 t172 t174 t175 t176 t177 w0 _ ?side1 ?side2 A5.out).mono ?_); (case side1 => repeat (first | (with_reducible first | apply IsS48.alloc | apply IsS48.drewN | apply IsS48.drew | apply IsS48.set_1 | apply IsS48.set_2) | exact HI0.out)); (case side2 => repeat (first | (with_reducible first | exact HB.out | apply below_alloc | apply pw_below_drewN | apply below_drew1 | refine below_set ?_ (IsS48.ge HI0.out)) | exact HB.out)); rintro e w8 ⟨rfl, hi, hb, hk⟩; refine ⟨_, rfl, ?_⟩; have n0_ := Aside0.mk (KeepBut.trans (by repeat (first | (with_reducible first | apply KeepBut.set_ | apply keep_drewN | apply keep_drew | apply keep_alloc) | exact HK.out)) hk (.inl rfl)); have n1_ := Aside0.mk (hb); have n2_ := Aside0.mk (hi); clear HK; clear HB; clear HI0; have HK := n0_; have HB := n1_; have HI0 := n2_; clear n0_ n1_ n2_; (try clear hb)) | ((with_reducible refine gate_callee (f := 29) rfl ?_); refine gl_ (some 24) Try.func29 #[.pointer (some ⟨g, 0, none⟩), .int .i64 9] ?_; (with_reducible refine (spec_l1Cur_pick.calls g s0_0 t176 t177 9 t178 t179 t180 w0 _ ?side1 ?side2 A6.out).mono ?_); (case side1 => repeat (first | (with_reducible first | apply IsS48.alloc | apply IsS48.drewN | apply IsS48.drew | apply IsS48.set_1 | apply IsS48.set_2) | exact HI0.out)); (case side2 => repeat (first | (with_reducible first | exact HB.out | apply below_alloc | apply pw_below_drewN | apply below_drew1 | refine below_set ?_ (IsS48.ge HI0.out)) | exact HB.out)); rintro e w9 ⟨rfl, hi, hb, hk⟩; refine ⟨_, rfl, ?_⟩; have n0_ := Aside0.mk (KeepBut.trans (by repeat (first | (with_reducible first | apply KeepBut.set_ | apply keep_drewN | apply keep_drew | apply keep_alloc) | exact HK.out)) hk (.inl rfl)); have n1_ := Aside0.mk (hb); have n2_ := Aside0.mk (hi); clear HK; clear HB; clear HI0; have HK := n0_; have HB := n1_; have HI0 := n2_; clear n0_ n1_ n2_; (try clear hb)))
 go_ret3
 refine ⟨g, w, HW0.out, ?_⟩
 exact ⟨by first | rfl | (simp [errW_none, errW_some] <;> rfl) | (simp [*, errW_none, errW_some] <;> rfl), by repeat (first | (with_reducible first | apply IsS48.alloc | apply IsS48.drewN | apply IsS48.drew | apply IsS48.set_1 | apply IsS48.set_2) | exact HI0.out), by repeat (first | (with_reducible first | exact HB.out | apply below_alloc | apply pw_below_drewN | apply below_drew1 | refine below_set ?_ (IsS48.ge HI0.out)) | exact HB.out), by repeat (first | (with_reducible first | apply KeepBut.set_ | apply keep_drewN | apply keep_drew | apply keep_alloc) | exact HK.out)⟩

def spec_DrawTimesPoint.f (l0 : List Int) : Option (Int × Int × Int) := (spec_DrawTimesPoint_w.f l0 0 0).bind fun t => match t with | (t0, t1, t2, t3, t4) => some (t0, t1, t2)
theorem spec_DrawTimesPoint.calls (A0 : Option Addr) (c0 : Nat) (l0 : List Int) (r1 : Int) (r2 : Int) (r3 : Int) (w : World) (hr0 : Kd.C (Kd.int .u8) w A0 l0.length l0) (hc0 : l0.length ≤ c0) (h : spec_DrawTimesPoint.f l0 = some (r1, r2, r3)) :
  Calls Try.prog 37 #[.slice A0 l0.length c0] w fun e w' => e = .returned (.tuple #[.int .i64 r1, .int .i64 r2, .int .i64 r3]) ∧ Below w.heap.size w w' := by
 unfold spec_DrawTimesPoint.f at h
 obtain ⟨⟨t0, t1, t2, t3, t4⟩, ht, h⟩ := Option.bind_eq_some_iff.mp h
 simp only [Option.some.injEq, Prod.mk.injEq] at h
 obtain ⟨rfl, rfl, rfl⟩ := h
 exact (spec_DrawTimesPoint_w.callsC A0 c0 l0 0 0 _ _ _ _ _ w hr0 rfl rfl ht).mono (by rintro e w' ⟨g, w1, hle, he, _, hb, _⟩; exact ⟨he, hb⟩)

/-! ### spec_DrawLeadOfPoint: function 9 -/
def spec_DrawLeadOfPoint.f (l0 : List Int) : Option (Int × Int × Int) := (spec_DrawTimesPoint.f l0).bind fun bt181 => (some (bt181.1, bt181.2.1, bt181.2.2))
set_option maxHeartbeats 8000000 in
set_option maxRecDepth 100000 in
theorem spec_DrawLeadOfPoint.calls (A0 : Option Addr) (c0 : Nat) (l0 : List Int) (r1 : Int) (r2 : Int) (r3 : Int) (w : World) (hr0 : Kd.C (Kd.int .u8) w A0 l0.length l0) (hc0 : l0.length ≤ c0) (h : spec_DrawLeadOfPoint.f l0 = some (r1, r2, r3)) :
    Calls Try.prog 9 #[.slice A0 l0.length c0] w fun e w' => e = .returned (.tuple #[.int .i64 r1, .int .i64 r2, .int .i64 r3]) ∧ Below w.heap.size w w' := by
  have HR0 := Aside0.mk hr0
  have HC0 := Aside0.mk hc0
  clear hr0 hc0
  have HB := Aside0.mk (Below.refl w.heap.size w)
  have H : ((spec_DrawTimesPoint.f l0).bind fun bt181 => (some (bt181.1, bt181.2.1, bt181.2.2))) = some (r1, r2, r3) := h
  clear h
  replace H := Option.bind_eq_some_iff.mp H
  obtain ⟨⟨t181, t182, t183⟩, A20, H⟩ := H
  replace H : (some (t181, t182, t183)) = some (r1, r2, r3) := H
  have A2 := Aside0.mk A20
  clear A20
  simp only [Option.some.injEq, Prod.mk.injEq] at H
  obtain ⟨rfl, rfl, rfl⟩ := H
  go_enter Try.func9, Try.ntmps9
  go_wp2_with (first | ((with_reducible refine gate_callee (f := 37) rfl ?_); refine goesL_ (some 6) rfl rfl Try.func37 (by kernel_rfl) rfl #[.slice A0 l0.length c0] rfl (by (try simp only [List.map_toArray, List.map_cons, List.map_nil]); first | done | rfl | (simp only [List.length_drop, List.length_take]; rfl)) ?_; (with_reducible refine (spec_DrawTimesPoint.calls _ _ l0 t181 t182 t183 _ ?side1 ?side2 A2.out).mono ?_); (case side1 => repeat (first | exact HR0.out | (with_reducible refine Kd.C_alloc ?_ _) | (with_reducible refine Kd.C_drewN ?_ _) | (with_reducible refine Kd.C_drew ?_))); (case side2 => exact HC0.out); rintro e w3 ⟨rfl, hb⟩; refine ⟨_, rfl, ?_⟩; have n0_ := Aside0.mk (below_step (by repeat (first | (with_reducible first | exact HB.out | apply below_alloc | apply pw_below_drewN | apply below_drew1) | exact HB.out)) hb); clear HB; have HB := n0_; clear n0_; (try clear hb); (try clear hb2); (try clear hk); (try clear hi)))
  go_ret3
  exact ⟨by first | rfl | (simp [errW_none, errW_some] <;> rfl) | (simp [*, errW_none, errW_some] <;> rfl), by repeat (first | (with_reducible first | exact HB.out | apply below_alloc | apply pw_below_drewN | apply below_drew1) | exact HB.out)⟩

end Go.Proofs.Ytgiiaajincdhnaa.P
