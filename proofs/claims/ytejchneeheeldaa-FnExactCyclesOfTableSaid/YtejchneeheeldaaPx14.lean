/- A part of this seat's proofs: contracts of the translated functions, written by the session's own program (gp.py) out of the kit's print.py and the session's own contracts; no conditions of its own. -/
import Derived.Test.YtejchneeheeldaaPx0
import Derived.Test.YtejchneeheeldaaPx2
import Derived.Test.YtejchneeheeldaaPx4
import Derived.Test.YtejchneeheeldaaPx5
namespace Go.Proofs.Ytejchneeheeldaa.P
open Go.RowKit Go.Proofs.YtejchneeheeldaaW.PrintWords Go.Proofs.YtejchneeheeldaaW.PrintLast Go.Proofs.YtejchneeheeldaaW.PrintMore
attribute [local go_sem] max2_int min2_int max_two min_two max_three min_three max_four min_four   -- for this text's walks alone
set_option linter.unusedVariables false
set_option linter.unusedSimpArgs false

/-! ### given: 01_ask.tpl -/
set_option maxHeartbeats 1000000 in
set_option maxRecDepth 100000 in
theorem slices_IndexFunc.ask (A : Option Addr) (c : Nat) (l : List Int) (g : Nat) (lb : Array Value) (p : Int → Bool) (D : Int → Prop) (w : World)
    (eg : ∀ args w, (callFunc g args).run Try.prog w = .ok (.enter g args) w)
    (hr : Kd.C (Kd.int .i64) w A l.length l) (hp : Asks Try.prog g lb (Value.int .i64) p D w) (hD : ∀ x ∈ l, D x) :
    Calls Try.prog 71 #[.slice A l.length c, .func (.func g) #[] lb] w fun e w' => e = .returned (.int .i64 (idxP p l)) ∧ Below w.heap.size w w' := by
  have hbig := Kd.C_max hr
  have HR := Aside0.mk hr
  have HP := Aside0.mk hp
  have HD := Aside0.mk hD
  clear hr hp hD
  go_enter Try.func71, Try.ntmps71
  go_wp2
  go_loopg [5, 8] l.length (fun gg _ s8 wr => ∃ kk : Nat, kk ≤ l.length ∧ l.length - kk ≤ gg ∧ s8 = .int .i64 kk ∧ Aside0 (Below w.heap.size w wr) ∧ Aside0 (∀ j, j < kk → p (l.getD j 0) = false))
  case atStart => exact ⟨0, Nat.zero_le _, by omega, rfl, ⟨Below.refl _ _⟩, ⟨fun j hj => absurd hj (Nat.not_lt_zero _)⟩⟩
  case round =>
    obtain ⟨kk, hkk, hg, rfl, HB, HA⟩ := hrel
    by_cases hlt : kk < l.length
    · have hltz : (kk : Int) < (l.length : Int) := by omega
      obtain ⟨ad, y, rfl, hcell, HY, hm⟩ := read_at (Kd.C_below HR.out HB.out) kk hlt
      have hcall := HP.out wr y HB.out (HD.out _ hm)
      clear hm
      rcases Bool.eq_false_or_eq_true (p y) with hq | hq
      · have HC := Aside0.mk (hq ▸ hcall)
        have HQ := Aside0.mk hq
        clear hq hcall
        go_wp2_with (fail)
        refine HC.out.mono ?_
        rintro e w' ⟨rfl, hb⟩
        have HB2 := Aside0.mk hb
        clear hb
        clear HC HD HP
        go_wp2_with (fail)
        go_ret
        refine ⟨?_, below_then HB.out HB.out.size HB2.out⟩
        show Ending.returned (.int .i64 (kk : Int)) = _
        rw [idxP_hit p l kk 0 hlt (by rw [← HY.out]; exact HQ.out) HA.out]
      · have HC := Aside0.mk (hq ▸ hcall)
        have HQ := Aside0.mk hq
        clear hq hcall
        go_wp2_with (fail)
        refine HC.out.mono ?_
        rintro e w' ⟨rfl, hb⟩
        have HB2 := Aside0.mk hb
        clear hb
        clear HC HD HP
        go_wp2_with (fail)
        go_roundg (l.length - (kk + 1))
        case measure => omega
        case rel =>
          refine ⟨kk + 1, by omega, by omega, by go_num, ⟨below_then HB.out HB.out.size HB2.out⟩, ⟨fun j hj => ?_⟩⟩
          by_cases e : j = kk
          · subst e
            rw [← HY.out]; exact HQ.out
          · exact HA.out j (by omega)
    · have hltz : ¬ (kk : Int) < (l.length : Int) := by omega
      have hk' : kk = l.length := by omega
      subst hk'
      go_wp2
      go_ret
      refine ⟨?_, HB.out⟩
      show Ending.returned (.int .i64 (-1)) = _
      rw [idxP_miss p l (fun x hx => by
        obtain ⟨j, hj, rfl⟩ := List.getElem_of_mem hx
        have := HA.out j hj
        rwa [List.getD_eq_getElem?_getD, List.getElem?_eq_getElem hj] at this)]

set_option maxHeartbeats 1000000 in
theorem slices_ContainsFunc.ask (A : Option Addr) (c : Nat) (l : List Int) (g : Nat) (lb : Array Value) (p : Int → Bool) (D : Int → Prop) (w : World)
    (eg : ∀ args w, (callFunc g args).run Try.prog w = .ok (.enter g args) w)
    (hr : Kd.C (Kd.int .i64) w A l.length l) (hp : Asks Try.prog g lb (Value.int .i64) p D w) (hD : ∀ x ∈ l, D x) :
    Calls Try.prog 60 #[.slice A l.length c, .func (.func g) #[] lb] w fun e w' => e = .returned (.bool (l.any p)) ∧ Below w.heap.size w w' := by
  have HC := Aside0.mk (slices_IndexFunc.ask A c l g lb p D w eg hr hp hD)
  have HA := Aside0.mk (idxP_any p l)
  clear eg hr hp hD
  go_enter Try.func60, Try.ntmps60
  go_wp2_with (go_at_call 71; refine HC.out.mono ?_; rintro e w' ⟨rfl, hb⟩; have HB := Aside0.mk hb; clear hb)
  go_ret
  exact ⟨by rw [← HA.out]; rfl, HB.out⟩


/-! ### given: 02_within.tpl -/
theorem within_eq (n lo hi : Int) : impl_within.f n lo hi = some (inR n lo hi) := by
  unfold impl_within.f inR
  by_cases h : n ≥ lo
  · rw [if_pos h]; congr 1; simp only [decide_eq_decide]; omega
  · rw [if_neg h]; congr 1; exact (decide_eq_false (by omega)).symm
theorem impl_within.is (n lo hi : Int) (w : World) (b : Bool) (hb : inR n lo hi = b) :
    Calls Try.prog 58 #[.int .i64 n, .int .i64 lo, .int .i64 hi] w fun e w' => e = .returned (.bool b) ∧ Drawn0 w w' :=
  impl_within.calls n lo hi b w (by rw [within_eq, hb])


/-! ### given: 06_isTable.tpl -/
def impl_isTable.f (a0 : Int) (a1 : Int) (l2 : List Int) : Option (Bool) := some (inR a0 3 60 && inR a1 0 (a0 - 1) && l2.all fun x => inR x 0 (a0 - 1))

theorem isCircle_eq (a : Int) : impl_isCircle.f a = some (inR a 3 60) := by unfold impl_isCircle.f; rw [within_eq]; rfl
theorem impl_isCircle.is (a : Int) (w : World) (b : Bool) (hb : inR a 3 60 = b) :
    Calls Try.prog 33 #[.int .i64 a] w fun e w' => e = .returned (.bool b) ∧ Drawn0 w w' :=
  impl_isCircle.calls a b w (by rw [isCircle_eq, hb])

set_option maxHeartbeats 1000000 in
theorem impl_isTable_1.asks (a0 : Int) (B : Nat) (w : World) (hB : B < w.heap.size) (h0 : 3 ≤ a0) (h1 : a0 ≤ 60) (hc : w.cell? ⟨B, 0, none⟩ = some (.int .i64 a0)) :
    Asks Try.prog 61 #[.pointer (some ⟨B, 0, none⟩)] (Value.int .i64) (fun x => !inR x 0 (a0 - 1)) (fun _ => True) w := by
  intro W x hb _
  have hc' : W.cell? ⟨B, 0, none⟩ = some (.int .i64 a0) := (hb.cell (p := ⟨B, 0, none⟩) hB).trans hc
  clear hc hb
  go_enter Try.func61, Try.ntmps61
  go_wp2_with (go_at_call 58; refine (impl_within.is _ _ _ _ _ rfl).mono ?_; rintro e w' ⟨rfl, ⟨nd, rfl⟩⟩)
  go_ret
  exact ⟨rfl, pw_below_drewN (Below.refl _ _) _⟩

set_option maxHeartbeats 2000000 in
theorem impl_isTable.calls (a0 : Int) (a1 : Int) (A2 : Option Addr) (c2 : Nat) (l2 : List Int) (r : Bool) (w : World) (hr2 : Kd.C (Kd.int .i64) w A2 l2.length l2) (hc2 : l2.length ≤ c2) (h : impl_isTable.f a0 a1 l2 = some r) :
    Calls Try.prog 39 #[.int .i64 a0, .int .i64 a1, .slice A2 l2.length c2] w fun e w' => e = .returned (.bool r) ∧ Below w.heap.size w w' := by
  obtain rfl := Option.some.inj h
  clear h
  have HR := Aside0.mk hr2
  clear hr2 hc2
  rcases Bool.eq_false_or_eq_true (inR a0 3 60) with hq | hq
  · obtain ⟨h0, h1⟩ := inR_true.1 hq
    have HQ := Aside0.mk hq
    rw [hq]
    clear hq
    rcases Bool.eq_false_or_eq_true (inR a1 0 (a0 - 1)) with hp | hp
    · have HP := Aside0.mk hp
      rw [hp]
      clear hp
      have HK := fun nd => slices_ContainsFunc.ask A2 c2 l2 61 #[.pointer (some ⟨w.heap.size, 0, none⟩)] (fun x => !inR x 0 (a0 - 1)) (fun _ => True) ((w.alloc (.cells #[.int .i64 a0] 3)).drewN nd)
        (enters_of Try.func61 (by kernel_rfl) rfl) (Kd.C_drewN (Kd.C_alloc HR.out _) nd) (impl_isTable_1.asks a0 _ _ (by simp) h0 h1 (by simp)) (fun _ _ => trivial)
      have HK := Aside0.mk HK
      go_enter Try.func39, Try.ntmps39
      go_wp2_with (first | (go_at_call 33; refine (impl_isCircle.is _ _ true HQ.out).mono ?_; rintro e w' ⟨rfl, ⟨nd, rfl⟩⟩) | (go_at_call 58; refine (impl_within.is _ _ _ _ true HP.out).mono ?_; rintro e w' ⟨rfl, ⟨nd, rfl⟩⟩) | fail)
      refine (HK.out _).mono ?_
      rintro e w' ⟨rfl, hb⟩
      have HB := Aside0.mk hb
      clear hb HK
      go_wp2
      go_ret
      refine ⟨?_, below_then (pw_below_drewN (below_alloc (Below.refl _ _) _) _) (by simp) HB.out⟩
      rw [List.all_eq_not_any_not]
      rfl
    · have HP := Aside0.mk hp
      rw [hp]
      clear hp
      go_enter Try.func39, Try.ntmps39
      go_wp2_with (first | (go_at_call 33; refine (impl_isCircle.is _ _ true HQ.out).mono ?_; rintro e w' ⟨rfl, ⟨nd, rfl⟩⟩) | (go_at_call 58; refine (impl_within.is _ _ _ _ false HP.out).mono ?_; rintro e w' ⟨rfl, ⟨nd, rfl⟩⟩) | fail)
      go_ret
      exact ⟨rfl, by repeat (first | exact Below.refl _ _ | apply pw_below_drewN | apply below_alloc)⟩
  · have HQ := Aside0.mk hq
    rw [hq]
    clear hq
    go_enter Try.func39, Try.ntmps39
    go_wp2_with (first | (go_at_call 33; refine (impl_isCircle.is _ _ false HQ.out).mono ?_; rintro e w' ⟨rfl, ⟨nd, rfl⟩⟩) | fail)
    go_ret
    exact ⟨rfl, by repeat (first | exact Below.refl _ _ | apply pw_below_drewN | apply below_alloc)⟩

end Go.Proofs.Ytejchneeheeldaa.P
