/- A part of this seat's proofs: contracts of the translated functions, written by the session's own program (gp.py) out of the kit's print.py and the session's own contracts; no conditions of its own. -/
import Derived.Test.YtgiiaajincdhnaaPx0
import Derived.Test.YtgiiaajincdhnaaPx1
import Derived.Test.YtgiiaajincdhnaaPx2
import Derived.Test.YtgiiaajincdhnaaPx3
import Derived.Test.YtgiiaajincdhnaaPx4
namespace Go.Proofs.Ytgiiaajincdhnaa.P
open Go.RowKit Go.Proofs.YtgiiaajincdhnaaW.PrintWords Go.Proofs.YtgiiaajincdhnaaW.PrintLast Go.Proofs.YtgiiaajincdhnaaW.PrintMore
attribute [local go_sem] max2_int min2_int max_two min_two max_three min_three max_four min_four   -- for this text's walks alone
set_option linter.unusedVariables false
set_option linter.unusedSimpArgs false

/-! ### given: 36_cycles.tpl -/
/-- The cycles, point by point. -/
def cycD (k : Nat) (n f : Int) : Nat → Int → List (List Int) → Option (List (List Int))
  | 0, _, o => some o
  | d + 1, p, o => (impl_leadOf.f k n f p).bind fun t => if t.1 = 0 then ((slices_Min_int_int.f t.2).bind fun m => if m = p then cycD k n f d (p + 1) (o ++ [t.2]) else cycD k n f d (p + 1) o) else cycD k n f d (p + 1) o
theorem cycD_mono (k : Nat) (n f : Int) : ∀ (d : Nat) (p : Int) (o : List (List Int)), LeO (cycD k n f d p o) (cycD (k + 1) n f d p o)
  | 0, p, o, r, h => h
  | d + 1, p, o, r, h => by
    unfold cycD at h ⊢
    obtain ⟨t, ht, h⟩ := Option.bind_eq_some_iff.mp h
    rw [impl_leadOf.mono _ _ _ _ _ ht, Option.bind_some]
    by_cases h0 : t.1 = 0
    · rw [if_pos h0] at h ⊢
      obtain ⟨m, hm, h⟩ := Option.bind_eq_some_iff.mp h
      rw [hm, Option.bind_some]
      by_cases h1 : m = p
      · rw [if_pos h1] at h ⊢; exact cycD_mono k n f d _ _ _ h
      · rw [if_neg h1] at h ⊢; exact cycD_mono k n f d _ _ _ h
    · rw [if_neg h0] at h ⊢; exact cycD_mono k n f d _ _ _ h
def impl_CyclesOfTable.f (k : Nat) (a0 : Int) (a1 : Int) : Option ((List (List Int)) × Bool) := (impl_isTable.f a0 a1 []).bind fun b => if b = true then (if 0 ≤ a0 ∧ a0 ≤ 1000000 then (cycD k a0 a1 a0.toNat 0 []).bind fun o => some (o, true) else none) else some ([], false)
theorem impl_CyclesOfTable.mono : ∀ a0 a1 k, LeO (impl_CyclesOfTable.f k a0 a1) (impl_CyclesOfTable.f (k + 1) a0 a1) := by
  intro a0 a1 k r h
  unfold impl_CyclesOfTable.f at h ⊢
  obtain ⟨b, hb, h⟩ := Option.bind_eq_some_iff.mp h
  rw [hb, Option.bind_some]
  by_cases h0 : b = true
  · rw [if_pos h0] at h ⊢
    by_cases h1 : 0 ≤ a0 ∧ a0 ≤ 1000000
    · rw [if_pos h1] at h ⊢
      obtain ⟨o, ho, h⟩ := Option.bind_eq_some_iff.mp h
      rw [cycD_mono _ _ _ _ _ _ _ ho, Option.bind_some]; exact h
    · rw [if_neg h1] at h; cases h
  · rw [if_neg h0] at h ⊢; exact h
set_option maxHeartbeats 8000000 in
set_option maxRecDepth 100000 in
theorem impl_CyclesOfTable.calls (k : Nat) (a0 : Int) (a1 : Int) (r1 : List (List Int)) (r2 : Bool) (w : World) (h : impl_CyclesOfTable.f k a0 a1 = some (r1, r2)) :
    Calls Try.prog 18 #[.int .i64 a0, .int .i64 a1] w fun e w' => ∃ v0_ : Value, e = .returned (.tuple #[v0_, .bool r2]) ∧ Kd.S (Kd.slice 3 (Kd.int .i64)) 33 w' w.heap.size (fun _ => True) v0_ r1 ∧ Below w.heap.size w w' := by
  unfold impl_CyclesOfTable.f at h
  obtain ⟨b, hb, h⟩ := Option.bind_eq_some_iff.mp h
  have HT := Aside0.mk hb
  clear hb
  by_cases h0 : b = true
  · rw [if_pos h0] at h
    subst h0
    by_cases h1 : 0 ≤ a0 ∧ a0 ≤ 1000000
    · rw [if_pos h1] at h
      obtain ⟨o, ho, h⟩ := Option.bind_eq_some_iff.mp h
      simp only [Option.some.injEq, Prod.mk.injEq] at h
      obtain ⟨rfl, rfl⟩ := h
      obtain ⟨h1a, h1b⟩ := h1
      have HO := Aside0.mk ho
      clear ho
      go_enter Try.func18, Try.ntmps18
      go_wp2_with (first | (go_at_call 33; refine (impl_isTable.calls a0 a1 none 0 [] true _ (Kd.C_nil _ _) (Nat.le_refl _) HT.out).mono ?_; rintro e w1 ⟨rfl, hB⟩; have HB1 := Aside0.mk hB; clear hB) | ((with_reducible refine gate_dst (N := 14) rfl ?_); refine Kd.S_lit (Kd.slice 3 (Kd.int .i64)) _ 33 ?hg (N := 14) ?hd (xs := ([] : List (List Int))) (inner := []) (ok := fun _ => True) (okp := fun _ => True) ?hr ?hp (fun _ hk => hk) trivial (Below.refl _ _) (Nat.le_refl _) (by simp) ?_; (case hd => rfl); (case hg => rfl); (case hr => first | (go_simp; done) | (go_simp; rfl)); (case hp => exact (Reps.none _ _)); intro v2 w2 ho hb _ _; have HS2 := Aside0.mk (Kd.S_lower ho HB1.out.size); have HB2 := Aside0.mk (below_then HB1.out HB1.out.size hb); clear ho hb))
      go_loopg [6, 16] a0.toNat (fun gg v6 v16 wr => ∃ (p : Int) (os : List (List Int)), 0 ≤ p ∧ p ≤ a0 ∧ (a0 - p).toNat ≤ gg ∧ v16 = .int .i64 p ∧ Aside0 (cycD k a0 a1 (a0 - p).toNat p os = some o ∧ (os.length : Int) ≤ p) ∧ Aside0 (Kd.S (Kd.slice 3 (Kd.int .i64)) 33 wr w.heap.size (fun _ => True) v6 os) ∧ Aside0 (Below w.heap.size w wr))
      case atStart => exact ⟨0, [], by omega, by omega, by omega, rfl, ⟨by simpa using HO.out, by simp⟩, HS2, HB2⟩
      case round =>
        obtain ⟨p, os, hp0, hp1, hgg, rfl, HM, HS, HB⟩ := hrel
        by_cases hlt : p < a0
        · obtain ⟨hm, hl⟩ := HM.out
          rw [show (a0 - p).toNat = (a0 - (p + 1)).toNat + 1 by omega] at hm
          unfold cycD at hm
          obtain ⟨t, ht, hm⟩ := Option.bind_eq_some_iff.mp hm
          obtain ⟨t1, t2⟩ := t
          simp only at hm
          have HL := Aside0.mk ht
          have HN := Aside0.mk hl
          have hwr : IntKind.i64.wrap (p + 1) = p + 1 := IntWalk.i64_in _ (by omega)
          clear ht hl HM
          by_cases h0 : t1 = 0
          · subst h0
            rw [if_pos rfl] at hm
            obtain ⟨m, hmin, hm⟩ := Option.bind_eq_some_iff.mp hm
            have HMN := Aside0.mk hmin
            clear hmin
            by_cases h1 : m = p
            · subst h1
              rw [if_pos rfl] at hm
              have HM := Aside0.mk hm
              clear hm
              go_wp2_with (first | (go_at_call 38; refine (impl_leadOf.callsR k a0 a1 m 0 t2 _ HL.out).mono ?_; rintro e w3 ⟨v3, rfl, hR, hB⟩; have hR' := hR rfl; obtain ⟨Ac, cc, rfl, hle, hC⟩ := Kd.R_reads hR'; have HC3 := Aside0.mk hC; have HL3 := Aside0.mk hle; have HRB := Aside0.mk (Kd.R_base hR'); have HR3 := Aside0.mk (Kd.R_tight rfl (Kd.R_lower hR' HB.out.size)); have HS3 := Aside0.mk (Kd.S_mono (ok' := fun k_ => True ∧ ¬ some k_ = (.slice Ac t2.length cc : Value).ownBlock) (Kd.S_old HS.out hB) (fun k_ hk => ⟨trivial, fun e_ => Nat.lt_irrefl _ (Nat.lt_of_lt_of_le hk.2 (HRB.out k_ e_.symm))⟩)); have HB3 := Aside0.mk (below_then HB.out HB.out.size hB); clear hB hR hR' hC hle) | (go_at_call 47; refine (slices_Min_int_int.calls Ac cc t2 m _ HC3.out HL3.out HMN.out).mono ?_; rintro e w4 ⟨rfl, ⟨nd, rfl⟩⟩) | ((with_reducible refine gate_builtin (b := .append) (xs := #[.tmp 34, .tmp 36]) rfl ?_); at_builtin; refine Kd.S_append (Kd.slice 3 (Kd.int .i64)) (w0 := w) w.heap.size rfl (.tmp 34) (.tmp 36) 37 33 (.slice none 0 0) 24 rfl Try.underlying37 info33 rfl (by decide) (by omega) _ os t2 [.slice Ac t2.length cc] (fun _ => True) (fun k_ => some k_ = (.slice Ac t2.length cc : Value).ownBlock) rfl rfl ?aP (fun k_ hk_ => ⟨trivial, fun e_ => Nat.lt_irrefl _ (Nat.lt_of_lt_of_le (Kd.S_lt HS.out k_ e_.symm) (HRB.out k_ hk_.symm))⟩) ?aF ?aO ?aB ?aS ?aL ?_; (case aP => exact Kd.M_row (by (with_reducible repeat (first | apply Kd.R_alloc | apply Kd.R_drewN | apply Kd.R_drew)); exact HR3.out)); (case aB => exact (by repeat (first | (with_reducible first | apply below_alloc | apply pw_below_drewN | apply below_drew1) | exact HB3.out))); (case aF => exact (fun _ _ => trivial)); (case aO => exact (by (with_reducible repeat (first | apply Kd.S_alloc | apply Kd.S_drewN | apply Kd.S_drew)); exact HS3.out)); (case aS => exact (below_size (by repeat (first | (with_reducible first | apply below_alloc | apply pw_below_drewN | apply below_drew1) | exact HB3.out)))); (case aL => have := HN.out; omega); intro v5 w5 ho hb _ _; have HS6 := Aside0.mk ho; have HB6 := Aside0.mk hb; clear ho hb))
              go_roundg (a0 - (m + 1)).toNat
              case measure => omega
              case rel => exact ⟨m + 1, os ++ [t2], by omega, by omega, Nat.le_refl _, by go_num, ⟨HM.out, by have := HN.out; simp; omega⟩, HS6, HB6⟩
            · rw [if_neg h1] at hm
              have HM := Aside0.mk hm
              clear hm
              go_wp2_with (first | (go_at_call 38; refine (impl_leadOf.callsR k a0 a1 p 0 t2 _ HL.out).mono ?_; rintro e w3 ⟨v3, rfl, hR, hB⟩; obtain ⟨Ac, cc, rfl, hle, hC⟩ := Kd.R_reads (hR rfl); have HC3 := Aside0.mk hC; have HL3 := Aside0.mk hle; have HS3 := Aside0.mk (Kd.S_below HS.out hB); have HB3 := Aside0.mk (below_then HB.out HB.out.size hB); clear hB hR hC hle) | (go_at_call 47; refine (slices_Min_int_int.calls Ac cc t2 m _ HC3.out HL3.out HMN.out).mono ?_; rintro e w4 ⟨rfl, ⟨nd, rfl⟩⟩))
              go_roundg (a0 - (p + 1)).toNat
              case measure => omega
              case rel => exact ⟨p + 1, os, by omega, by omega, Nat.le_refl _, by go_num, ⟨HM.out, by have := HN.out; omega⟩, ⟨Kd.S_drewN HS3.out nd⟩, ⟨below_then HB3.out HB3.out.size (pw_below_drewN (Below.refl _ _) nd)⟩⟩
          · rw [if_neg h0] at hm
            have HM := Aside0.mk hm
            clear hm
            go_wp2_with (go_at_call 38; refine (impl_leadOf.callsR k a0 a1 p t1 t2 _ HL.out).mono ?_; rintro e w3 ⟨v3, rfl, _, hB⟩; have HS3 := Aside0.mk (Kd.S_below HS.out hB); have HB3 := Aside0.mk (below_then HB.out HB.out.size hB); clear hB)
            go_roundg (a0 - (p + 1)).toNat
            case measure => omega
            case rel => exact ⟨p + 1, os, by omega, by omega, Nat.le_refl _, by go_num, ⟨HM.out, by have := HN.out; omega⟩, HS3, HB3⟩
        · obtain rfl : p = a0 := by omega
          obtain ⟨hm, _⟩ := HM.out
          rw [show (p - p).toNat = 0 by omega] at hm
          unfold cycD at hm
          obtain rfl := Option.some.inj hm
          clear hm HM HO
          go_wp2
          go_ret2
          exact ⟨_, rfl, HS.out, HB.out⟩
    · rw [if_neg h1] at h; cases h
  · rw [if_neg h0] at h
    simp only [Option.some.injEq, Prod.mk.injEq] at h
    obtain ⟨rfl, rfl⟩ := h
    have hbf : b = false := by simpa using h0
    subst hbf
    clear h0
    go_enter Try.func18, Try.ntmps18
    go_wp2_with (go_at_call 33; refine (impl_isTable.calls a0 a1 none 0 [] false _ (Kd.C_nil _ _) (Nat.le_refl _) HT.out).mono ?_; rintro e w1 ⟨rfl, hB⟩; have HB1 := Aside0.mk hB; clear hB)
    go_ret2
    exact ⟨_, rfl, Kd.S_nil _ _ _ _ _, HB1.out⟩

/-! ### spec_CyclesOfTable: function 19 -/
mutual
def spec_CyclesOfTable.l0 : Nat → Int → Int → List (List Int) → Int → Option ((List (List Int)) × Bool)
 | 0, _, _, _, _ => none
 | k + 1, x0, x1, x6, x7 => if x7 < x0 then ((spec_taLead.f k x0 x1 x7).bind fun bt258 => (spec_CyclesOfTable.l1 k x0 x1 x6 x7 bt258.1 (bt258.2 == 0) (bt258.1.length : Int) 0)) else (some (x6, true))
def spec_CyclesOfTable.l1 : Nat → Int → Int → List (List Int) → Int → List Int → Bool → Int → Int → Option ((List (List Int)) × Bool)
 | 0, _, _, _, _, _, _, _, _ => none
 | k + 1, x0, x1, x6, x7, x8, x10, x32, x33 => if x33 < x32 then (if 0 ≤ x33 then (if x33 < (x8.length : Int) then (if x10 = true then (spec_CyclesOfTable.l1 k x0 x1 x6 x7 x8 (decide ((rd x8 x33) ≥ x7)) x32 (wrap64 (x33 + 1))) else (spec_CyclesOfTable.l1 k x0 x1 x6 x7 x8 false x32 (wrap64 (x33 + 1)))) else (none)) else (none)) else (if x10 = true then (if x6.length < 5864062014805 then (spec_CyclesOfTable.l0 k x0 x1 (x6 ++ [x8]) (wrap64 (x7 + 1))) else (none)) else (spec_CyclesOfTable.l0 k x0 x1 x6 (wrap64 (x7 + 1))))
end
def spec_CyclesOfTable.f (k : Nat) (a0 : Int) (a1 : Int) : Option ((List (List Int)) × Bool) := (spec_taGood.f a0 a1).bind fun t257 => (if t257 = true then (spec_CyclesOfTable.l0 k a0 a1 ([] : List (List Int)) 0) else (some (([] : List (List Int)), false)))
theorem spec_CyclesOfTable.mono_l : ∀ k, (∀ y0 y1 y2 y3, LeO (spec_CyclesOfTable.l0 k y0 y1 y2 y3) (spec_CyclesOfTable.l0 (k + 1) y0 y1 y2 y3)) ∧ (∀ y0 y1 y2 y3 y4 y5 y6 y7, LeO (spec_CyclesOfTable.l1 k y0 y1 y2 y3 y4 y5 y6 y7) (spec_CyclesOfTable.l1 (k + 1) y0 y1 y2 y3 y4 y5 y6 y7))
 | 0 => ⟨fun _ _ _ _ r h => by simp [spec_CyclesOfTable.l0] at h, fun _ _ _ _ _ _ _ _ r h => by simp [spec_CyclesOfTable.l1] at h⟩
 | k + 1 => by
  obtain ⟨ih0, ih1⟩ := spec_CyclesOfTable.mono_l k
  refine ⟨?_, ?_⟩
  all_goals (intros; first | unfold spec_CyclesOfTable.l0 | unfold spec_CyclesOfTable.l1)
  all_goals repeat' with_reducible first | apply ih0 | apply ih1 | apply spec_taLead.mono | exact LeO.refl _ | exact LeO.none _ | refine LeO.ite ?_ ?_ | refine LeO.bind ?_ (fun _ => ?_)
theorem spec_CyclesOfTable.mono : ∀ a0 a1 k, LeO (spec_CyclesOfTable.f k a0 a1) (spec_CyclesOfTable.f (k + 1) a0 a1) := by
 intro a0 a1 k
 obtain ⟨ih0, ih1⟩ := spec_CyclesOfTable.mono_l k
 unfold spec_CyclesOfTable.f
 repeat' with_reducible first | apply ih0 | apply ih1 | apply spec_taLead.mono | exact LeO.refl _ | exact LeO.none _ | refine LeO.ite ?_ ?_ | refine LeO.bind ?_ (fun _ => ?_)
set_option maxHeartbeats 8000000 in
set_option maxRecDepth 100000 in
theorem spec_CyclesOfTable.calls (k : Nat) (a0 : Int) (a1 : Int) (r1 : List (List Int)) (r2 : Bool) (w : World) (h : spec_CyclesOfTable.f k a0 a1 = some (r1, r2)) :
  Calls Try.prog 19 #[.int .i64 a0, .int .i64 a1] w fun e w' => ∃ v0_ : Value, e = .returned (.tuple #[v0_, .bool r2]) ∧ Kd.S (Kd.slice 3 (Kd.int .i64)) 33 w' w.heap.size (fun _ => True) v0_ r1 ∧ Below w.heap.size w w' := by
 have HB := Aside0.mk (Below.refl w.heap.size w)
 have H : ((spec_taGood.f a0 a1).bind fun t257 => (if t257 = true then (spec_CyclesOfTable.l0 k a0 a1 ([] : List (List Int)) 0) else (some (([] : List (List Int)), false)))) = some (r1, r2) := h
 clear h
 replace H := Option.bind_eq_some_iff.mp H
 obtain ⟨t257, A30, H⟩ := H
 (try dsimp only at H)
 have A3 := Aside0.mk A30
 clear A30
 by_cases c4 : t257 = true
 rotate_left
 ·replace c4 := Bool.eq_false_iff.mpr c4
  subst c4
  rw [if_neg (show ¬ (false = true) by decide)] at H
  simp only [Option.some.injEq, Prod.mk.injEq] at H
  obtain ⟨rfl, rfl⟩ := H
  go_enter Try.func19, Try.ntmps19
  go_wp2_with (first | ((with_reducible refine gate_callee (f := 44) rfl ?_); refine gl_ (some 15) Try.func44 #[.int .i64 a0, .int .i64 a1] ?_; (with_reducible refine (spec_taGood.calls a0 a1 false _ A3.out).mono ?_); rintro e w' ⟨rfl, ⟨nd, rfl⟩⟩; refine ⟨_, rfl, ?_⟩))
  go_ret2
  exact ⟨_, by first | rfl | (simp [errW_none, errW_some] <;> rfl) | (simp [*, errW_none, errW_some] <;> rfl), by first | exact Kd.S_nil _ _ _ _ _ | exact Kd.N_nil _ _ _ _ _ | exact Kd.V_nil _ _ _ _ _ | exact Kd.Q_nil _ _ _ _ _ | exact Kd.R_nil _ _ _ _ _, bb_⟩

 subst c4
 rw [if_pos rfl] at H
 have H' := Aside0.mk H
 clear H
 go_enter Try.func19, Try.ntmps19
 go_wp2_with (first | ((with_reducible refine gate_callee (f := 44) rfl ?_); refine gl_ (some 15) Try.func44 #[.int .i64 a0, .int .i64 a1] ?_; (with_reducible refine (spec_taGood.calls a0 a1 true _ A3.out).mono ?_); rintro e w' ⟨rfl, ⟨nd, rfl⟩⟩; refine ⟨_, rfl, ?_⟩))
 go_loopg [6, 7] k (fun kq v6 v7 w' => ∃ (x6_1 : List (List Int)) (x7_1 : Int), v7 = .int .i64 x7_1 ∧ Aside0 (spec_CyclesOfTable.l0 kq a0 a1 x6_1 x7_1 = some (r1, r2)) ∧ Aside0 (kq ≤ k) ∧ Aside0 (Kd.S (Kd.slice 3 (Kd.int .i64)) 33 w' w.heap.size (fun _ => True) v6 x6_1) ∧ Aside0 (Below w.heap.size w w'))
 case atStart => exact ⟨(([] : List (List Int))), (0), (by first | rfl | (simp; done) | (simp [*]; done)), H', ⟨Nat.le_refl _⟩, ⟨by first | exact Kd.S_nil _ _ _ _ _ | exact Kd.N_nil _ _ _ _ _ | exact Kd.V_nil _ _ _ _ _ | exact Kd.Q_nil _ _ _ _ _ | exact Kd.R_nil _ _ _ _ _⟩, ⟨bb_⟩⟩
 case round =>
  clear H'
  (try clear c1); (try clear p2); (try clear c4)
  obtain ⟨x6_1, x7_1, rfl, HA, HK1, HO_6, HB⟩ := hrel
  cases gk with
  | zero => exact absurd HA.out (by simp [spec_CyclesOfTable.l0])
  | succ k1 =>
   have H := HA.out
   clear HA
   simp only [spec_CyclesOfTable.l0] at H
   by_cases c5 : x7_1 < a0
   rotate_left
   ·rw [if_neg c5] at H
    have c5b0 : decide (x7_1 < a0) = false := decide_eq_false c5
    clear c5
    simp only [Option.some.injEq, Prod.mk.injEq] at H
    obtain ⟨rfl, rfl⟩ := H
    go_wp2
    go_ret2
    exact ⟨_, by first | rfl | (simp [errW_none, errW_some] <;> rfl) | (simp [*, errW_none, errW_some] <;> rfl), by (with_reducible repeat (first | apply Kd.S_alloc | apply Kd.S_drewN | apply Kd.S_drew)); exact HO_6.out, bb_⟩
   rw [if_pos c5] at H
   have c5b0 : decide (x7_1 < a0) = true := decide_eq_true c5
   clear c5
   replace H := Option.bind_eq_some_iff.mp H
   obtain ⟨⟨t258, t259⟩, A60, H⟩ := H
   (try dsimp only at H)
   have A6 := Aside0.mk A60
   clear A60
   have H' := Aside0.mk H
   clear H
   go_wp2_with (first | ((with_reducible refine gate_callee (f := 39) rfl ?_); refine gl_ (some 26) Try.func39 #[.int .i64 a0, .int .i64 a1, .int .i64 x7_1] ?_; (with_reducible refine (spec_taLead.calls k1 a0 a1 x7_1 t258 t259 _ A6.out).mono ?_); rintro e w7 ⟨v260, rfl, ho0, hb⟩; refine ⟨_, rfl, ?_⟩; have n0_ := Aside0.mk (Kd.S_elder' (by (with_reducible repeat (first | apply Kd.S_alloc | apply Kd.S_drewN | apply Kd.S_drew)); exact HO_6.out) (Kd.R_base ho0) hb); have n1_ := Aside0.mk (Kd.R_lower ho0 bz_); have n2_ := Aside0.mk (bs_ hb); clear HO_6; clear HB; have HO_6 := n0_; have HO261 := n1_; have HB := n2_; clear n0_ n1_ n2_; (try clear hb); (try clear ho0); obtain ⟨Ao8, co8, eo8⟩ := Kd.R_slice HO261.out; subst eo8))
   go_loopg [10, 33] k1 (fun kq v10 v33 w' => ∃ (x10_2 : Bool) (x33_2 : Int), v10 = .bool x10_2 ∧ v33 = .int .i64 x33_2 ∧ Aside0 (spec_CyclesOfTable.l1 kq a0 a1 x6_1 x7_1 t258 x10_2 (t258.length : Int) x33_2 = some (r1, r2)) ∧ Aside0 (kq ≤ k1) ∧ Aside0 (Kd.S (Kd.slice 3 (Kd.int .i64)) 33 w' w.heap.size (fun k_ => some k_ ≠ ((.slice Ao8 t258.length co8) : Value).ownBlock) u6 x6_1) ∧ Aside0 (Kd.R (Kd.int .i64) 3 w' w.heap.size (fun _ => True) (.slice Ao8 t258.length co8) t258) ∧ Aside0 (Below w.heap.size w w'))
   case atStart => exact ⟨((t259 == 0)), (0), (by first | rfl | (simp; done) | (simp [*]; done)), (by first | rfl | (simp; done) | (simp [*]; done)), H', ⟨Nat.le_refl _⟩, ⟨by (with_reducible repeat (first | apply Kd.S_alloc | apply Kd.S_drewN | apply Kd.S_drew)); exact Kd.S_mono HO_6.out (fun _ hk => hk.2)⟩, ⟨by (with_reducible repeat (first | apply Kd.R_alloc | apply Kd.R_drewN | apply Kd.R_drew)); exact HO261.out⟩, ⟨bb_⟩⟩
   case round =>
    clear H'
    (try clear c1); (try clear p2); (try clear c3); (try clear c4); (try clear c5); (try clear c5b0); (try clear p2)
    obtain ⟨x10_2, x33_2, rfl, rfl, HA, HK2, HO_6, HO_8, HB⟩ := hrel
    cases gk with
    | zero => exact absurd HA.out (by simp [spec_CyclesOfTable.l1])
    | succ k2 =>
     have H := HA.out
     clear HA
     simp only [spec_CyclesOfTable.l1] at H
     by_cases c9 : x33_2 < (t258.length : Int)
     ·rw [if_pos c9] at H
      have c9b0 : decide (x33_2 < (t258.length : Int)) = true := decide_eq_true c9
      clear c9
      by_cases c10 : 0 ≤ x33_2
      rotate_left
      ·rw [if_neg c10] at H
       exact absurd H (by simp)
      rw [if_pos c10] at H
      have c10b0 : decide (0 ≤ x33_2) = true := decide_eq_true c10
      clear c10
      by_cases c11 : x33_2 < (t258.length : Int)
      rotate_left
      ·rw [if_neg c11] at H
       exact absurd H (by simp)
      rw [if_pos c11] at H
      have c11b0 : decide (x33_2 < (t258.length : Int)) = true := decide_eq_true c11
      clear c11
      by_cases c12 : x10_2 = true
      ·subst c12
       rw [if_pos rfl] at H
       have H' := Aside0.mk H
       clear H
       have p262 : 0 ≤ (x33_2 : Int) := of_decide_eq_true (by assumption)
       have q262 : x33_2 < (t258.length : Int) := of_decide_eq_true (by assumption)
       obtain ⟨ad262, e262, hx262_0⟩ := Kd.at_int (Kd.R_reads' HO_8.out).2.2 x33_2 p262 q262
       cases e262
       replace p262 := eq_true p262
       replace q262 := eq_true q262
       go_wp2
       go_roundg k2
       case measure => have := HK1.out; have := HK2.out; omega
       case rel => exact ⟨(decide ((rd t258 x33_2) ≥ x7_1)), (wrap64 (x33_2 + 1)), (by first | rfl | (simp; done) | (simp [*]; done)), (by first | rfl | (simp; done) | (simp [*]; done)), H', ⟨by have := HK1.out; have := HK2.out; omega⟩, ⟨by (with_reducible repeat (first | apply Kd.S_alloc | apply Kd.S_drewN | apply Kd.S_drew)); exact HO_6.out⟩, ⟨by (with_reducible repeat (first | apply Kd.R_alloc | apply Kd.R_drewN | apply Kd.R_drew)); exact HO_8.out⟩, ⟨bb_⟩⟩
      replace c12 := Bool.eq_false_iff.mpr c12
      subst c12
      rw [if_neg (show ¬ (false = true) by decide)] at H
      have H' := Aside0.mk H
      clear H
      have p262 : 0 ≤ (x33_2 : Int) := of_decide_eq_true (by assumption)
      have q262 : x33_2 < (t258.length : Int) := of_decide_eq_true (by assumption)
      obtain ⟨ad262, e262, hx262_0⟩ := Kd.at_int (Kd.R_reads' HO_8.out).2.2 x33_2 p262 q262
      cases e262
      replace p262 := eq_true p262
      replace q262 := eq_true q262
      go_wp2
      go_roundg k2
      case measure => have := HK1.out; have := HK2.out; omega
      case rel => exact ⟨(false), (wrap64 (x33_2 + 1)), (by first | rfl | (simp; done) | (simp [*]; done)), (by first | rfl | (simp; done) | (simp [*]; done)), H', ⟨by have := HK1.out; have := HK2.out; omega⟩, ⟨by (with_reducible repeat (first | apply Kd.S_alloc | apply Kd.S_drewN | apply Kd.S_drew)); exact HO_6.out⟩, ⟨by (with_reducible repeat (first | apply Kd.R_alloc | apply Kd.R_drewN | apply Kd.R_drew)); exact HO_8.out⟩, ⟨bb_⟩⟩
     rw [if_neg c9] at H
     have c9b0 : decide (x33_2 < (t258.length : Int)) = false := decide_eq_false c9
     clear c9
     by_cases c13 : x10_2 = true
     rotate_left
     ·replace c13 := Bool.eq_false_iff.mpr c13
      subst c13
      rw [if_neg (show ¬ (false = true) by decide)] at H
      have H' := Aside0.mk H
      clear H
      go_wp2
      go_roundg k2
      case measure => have := HK1.out; have := HK2.out; omega
      case rel => exact ⟨(x6_1), (wrap64 (x7_1 + 1)), (by first | rfl | (simp; done) | (simp [*]; done)), H', ⟨by have := HK1.out; have := HK2.out; omega⟩, ⟨by (with_reducible repeat (first | apply Kd.S_alloc | apply Kd.S_drewN | apply Kd.S_drew)); exact Kd.S_mono HO_6.out (fun _ hk => trivial)⟩, ⟨bb_⟩⟩
     subst c13
     rw [if_pos rfl] at H
     by_cases c14 : x6_1.length < 5864062014805
     rotate_left
     ·rw [if_neg c14] at H
      exact absurd H (by simp)
     rw [if_pos c14] at H
     have LMc14 := Aside0.mk c14
     clear c14
     obtain ⟨y263, hy263⟩ : ∃ y_ : List (List Int), y_ = (x6_1 ++ [t258]) := ⟨_, rfl⟩
     replace H : (spec_CyclesOfTable.l0 k2 a0 a1 y263 (wrap64 (x7_1 + 1))) = some (r1, r2) := by first | (rw [hy263]; with_reducible exact H) | (have H2_ := (Option.bind_some _ _).symm.trans H; rw [hy263]; with_reducible exact H2_) | (have H2_ := (Option.bind_some _ _).symm.trans H; with_reducible exact H2_) | with_reducible exact H | (rw [hy263]; exact H) | exact H
     have Ny263 := Aside0.mk hy263
     clear hy263
     have H' := Aside0.mk H
     clear H
     go_wp2_with (first | ((with_reducible refine gate_builtin (b := .append) (xs := #[.tmp 45, .tmp 47]) rfl ?_); at_builtin; refine Kd.S_append (Kd.slice 3 (Kd.int .i64)) (w0 := w) w.heap.size rfl (.tmp 45) (.tmp 47) 37 33 (.slice none 0 0) 24 rfl Try.underlying37 info33 rfl (by decide) (by omega) u6 x6_1 t258 [.slice Ao8 t258.length co8] (fun _ => True) (fun k_ => some k_ = (.slice Ao8 t258.length co8 : Value).ownBlock) rfl rfl ?aP (fun k_ hk_ => ((Kd.R_mono (ok' := fun k_ => ((fun _ => True)) k_ ∧ some k_ ≠ (u6 : Value).ownBlock) (Kd.R_apart' (HO_8.out) (Kd.S_typed HO_6.out) (by decide)) (fun k_ hk => ⟨trivial, hk.2⟩))).1 k_ hk_.symm) ?aF ?aO ?aB ?aS ?aL ?_; (case aP => exact Kd.M_row (Kd.R_mono (Kd.R_tight rfl (Kd.R_mono (ok' := fun k_ => ((fun _ => True)) k_ ∧ some k_ ≠ (u6 : Value).ownBlock) (Kd.R_apart' (HO_8.out) (Kd.S_typed HO_6.out) (by decide)) (fun k_ hk => ⟨trivial, hk.2⟩))) (fun _ h_ => h_))); (case aB => exact bb_); (case aF => exact (fun _ _ => trivial)); (case aO => exact (by (with_reducible repeat (first | apply Kd.S_alloc | apply Kd.S_drewN | apply Kd.S_drew)); exact Kd.S_mono HO_6.out (fun k_ hk => ⟨trivial, fun e_ => hk e_⟩))); (case aS => exact bz_); (case aL => have := LMc14.out; omega); intro v264 w15 ho hb hg hat; rw [← Ny263.out] at ho; have n0_ := Aside0.mk (hb); have n1_ := Aside0.mk (ho); clear HB; clear HO_6; clear HO_8; have HB := n0_; have HO265 := n1_; clear n0_ n1_; clear ho hb hg hat))
     go_roundg k2
     case measure => have := HK1.out; have := HK2.out; omega
     case rel => exact ⟨(y263), (wrap64 (x7_1 + 1)), (by first | rfl | (simp; done) | (simp [*]; done)), H', ⟨by have := HK1.out; have := HK2.out; omega⟩, ⟨by (with_reducible repeat (first | apply Kd.S_alloc | apply Kd.S_drewN | apply Kd.S_drew)); exact HO265.out⟩, ⟨bb_⟩⟩
/-! ### impl_DepthOfTable: function 20 -/
def impl_DepthOfTable.l0 : Nat → Int → Int → Int → Int → Int → Option (Int × Bool)
 | 0, _, _, _, _, _ => none
 | k + 1, x0, x1, x6, x14, x15 => if x15 < x14 then ((impl_leadOf.f k x0 x1 x15).bind fun bt267 => (impl_DepthOfTable.l0 k x0 x1 (mx x6 bt267.1) x14 (wrap64 (x15 + 1)))) else (some (x6, true))
def impl_DepthOfTable.f (k : Nat) (a0 : Int) (a1 : Int) : Option (Int × Bool) := (impl_isTable.f a0 a1 ([] : List Int)).bind fun t266 => (if t266 = true then (impl_DepthOfTable.l0 k a0 a1 0 a0 0) else (some (0, false)))
theorem impl_DepthOfTable.mono_l : ∀ k, (∀ y0 y1 y2 y3 y4, LeO (impl_DepthOfTable.l0 k y0 y1 y2 y3 y4) (impl_DepthOfTable.l0 (k + 1) y0 y1 y2 y3 y4))
 | 0 => fun _ _ _ _ _ r h => by simp [impl_DepthOfTable.l0] at h
 | k + 1 => by
  have ih0 := impl_DepthOfTable.mono_l k
  ·intro y0 y1 y2 y3 y4
   unfold impl_DepthOfTable.l0
   repeat' with_reducible first | apply ih0 | apply impl_leadOf.mono | exact LeO.refl _ | exact LeO.none _ | refine LeO.ite ?_ ?_ | refine LeO.bind ?_ (fun _ => ?_)
theorem impl_DepthOfTable.mono : ∀ a0 a1 k, LeO (impl_DepthOfTable.f k a0 a1) (impl_DepthOfTable.f (k + 1) a0 a1) := by
 intro a0 a1 k
 have ih0 := impl_DepthOfTable.mono_l k
 unfold impl_DepthOfTable.f
 repeat' with_reducible first | apply ih0 | apply impl_leadOf.mono | exact LeO.refl _ | exact LeO.none _ | refine LeO.ite ?_ ?_ | refine LeO.bind ?_ (fun _ => ?_)
set_option maxHeartbeats 8000000 in
set_option maxRecDepth 100000 in
theorem impl_DepthOfTable.calls (k : Nat) (a0 : Int) (a1 : Int) (r1 : Int) (r2 : Bool) (w : World) (h : impl_DepthOfTable.f k a0 a1 = some (r1, r2)) :
  Calls Try.prog 20 #[.int .i64 a0, .int .i64 a1] w fun e w' => e = .returned (.tuple #[.int .i64 r1, .bool r2]) ∧ Below w.heap.size w w' := by
 have HB := Aside0.mk (Below.refl w.heap.size w)
 have H : ((impl_isTable.f a0 a1 ([] : List Int)).bind fun t266 => (if t266 = true then (impl_DepthOfTable.l0 k a0 a1 0 a0 0) else (some (0, false)))) = some (r1, r2) := h
 clear h
 replace H := Option.bind_eq_some_iff.mp H
 obtain ⟨t266, A30, H⟩ := H
 (try dsimp only at H)
 have A3 := Aside0.mk A30
 clear A30
 by_cases c4 : t266 = true
 rotate_left
 ·replace c4 := Bool.eq_false_iff.mpr c4
  subst c4
  rw [if_neg (show ¬ (false = true) by decide)] at H
  simp only [Option.some.injEq, Prod.mk.injEq] at H
  obtain ⟨rfl, rfl⟩ := H
  go_enter Try.func20, Try.ntmps20
  go_wp2_with (first | ((with_reducible refine gate_callee (f := 33) rfl ?_); refine gl_ (some 12) Try.func33 #[.int .i64 a0, .int .i64 a1, .slice none 0 0] ?_; (refine (impl_isTable.calls a0 a1 _ _ ([] : List Int) false _ ?side1 ?side2 A3.out).mono ?_); (case side1 => exact Kd.C_nil _ _); (case side2 => exact Nat.le_refl _); rintro e w10 ⟨rfl, hb⟩; refine ⟨_, rfl, ?_⟩; have n0_ := Aside0.mk (bs_ hb); clear HB; have HB := n0_; clear n0_; (try clear hb)))
  go_ret2
  exact ⟨by first | rfl | (simp [errW_none, errW_some] <;> rfl) | (simp [*, errW_none, errW_some] <;> rfl), bb_⟩

 subst c4
 rw [if_pos rfl] at H
 have H' := Aside0.mk H
 clear H
 go_enter Try.func20, Try.ntmps20
 go_wp2_with (first | ((with_reducible refine gate_callee (f := 33) rfl ?_); refine gl_ (some 12) Try.func33 #[.int .i64 a0, .int .i64 a1, .slice none 0 0] ?_; (refine (impl_isTable.calls a0 a1 _ _ ([] : List Int) true _ ?side1 ?side2 A3.out).mono ?_); (case side1 => exact Kd.C_nil _ _); (case side2 => exact Nat.le_refl _); rintro e w5 ⟨rfl, hb⟩; refine ⟨_, rfl, ?_⟩; have n0_ := Aside0.mk (bs_ hb); clear HB; have HB := n0_; clear n0_; (try clear hb)))
 go_loopg [6, 15] k (fun kq v6 v15 w' => ∃ (x6_1 : Int) (x15_1 : Int), v6 = .int .i64 x6_1 ∧ v15 = .int .i64 x15_1 ∧ Aside0 (impl_DepthOfTable.l0 kq a0 a1 x6_1 a0 x15_1 = some (r1, r2)) ∧ Aside0 (kq ≤ k) ∧ Aside0 (Below w.heap.size w w'))
 case atStart => exact ⟨(0), (0), (by first | rfl | (simp; done) | (simp [*]; done)), (by first | rfl | (simp; done) | (simp [*]; done)), H', ⟨Nat.le_refl _⟩, ⟨bb_⟩⟩
 case round =>
  clear H'
  (try clear c2); (try clear p2); (try clear c3); (try clear c4)
  obtain ⟨x6_1, x15_1, rfl, rfl, HA, HK1, HB⟩ := hrel
  cases gk with
  | zero => exact absurd HA.out (by simp [impl_DepthOfTable.l0])
  | succ k1 =>
   have H := HA.out
   clear HA
   simp only [impl_DepthOfTable.l0] at H
   by_cases c6 : x15_1 < a0
   rotate_left
   ·rw [if_neg c6] at H
    have c6b0 : decide (x15_1 < a0) = false := decide_eq_false c6
    clear c6
    simp only [Option.some.injEq, Prod.mk.injEq] at H
    obtain ⟨rfl, rfl⟩ := H
    go_wp2
    go_ret2
    exact ⟨by first | rfl | (simp [errW_none, errW_some] <;> rfl) | (simp [*, errW_none, errW_some] <;> rfl), bb_⟩
   rw [if_pos c6] at H
   have c6b0 : decide (x15_1 < a0) = true := decide_eq_true c6
   clear c6
   replace H := Option.bind_eq_some_iff.mp H
   obtain ⟨⟨t267, t268⟩, A70, H⟩ := H
   (try dsimp only at H)
   have A7 := Aside0.mk A70
   clear A70
   obtain ⟨ji8, hji8⟩ : ∃ j_ : Int, (mx x6_1 t267) = j_ := ⟨_, rfl⟩
   replace H : (impl_DepthOfTable.l0 k1 a0 a1 ji8 a0 (wrap64 (x15_1 + 1))) = some (r1, r2) := by first | (rw [hji8] at H; exact H) | (simp only [hji8] at H ⊢; exact H)
   (try rw [hji8] at A7)
   have hji8_ : (if x6_1 < t267 then t267 else x6_1) = ji8 := hji8
   have H' := Aside0.mk H
   clear H
   go_wp2_with (first | ((with_reducible refine gate_callee (f := 38) rfl ?_); refine gl_ (some 22) Try.func38 #[.int .i64 a0, .int .i64 a1, .int .i64 x15_1] ?_; (with_reducible refine (impl_leadOf.calls k1 a0 a1 x15_1 t267 t268 _ A7.out).mono ?_); rintro e w9 ⟨v269, rfl, ho0, hb⟩; refine ⟨_, rfl, ?_⟩; have n0_ := Aside0.mk (Kd.Q_lower ho0 bz_); have n1_ := Aside0.mk (bs_ hb); clear HB; have HO270 := n0_; have HB := n1_; clear n0_ n1_; (try clear hb); (try clear ho0)))
   go_roundg k1
   case measure => have := HK1.out; omega
   case rel => exact ⟨(ji8), (wrap64 (x15_1 + 1)), (by first | rfl | (simp; done) | (simp only [← hji8] <;> (first | rfl | simp)) | (simp [*]; done)), (by first | rfl | (simp; done) | (simp [*]; done)), H', ⟨by have := HK1.out; omega⟩, ⟨bb_⟩⟩
/-! ### spec_DepthOfTable: function 21 -/
def spec_DepthOfTable.l0 : Nat → Int → Int → Int → Int → Option (Int × Bool)
 | 0, _, _, _, _ => none
 | k + 1, x0, x1, x6, x7 => if x7 < x0 then ((spec_taLead.f k x0 x1 x7).bind fun bt272 => ((spec_l1Most.f x6 bt272.2).bind fun t276 => (spec_DepthOfTable.l0 k x0 x1 t276 (wrap64 (x7 + 1))))) else (some (x6, true))
def spec_DepthOfTable.f (k : Nat) (a0 : Int) (a1 : Int) : Option (Int × Bool) := (spec_taGood.f a0 a1).bind fun t271 => (if t271 = true then (spec_DepthOfTable.l0 k a0 a1 0 0) else (some (0, false)))
theorem spec_DepthOfTable.mono_l : ∀ k, (∀ y0 y1 y2 y3, LeO (spec_DepthOfTable.l0 k y0 y1 y2 y3) (spec_DepthOfTable.l0 (k + 1) y0 y1 y2 y3))
 | 0 => fun _ _ _ _ r h => by simp [spec_DepthOfTable.l0] at h
 | k + 1 => by
  have ih0 := spec_DepthOfTable.mono_l k
  ·intro y0 y1 y2 y3
   unfold spec_DepthOfTable.l0
   repeat' with_reducible first | apply ih0 | apply spec_taLead.mono | exact LeO.refl _ | exact LeO.none _ | refine LeO.ite ?_ ?_ | refine LeO.bind ?_ (fun _ => ?_)
theorem spec_DepthOfTable.mono : ∀ a0 a1 k, LeO (spec_DepthOfTable.f k a0 a1) (spec_DepthOfTable.f (k + 1) a0 a1) := by
 intro a0 a1 k
 have ih0 := spec_DepthOfTable.mono_l k
 unfold spec_DepthOfTable.f
 repeat' with_reducible first | apply ih0 | apply spec_taLead.mono | exact LeO.refl _ | exact LeO.none _ | refine LeO.ite ?_ ?_ | refine LeO.bind ?_ (fun _ => ?_)
set_option maxHeartbeats 8000000 in
set_option maxRecDepth 100000 in
theorem spec_DepthOfTable.calls (k : Nat) (a0 : Int) (a1 : Int) (r1 : Int) (r2 : Bool) (w : World) (h : spec_DepthOfTable.f k a0 a1 = some (r1, r2)) :
  Calls Try.prog 21 #[.int .i64 a0, .int .i64 a1] w fun e w' => e = .returned (.tuple #[.int .i64 r1, .bool r2]) ∧ Below w.heap.size w w' := by
 have HB := Aside0.mk (Below.refl w.heap.size w)
 have H : ((spec_taGood.f a0 a1).bind fun t271 => (if t271 = true then (spec_DepthOfTable.l0 k a0 a1 0 0) else (some (0, false)))) = some (r1, r2) := h
 clear h
 replace H := Option.bind_eq_some_iff.mp H
 obtain ⟨t271, A30, H⟩ := H
 (try dsimp only at H)
 have A3 := Aside0.mk A30
 clear A30
 by_cases c4 : t271 = true
 rotate_left
 ·replace c4 := Bool.eq_false_iff.mpr c4
  subst c4
  rw [if_neg (show ¬ (false = true) by decide)] at H
  simp only [Option.some.injEq, Prod.mk.injEq] at H
  obtain ⟨rfl, rfl⟩ := H
  go_enter Try.func21, Try.ntmps21
  go_wp2_with (first | ((with_reducible refine gate_callee (f := 44) rfl ?_); refine gl_ (some 12) Try.func44 #[.int .i64 a0, .int .i64 a1] ?_; (with_reducible refine (spec_taGood.calls a0 a1 false _ A3.out).mono ?_); rintro e w' ⟨rfl, ⟨nd, rfl⟩⟩; refine ⟨_, rfl, ?_⟩))
  go_ret2
  exact ⟨by first | rfl | (simp [errW_none, errW_some] <;> rfl) | (simp [*, errW_none, errW_some] <;> rfl), bb_⟩

 subst c4
 rw [if_pos rfl] at H
 have H' := Aside0.mk H
 clear H
 go_enter Try.func21, Try.ntmps21
 go_wp2_with (first | ((with_reducible refine gate_callee (f := 44) rfl ?_); refine gl_ (some 12) Try.func44 #[.int .i64 a0, .int .i64 a1] ?_; (with_reducible refine (spec_taGood.calls a0 a1 true _ A3.out).mono ?_); rintro e w' ⟨rfl, ⟨nd, rfl⟩⟩; refine ⟨_, rfl, ?_⟩))
 go_loopg [6, 7] k (fun kq v6 v7 w' => ∃ (x6_1 : Int) (x7_1 : Int), v6 = .int .i64 x6_1 ∧ v7 = .int .i64 x7_1 ∧ Aside0 (spec_DepthOfTable.l0 kq a0 a1 x6_1 x7_1 = some (r1, r2)) ∧ Aside0 (kq ≤ k) ∧ Aside0 (Below w.heap.size w w'))
 case atStart => exact ⟨(0), (0), (by first | rfl | (simp; done) | (simp [*]; done)), (by first | rfl | (simp; done) | (simp [*]; done)), H', ⟨Nat.le_refl _⟩, ⟨bb_⟩⟩
 case round =>
  clear H'
  (try clear c2); (try clear p2); (try clear c4)
  obtain ⟨x6_1, x7_1, rfl, rfl, HA, HK1, HB⟩ := hrel
  cases gk with
  | zero => exact absurd HA.out (by simp [spec_DepthOfTable.l0])
  | succ k1 =>
   have H := HA.out
   clear HA
   simp only [spec_DepthOfTable.l0] at H
   by_cases c5 : x7_1 < a0
   rotate_left
   ·rw [if_neg c5] at H
    have c5b0 : decide (x7_1 < a0) = false := decide_eq_false c5
    clear c5
    simp only [Option.some.injEq, Prod.mk.injEq] at H
    obtain ⟨rfl, rfl⟩ := H
    go_wp2
    go_ret2
    exact ⟨by first | rfl | (simp [errW_none, errW_some] <;> rfl) | (simp [*, errW_none, errW_some] <;> rfl), bb_⟩
   rw [if_pos c5] at H
   have c5b0 : decide (x7_1 < a0) = true := decide_eq_true c5
   clear c5
   replace H := Option.bind_eq_some_iff.mp H
   obtain ⟨⟨t272, t273⟩, A60, H⟩ := H
   (try dsimp only at H)
   have A6 := Aside0.mk A60
   clear A60
   replace H := Option.bind_eq_some_iff.mp H
   obtain ⟨t276, A70, H⟩ := H
   (try dsimp only at H)
   have A7 := Aside0.mk A70
   clear A70
   have H' := Aside0.mk H
   clear H
   go_wp2_with (first | ((with_reducible refine gate_callee (f := 39) rfl ?_); refine gl_ (some 23) Try.func39 #[.int .i64 a0, .int .i64 a1, .int .i64 x7_1] ?_; (with_reducible refine (spec_taLead.calls k1 a0 a1 x7_1 t272 t273 _ A6.out).mono ?_); rintro e w8 ⟨v274, rfl, ho0, hb⟩; refine ⟨_, rfl, ?_⟩; have n0_ := Aside0.mk (Kd.R_lower ho0 bz_); have n1_ := Aside0.mk (bs_ hb); clear HB; have HO275 := n0_; have HB := n1_; clear n0_ n1_; (try clear hb); (try clear ho0)) | ((with_reducible refine gate_callee (f := 31) rfl ?_); refine gl_ (some 28) Try.func31 #[.int .i64 x6_1, .int .i64 t273] ?_; (with_reducible refine (spec_l1Most.calls x6_1 t273 t276 _ A7.out).mono ?_); rintro e w' ⟨rfl, ⟨nd, rfl⟩⟩; refine ⟨_, rfl, ?_⟩))
   go_roundg k1
   case measure => have := HK1.out; omega
   case rel => exact ⟨(t276), (wrap64 (x7_1 + 1)), (by first | rfl | (simp; done) | (simp [*]; done)), (by first | rfl | (simp; done) | (simp [*]; done)), H', ⟨by have := HK1.out; omega⟩, ⟨bb_⟩⟩
/-! ### cmp_isNaN_int: function 78 -/
def cmp_isNaN_int.f (a0 : Int) : Option (Bool) := some (a0 != a0)
set_option maxHeartbeats 8000000 in
set_option maxRecDepth 100000 in
theorem cmp_isNaN_int.calls (a0 : Int) (r : Bool) (w : World) (h : cmp_isNaN_int.f a0 = some r) :
  Calls Try.prog 78 #[.int .i64 a0] w fun e w' => e = .returned (.bool r) ∧ Drawn0 w w' := by
 have H : (some (a0 != a0)) = some r := h
 clear h
 obtain rfl := Option.some.inj H
 go_enter Try.func78, Try.ntmps78
 go_wp2
 go_ret
 exact ⟨by first | rfl | (simp; done) | (simp [*]; done), by repeat (first | exact Drawn0.refl _ | apply Drawn0.step)⟩

-- NOT PRINTED: function 68 (cmp_Less_int)

-- NOT PRINTED: function 62 (slices_insertionSortOrdered_int)

-- NOT PRINTED: function 73 (slices_siftDownOrdered_int)

-- NOT PRINTED: function 63 (slices_heapSortOrdered_int)

-- NOT PRINTED: function 71 (bits_Len32)

-- NOT PRINTED: function 72 (bits_Len64)

-- NOT PRINTED: function 60 (bits_Len)

-- NOT PRINTED: function 74 (slices_nextPowerOfTwo)

-- NOT PRINTED: function 75 (slices_xorshift_Next)

-- NOT PRINTED: function 64 (slices_breakPatternsOrdered_int)

-- NOT PRINTED: function 79 (slices_order2Ordered_int)

-- NOT PRINTED: function 77 (slices_medianOrdered_int)

-- NOT PRINTED: function 76 (slices_medianAdjacentOrdered_int)

-- NOT PRINTED: function 65 (slices_choosePivotOrdered_int)

-- NOT PRINTED: function 66 (slices_reverseRangeOrdered_int)

-- NOT PRINTED: function 67 (slices_partialInsertionSortOrdered_int)

-- NOT PRINTED: function 69 (slices_partitionEqualOrdered_int)

-- NOT PRINTED: function 70 (slices_partitionOrdered_int)

-- NOT PRINTED: function 59 (slices_pdqsortOrdered_int)

/-! ### given: 20_rows.tpl -/
/-! rows of the call's own, laid anew by a contract of the shelf ('putRow') -/
theorem putRow_enc {α : Type} [Inhabited α] (enc : α → Value) (w : World) (b o : Nat) (d : Array α) : Go.Sort.putRow enc w b o d = Go.Sort.putRow id w b o (d.map enc) := by
  unfold Go.Sort.putRow
  congr 1
  funext c
  unfold Go.Sort.putCells
  congr 1
  funext k x
  rw [Array.size_map]
  by_cases h : o ≤ k ∧ k < o + d.size
  · have h2 : k - o < d.size := by omega
    rw [if_pos h, if_pos h, getElem!_pos d _ h2, getElem!_pos (d.map enc) _ (by simpa using h2)]
    simp
  · rw [if_neg h, if_neg h]
theorem own_putRow {w : World} {base g cap n size : Nat} {e : TypeId} {xs ys : List Value} (h : w.ownsRow base e size (.slice (some ⟨g, 0, none⟩) n cap) n xs) (hl : ys.length = xs.length) (m : Nat) (os : Array Obj) :
    (Go.Sort.grow (Go.Sort.putRow id (Go.Sort.ahead w m) g 0 ys.toArray) os).ownsRow base e size (.slice (some ⟨g, 0, none⟩) n cap) n ys ∧ w.grownBy (Go.Sort.grow (Go.Sort.putRow id (Go.Sort.ahead w m) g 0 ys.toArray) os) (some g) := by
  obtain ⟨hx, h⟩ := h
  rcases h with ⟨h, _⟩ | ⟨g', cap', cur, he, hb, hg, hn, hc, hs, ht⟩
  · simp at h
  · simp only [Value.slice.injEq, Option.some.injEq, Addr.mk.injEq, and_true, true_and] at he
    obtain ⟨rfl, rfl⟩ := he
    have hlt : g < w.heap.size := (Array.getElem?_eq_some_iff.1 hg).1
    refine ⟨⟨by omega, .inr ⟨g, cap, Go.Sort.putCells id 0 ys.toArray cur, rfl, hb, ?_, hn, hc, ?_, ?_⟩⟩, ⟨rfl, rfl, rfl, ?_, ?_⟩⟩
    · show (Array.modify w.heap g (Go.Sort.onCells (Go.Sort.putCells id 0 ys.toArray)) ++ os)[g]? = _
      rw [Array.getElem?_append_left (by simpa using hlt), Array.getElem?_modify, if_pos rfl, hg]
      rfl
    · unfold Go.Sort.putCells; simp [hs]
    · apply List.ext_getElem
      · rw [List.length_take]
        unfold Go.Sort.putCells
        simp only [Array.length_toList, Array.size_mapIdx]
        have := congrArg List.length ht
        rw [List.length_take, Array.length_toList] at this
        omega
      · intro i h1 h2
        have h3 : i < cur.size := by
          have := congrArg List.length ht
          rw [List.length_take, Array.length_toList] at this
          omega
        rw [List.getElem_take]
        unfold Go.Sort.putCells
        simp only [Array.getElem_toList, Array.getElem_mapIdx, Nat.zero_le, true_and, Nat.zero_add, List.size_toArray, Nat.sub_zero, id]
        rw [if_pos h2, getElem!_pos ys.toArray i (by simpa using h2)]
        simp
    · show w.heap.size ≤ (Array.modify w.heap g (Go.Sort.onCells (Go.Sort.putCells id 0 ys.toArray)) ++ os).size
      simp
    · intro k hk hne
      have hne' : ¬ g = k := fun h => hne (by rw [h])
      show (Array.modify w.heap g (Go.Sort.onCells (Go.Sort.putCells id 0 ys.toArray)) ++ os)[k]? = _
      rw [Array.getElem?_append_left (by simpa using hk), Array.getElem?_modify, if_neg hne']
theorem own_holds {w : World} {base g cap n size : Nat} {e : TypeId} {xs : List Value} (h : w.ownsRow base e size (.slice (some ⟨g, 0, none⟩) n cap) n xs) : Go.Sort.Holds id w g 0 xs.toArray := by
  obtain ⟨hx, h⟩ := h
  rcases h with ⟨h, _⟩ | ⟨g', cap', cur, he, hb, hg, hn, hc, hs, ht⟩
  · simp at h
  · simp only [Value.slice.injEq, Option.some.injEq, Addr.mk.injEq, and_true, true_and] at he
    obtain ⟨rfl, rfl⟩ := he
    intro j hj
    have hj' : j < xs.length := by simpa using hj
    have h3 : j < cur.size := by
      have := congrArg List.length ht
      rw [List.length_take, Array.length_toList] at this
      omega
    refine ⟨?_, by simp [World.frozen?, hg]⟩
    rw [getElem!_pos xs.toArray j hj]
    simp only [World.cell?, hg, Nat.zero_add, Option.isSome_none, Bool.false_eq_true, if_false]
    rw [Array.getElem?_eq_getElem h3]
    subst ht
    simp
theorem holds_enc {α : Type} [Inhabited α] (enc : α → Value) {w : World} {b o : Nat} {d : Array α} (h : Go.Sort.Holds id w b o (d.map enc)) : Go.Sort.Holds enc w b o d := by
  intro j hj
  have := h j (by simpa using hj)
  rw [getElem!_pos (d.map enc) j (by simpa using hj)] at this
  rw [getElem!_pos d j hj]
  simpa using this
/-- A row of whole numbers that is not nil: its block. -/
theorem R_block {d : Kd Int} {e base : Nat} {ok : Nat → Prop} {w : World} {v : Value} {xs : List Int} (h : d.R e w base ok v xs) (hp : 0 < xs.length) : ∃ g cap, v = .slice (some ⟨g, 0, none⟩) xs.length cap ∧ base ≤ g ∧ g < w.heap.size := by
  obtain ⟨g, cap, hv, hb, hlt, _⟩ := Kd.R_form h hp
  exact ⟨g, cap, hv, hb, hlt⟩
theorem R_holds {e base g cap : Nat} {ok : Nat → Prop} {w : World} {xs : List Int} (h : (Kd.int .i64).R e w base ok (.slice (some ⟨g, 0, none⟩) xs.length cap) xs) : Go.Sort.Holds (Value.int .i64) w g 0 xs.toArray := by
  have ho := Kd.own_of_R h
  have h1 := own_holds ho
  refine holds_enc (Value.int .i64) ?_
  simpa [encs] using h1
theorem R_putRow {e base g cap : Nat} {ok : Nat → Prop} {w : World} {xs ys : List Int} (h : (Kd.int .i64).R e w base ok (.slice (some ⟨g, 0, none⟩) xs.length cap) xs) (hl : ys.length = xs.length) (m : Nat) (os : Array Obj) :
    (Kd.int .i64).R e (Go.Sort.grow (Go.Sort.putRow (Value.int .i64) (Go.Sort.ahead w m) g 0 ys.toArray) os) base ok (.slice (some ⟨g, 0, none⟩) ys.length cap) ys ∧ w.grownBy (Go.Sort.grow (Go.Sort.putRow (Value.int .i64) (Go.Sort.ahead w m) g 0 ys.toArray) os) (some g) := by
  have ho := Kd.own_of_R h
  have e1 : (ys.toArray.map (Value.int .i64)) = (ys.map (Value.int .i64)).toArray := by simp
  obtain ⟨h1, h2⟩ := own_putRow (ys := ys.map (Value.int .i64)) ho (by simp [encs, hl]) m os
  rw [putRow_enc, e1]
  refine ⟨Kd.R_of_own ?_ h.1, h2⟩
  rw [hl]
  simpa [encs] using h1

/-! ### given: 22_sort.tpl -/
def Try.lays189_ren : Go.Shelf.Ren := ⟨fun | 189 => 48 | 125 => 60 | 257 => 59 | 128 => 71 | 129 => 72 | 294 => 62 | 295 => 63 | 296 => 64 | 297 => 65 | 298 => 66 | 299 => 67 | 216 => 68 | 300 => 69 | 301 => 70 | 328 => 73 | 329 => 74 | 330 => 75 | 331 => 76 | 332 => 77 | 215 => 78 | 343 => 79 | n => n, fun | 28 => 33 | 3 => 3 | 46 => 71 | 0 => 0 | 51 => 81 | 53 => 46 | 4 => 4 | 183 => 75 | 182 => 74 | 131 => 26 | 5 => 5 | 9 => 9 | 218 => 83 | 222 => 87 | 228 => 89 | 229 => 49 | n => n, fun | n => n⟩
theorem Try.lays189 : Go.Proofs.Lays.n189 Try.prog Try.lays189_ren := {
  mixed := by kernel_rfl
  f125 := Try.func60.trans (congrArg some (by kernel_rfl))
  f128 := Try.func71.trans (congrArg some (by kernel_rfl))
  f129 := Try.func72.trans (congrArg some (by kernel_rfl))
  f189 := Try.func48.trans (congrArg some (by kernel_rfl))
  f215 := Try.func78.trans (congrArg some (by kernel_rfl))
  f216 := Try.func68.trans (congrArg some (by kernel_rfl))
  f257 := Try.func59.trans (congrArg some (by kernel_rfl))
  f294 := Try.func62.trans (congrArg some (by kernel_rfl))
  f295 := Try.func63.trans (congrArg some (by kernel_rfl))
  f296 := Try.func64.trans (congrArg some (by kernel_rfl))
  f297 := Try.func65.trans (congrArg some (by kernel_rfl))
  f298 := Try.func66.trans (congrArg some (by kernel_rfl))
  f299 := Try.func67.trans (congrArg some (by kernel_rfl))
  f300 := Try.func69.trans (congrArg some (by kernel_rfl))
  f301 := Try.func70.trans (congrArg some (by kernel_rfl))
  f328 := Try.func73.trans (congrArg some (by kernel_rfl))
  f329 := Try.func74.trans (congrArg some (by kernel_rfl))
  f330 := Try.func75.trans (congrArg some (by kernel_rfl))
  f331 := Try.func76.trans (congrArg some (by kernel_rfl))
  f332 := Try.func77.trans (congrArg some (by kernel_rfl))
  f343 := Try.func79.trans (congrArg some (by kernel_rfl))
  t0 := Try.underlying0
  a0 := Try.isAgg0
  z0 := Try.sizeOf0
  v0 := Try.zeroValue0
  t3 := Try.underlying3
  a3 := Try.isAgg3
  z3 := Try.sizeOf3
  v3 := Try.zeroValue3
  t4 := Try.underlying4
  a4 := Try.isAgg4
  z4 := Try.sizeOf4
  v4 := Try.zeroValue4
  t5 := Try.underlying5
  a5 := Try.isAgg5
  z5 := Try.sizeOf5
  v5 := Try.zeroValue5
  t9 := Try.underlying9
  a9 := Try.isAgg9
  z9 := Try.sizeOf9
  v9 := Try.zeroValue9
  t28 := Try.underlying33
  a28 := Try.isAgg33
  z28 := Try.sizeOf33
  v28 := Try.zeroValue33
  t46 := Try.underlying71
  a46 := Try.isAgg71
  z46 := Try.sizeOf71
  v46 := Try.zeroValue71
  t51 := Try.underlying81
  a51 := Try.isAgg81
  z51 := Try.sizeOf81
  v51 := Try.zeroValue81
  t53 := Try.underlying46
  a53 := Try.isAgg46
  z53 := Try.sizeOf46
  v53 := Try.zeroValue46
  t131 := Try.underlying26
  a131 := Try.isAgg26
  z131 := Try.sizeOf26
  v131 := Try.zeroValue26
  t182 := Try.underlying74
  a182 := Try.isAgg74
  z182 := Try.sizeOf74
  v182 := Try.zeroValue74
  t183 := Try.underlying75
  a183 := Try.isAgg75
  z183 := Try.sizeOf75
  v183 := Try.zeroValue75
  t218 := Try.underlying83
  a218 := Try.isAgg83
  z218 := Try.sizeOf83
  v218 := Try.zeroValue83
  t222 := Try.underlying87
  a222 := Try.isAgg87
  z222 := Try.sizeOf87
  v222 := Try.zeroValue87
  t228 := Try.underlying89
  a228 := Try.isAgg89
  z228 := Try.sizeOf89
  v228 := Try.zeroValue89
  t229 := Try.underlying49
  a229 := Try.isAgg49
  z229 := Try.sizeOf49
  v229 := Try.zeroValue49 }
/-- The row in order. -/
def slices_Sort_int_int.f (l0 : List Int) : Option (List Int) := if l0.length < 4611686018427387904 then some (l0.mergeSort fun x y => decide (x ≤ y)) else none
theorem slices_Sort_int_int.calls (P0_ : Nat → Prop) (u9000_ : Value) (l0 : List Int) (r : List Int) (w0 w : World) (hB : Below w0.heap.size w0 w) (ho0 : Kd.R (Kd.int .i64) 3 w w0.heap.size P0_ u9000_ l0) (h : slices_Sort_int_int.f l0 = some r) :
    Calls Try.prog 48 #[u9000_] w fun e w' => e = .returned (.tuple #[]) ∧ Kd.R (Kd.int .i64) 3 w' w0.heap.size (fun k_ => (P0_ k_ ∨ w.heap.size ≤ k_)) u9000_ r ∧ Below w0.heap.size w0 w' ∧ Kept w w' (fun k_ => P0_ k_) := by
  unfold slices_Sort_int_int.f at h
  by_cases hsz : l0.length < 4611686018427387904
  · rw [if_pos hsz] at h
    obtain rfl := Option.some.inj h
    clear h
    rcases Nat.eq_zero_or_pos l0.length with hz | hp
    · obtain ⟨A, c, rfl⟩ := Kd.R_slice ho0
      obtain rfl : l0 = [] := List.length_eq_zero_iff.1 hz
      have hc := Go.Proofs.Any.slices_Sort_int_none Try.lays189 A c w
      change Calls Try.prog 48 #[.slice A 0 c] w _ at hc
      refine hc.mono ?_
      rintro e w' ⟨rfl, rfl⟩
      exact ⟨rfl, by simpa using Kd.R_mono ho0 (fun k hk => .inl hk), hB, Kept.refl _ _⟩
    · obtain ⟨g, cap, rfl, hb, hlt⟩ := R_block ho0 hp
      have hc := Go.Proofs.Any.slices_Sort_int Try.lays189 g 0 cap l0 w (R_holds ho0) hlt hsz
      change Calls Try.prog 48 #[.slice (some ⟨g, 0, none⟩) l0.length cap] w _ at hc
      refine hc.mono ?_
      rintro e w' ⟨rfl, n, os, rfl⟩
      have hl : (l0.mergeSort fun x y => decide (x ≤ y)).length = l0.length := by simp
      obtain ⟨h1, h2⟩ := R_putRow ho0 hl n os
      rw [hl] at h1
      exact ⟨rfl, Kd.R_mono h1 (fun k hk => .inl hk), pw_below_grown hB (some g) hB.size h2 (fun k hk => by injection hk with hk; omega), ⟨h2.size, fun i hi hn => h2.block i hi (fun he => hn (by injection he with he; rw [he]; exact ho0.1 g rfl))⟩⟩
  · rw [if_neg hsz] at h; cases h

/-! ### given: 23_compact.tpl -/
def Try.lays2n20_ren : Go.Shelf.Ren := ⟨fun | 20 => 49 | n => n, fun | 22 => 33 | 3 => 3 | 4 => 4 | 0 => 0 | n => n, fun | n => n⟩
theorem Try.lays2n20 : Go.Proofs.Lays2.n20 Try.prog Try.lays2n20_ren := {
  mixed := by kernel_rfl
  f20 := Try.func49.trans (congrArg some (by kernel_rfl))
  t0 := Try.underlying0
  a0 := Try.isAgg0
  z0 := Try.sizeOf0
  v0 := Try.zeroValue0
  t3 := Try.underlying3
  a3 := Try.isAgg3
  z3 := Try.sizeOf3
  v3 := Try.zeroValue3
  t4 := Try.underlying4
  a4 := Try.isAgg4
  z4 := Try.sizeOf4
  v4 := Try.zeroValue4
  t22 := Try.underlying33
  a22 := Try.isAgg33
  z22 := Try.sizeOf33
  v22 := Try.zeroValue33
  i3 := by kernel_rfl }
/-- Of equal ones that stand side by side the first. -/
def slices_Compact_int_int.f (l0 : List Int) : Option (List Int) := some (Go.Lib.compact l0)
theorem compact_le (l : List Int) : (Go.Lib.compact l).length ≤ l.length := by
  unfold Go.Lib.compact Go.Lib.compactUpTo
  rw [List.length_map]
  have := List.length_filter_le (Go.Lib.keeps l.toArray) (List.range l.length)
  simpa using this
theorem slices_Compact_int_int.calls (P0_ : Nat → Prop) (u9000_ : Value) (l0 : List Int) (r : List Int) (w0 w : World) (hB : Below w0.heap.size w0 w) (ho0 : Kd.R (Kd.int .i64) 3 w w0.heap.size P0_ u9000_ l0) (h : slices_Compact_int_int.f l0 = some r) :
    Calls Try.prog 49 #[u9000_] w fun e w' => ∃ v0_ : Value, e = .returned (v0_) ∧ Kd.R (Kd.int .i64) 3 w' w0.heap.size (fun k_ => (P0_ k_ ∨ w.heap.size ≤ k_)) v0_ r ∧ Below w0.heap.size w0 w' ∧ Kept w w' (fun k_ => P0_ k_) := by
  obtain rfl := Option.some.inj h
  clear h
  rcases Nat.eq_zero_or_pos l0.length with hz | hp
  · obtain ⟨A, c, rfl⟩ := Kd.R_slice ho0
    obtain rfl : l0 = [] := List.length_eq_zero_iff.1 hz
    have hc := Go.Proofs.Any.slices_Compact_int_empty Try.lays2n20 A c w
    change Calls Try.prog 49 #[.slice A 0 c] w _ at hc
    refine hc.mono ?_
    rintro e w' ⟨rfl, rfl⟩
    exact ⟨_, rfl, Kd.R_mono ho0 (fun k hk => .inl hk), hB, Kept.refl _ _⟩
  · obtain ⟨g, cap, rfl, hb, hlt⟩ := R_block ho0 hp
    have hm := Kd.R_reads' ho0
    have hc := Go.Proofs.Any.slices_Compact_int Try.lays2n20 g 0 cap l0 w (R_holds ho0) (Kd.C_max hm.2.2) hm.2.1
    change Calls Try.prog 49 #[.slice (some ⟨g, 0, none⟩) l0.length cap] w _ at hc
    refine hc.mono ?_
    rintro e w' ⟨rfl, n, rfl⟩
    have hle := compact_le l0
    have hl : (Go.Lib.compact l0 ++ List.replicate (l0.length - (Go.Lib.compact l0).length) 0).length = l0.length := by simp; omega
    obtain ⟨h1, h2⟩ := R_putRow ho0 hl n #[]
    rw [Go.Sort.grow_empty] at h1 h2
    have h3 := Kd.R_take h1 (m := (Go.Lib.compact l0).length) (by rw [hl]; exact hle)
    rw [List.take_left] at h3
    exact ⟨_, rfl, Kd.R_mono h3 (fun k hk => .inl hk), pw_below_grown hB (some g) hB.size h2 (fun k hk => by injection hk with hk; omega), ⟨h2.size, fun i hi hn => h2.block i hi (fun he => hn (by injection he with he; rw [he]; exact ho0.1 g rfl))⟩⟩

end Go.Proofs.Ytgiiaajincdhnaa.P
