/- A part of this seat's proofs: contracts of the translated functions, written by the session's own program (gp.py) out of the kit's print.py and the session's own contracts; no conditions of its own. -/
import Derived.Test.YtejchneeheeldaaPx0
import Derived.Test.YtejchneeheeldaaPx2
import Derived.Test.YtejchneeheeldaaPx14
import Derived.Test.YtejchneeheeldaaPx16
namespace Go.Proofs.Ytejchneeheeldaa.P
open Go.RowKit Go.Proofs.YtejchneeheeldaaW.PrintWords Go.Proofs.YtejchneeheeldaaW.PrintLast Go.Proofs.YtejchneeheeldaaW.PrintMore
attribute [local go_sem] max2_int min2_int max_two min_two max_three min_three max_four min_four   -- for this text's walks alone
set_option linter.unusedVariables false
set_option linter.unusedSimpArgs false

/-! ### given: 21_min.tpl -/
/-- The least of the first k + 1 elements. -/
def minK (l : List Int) : Nat → Int
  | 0 => l.getD 0 0
  | k + 1 => mn (minK l k) (l.getD (k + 1) 0)
def slices_Min_int_int.f (l0 : List Int) : Option Int := if 0 < l0.length then some (minK l0 (l0.length - 1)) else none
set_option maxHeartbeats 1000000 in
theorem slices_Min_int_int.calls (A0 : Option Addr) (c0 : Nat) (l0 : List Int) (r : Int) (w : World) (hr0 : Kd.C (Kd.int .i64) w A0 l0.length l0) (hc0 : l0.length ≤ c0) (h : slices_Min_int_int.f l0 = some r) :
    Calls Try.prog 41 #[.slice A0 l0.length c0] w fun e w' => e = .returned (.int .i64 r) ∧ Drawn0 w w' := by
  unfold slices_Min_int_int.f at h
  by_cases hp : 0 < l0.length
  · rw [if_pos hp] at h
    obtain rfl := Option.some.inj h
    clear h
    have hbig := Kd.C_max hr0
    obtain ⟨ad, y0, rfl, hcell0, HY0, _⟩ := read_at hr0 0 hp
    have HR := Aside0.mk hr0
    have hz1 : ¬ (l0.length : Int) < 1 := by omega
    have hz0 : (0 : Int) < (l0.length : Int) := by omega
    have hcell0' : w.cell? ad = some (.int .i64 y0) := by have e_ : ad.add 0 = ad := (by unfold Addr.add; simp); rw [e_] at hcell0; exact hcell0
    clear hr0 hc0 hcell0
    go_enter Try.func41, Try.ntmps41
    go_wp2
    go_loopg [3, 4] l0.length (fun gg v3 v4 wr => ∃ kk : Nat, kk < l0.length ∧ l0.length - kk ≤ gg ∧ v4 = .int .i64 (kk + 1) ∧ v3 = .int .i64 (minK l0 kk) ∧ Aside0 (wr = w))
    case atStart => exact ⟨0, hp, by omega, rfl, by rw [HY0.out]; rfl, ⟨rfl⟩⟩
    case round =>
      obtain ⟨kk, hkk, hg, rfl, rfl, HW⟩ := hrel
      obtain rfl := HW.out
      by_cases hlt : kk + 1 < l0.length
      · have hltz : (kk : Int) + 1 < (l0.length : Int) := by omega
        obtain ⟨ad', y, e1, hcell, HY, _⟩ := read_at HR.out (kk + 1) hlt
        obtain rfl : ad = ad' := Option.some.inj e1
        clear e1
        have e2 : ad.add (kk + 1) = ⟨ad.block, ad.off + (kk + 1), none⟩ := by unfold Addr.add; rw [if_neg (by omega)]
        rw [e2] at hcell
        clear e2
        go_wp2
        all_goals
          go_roundg (l0.length - (kk + 1))
          case measure => omega
          case rel => exact ⟨kk + 1, hlt, by omega, by go_num, by have e_ : minK l0 (kk + 1) = mn (minK l0 kk) y := (by rw [HY.out]; rfl); rw [e_]; first | rfl | (unfold mn; split <;> first | rfl | (congr 1; omega) | omega), ⟨rfl⟩⟩
      · have hltz : ¬ (kk : Int) + 1 < (l0.length : Int) := by omega
        go_wp2
        go_ret
        refine ⟨?_, Drawn0.refl _⟩
        have e3 : l0.length - 1 = kk := by omega
        rw [e3]; rfl
  · rw [if_neg hp] at h; cases h

/-! ### given: 36_cycles.tpl -/
/-- The cycles, point by point. -/
def cycD (k : Nat) (n f : Int) : Nat → Int → List (List Int) → Option (List (List Int))
  | 0, _, o => some o
  | d + 1, p, o => (impl_leadOf.f k n f p).bind fun t => if t.1 = 0 then ((slices_Min_int_int.f t.2).bind fun m => if m = p then cycD k n f d (p + 1) (o ++ [t.2]) else cycD k n f d (p + 1) o) else cycD k n f d (p + 1) o
theorem cycD_mono (k : Nat) (n f : Int) : ∀ (d : Nat) (p : Int) (o : List (List Int)), LeO (cycD k n f d p o) (cycD (k + 1) n f d p o)
  | 0, p, o, r, h => h
  | d + 1, p, o, r, h => by
    unfold cycD at h ⊢
    obtain ⟨t, ht, h⟩ := Option.bind_eq_some_iff.mp h
    rw [impl_leadOf.mono _ _ _ _ _ ht, Option.bind_some]
    by_cases h0 : t.1 = 0
    · rw [if_pos h0] at h ⊢
      obtain ⟨m, hm, h⟩ := Option.bind_eq_some_iff.mp h
      rw [hm, Option.bind_some]
      by_cases h1 : m = p
      · rw [if_pos h1] at h ⊢; exact cycD_mono k n f d _ _ _ h
      · rw [if_neg h1] at h ⊢; exact cycD_mono k n f d _ _ _ h
    · rw [if_neg h0] at h ⊢; exact cycD_mono k n f d _ _ _ h
def impl_CyclesOfTable.f (k : Nat) (a0 : Int) (a1 : Int) : Option ((List (List Int)) × Bool) := (impl_isTable.f a0 a1 []).bind fun b => if b = true then (if 0 ≤ a0 ∧ a0 ≤ 1000000 then (cycD k a0 a1 a0.toNat 0 []).bind fun o => some (o, true) else none) else some ([], false)
theorem impl_CyclesOfTable.mono : ∀ a0 a1 k, LeO (impl_CyclesOfTable.f k a0 a1) (impl_CyclesOfTable.f (k + 1) a0 a1) := by
  intro a0 a1 k r h
  unfold impl_CyclesOfTable.f at h ⊢
  obtain ⟨b, hb, h⟩ := Option.bind_eq_some_iff.mp h
  rw [hb, Option.bind_some]
  by_cases h0 : b = true
  · rw [if_pos h0] at h ⊢
    by_cases h1 : 0 ≤ a0 ∧ a0 ≤ 1000000
    · rw [if_pos h1] at h ⊢
      obtain ⟨o, ho, h⟩ := Option.bind_eq_some_iff.mp h
      rw [cycD_mono _ _ _ _ _ _ _ ho, Option.bind_some]; exact h
    · rw [if_neg h1] at h; cases h
  · rw [if_neg h0] at h ⊢; exact h
set_option maxHeartbeats 8000000 in
set_option maxRecDepth 100000 in
theorem impl_CyclesOfTable.calls (k : Nat) (a0 : Int) (a1 : Int) (r1 : List (List Int)) (r2 : Bool) (w : World) (h : impl_CyclesOfTable.f k a0 a1 = some (r1, r2)) :
    Calls Try.prog 15 #[.int .i64 a0, .int .i64 a1] w fun e w' => ∃ v0_ : Value, e = .returned (.tuple #[v0_, .bool r2]) ∧ Kd.S (Kd.slice 3 (Kd.int .i64)) 22 w' w.heap.size (fun _ => True) v0_ r1 ∧ Below w.heap.size w w' := by
  unfold impl_CyclesOfTable.f at h
  obtain ⟨b, hb, h⟩ := Option.bind_eq_some_iff.mp h
  have HT := Aside0.mk hb
  clear hb
  by_cases h0 : b = true
  · rw [if_pos h0] at h
    subst h0
    by_cases h1 : 0 ≤ a0 ∧ a0 ≤ 1000000
    · rw [if_pos h1] at h
      obtain ⟨o, ho, h⟩ := Option.bind_eq_some_iff.mp h
      simp only [Option.some.injEq, Prod.mk.injEq] at h
      obtain ⟨rfl, rfl⟩ := h
      obtain ⟨h1a, h1b⟩ := h1
      have HO := Aside0.mk ho
      clear ho
      go_enter Try.func15, Try.ntmps15
      go_wp2_with (first | (go_at_call 39; refine (impl_isTable.calls a0 a1 none 0 [] true _ (Kd.C_nil _ _) (Nat.le_refl _) HT.out).mono ?_; rintro e w1 ⟨rfl, hB⟩; have HB1 := Aside0.mk hB; clear hB) | ((with_reducible refine gate_dst (N := 14) rfl ?_); refine Kd.S_lit (Kd.slice 3 (Kd.int .i64)) _ 22 ?hg (N := 14) ?hd (xs := ([] : List (List Int))) (inner := []) (ok := fun _ => True) (okp := fun _ => True) ?hr ?hp (fun _ hk => hk) trivial (Below.refl _ _) (Nat.le_refl _) (by simp) ?_; (case hd => rfl); (case hg => rfl); (case hr => first | (go_simp; done) | (go_simp; rfl)); (case hp => exact (Reps.none _ _)); intro v2 w2 ho hb _ _; have HS2 := Aside0.mk (Kd.S_lower ho HB1.out.size); have HB2 := Aside0.mk (below_then HB1.out HB1.out.size hb); clear ho hb))
      go_loopg [6, 16] a0.toNat (fun gg v6 v16 wr => ∃ (p : Int) (os : List (List Int)), 0 ≤ p ∧ p ≤ a0 ∧ (a0 - p).toNat ≤ gg ∧ v16 = .int .i64 p ∧ Aside0 (cycD k a0 a1 (a0 - p).toNat p os = some o ∧ (os.length : Int) ≤ p) ∧ Aside0 (Kd.S (Kd.slice 3 (Kd.int .i64)) 22 wr w.heap.size (fun _ => True) v6 os) ∧ Aside0 (Below w.heap.size w wr))
      case atStart => exact ⟨0, [], by omega, by omega, by omega, rfl, ⟨by simpa using HO.out, by simp⟩, HS2, HB2⟩
      case round =>
        obtain ⟨p, os, hp0, hp1, hgg, rfl, HM, HS, HB⟩ := hrel
        by_cases hlt : p < a0
        · obtain ⟨hm, hl⟩ := HM.out
          rw [show (a0 - p).toNat = (a0 - (p + 1)).toNat + 1 by omega] at hm
          unfold cycD at hm
          obtain ⟨t, ht, hm⟩ := Option.bind_eq_some_iff.mp hm
          obtain ⟨t1, t2⟩ := t
          simp only at hm
          have HL := Aside0.mk ht
          have HN := Aside0.mk hl
          have hwr : IntKind.i64.wrap (p + 1) = p + 1 := IntWalk.i64_in _ (by omega)
          clear ht hl HM
          by_cases h0 : t1 = 0
          · subst h0
            rw [if_pos rfl] at hm
            obtain ⟨m, hmin, hm⟩ := Option.bind_eq_some_iff.mp hm
            have HMN := Aside0.mk hmin
            clear hmin
            by_cases h1 : m = p
            · subst h1
              rw [if_pos rfl] at hm
              have HM := Aside0.mk hm
              clear hm
              go_wp2_with (first | (go_at_call 40; refine (impl_leadOf.callsR k a0 a1 m 0 t2 _ HL.out).mono ?_; rintro e w3 ⟨v3, rfl, hR, hB⟩; have hR' := hR rfl; obtain ⟨Ac, cc, rfl, hle, hC⟩ := Kd.R_reads hR'; have HC3 := Aside0.mk hC; have HL3 := Aside0.mk hle; have HRB := Aside0.mk (Kd.R_base hR'); have HR3 := Aside0.mk (Kd.R_tight rfl (Kd.R_lower hR' HB.out.size)); have HS3 := Aside0.mk (Kd.S_mono (ok' := fun k_ => True ∧ ¬ some k_ = (.slice Ac t2.length cc : Value).ownBlock) (Kd.S_old HS.out hB) (fun k_ hk => ⟨trivial, fun e_ => Nat.lt_irrefl _ (Nat.lt_of_lt_of_le hk.2 (HRB.out k_ e_.symm))⟩)); have HB3 := Aside0.mk (below_then HB.out HB.out.size hB); clear hB hR hR' hC hle) | (go_at_call 41; refine (slices_Min_int_int.calls Ac cc t2 m _ HC3.out HL3.out HMN.out).mono ?_; rintro e w4 ⟨rfl, ⟨nd, rfl⟩⟩) | ((with_reducible refine gate_builtin (b := .append) (xs := #[.tmp 34, .tmp 36]) rfl ?_); at_builtin; refine Kd.S_append (Kd.slice 3 (Kd.int .i64)) (w0 := w) w.heap.size rfl (.tmp 34) (.tmp 36) 28 22 (.slice none 0 0) 24 rfl Try.underlying28 info22 rfl (by decide) (by omega) _ os t2 [.slice Ac t2.length cc] (fun _ => True) (fun k_ => some k_ = (.slice Ac t2.length cc : Value).ownBlock) rfl rfl ?aP (fun k_ hk_ => ⟨trivial, fun e_ => Nat.lt_irrefl _ (Nat.lt_of_lt_of_le (Kd.S_lt HS.out k_ e_.symm) (HRB.out k_ hk_.symm))⟩) ?aF ?aO ?aB ?aS ?aL ?_; (case aP => exact Kd.M_row (by (with_reducible repeat (first | apply Kd.R_alloc | apply Kd.R_drewN | apply Kd.R_drew)); exact HR3.out)); (case aB => exact (by repeat (first | (with_reducible first | apply below_alloc | apply pw_below_drewN | apply below_drew1) | exact HB3.out))); (case aF => exact (fun _ _ => trivial)); (case aO => exact (by (with_reducible repeat (first | apply Kd.S_alloc | apply Kd.S_drewN | apply Kd.S_drew)); exact HS3.out)); (case aS => exact (below_size (by repeat (first | (with_reducible first | apply below_alloc | apply pw_below_drewN | apply below_drew1) | exact HB3.out)))); (case aL => have := HN.out; omega); intro v5 w5 ho hb _ _; have HS6 := Aside0.mk ho; have HB6 := Aside0.mk hb; clear ho hb))
              go_roundg (a0 - (m + 1)).toNat
              case measure => omega
              case rel => exact ⟨m + 1, os ++ [t2], by omega, by omega, Nat.le_refl _, by go_num, ⟨HM.out, by have := HN.out; simp; omega⟩, HS6, HB6⟩
            · rw [if_neg h1] at hm
              have HM := Aside0.mk hm
              clear hm
              go_wp2_with (first | (go_at_call 40; refine (impl_leadOf.callsR k a0 a1 p 0 t2 _ HL.out).mono ?_; rintro e w3 ⟨v3, rfl, hR, hB⟩; obtain ⟨Ac, cc, rfl, hle, hC⟩ := Kd.R_reads (hR rfl); have HC3 := Aside0.mk hC; have HL3 := Aside0.mk hle; have HS3 := Aside0.mk (Kd.S_below HS.out hB); have HB3 := Aside0.mk (below_then HB.out HB.out.size hB); clear hB hR hC hle) | (go_at_call 41; refine (slices_Min_int_int.calls Ac cc t2 m _ HC3.out HL3.out HMN.out).mono ?_; rintro e w4 ⟨rfl, ⟨nd, rfl⟩⟩))
              go_roundg (a0 - (p + 1)).toNat
              case measure => omega
              case rel => exact ⟨p + 1, os, by omega, by omega, Nat.le_refl _, by go_num, ⟨HM.out, by have := HN.out; omega⟩, ⟨Kd.S_drewN HS3.out nd⟩, ⟨below_then HB3.out HB3.out.size (pw_below_drewN (Below.refl _ _) nd)⟩⟩
          · rw [if_neg h0] at hm
            have HM := Aside0.mk hm
            clear hm
            go_wp2_with (go_at_call 40; refine (impl_leadOf.callsR k a0 a1 p t1 t2 _ HL.out).mono ?_; rintro e w3 ⟨v3, rfl, _, hB⟩; have HS3 := Aside0.mk (Kd.S_below HS.out hB); have HB3 := Aside0.mk (below_then HB.out HB.out.size hB); clear hB)
            go_roundg (a0 - (p + 1)).toNat
            case measure => omega
            case rel => exact ⟨p + 1, os, by omega, by omega, Nat.le_refl _, by go_num, ⟨HM.out, by have := HN.out; omega⟩, HS3, HB3⟩
        · obtain rfl : p = a0 := by omega
          obtain ⟨hm, _⟩ := HM.out
          rw [show (p - p).toNat = 0 by omega] at hm
          unfold cycD at hm
          obtain rfl := Option.some.inj hm
          clear hm HM HO
          go_wp2
          go_ret2
          exact ⟨_, rfl, HS.out, HB.out⟩
    · rw [if_neg h1] at h; cases h
  · rw [if_neg h0] at h
    simp only [Option.some.injEq, Prod.mk.injEq] at h
    obtain ⟨rfl, rfl⟩ := h
    have hbf : b = false := by simpa using h0
    subst hbf
    clear h0
    go_enter Try.func15, Try.ntmps15
    go_wp2_with (go_at_call 39; refine (impl_isTable.calls a0 a1 none 0 [] false _ (Kd.C_nil _ _) (Nat.le_refl _) HT.out).mono ?_; rintro e w1 ⟨rfl, hB⟩; have HB1 := Aside0.mk hB; clear hB)
    go_ret2
    exact ⟨_, rfl, Kd.S_nil _ _ _ _ _, HB1.out⟩

end Go.Proofs.Ytejchneeheeldaa.P
