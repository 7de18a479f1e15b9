/- A part of this seat's proofs: contracts of the translated functions, written by the session's own program (gp.py) out of the kit's print.py and the session's own contracts; no conditions of its own. -/
import Derived.Test.YteihhjieihgojaaGreatPx0
import Derived.Test.YteihhjieihgojaaGreatPx1
import Derived.Test.YteihhjieihgojaaGreatPx2
import Derived.Test.YteihhjieihgojaaGreatPx3
import Derived.Test.YteihhjieihgojaaGreatPx4
import Derived.Test.YteihhjieihgojaaGreatPx9
namespace Go.Proofs.YteihhjieihgojaaGreat.P
open Go.RowKit Go.Proofs.YteihhjieihgojaaGreatW.PrintWords Go.Proofs.YteihhjieihgojaaGreatW.PrintLast Go.Proofs.YteihhjieihgojaaGreatW.PrintMore
attribute [local go_sem] max2_int min2_int max_two min_two max_three min_three max_four min_four   -- for this text's walks alone
set_option linter.unusedVariables false
set_option linter.unusedSimpArgs false

attribute [local go_sem high] eqA41
/-! ### given: 16_longFactors.tpl -/
/-- The greatest order of the factors i, i + 1, .. of the next d. -/
def lfMost (k : Nat) (n : Int) : Nat → Int → Int → Option Int
  | 0, _, m => some m
  | d + 1, i, m => (impl_orderOf.f k n i).bind fun t => lfMost k n d (i + 1) (mx m t)
theorem lfMost_all {k : Nat} {n : Int} : ∀ {d : Nat} {i m r : Int}, lfMost k n d i m = some r → ∀ x, i ≤ x → x < i + d → ∃ v, impl_orderOf.f k n x = some v
  | 0, i, m, r, _, x, h1, h2 => by omega
  | d + 1, i, m, r, h, x, h1, h2 => by
    obtain ⟨t, ht, h⟩ := Option.bind_eq_some_iff.mp h
    rcases Int.lt_or_eq_of_le h1 with h3 | h3
    · exact lfMost_all h x (by omega) (by omega)
    · subst h3; exact ⟨t, ht⟩
theorem lfMost_mono {k : Nat} {n : Int} : ∀ (d : Nat) (i m : Int), LeO (lfMost k n d i m) (lfMost (k + 1) n d i m)
  | 0, _, _ => LeO.refl _
  | d + 1, i, m => by
    intro r h
    obtain ⟨t, ht, h⟩ := Option.bind_eq_some_iff.mp h
    show (impl_orderOf.f (k + 1) n i).bind _ = some r
    rw [impl_orderOf.mono _ _ k _ ht]
    exact lfMost_mono d (i + 1) (mx m t) r h
def impl_LongFactors.f (k : Nat) (a0 : Int) : Option (List Int × Int × Bool) :=
  if inR a0 3 60 = true then (lfMost k a0 a0.toNat 0 0).bind fun m => some (numsW (fun x => impl_orderOf.f k a0 x == some m) 0 (a0 - 1), m, true) else some ([], 0, false)

set_option maxHeartbeats 2000000 in
theorem impl_LongFactors_1.asks (k : Nat) (a0 m : Int) (B C : Nat) (w : World) (hB : B < w.heap.size) (hC : C < w.heap.size) (hall : ∀ x, 0 ≤ x → x ≤ a0 - 1 → ∃ v, impl_orderOf.f k a0 x = some v)
    (hb : w.cell? ⟨B, 0, none⟩ = some (.int .i64 a0)) (hc : w.cell? ⟨C, 0, none⟩ = some (.int .i64 m)) :
    Asks Tryz.prog 51 #[.pointer (some ⟨B, 0, none⟩), .pointer (some ⟨C, 0, none⟩)] (Value.int .i64) (fun x => impl_orderOf.f k a0 x == some m) (fun x => 0 ≤ x ∧ x ≤ a0 - 1) w := by
  intro W x hW hx
  obtain ⟨v, hv⟩ := hall x hx.1 hx.2
  have hb' : W.cell? ⟨B, 0, none⟩ = some (.int .i64 a0) := (hW.cell (p := ⟨B, 0, none⟩) hB).trans hb
  have hc' : W.cell? ⟨C, 0, none⟩ = some (.int .i64 m) := (hW.cell (p := ⟨C, 0, none⟩) hC).trans hc
  have HV := Aside0.mk hv
  have HE := Aside0.mk (show (v == m) = (impl_orderOf.f k a0 x == some m) by rw [hv]; rfl)
  clear hb hc hW hall hv
  go_enter Tryz.func51, Tryz.ntmps51
  go_wp2
  repeat (go_quiet (first | (go_at_call 39; (with_reducible refine (impl_orderOf.calls k a0 x v _ HV.out).mono ?_); rintro e w' ⟨rfl, ⟨nd, rfl⟩⟩; (try first | exact ⟨rfl, _, World.drewN_drewN _ _ _⟩ | exact ⟨rfl, _, Eq.trans (World.drewN_drewN _ _ _) (congrArg (World.drewN _) (Nat.add_assoc _ _ _))⟩))); try go_wp2)
  go_ret
  refine ⟨?_, by repeat (first | exact Below.refl _ _ | apply pw_below_drewN | apply below_drew1 | apply below_alloc)⟩
  rw [← HE.out]
  first | rfl | (simp; done)
theorem impl_LongFactors.mono : ∀ a0 k, LeO (impl_LongFactors.f k a0) (impl_LongFactors.f (k + 1) a0) := by
  intro a0 k r h
  unfold impl_LongFactors.f at h ⊢
  by_cases hq : inR a0 3 60 = true
  · rw [if_pos hq] at h ⊢
    obtain ⟨m, hm, h⟩ := Option.bind_eq_some_iff.mp h
    have hall := lfMost_all hm
    rw [lfMost_mono _ _ _ _ hm, Option.bind_some, ← Option.some.inj h]
    obtain ⟨h0, h1⟩ := inR_true.1 hq
    have e : numsW (fun x => impl_orderOf.f (k + 1) a0 x == some m) 0 (a0 - 1) = numsW (fun x => impl_orderOf.f k a0 x == some m) 0 (a0 - 1) := by
      unfold numsW
      apply List.filter_congr
      intro x hx
      obtain ⟨j, hj, rfl⟩ := List.mem_map.1 hx
      have hj2 := List.mem_range.1 hj
      obtain ⟨v, hv⟩ := hall (0 + (j : Int)) (by omega) (by omega)
      rw [hv, impl_orderOf.mono _ _ k _ hv]
    rw [e]
  · rw [if_neg hq] at h ⊢; exact h

set_option maxHeartbeats 4000000 in
theorem impl_LongFactors.calls (k : Nat) (a0 : Int) (r1 : List Int) (r2 : Int) (r3 : Bool) (w : World) (h : impl_LongFactors.f k a0 = some (r1, r2, r3)) :
    Calls Tryz.prog 18 #[.int .i64 a0] w fun e w' => ∃ v0_ : Value, e = .returned (.tuple #[v0_, .int .i64 r2, .bool r3]) ∧ Kd.R (Kd.int .i64) 3 w' w.heap.size (fun _ => True) v0_ r1 ∧ Below w.heap.size w w' := by
  unfold impl_LongFactors.f at h
  rcases Bool.eq_false_or_eq_true (inR a0 3 60) with hq | hq
  · have HQ := Aside0.mk hq
    rw [hq, if_pos rfl] at h
    obtain ⟨h0, h1⟩ := inR_true.1 hq
    obtain ⟨m, hm, h⟩ := Option.bind_eq_some_iff.mp h
    simp only [Option.some.injEq, Prod.mk.injEq] at h
    obtain ⟨rfl, rfl, rfl⟩ := h
    have HALL := Aside0.mk (fun x (h2 : 0 ≤ x) (h3 : x ≤ a0 - 1) => lfMost_all hm x h2 (by omega))
    have HM := Aside0.mk hm
    clear hq hm
    clear h
    go_enter Tryz.func18, Tryz.ntmps18
    go_upto_block 0 with (first | (go_at_call 49; refine (impl_isCircle.is _ _ true HQ.out).mono ?_; rintro e w' ⟨rfl, ⟨nd, rfl⟩⟩) | fail)
    (try simp only [Act.put, List.setIfInBounds_toArray, List.set_cons_zero, List.set_cons_succ])
    have z0 : ∀ nd, (((w.alloc (Obj.cells #[Value.int IntKind.i64 a0] 3)).drewN nd).alloc (Obj.cells #[Value.int IntKind.i64 0] 3)).cell? ⟨w.heap.size, 0, none⟩ = some (.int .i64 a0) := fun nd => by
      refine cell_later _ (cell_drawn _ (cell_new rfl))
    have z1 : ∀ nd, (((w.alloc (Obj.cells #[Value.int IntKind.i64 a0] 3)).drewN nd).alloc (Obj.cells #[Value.int IntKind.i64 0] 3)).cell? ⟨w.heap.size + 1, 0, none⟩ = some (.int .i64 0) := fun nd => by
      refine cell_new (by simp)
    have z2 : ∀ nd, Below w.heap.size w (((w.alloc (Obj.cells #[Value.int IntKind.i64 a0] 3)).drewN nd).alloc (Obj.cells #[Value.int IntKind.i64 0] 3)) := fun nd => below_alloc (pw_below_drewN (below_alloc (Below.refl _ _) _) _) _
    have Z0 := Aside0.mk z0
    have Z1 := Aside0.mk z1
    have Z2 := Aside0.mk z2
    clear z0 z1 z2
    go_cut [] (fun wc => Aside0 (Below w.heap.size w wc) ∧ Aside0 (w.heap.size + 2 ≤ wc.heap.size) ∧ wc.cell? ⟨w.heap.size, 0, none⟩ = some (.int .i64 a0) ∧ wc.cell? ⟨w.heap.size + 1, 0, none⟩ = some (.int .i64 m))
    case first =>
      go_wp2
      go_loopg [11] a0.toNat (fun gg v11 wr => ∃ (i x : Int) (d : Nat), v11 = .int .i64 i ∧ 0 ≤ i ∧ i + d = a0 ∧ d ≤ gg ∧ Aside0 (lfMost k a0 d i x = some m) ∧ Aside0 (Below w.heap.size w wr) ∧ Aside0 (w.heap.size + 2 ≤ wr.heap.size) ∧ wr.cell? ⟨w.heap.size, 0, none⟩ = some (.int .i64 a0) ∧ wr.cell? ⟨w.heap.size + 1, 0, none⟩ = some (.int .i64 x) ∧ wr.frozen? ⟨w.heap.size + 1, 0, none⟩ = false)
      case atStart => exact ⟨0, 0, a0.toNat, rfl, by omega, by omega, Nat.le_refl _, HM, ⟨Z2.out _⟩, ⟨by simp⟩, Z0.out _, Z1.out _, blk_frozen (by have := blk_new ((w.alloc (Obj.cells #[Value.int IntKind.i64 a0] 3)).drewN nd) (Obj.cells #[Value.int IntKind.i64 0] 3); simpa using this) 0⟩
      case round =>
        obtain ⟨i, x, d, rfl, hi0, hid, hdg, HL, HB, HS, hc0, hc1, hf1⟩ := hrel
        cases d with
        | zero =>
          have hlt : ¬ i < a0 := by omega
          have hx : x = m := Option.some.inj HL.out
          subst hx
          go_wp2
          go_meet
          case rel => exact ⟨HB, HS, hc0, hc1⟩
        | succ d =>
          have hlt : i < a0 := by omega
          obtain ⟨t, ht, hr⟩ := Option.bind_eq_some_iff.mp HL.out
          have HT := Aside0.mk ht
          have HR := Aside0.mk hr
          clear ht hr HL
          go_wp2
          go_region_with (go_at_call 39; refine (impl_orderOf.calls k a0 i t _ HT.out).mono ?_; rintro e w' ⟨rfl, ⟨nd2, rfl⟩⟩)
          all_goals
            generalize hy : (if x < t then t else x) = y
            have hy' : y = mx x t := hy.symm
            clear hy
            go_wp2
            go_roundg d
            case measure => omega
            case rel =>
              refine ⟨i + 1, y, d, ?_, by omega, by omega, Nat.le_refl _, ⟨by rw [hy']; exact HR.out⟩, ⟨below_set (pw_below_drewN HB.out _) (by simp)⟩, ⟨by have := HS.out; simp; omega⟩, ?_, ?_, ?_⟩
              · first | rfl | (simp only [i64_w]; congr 1; unfold wrap64; omega) | (congr 1; unfold wrap64; omega)
              · rw [cell_far (by simp)]; exact hc0
              · rw [hy']; exact World.cell?_setCell_same _ _ _ (cell_drawn _ hc1)
              · simp [hf1]
    case rest =>
      obtain ⟨HB, HS, hc0, hc1⟩ := hcut
      have HK := Aside0.mk (fun (W : World) (hb : Below wc.heap.size wc W) => impl_numbersWith.ask 0 (a0 - 1) 51 #[.pointer (some ⟨w.heap.size, 0, none⟩), .pointer (some ⟨w.heap.size + 1, 0, none⟩)] (fun z => impl_orderOf.f k a0 z == some m) (fun z => 0 ≤ z ∧ z ≤ a0 - 1)
        W (enters_of Tryz.func51 (by kernel_rfl) rfl) (by omega) (by omega)
        (impl_LongFactors_1.asks k a0 m _ _ W (by have := HS.out; have := hb.size; omega) (by have := HS.out; have := hb.size; omega) HALL.out ((hb.cell (p := ⟨w.heap.size, 0, none⟩) (by have := HS.out; simp; omega)).trans hc0) ((hb.cell (p := ⟨w.heap.size + 1, 0, none⟩) (by have := HS.out; simp; omega)).trans hc1)) (fun z hz hz2 => ⟨hz, hz2⟩))
      clear HALL HM Z0 Z1 Z2
      have hwr : IntKind.i64.wrap (a0 - 1) = a0 - 1 := IntWalk.i64_in _ (by omega)
      go_wp2
      go_region_held3 (fun w' => Aside0 (Below wc.heap.size wc w') ∧ w'.cell? ⟨w.heap.size, 0, none⟩ = some (.int .i64 a0) ∧ w'.cell? ⟨w.heap.size + 1, 0, none⟩ = some (.int .i64 m))
        (first
          | (refine ⟨?_, ?_, ?_⟩; assumption; assumption; assumption)
          | (refine ⟨⟨?_⟩, ?_, ?_⟩; exact below_drew (Below.refl _ _); assumption; assumption))
        ((go_at_call 50; refine (HK.out _ (below_drew (Below.refl _ _))).mono ?_; rintro e w1 ⟨v, rfl, ho, hb⟩; obtain ⟨A, c, rfl⟩ := Kd.R_slice ho; have z1 : Aside0 (Below wc.heap.size wc w1) := ⟨below_then (below_drew (Below.refl _ _)) (Nat.le_refl _) hb⟩; have z2 : w1.cell? ⟨w.heap.size, 0, none⟩ = some (.int .i64 a0) := (hb.cell (p := ⟨w.heap.size, 0, none⟩) (by have := HS.out; simp; omega)).trans hc0; have z3 : w1.cell? ⟨w.heap.size + 1, 0, none⟩ = some (.int .i64 m) := (hb.cell (p := ⟨w.heap.size + 1, 0, none⟩) (by have := HS.out; simp; omega)).trans hc1; have HO := Aside0.mk ho; clear ho hb))
      all_goals
        go_wp2
        go_ret3
        exact ⟨_, rfl, Kd.R_lower HO.out HB.out.size, below_then HB.out HB.out.size z1.out⟩
  · have HQ := Aside0.mk hq
    rw [hq, if_neg (by simp)] at h
    simp only [Option.some.injEq, Prod.mk.injEq] at h
    obtain ⟨rfl, rfl, rfl⟩ := h
    clear hq
    go_enter Tryz.func18, Tryz.ntmps18
    go_wp2_with (first | (go_at_call 49; refine (impl_isCircle.is _ _ false HQ.out).mono ?_; rintro e w' ⟨rfl, ⟨nd, rfl⟩⟩) | fail)
    go_ret3
    exact ⟨_, rfl, Kd.R_nil _ _ _ _ _, by repeat (first | exact Below.refl _ _ | apply pw_below_drewN | apply below_alloc)⟩

/-! ### spec_LongFactors: function 19 -/
def spec_LongFactors.l0 : Nat → Int → Int → List Int → Int → Option (List Int × Int × Bool)
 | 0, _, _, _, _ => none
 | k + 1, x0, x5, x6, x7 => if x7 < x0 then ((spec_taUndone.f x0 x7).bind fun t309 => (if t309 = true then ((spec_taOrder.f k x0 x7).bind fun t310 => (if t310 > x5 then (if ([] : List Int).length < 17592186044416 then (spec_LongFactors.l0 k x0 t310 (([] : List Int) ++ [x7]) (wrap64 (x7 + 1))) else (none)) else (if t310 = x5 then (if x6.length < 17592186044416 then (spec_LongFactors.l0 k x0 x5 (x6 ++ [x7]) (wrap64 (x7 + 1))) else (none)) else (spec_LongFactors.l0 k x0 x5 x6 (wrap64 (x7 + 1)))))) else (spec_LongFactors.l0 k x0 x5 x6 (wrap64 (x7 + 1))))) else (some (x6, x5, true))
def spec_LongFactors.f (k : Nat) (a0 : Int) : Option (List Int × Int × Bool) := (spec_srPoints.f a0).bind fun t308 => (if t308 = true then (spec_LongFactors.l0 k a0 0 ([] : List Int) 1) else (some (([] : List Int), 0, false)))
theorem spec_LongFactors.mono_l : ∀ k, (∀ y0 y1 y2 y3, LeO (spec_LongFactors.l0 k y0 y1 y2 y3) (spec_LongFactors.l0 (k + 1) y0 y1 y2 y3))
 | 0 => fun _ _ _ _ r h => by simp [spec_LongFactors.l0] at h
 | k + 1 => by
  have ih0 := spec_LongFactors.mono_l k
  ·intro y0 y1 y2 y3
   unfold spec_LongFactors.l0
   repeat' with_reducible first | apply ih0 | apply spec_taOrder.mono | exact LeO.refl _ | exact LeO.none _ | refine LeO.ite ?_ ?_ | refine LeO.bind ?_ (fun _ => ?_)
theorem spec_LongFactors.mono : ∀ a0 k, LeO (spec_LongFactors.f k a0) (spec_LongFactors.f (k + 1) a0) := by
 intro a0 k
 have ih0 := spec_LongFactors.mono_l k
 unfold spec_LongFactors.f
 repeat' with_reducible first | apply ih0 | apply spec_taOrder.mono | exact LeO.refl _ | exact LeO.none _ | refine LeO.ite ?_ ?_ | refine LeO.bind ?_ (fun _ => ?_)
set_option maxHeartbeats 8000000 in
set_option maxRecDepth 100000 in
theorem spec_LongFactors.calls (k : Nat) (a0 : Int) (r1 : List Int) (r2 : Int) (r3 : Bool) (w : World) (h : spec_LongFactors.f k a0 = some (r1, r2, r3)) :
  Calls Tryz.prog 19 #[.int .i64 a0] w fun e w' => ∃ v0_ : Value, e = .returned (.tuple #[v0_, .int .i64 r2, .bool r3]) ∧ Kd.R (Kd.int .i64) 3 w' w.heap.size (fun _ => True) v0_ r1 ∧ Below w.heap.size w w' := by
 have HB := Aside0.mk (Below.refl w.heap.size w)
 have H : ((spec_srPoints.f a0).bind fun t308 => (if t308 = true then (spec_LongFactors.l0 k a0 0 ([] : List Int) 1) else (some (([] : List Int), 0, false)))) = some (r1, r2, r3) := h
 clear h
 replace H := Option.bind_eq_some_iff.mp H
 obtain ⟨t308, A20, H⟩ := H
 (try dsimp only at H)
 have A2 := Aside0.mk A20
 clear A20
 by_cases c3 : t308 = true
 rotate_left
 ·replace c3 := Bool.eq_false_iff.mpr c3
  subst c3
  rw [if_neg (show ¬ (false = true) by decide)] at H
  simp only [Option.some.injEq, Prod.mk.injEq] at H
  obtain ⟨rfl, rfl, rfl⟩ := H
  go_enter Tryz.func19, Tryz.ntmps19
  go_wp2_with (first | ((with_reducible refine gate_callee (f := 52) rfl ?_); refine gl_ (some 10) Tryz.func52 #[.int .i64 a0] ?_; (with_reducible refine (spec_srPoints.calls a0 false _ A2.out).mono ?_); rintro e w' ⟨rfl, ⟨nd, rfl⟩⟩; refine ⟨_, rfl, ?_⟩))
  go_ret3
  exact ⟨_, by first | rfl | (simp [errW_none, errW_some] <;> rfl) | (simp [*, errW_none, errW_some] <;> rfl), by first | exact Kd.R_nil _ _ _ _ _ | exact Kd.N_nil _ _ _ _ _ | exact Kd.V_nil _ _ _ _ _ | exact Kd.Q_nil _ _ _ _ _ | exact Kd.S_nil _ _ _ _ _, bb_⟩

 subst c3
 rw [if_pos rfl] at H
 have H' := Aside0.mk H
 clear H
 go_enter Tryz.func19, Tryz.ntmps19
 go_wp2_with (first | ((with_reducible refine gate_callee (f := 52) rfl ?_); refine gl_ (some 10) Tryz.func52 #[.int .i64 a0] ?_; (with_reducible refine (spec_srPoints.calls a0 true _ A2.out).mono ?_); rintro e w' ⟨rfl, ⟨nd, rfl⟩⟩; refine ⟨_, rfl, ?_⟩))
 go_loopg [5, 6, 7] k (fun kq v5 v6 v7 w' => ∃ (x5_1 : Int) (x6_1 : List Int) (x7_1 : Int), v5 = .int .i64 x5_1 ∧ v7 = .int .i64 x7_1 ∧ Aside0 (spec_LongFactors.l0 kq a0 x5_1 x6_1 x7_1 = some (r1, r2, r3)) ∧ Aside0 (kq ≤ k) ∧ Aside0 (Kd.R (Kd.int .i64) 3 w' w.heap.size (fun _ => True) v6 x6_1) ∧ Aside0 (Below w.heap.size w w'))
 case atStart => exact ⟨(0), (([] : List Int)), (1), (by first | rfl | (simp; done) | (simp [*]; done)), (by first | rfl | (simp; done) | (simp [*]; done)), H', ⟨Nat.le_refl _⟩, ⟨by first | exact Kd.R_nil _ _ _ _ _ | exact Kd.N_nil _ _ _ _ _ | exact Kd.V_nil _ _ _ _ _ | exact Kd.Q_nil _ _ _ _ _ | exact Kd.S_nil _ _ _ _ _⟩, ⟨bb_⟩⟩
 case round =>
  clear H'
  (try clear c1); (try clear p2); (try clear c3)
  obtain ⟨x5_1, x6_1, x7_1, rfl, rfl, HA, HK1, HO_6, HB⟩ := hrel
  cases gk with
  | zero => exact absurd HA.out (by simp [spec_LongFactors.l0])
  | succ k1 =>
   have H := HA.out
   clear HA
   simp only [spec_LongFactors.l0] at H
   by_cases c4 : x7_1 < a0
   rotate_left
   ·rw [if_neg c4] at H
    have c4b0 : decide (x7_1 < a0) = false := decide_eq_false c4
    clear c4
    simp only [Option.some.injEq, Prod.mk.injEq] at H
    obtain ⟨rfl, rfl, rfl⟩ := H
    go_wp2
    go_ret3
    exact ⟨_, by first | rfl | (simp [errW_none, errW_some] <;> rfl) | (simp [*, errW_none, errW_some] <;> rfl), by (with_reducible repeat (first | apply Kd.R_alloc | apply Kd.R_drewN | apply Kd.R_drew)); exact HO_6.out, bb_⟩
   rw [if_pos c4] at H
   have c4b0 : decide (x7_1 < a0) = true := decide_eq_true c4
   clear c4
   replace H := Option.bind_eq_some_iff.mp H
   obtain ⟨t309, A50, H⟩ := H
   (try dsimp only at H)
   have A5 := Aside0.mk A50
   clear A50
   by_cases c6 : t309 = true
   rotate_left
   ·replace c6 := Bool.eq_false_iff.mpr c6
    subst c6
    rw [if_neg (show ¬ (false = true) by decide)] at H
    have H' := Aside0.mk H
    clear H
    go_wp2_with (first | ((with_reducible refine gate_callee (f := 38) rfl ?_); refine gl_ (some 19) Tryz.func38 #[.int .i64 a0, .int .i64 x7_1] ?_; (with_reducible refine (spec_taUndone.calls a0 x7_1 false _ A5.out).mono ?_); rintro e w' ⟨rfl, ⟨nd, rfl⟩⟩; refine ⟨_, rfl, ?_⟩))
    go_roundg k1
    case measure => have := HK1.out; omega
    case rel => exact ⟨(x5_1), (x6_1), (wrap64 (x7_1 + 1)), (by first | rfl | (simp; done) | (simp [*]; done)), (by first | rfl | (simp; done) | (simp [*]; done)), H', ⟨by have := HK1.out; omega⟩, ⟨by (with_reducible repeat (first | apply Kd.R_alloc | apply Kd.R_drewN | apply Kd.R_drew)); exact HO_6.out⟩, ⟨bb_⟩⟩
   subst c6
   rw [if_pos rfl] at H
   replace H := Option.bind_eq_some_iff.mp H
   obtain ⟨t310, A70, H⟩ := H
   (try dsimp only at H)
   have A7 := Aside0.mk A70
   clear A70
   by_cases c8 : t310 > x5_1
   ·rw [if_pos c8] at H
    have c8b0 : decide (x5_1 < t310) = true := decide_eq_true c8
    clear c8
    by_cases c9 : ([] : List Int).length < 17592186044416
    rotate_left
    ·rw [if_neg c9] at H
     exact absurd H (by simp)
    rw [if_pos c9] at H
    have LMc9 := Aside0.mk c9
    clear c9
    obtain ⟨y311, hy311⟩ : ∃ y_ : List Int, y_ = (([] : List Int) ++ [x7_1]) := ⟨_, rfl⟩
    replace H : (spec_LongFactors.l0 k1 a0 t310 y311 (wrap64 (x7_1 + 1))) = some (r1, r2, r3) := by first | (rw [hy311]; with_reducible exact H) | (have H2_ := (Option.bind_some _ _).symm.trans H; rw [hy311]; with_reducible exact H2_) | (have H2_ := (Option.bind_some _ _).symm.trans H; with_reducible exact H2_) | with_reducible exact H | (rw [hy311]; exact H) | exact H
    have Ny311 := Aside0.mk hy311
    clear hy311
    have H' := Aside0.mk H
    clear H
    go_wp2_with (first | ((with_reducible refine gate_callee (f := 38) rfl ?_); refine gl_ (some 19) Tryz.func38 #[.int .i64 a0, .int .i64 x7_1] ?_; (with_reducible refine (spec_taUndone.calls a0 x7_1 true _ A5.out).mono ?_); rintro e w' ⟨rfl, ⟨nd, rfl⟩⟩; refine ⟨_, rfl, ?_⟩) | ((with_reducible refine gate_callee (f := 40) rfl ?_); refine gl_ (some 23) Tryz.func40 #[.int .i64 a0, .int .i64 x7_1] ?_; (with_reducible refine (spec_taOrder.calls k1 a0 x7_1 t310 _ A7.out).mono ?_); rintro e w' ⟨rfl, ⟨nd, rfl⟩⟩; refine ⟨_, rfl, ?_⟩) | ((with_reducible refine gate_builtin (b := .append) (xs := #[.tmp 31, .tmp 33]) rfl ?_); at_builtin; refine Kd.R_append (Kd.int .i64) (w0 := w) w.heap.size rfl (.tmp 31) (.tmp 33) 33 3 (.int .i64 0) 8 rfl Tryz.underlying33 info3 rfl (by decide) (by omega) (.slice none 0 0) ([] : List Int) x7_1 [.int .i64 x7_1] (fun k_ => some k_ ≠ (u6 : Value).ownBlock) (fun _ => False) rfl rfl ?aP (fun _ hk => hk.elim) ?aF ?aO ?aB ?aS ?aL ?_; (case aP => exact rfl); (case aB => exact bb_); (case aF => exact (fun k_ hk => Kd.fresh' (Kd.R_lt (ru_ HO_6.out)) k_ hk)); (case aO => exact ((Kd.R_nil _ _ _ _ (fun k_ => some k_ ≠ (u6 : Value).ownBlock)))); (case aS => exact bz_); (case aL => have := LMc9.out; omega); intro v312 w10 ho hb hg hat; rw [← Ny311.out] at ho; have n0_ := Aside0.mk (Kd.R_after (Kd.R_apart_nil (ru_ HO_6.out)) hg hat); have n1_ := Aside0.mk (hb); have n2_ := Aside0.mk (ho); clear HO_6; clear HB; have HO_6 := n0_; have HB := n1_; have HO313 := n2_; clear n0_ n1_ n2_; clear ho hb hg hat))
    go_roundg k1
    case measure => have := HK1.out; omega
    case rel => exact ⟨(t310), (y311), (wrap64 (x7_1 + 1)), (by first | rfl | (simp; done) | (simp [*]; done)), (by first | rfl | (simp; done) | (simp [*]; done)), H', ⟨by have := HK1.out; omega⟩, ⟨by (with_reducible repeat (first | apply Kd.R_alloc | apply Kd.R_drewN | apply Kd.R_drew)); exact Kd.R_mono HO313.out (fun _ hk => trivial)⟩, ⟨bb_⟩⟩
   rw [if_neg c8] at H
   have c8b0 : decide (x5_1 < t310) = false := decide_eq_false c8
   clear c8
   by_cases c11 : t310 = x5_1
   rotate_left
   ·rw [if_neg c11] at H
    have c11b0 : (t310 == x5_1) = false := beq_eq_false_iff_ne.mpr c11
    have c11b1 : (t310 != x5_1) = true := bne_iff_ne.mpr c11
    have H' := Aside0.mk H
    clear H
    go_wp2_with (first | ((with_reducible refine gate_callee (f := 38) rfl ?_); refine gl_ (some 19) Tryz.func38 #[.int .i64 a0, .int .i64 x7_1] ?_; (with_reducible refine (spec_taUndone.calls a0 x7_1 true _ A5.out).mono ?_); rintro e w' ⟨rfl, ⟨nd, rfl⟩⟩; refine ⟨_, rfl, ?_⟩) | ((with_reducible refine gate_callee (f := 40) rfl ?_); refine gl_ (some 23) Tryz.func40 #[.int .i64 a0, .int .i64 x7_1] ?_; (with_reducible refine (spec_taOrder.calls k1 a0 x7_1 t310 _ A7.out).mono ?_); rintro e w' ⟨rfl, ⟨nd, rfl⟩⟩; refine ⟨_, rfl, ?_⟩))
    go_roundg k1
    case measure => have := HK1.out; omega
    case rel => exact ⟨(x5_1), (x6_1), (wrap64 (x7_1 + 1)), (by first | rfl | (simp; done) | (simp [*]; done)), (by first | rfl | (simp; done) | (simp [*]; done)), H', ⟨by have := HK1.out; omega⟩, ⟨by (with_reducible repeat (first | apply Kd.R_alloc | apply Kd.R_drewN | apply Kd.R_drew)); exact HO_6.out⟩, ⟨bb_⟩⟩
   rw [if_pos c11] at H
   have c11b0 : (t310 == x5_1) = true := beq_iff_eq.mpr c11
   have c11b1 : (t310 != x5_1) = false := bne_eq_false_iff_eq.mpr c11
   clear c11
   by_cases c12 : x6_1.length < 17592186044416
   rotate_left
   ·rw [if_neg c12] at H
    exact absurd H (by simp)
   rw [if_pos c12] at H
   have LMc12 := Aside0.mk c12
   clear c12
   obtain ⟨y314, hy314⟩ : ∃ y_ : List Int, y_ = (x6_1 ++ [x7_1]) := ⟨_, rfl⟩
   replace H : (spec_LongFactors.l0 k1 a0 x5_1 y314 (wrap64 (x7_1 + 1))) = some (r1, r2, r3) := by first | (rw [hy314]; with_reducible exact H) | (have H2_ := (Option.bind_some _ _).symm.trans H; rw [hy314]; with_reducible exact H2_) | (have H2_ := (Option.bind_some _ _).symm.trans H; with_reducible exact H2_) | with_reducible exact H | (rw [hy314]; exact H) | exact H
   have Ny314 := Aside0.mk hy314
   clear hy314
   have H' := Aside0.mk H
   clear H
   go_wp2_with (first | ((with_reducible refine gate_callee (f := 38) rfl ?_); refine gl_ (some 19) Tryz.func38 #[.int .i64 a0, .int .i64 x7_1] ?_; (with_reducible refine (spec_taUndone.calls a0 x7_1 true _ A5.out).mono ?_); rintro e w' ⟨rfl, ⟨nd, rfl⟩⟩; refine ⟨_, rfl, ?_⟩) | ((with_reducible refine gate_callee (f := 40) rfl ?_); refine gl_ (some 23) Tryz.func40 #[.int .i64 a0, .int .i64 x7_1] ?_; (with_reducible refine (spec_taOrder.calls k1 a0 x7_1 t310 _ A7.out).mono ?_); rintro e w' ⟨rfl, ⟨nd, rfl⟩⟩; refine ⟨_, rfl, ?_⟩) | ((with_reducible refine gate_builtin (b := .append) (xs := #[.tmp 31, .tmp 33]) rfl ?_); at_builtin; refine Kd.R_append (Kd.int .i64) (w0 := w) w.heap.size rfl (.tmp 31) (.tmp 33) 33 3 (.int .i64 0) 8 rfl Tryz.underlying33 info3 rfl (by decide) (by omega) u6 x6_1 x7_1 [.int .i64 x7_1] (fun _ => True) (fun _ => False) rfl rfl ?aP (fun _ hk => hk.elim) ?aF ?aO ?aB ?aS ?aL ?_; (case aP => exact rfl); (case aB => exact bb_); (case aF => exact (fun _ _ => trivial)); (case aO => exact (ru_ HO_6.out)); (case aS => exact bz_); (case aL => have := LMc12.out; omega); intro v315 w13 ho hb hg hat; rw [← Ny314.out] at ho; have n0_ := Aside0.mk (hb); have n1_ := Aside0.mk (ho); clear HB; clear HO_6; have HB := n0_; have HO316 := n1_; clear n0_ n1_; clear ho hb hg hat))
   go_roundg k1
   case measure => have := HK1.out; omega
   case rel => exact ⟨(x5_1), (y314), (wrap64 (x7_1 + 1)), (by first | rfl | (simp; done) | (simp [*]; done)), (by first | rfl | (simp; done) | (simp [*]; done)), H', ⟨by have := HK1.out; omega⟩, ⟨by (with_reducible repeat (first | apply Kd.R_alloc | apply Kd.R_drewN | apply Kd.R_drew)); exact HO316.out⟩, ⟨bb_⟩⟩
/-! ### laws_gChords: function 20 -/
def laws_gChords.l0 : Nat → List (S41) → List (S41) → Int → Int → Option (Bool)
 | 0, _, _, _, _ => none
 | k + 1, x0, x1, x12, x13 => if x13 < x12 then (if 0 ≤ x13 then (if x13 < (x0.length : Int) then (if x13 < (x1.length : Int) then (if (!(((rd_T41 x0 x13).f0) == ((rd_T41 x1 x13).f0)) || (!(((rd_T41 x0 x13).f1) == ((rd_T41 x1 x13).f1)))) = true then (some false) else (laws_gChords.l0 k x0 x1 x12 (wrap64 (x13 + 1)))) else (none)) else (none)) else (none)) else (some true)
def laws_gChords.f (k : Nat) (l0 : List (S41)) (l1 : List (S41)) : Option (Bool) := if (l0.length : Int) = (l1.length : Int) then (laws_gChords.l0 k l0 l1 (l0.length : Int) 0) else (some false)
theorem laws_gChords.mono_l : ∀ k, (∀ y0 y1 y2 y3, LeO (laws_gChords.l0 k y0 y1 y2 y3) (laws_gChords.l0 (k + 1) y0 y1 y2 y3))
 | 0 => fun _ _ _ _ r h => by simp [laws_gChords.l0] at h
 | k + 1 => by
  have ih0 := laws_gChords.mono_l k
  ·intro y0 y1 y2 y3
   unfold laws_gChords.l0
   repeat' with_reducible first | apply ih0 | exact LeO.refl _ | exact LeO.none _ | refine LeO.ite ?_ ?_ | refine LeO.bind ?_ (fun _ => ?_)
theorem laws_gChords.mono : ∀ a0 a1 k, LeO (laws_gChords.f k a0 a1) (laws_gChords.f (k + 1) a0 a1) := by
 intro a0 a1 k
 have ih0 := laws_gChords.mono_l k
 unfold laws_gChords.f
 repeat' with_reducible first | apply ih0 | exact LeO.refl _ | exact LeO.none _ | refine LeO.ite ?_ ?_ | refine LeO.bind ?_ (fun _ => ?_)
set_option maxHeartbeats 8000000 in
set_option maxRecDepth 100000 in
theorem laws_gChords.calls (k : Nat) (A0 : Option Addr) (c0 : Nat) (l0 : List (S41)) (A1 : Option Addr) (c1 : Nat) (l1 : List (S41)) (r : Bool) (w : World) (hr0 : Kd.C k41 w A0 l0.length l0) (hc0 : l0.length ≤ c0) (hr1 : Kd.C k41 w A1 l1.length l1) (hc1 : l1.length ≤ c1) (h : laws_gChords.f k l0 l1 = some r) :
  Calls Tryz.prog 20 #[.slice A0 l0.length c0, .slice A1 l1.length c1] w fun e w' => e = .returned (.bool r) ∧ Drawn0 w w' := by
 have hu41 := Tryz.underlying41
 have HR0 := Aside0.mk hr0
 have HC0 := Aside0.mk hc0
 clear hr0 hc0
 have HR1 := Aside0.mk hr1
 have HC1 := Aside0.mk hc1
 clear hr1 hc1
 have H : (if (l0.length : Int) = (l1.length : Int) then (laws_gChords.l0 k l0 l1 (l0.length : Int) 0) else (some false)) = some r := h
 clear h
 by_cases c3 : (l0.length : Int) = (l1.length : Int)
 rotate_left
 ·rw [if_neg c3] at H
  have c3b0 : ((l0.length : Int) == (l1.length : Int)) = false := beq_eq_false_iff_ne.mpr c3
  have c3b1 : ((l0.length : Int) != (l1.length : Int)) = true := bne_iff_ne.mpr c3
  have c3b2 : (l0.length == l1.length) = false := by first | simpa using c3 | (simp at c3 ⊢; omega)
  obtain rfl := Option.some.inj H
  go_enter Tryz.func20, Tryz.ntmps20
  go_wp2
  repeat (go_quiet (fail); try go_wp2)
  go_ret
  exact ⟨by first | rfl | (simp; done) | (simp [*]; done), by repeat (first | exact Drawn0.refl _ | apply Drawn0.step)⟩

 rw [if_pos c3] at H
 have c3b0 : ((l0.length : Int) == (l1.length : Int)) = true := beq_iff_eq.mpr c3
 have c3b1 : ((l0.length : Int) != (l1.length : Int)) = false := bne_eq_false_iff_eq.mpr c3
 have c3b2 : (l0.length == l1.length) = true := by first | simpa using c3 | (simp at c3 ⊢; omega)
 clear c3
 have H' := Aside0.mk H
 clear H
 go_enter Tryz.func20, Tryz.ntmps20
 go_wp2
 repeat (go_quiet (fail); try go_wp2)
 go_loopg [13] k (fun kq v13 w' => ∃ (x13_1 : Int), v13 = .int .i64 x13_1 ∧ Aside0 (laws_gChords.l0 kq l0 l1 (l0.length : Int) x13_1 = some r) ∧ Aside0 (kq ≤ k) ∧ Drawn0 w w')
 case atStart => exact ⟨(0), (by first | rfl | (simp; done) | (simp [*]; done)), H', ⟨Nat.le_refl _⟩, by repeat (first | exact Drawn0.refl _ | apply Drawn0.step)⟩
 case round =>
  clear H'
  (try clear c1); (try clear c2); (try clear p2); (try clear c3); (try clear c3b0); (try clear c3b1); (try clear c3b2)
  obtain ⟨x13_1, rfl, HA, HK1, ⟨m1, rfl⟩⟩ := hrel
  cases gk with
  | zero => exact absurd HA.out (by simp [laws_gChords.l0])
  | succ k1 =>
   have H := HA.out
   clear HA
   simp only [laws_gChords.l0] at H
   by_cases c4 : x13_1 < (l0.length : Int)
   rotate_left
   ·rw [if_neg c4] at H
    have c4b0 : decide (x13_1 < (l0.length : Int)) = false := decide_eq_false c4
    clear c4
    obtain rfl := Option.some.inj H
    go_wp2
    repeat (go_quiet (fail); try go_wp2)
    go_ret
    exact ⟨by first | rfl | (simp; done) | (simp [*]; done), by repeat (first | exact Drawn0.refl _ | apply Drawn0.step)⟩
   rw [if_pos c4] at H
   have c4b0 : decide (x13_1 < (l0.length : Int)) = true := decide_eq_true c4
   clear c4
   by_cases c5 : 0 ≤ x13_1
   rotate_left
   ·rw [if_neg c5] at H
    exact absurd H (by simp)
   rw [if_pos c5] at H
   have c5b0 : decide (0 ≤ x13_1) = true := decide_eq_true c5
   clear c5
   by_cases c6 : x13_1 < (l0.length : Int)
   rotate_left
   ·rw [if_neg c6] at H
    exact absurd H (by simp)
   rw [if_pos c6] at H
   have c6b0 : decide (x13_1 < (l0.length : Int)) = true := decide_eq_true c6
   clear c6
   by_cases c7 : x13_1 < (l1.length : Int)
   rotate_left
   ·rw [if_neg c7] at H
    exact absurd H (by simp)
   rw [if_pos c7] at H
   have c7b0 : decide (x13_1 < (l1.length : Int)) = true := decide_eq_true c7
   clear c7
   by_cases c8 : (!(((rd_T41 l0 x13_1).f0) == ((rd_T41 l1 x13_1).f0)) || (!(((rd_T41 l0 x13_1).f1) == ((rd_T41 l1 x13_1).f1)))) = true
   ·rw [if_pos c8] at H
    have c8b0 : (!(((rd_T41 l0 x13_1).f0) == ((rd_T41 l1 x13_1).f0)) || (!(((rd_T41 l0 x13_1).f1) == ((rd_T41 l1 x13_1).f1)))) = true := c8
    clear c8
    obtain rfl := Option.some.inj H
    have p317 : 0 ≤ (x13_1 : Int) := of_decide_eq_true (by assumption)
    have q317 : x13_1 < (l0.length : Int) := of_decide_eq_true (by assumption)
    obtain ⟨ad317, e317, hx317_0, hx317_1⟩ := at_T41 HR0.out x13_1 p317 q317
    cases e317
    replace p317 := eq_true p317
    replace q317 := eq_true q317
    have p318 : 0 ≤ (x13_1 : Int) := of_decide_eq_true (by assumption)
    have q318 : x13_1 < (l1.length : Int) := of_decide_eq_true (by assumption)
    obtain ⟨ad318, e318, hx318_0, hx318_1⟩ := at_T41 HR1.out x13_1 p318 q318
    cases e318
    replace p318 := eq_true p318
    replace q318 := eq_true q318
    go_wp2
    repeat (go_quiet (fail); try go_wp2)
    go_ret
    exact ⟨by first | rfl | (simp; done) | (simp [*]; done), by repeat (first | exact Drawn0.refl _ | apply Drawn0.step)⟩
   rw [if_neg c8] at H
   have c8b0 : (!(((rd_T41 l0 x13_1).f0) == ((rd_T41 l1 x13_1).f0)) || (!(((rd_T41 l0 x13_1).f1) == ((rd_T41 l1 x13_1).f1)))) = false := by simpa using c8
   clear c8
   have H' := Aside0.mk H
   clear H
   have p317 : 0 ≤ (x13_1 : Int) := of_decide_eq_true (by assumption)
   have q317 : x13_1 < (l0.length : Int) := of_decide_eq_true (by assumption)
   obtain ⟨ad317, e317, hx317_0, hx317_1⟩ := at_T41 HR0.out x13_1 p317 q317
   cases e317
   replace p317 := eq_true p317
   replace q317 := eq_true q317
   have p318 : 0 ≤ (x13_1 : Int) := of_decide_eq_true (by assumption)
   have q318 : x13_1 < (l1.length : Int) := of_decide_eq_true (by assumption)
   obtain ⟨ad318, e318, hx318_0, hx318_1⟩ := at_T41 HR1.out x13_1 p318 q318
   cases e318
   replace p318 := eq_true p318
   replace q318 := eq_true q318
   go_wp2
   repeat (go_quiet (fail); try go_wp2)
   go_roundg k1
   case measure => have := HK1.out; omega
   case rel => exact ⟨(wrap64 (x13_1 + 1)), (by first | rfl | (simp; done) | (simp [*]; done)), H', ⟨by have := HK1.out; omega⟩, by repeat (first | exact Drawn0.refl _ | apply Drawn0.step)⟩
/-! ### laws_gSame: function 21 -/
def laws_gSame.l0 : Nat → List Int → List Int → Int → Int → Option (Bool)
 | 0, _, _, _, _ => none
 | k + 1, x0, x1, x12, x13 => if x13 < x12 then (if 0 ≤ x13 then (if x13 < (x0.length : Int) then (if x13 < (x1.length : Int) then (if (rd x0 x13) = (rd x1 x13) then (laws_gSame.l0 k x0 x1 x12 (wrap64 (x13 + 1))) else (some false)) else (none)) else (none)) else (none)) else (some true)
def laws_gSame.f (k : Nat) (l0 : List Int) (l1 : List Int) : Option (Bool) := if (l0.length : Int) = (l1.length : Int) then (laws_gSame.l0 k l0 l1 (l0.length : Int) 0) else (some false)
theorem laws_gSame.mono_l : ∀ k, (∀ y0 y1 y2 y3, LeO (laws_gSame.l0 k y0 y1 y2 y3) (laws_gSame.l0 (k + 1) y0 y1 y2 y3))
 | 0 => fun _ _ _ _ r h => by simp [laws_gSame.l0] at h
 | k + 1 => by
  have ih0 := laws_gSame.mono_l k
  ·intro y0 y1 y2 y3
   unfold laws_gSame.l0
   repeat' with_reducible first | apply ih0 | exact LeO.refl _ | exact LeO.none _ | refine LeO.ite ?_ ?_ | refine LeO.bind ?_ (fun _ => ?_)
theorem laws_gSame.mono : ∀ a0 a1 k, LeO (laws_gSame.f k a0 a1) (laws_gSame.f (k + 1) a0 a1) := by
 intro a0 a1 k
 have ih0 := laws_gSame.mono_l k
 unfold laws_gSame.f
 repeat' with_reducible first | apply ih0 | exact LeO.refl _ | exact LeO.none _ | refine LeO.ite ?_ ?_ | refine LeO.bind ?_ (fun _ => ?_)
set_option maxHeartbeats 8000000 in
set_option maxRecDepth 100000 in
theorem laws_gSame.calls (k : Nat) (A0 : Option Addr) (c0 : Nat) (l0 : List Int) (A1 : Option Addr) (c1 : Nat) (l1 : List Int) (r : Bool) (w : World) (hr0 : Kd.C (Kd.int .i64) w A0 l0.length l0) (hc0 : l0.length ≤ c0) (hr1 : Kd.C (Kd.int .i64) w A1 l1.length l1) (hc1 : l1.length ≤ c1) (h : laws_gSame.f k l0 l1 = some r) :
  Calls Tryz.prog 21 #[.slice A0 l0.length c0, .slice A1 l1.length c1] w fun e w' => e = .returned (.bool r) ∧ Drawn0 w w' := by
 have HR0 := Aside0.mk hr0
 have HC0 := Aside0.mk hc0
 clear hr0 hc0
 have HR1 := Aside0.mk hr1
 have HC1 := Aside0.mk hc1
 clear hr1 hc1
 have H : (if (l0.length : Int) = (l1.length : Int) then (laws_gSame.l0 k l0 l1 (l0.length : Int) 0) else (some false)) = some r := h
 clear h
 by_cases c3 : (l0.length : Int) = (l1.length : Int)
 rotate_left
 ·rw [if_neg c3] at H
  have c3b0 : ((l0.length : Int) == (l1.length : Int)) = false := beq_eq_false_iff_ne.mpr c3
  have c3b1 : ((l0.length : Int) != (l1.length : Int)) = true := bne_iff_ne.mpr c3
  have c3b2 : (l0.length == l1.length) = false := by first | simpa using c3 | (simp at c3 ⊢; omega)
  obtain rfl := Option.some.inj H
  go_enter Tryz.func21, Tryz.ntmps21
  go_wp2
  repeat (go_quiet (fail); try go_wp2)
  go_ret
  exact ⟨by first | rfl | (simp; done) | (simp [*]; done), by repeat (first | exact Drawn0.refl _ | apply Drawn0.step)⟩

 rw [if_pos c3] at H
 have c3b0 : ((l0.length : Int) == (l1.length : Int)) = true := beq_iff_eq.mpr c3
 have c3b1 : ((l0.length : Int) != (l1.length : Int)) = false := bne_eq_false_iff_eq.mpr c3
 have c3b2 : (l0.length == l1.length) = true := by first | simpa using c3 | (simp at c3 ⊢; omega)
 clear c3
 have H' := Aside0.mk H
 clear H
 go_enter Tryz.func21, Tryz.ntmps21
 go_wp2
 repeat (go_quiet (fail); try go_wp2)
 go_loopg [13] k (fun kq v13 w' => ∃ (x13_1 : Int), v13 = .int .i64 x13_1 ∧ Aside0 (laws_gSame.l0 kq l0 l1 (l0.length : Int) x13_1 = some r) ∧ Aside0 (kq ≤ k) ∧ Drawn0 w w')
 case atStart => exact ⟨(0), (by first | rfl | (simp; done) | (simp [*]; done)), H', ⟨Nat.le_refl _⟩, by repeat (first | exact Drawn0.refl _ | apply Drawn0.step)⟩
 case round =>
  clear H'
  (try clear c1); (try clear c2); (try clear p2); (try clear c3); (try clear c3b0); (try clear c3b1); (try clear c3b2)
  obtain ⟨x13_1, rfl, HA, HK1, ⟨m1, rfl⟩⟩ := hrel
  cases gk with
  | zero => exact absurd HA.out (by simp [laws_gSame.l0])
  | succ k1 =>
   have H := HA.out
   clear HA
   simp only [laws_gSame.l0] at H
   by_cases c4 : x13_1 < (l0.length : Int)
   rotate_left
   ·rw [if_neg c4] at H
    have c4b0 : decide (x13_1 < (l0.length : Int)) = false := decide_eq_false c4
    clear c4
    obtain rfl := Option.some.inj H
    go_wp2
    repeat (go_quiet (fail); try go_wp2)
    go_ret
    exact ⟨by first | rfl | (simp; done) | (simp [*]; done), by repeat (first | exact Drawn0.refl _ | apply Drawn0.step)⟩
   rw [if_pos c4] at H
   have c4b0 : decide (x13_1 < (l0.length : Int)) = true := decide_eq_true c4
   clear c4
   by_cases c5 : 0 ≤ x13_1
   rotate_left
   ·rw [if_neg c5] at H
    exact absurd H (by simp)
   rw [if_pos c5] at H
   have c5b0 : decide (0 ≤ x13_1) = true := decide_eq_true c5
   clear c5
   by_cases c6 : x13_1 < (l0.length : Int)
   rotate_left
   ·rw [if_neg c6] at H
    exact absurd H (by simp)
   rw [if_pos c6] at H
   have c6b0 : decide (x13_1 < (l0.length : Int)) = true := decide_eq_true c6
   clear c6
   by_cases c7 : x13_1 < (l1.length : Int)
   rotate_left
   ·rw [if_neg c7] at H
    exact absurd H (by simp)
   rw [if_pos c7] at H
   have c7b0 : decide (x13_1 < (l1.length : Int)) = true := decide_eq_true c7
   clear c7
   by_cases c8 : (rd l0 x13_1) = (rd l1 x13_1)
   rotate_left
   ·rw [if_neg c8] at H
    have c8b0 : ((rd l0 x13_1) == (rd l1 x13_1)) = false := beq_eq_false_iff_ne.mpr c8
    have c8b1 : ((rd l0 x13_1) != (rd l1 x13_1)) = true := bne_iff_ne.mpr c8
    obtain rfl := Option.some.inj H
    have p319 : 0 ≤ (x13_1 : Int) := of_decide_eq_true (by assumption)
    have q319 : x13_1 < (l0.length : Int) := of_decide_eq_true (by assumption)
    obtain ⟨ad319, e319, hx319_0⟩ := Kd.at_int HR0.out x13_1 p319 q319
    cases e319
    replace p319 := eq_true p319
    replace q319 := eq_true q319
    have p320 : 0 ≤ (x13_1 : Int) := of_decide_eq_true (by assumption)
    have q320 : x13_1 < (l1.length : Int) := of_decide_eq_true (by assumption)
    obtain ⟨ad320, e320, hx320_0⟩ := Kd.at_int HR1.out x13_1 p320 q320
    cases e320
    replace p320 := eq_true p320
    replace q320 := eq_true q320
    go_wp2
    repeat (go_quiet (fail); try go_wp2)
    go_ret
    exact ⟨by first | rfl | (simp; done) | (simp [*]; done), by repeat (first | exact Drawn0.refl _ | apply Drawn0.step)⟩
   rw [if_pos c8] at H
   have c8b0 : ((rd l0 x13_1) == (rd l1 x13_1)) = true := beq_iff_eq.mpr c8
   have c8b1 : ((rd l0 x13_1) != (rd l1 x13_1)) = false := bne_eq_false_iff_eq.mpr c8
   clear c8
   have H' := Aside0.mk H
   clear H
   have p319 : 0 ≤ (x13_1 : Int) := of_decide_eq_true (by assumption)
   have q319 : x13_1 < (l0.length : Int) := of_decide_eq_true (by assumption)
   obtain ⟨ad319, e319, hx319_0⟩ := Kd.at_int HR0.out x13_1 p319 q319
   cases e319
   replace p319 := eq_true p319
   replace q319 := eq_true q319
   have p320 : 0 ≤ (x13_1 : Int) := of_decide_eq_true (by assumption)
   have q320 : x13_1 < (l1.length : Int) := of_decide_eq_true (by assumption)
   obtain ⟨ad320, e320, hx320_0⟩ := Kd.at_int HR1.out x13_1 p320 q320
   cases e320
   replace p320 := eq_true p320
   replace q320 := eq_true q320
   go_wp2
   repeat (go_quiet (fail); try go_wp2)
   go_roundg k1
   case measure => have := HK1.out; omega
   case rel => exact ⟨(wrap64 (x13_1 + 1)), (by first | rfl | (simp; done) | (simp [*]; done)), H', ⟨by have := HK1.out; omega⟩, by repeat (first | exact Drawn0.refl _ | apply Drawn0.step)⟩
/-! ### impl_TimesRow: function 22 -/
def impl_TimesRow.f (k : Nat) (a0 : Int) (a1 : Int) : Option (List Int × Bool) := (impl_isTable.f a0 a1 ([] : List Int)).bind fun t321 => (if t321 = true then ((impl_timesRow.f k a0 a1).bind fun t322 => (some (t322, true))) else (some (([] : List Int), false)))
theorem impl_TimesRow.mono : ∀ a0 a1 k, LeO (impl_TimesRow.f k a0 a1) (impl_TimesRow.f (k + 1) a0 a1) := by
 intro a0 a1 k
 unfold impl_TimesRow.f
 repeat' with_reducible first | apply impl_timesRow.mono | exact LeO.refl _ | exact LeO.none _ | refine LeO.ite ?_ ?_ | refine LeO.bind ?_ (fun _ => ?_)
set_option maxHeartbeats 8000000 in
set_option maxRecDepth 100000 in
theorem impl_TimesRow.calls (k : Nat) (a0 : Int) (a1 : Int) (r1 : List Int) (r2 : Bool) (w : World) (h : impl_TimesRow.f k a0 a1 = some (r1, r2)) :
  Calls Tryz.prog 22 #[.int .i64 a0, .int .i64 a1] w fun e w' => ∃ v0_ : Value, e = .returned (.tuple #[v0_, .bool r2]) ∧ Kd.R (Kd.int .i64) 3 w' w.heap.size (fun _ => True) v0_ r1 ∧ Below w.heap.size w w' := by
 have HB := Aside0.mk (Below.refl w.heap.size w)
 have H : ((impl_isTable.f a0 a1 ([] : List Int)).bind fun t321 => (if t321 = true then ((impl_timesRow.f k a0 a1).bind fun t322 => (some (t322, true))) else (some (([] : List Int), false)))) = some (r1, r2) := h
 clear h
 replace H := Option.bind_eq_some_iff.mp H
 obtain ⟨t321, A30, H⟩ := H
 (try dsimp only at H)
 have A3 := Aside0.mk A30
 clear A30
 by_cases c4 : t321 = true
 rotate_left
 ·replace c4 := Bool.eq_false_iff.mpr c4
  subst c4
  rw [if_neg (show ¬ (false = true) by decide)] at H
  simp only [Option.some.injEq, Prod.mk.injEq] at H
  obtain ⟨rfl, rfl⟩ := H
  go_enter Tryz.func22, Tryz.ntmps22
  go_wp2_with (first | ((with_reducible refine gate_callee (f := 35) rfl ?_); refine gl_ (some 8) Tryz.func35 #[.int .i64 a0, .int .i64 a1, .slice none 0 0] ?_; (refine (impl_isTable.calls a0 a1 _ _ ([] : List Int) false _ ?side1 ?side2 A3.out).mono ?_); (case side1 => exact Kd.C_nil _ _); (case side2 => exact Nat.le_refl _); rintro e w8 ⟨rfl, hb⟩; refine ⟨_, rfl, ?_⟩; have n0_ := Aside0.mk (bs_ hb); clear HB; have HB := n0_; clear n0_; (try clear hb)))
  go_ret2
  exact ⟨_, by first | rfl | (simp [errW_none, errW_some] <;> rfl) | (simp [*, errW_none, errW_some] <;> rfl), by first | exact Kd.R_nil _ _ _ _ _ | exact Kd.N_nil _ _ _ _ _ | exact Kd.V_nil _ _ _ _ _ | exact Kd.Q_nil _ _ _ _ _ | exact Kd.S_nil _ _ _ _ _, bb_⟩

 subst c4
 rw [if_pos rfl] at H
 replace H := Option.bind_eq_some_iff.mp H
 obtain ⟨t322, A50, H⟩ := H
 replace H : (some (t322, true)) = some (r1, r2) := H
 have A5 := Aside0.mk A50
 clear A50
 simp only [Option.some.injEq, Prod.mk.injEq] at H
 obtain ⟨rfl, rfl⟩ := H
 go_enter Tryz.func22, Tryz.ntmps22
 go_wp2_with (first | ((with_reducible refine gate_callee (f := 35) rfl ?_); refine gl_ (some 8) Tryz.func35 #[.int .i64 a0, .int .i64 a1, .slice none 0 0] ?_; (refine (impl_isTable.calls a0 a1 _ _ ([] : List Int) true _ ?side1 ?side2 A3.out).mono ?_); (case side1 => exact Kd.C_nil _ _); (case side2 => exact Nat.le_refl _); rintro e w6 ⟨rfl, hb⟩; refine ⟨_, rfl, ?_⟩; have n0_ := Aside0.mk (bs_ hb); clear HB; have HB := n0_; clear n0_; (try clear hb)) | ((with_reducible refine gate_callee (f := 53) rfl ?_); refine gl_ (some 12) Tryz.func53 #[.int .i64 a0, .int .i64 a1] ?_; (with_reducible refine (impl_timesRow.calls k a0 a1 t322 _ A5.out).mono ?_); rintro e w7 ⟨v323, rfl, ho0, hb⟩; refine ⟨_, rfl, ?_⟩; have n0_ := Aside0.mk (Kd.R_lower ho0 bz_); have n1_ := Aside0.mk (bs_ hb); clear HB; have HO324 := n0_; have HB := n1_; clear n0_ n1_; (try clear hb); (try clear ho0)))
 go_ret2
 exact ⟨_, by first | rfl | (simp [errW_none, errW_some] <;> rfl) | (simp [*, errW_none, errW_some] <;> rfl), by (with_reducible repeat (first | apply Kd.R_alloc | apply Kd.R_drewN | apply Kd.R_drew)); exact HO324.out, bb_⟩
end Go.Proofs.YteihhjieihgojaaGreat.P
