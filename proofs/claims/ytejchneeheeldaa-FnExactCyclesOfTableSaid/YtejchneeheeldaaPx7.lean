/- A part of this seat's proofs: contracts of the translated functions, written by the session's own program (gp.py) out of the kit's print.py and the session's own contracts; no conditions of its own. -/
import Derived.Test.YtejchneeheeldaaPx0
import Derived.Test.YtejchneeheeldaaPx2
import Derived.Test.YtejchneeheeldaaPx6
import Derived.Test.YtejchneeheeldaaPx14
namespace Go.Proofs.Ytejchneeheeldaa.P
open Go.RowKit Go.Proofs.YtejchneeheeldaaW.PrintWords Go.Proofs.YtejchneeheeldaaW.PrintLast Go.Proofs.YtejchneeheeldaaW.PrintMore
attribute [local go_sem] max2_int min2_int max_two min_two max_three min_three max_four min_four   -- for this text's walks alone
set_option linter.unusedVariables false
set_option linter.unusedSimpArgs false

/-! ### given: 16_longFactors.tpl -/
/-- The greatest order of the factors i, i + 1, .. of the next d. -/
def lfMost (k : Nat) (n : Int) : Nat → Int → Int → Option Int
  | 0, _, m => some m
  | d + 1, i, m => (impl_orderOf.f k n i).bind fun t => lfMost k n d (i + 1) (mx m t)
theorem lfMost_all {k : Nat} {n : Int} : ∀ {d : Nat} {i m r : Int}, lfMost k n d i m = some r → ∀ x, i ≤ x → x < i + d → ∃ v, impl_orderOf.f k n x = some v
  | 0, i, m, r, _, x, h1, h2 => by omega
  | d + 1, i, m, r, h, x, h1, h2 => by
    obtain ⟨t, ht, h⟩ := Option.bind_eq_some_iff.mp h
    rcases Int.lt_or_eq_of_le h1 with h3 | h3
    · exact lfMost_all h x (by omega) (by omega)
    · subst h3; exact ⟨t, ht⟩
theorem lfMost_mono {k : Nat} {n : Int} : ∀ (d : Nat) (i m : Int), LeO (lfMost k n d i m) (lfMost (k + 1) n d i m)
  | 0, _, _ => LeO.refl _
  | d + 1, i, m => by
    intro r h
    obtain ⟨t, ht, h⟩ := Option.bind_eq_some_iff.mp h
    show (impl_orderOf.f (k + 1) n i).bind _ = some r
    rw [impl_orderOf.mono _ _ k _ ht]
    exact lfMost_mono d (i + 1) (mx m t) r h
def impl_LongFactors.f (k : Nat) (a0 : Int) : Option (List Int × Int × Bool) :=
  if inR a0 3 60 = true then (lfMost k a0 a0.toNat 0 0).bind fun m => some (numsW (fun x => impl_orderOf.f k a0 x == some m) 0 (a0 - 1), m, true) else some ([], 0, false)

set_option maxHeartbeats 2000000 in
theorem impl_LongFactors_1.asks (k : Nat) (a0 m : Int) (B C : Nat) (w : World) (hB : B < w.heap.size) (hC : C < w.heap.size) (hall : ∀ x, 0 ≤ x → x ≤ a0 - 1 → ∃ v, impl_orderOf.f k a0 x = some v)
    (hb : w.cell? ⟨B, 0, none⟩ = some (.int .i64 a0)) (hc : w.cell? ⟨C, 0, none⟩ = some (.int .i64 m)) :
    Asks Try.prog 36 #[.pointer (some ⟨B, 0, none⟩), .pointer (some ⟨C, 0, none⟩)] (Value.int .i64) (fun x => impl_orderOf.f k a0 x == some m) (fun x => 0 ≤ x ∧ x ≤ a0 - 1) w := by
  intro W x hW hx
  obtain ⟨v, hv⟩ := hall x hx.1 hx.2
  have hb' : W.cell? ⟨B, 0, none⟩ = some (.int .i64 a0) := (hW.cell (p := ⟨B, 0, none⟩) hB).trans hb
  have hc' : W.cell? ⟨C, 0, none⟩ = some (.int .i64 m) := (hW.cell (p := ⟨C, 0, none⟩) hC).trans hc
  have HV := Aside0.mk hv
  have HE := Aside0.mk (show (v == m) = (impl_orderOf.f k a0 x == some m) by rw [hv]; rfl)
  clear hb hc hW hall hv
  go_enter Try.func36, Try.ntmps36
  go_wp2
  repeat (go_quiet (first | (go_at_call 34; (with_reducible refine (impl_orderOf.calls k a0 x v _ HV.out).mono ?_); rintro e w' ⟨rfl, ⟨nd, rfl⟩⟩; (try first | exact ⟨rfl, _, World.drewN_drewN _ _ _⟩ | exact ⟨rfl, _, Eq.trans (World.drewN_drewN _ _ _) (congrArg (World.drewN _) (Nat.add_assoc _ _ _))⟩))); try go_wp2)
  go_ret
  refine ⟨?_, by repeat (first | exact Below.refl _ _ | apply pw_below_drewN | apply below_drew1 | apply below_alloc)⟩
  rw [← HE.out]
  first | rfl | (simp; done)
theorem impl_LongFactors.mono : ∀ a0 k, LeO (impl_LongFactors.f k a0) (impl_LongFactors.f (k + 1) a0) := by
  intro a0 k r h
  unfold impl_LongFactors.f at h ⊢
  by_cases hq : inR a0 3 60 = true
  · rw [if_pos hq] at h ⊢
    obtain ⟨m, hm, h⟩ := Option.bind_eq_some_iff.mp h
    have hall := lfMost_all hm
    rw [lfMost_mono _ _ _ _ hm, Option.bind_some, ← Option.some.inj h]
    obtain ⟨h0, h1⟩ := inR_true.1 hq
    have e : numsW (fun x => impl_orderOf.f (k + 1) a0 x == some m) 0 (a0 - 1) = numsW (fun x => impl_orderOf.f k a0 x == some m) 0 (a0 - 1) := by
      unfold numsW
      apply List.filter_congr
      intro x hx
      obtain ⟨j, hj, rfl⟩ := List.mem_map.1 hx
      have hj2 := List.mem_range.1 hj
      obtain ⟨v, hv⟩ := hall (0 + (j : Int)) (by omega) (by omega)
      rw [hv, impl_orderOf.mono _ _ k _ hv]
    rw [e]
  · rw [if_neg hq] at h ⊢; exact h

set_option maxHeartbeats 4000000 in
theorem impl_LongFactors.calls (k : Nat) (a0 : Int) (r1 : List Int) (r2 : Int) (r3 : Bool) (w : World) (h : impl_LongFactors.f k a0 = some (r1, r2, r3)) :
    Calls Try.prog 10 #[.int .i64 a0] w fun e w' => ∃ v0_ : Value, e = .returned (.tuple #[v0_, .int .i64 r2, .bool r3]) ∧ Kd.R (Kd.int .i64) 3 w' w.heap.size (fun _ => True) v0_ r1 ∧ Below w.heap.size w w' := by
  unfold impl_LongFactors.f at h
  rcases Bool.eq_false_or_eq_true (inR a0 3 60) with hq | hq
  · have HQ := Aside0.mk hq
    rw [hq, if_pos rfl] at h
    obtain ⟨h0, h1⟩ := inR_true.1 hq
    obtain ⟨m, hm, h⟩ := Option.bind_eq_some_iff.mp h
    simp only [Option.some.injEq, Prod.mk.injEq] at h
    obtain ⟨rfl, rfl, rfl⟩ := h
    have HALL := Aside0.mk (fun x (h2 : 0 ≤ x) (h3 : x ≤ a0 - 1) => lfMost_all hm x h2 (by omega))
    have HM := Aside0.mk hm
    clear hq hm
    clear h
    go_enter Try.func10, Try.ntmps10
    go_upto_block 0 with (first | (go_at_call 33; refine (impl_isCircle.is _ _ true HQ.out).mono ?_; rintro e w' ⟨rfl, ⟨nd, rfl⟩⟩) | fail)
    (try simp only [Act.put, List.setIfInBounds_toArray, List.set_cons_zero, List.set_cons_succ])
    have z0 : ∀ nd, (((w.alloc (Obj.cells #[Value.int IntKind.i64 a0] 3)).drewN nd).alloc (Obj.cells #[Value.int IntKind.i64 0] 3)).cell? ⟨w.heap.size, 0, none⟩ = some (.int .i64 a0) := fun nd => by
      refine cell_later _ (cell_drawn _ (cell_new rfl))
    have z1 : ∀ nd, (((w.alloc (Obj.cells #[Value.int IntKind.i64 a0] 3)).drewN nd).alloc (Obj.cells #[Value.int IntKind.i64 0] 3)).cell? ⟨w.heap.size + 1, 0, none⟩ = some (.int .i64 0) := fun nd => by
      refine cell_new (by simp)
    have z2 : ∀ nd, Below w.heap.size w (((w.alloc (Obj.cells #[Value.int IntKind.i64 a0] 3)).drewN nd).alloc (Obj.cells #[Value.int IntKind.i64 0] 3)) := fun nd => below_alloc (pw_below_drewN (below_alloc (Below.refl _ _) _) _) _
    have Z0 := Aside0.mk z0
    have Z1 := Aside0.mk z1
    have Z2 := Aside0.mk z2
    clear z0 z1 z2
    go_cut [] (fun wc => Aside0 (Below w.heap.size w wc) ∧ Aside0 (w.heap.size + 2 ≤ wc.heap.size) ∧ wc.cell? ⟨w.heap.size, 0, none⟩ = some (.int .i64 a0) ∧ wc.cell? ⟨w.heap.size + 1, 0, none⟩ = some (.int .i64 m))
    case first =>
      go_wp2
      go_loopg [11] a0.toNat (fun gg v11 wr => ∃ (i x : Int) (d : Nat), v11 = .int .i64 i ∧ 0 ≤ i ∧ i + d = a0 ∧ d ≤ gg ∧ Aside0 (lfMost k a0 d i x = some m) ∧ Aside0 (Below w.heap.size w wr) ∧ Aside0 (w.heap.size + 2 ≤ wr.heap.size) ∧ wr.cell? ⟨w.heap.size, 0, none⟩ = some (.int .i64 a0) ∧ wr.cell? ⟨w.heap.size + 1, 0, none⟩ = some (.int .i64 x) ∧ wr.frozen? ⟨w.heap.size + 1, 0, none⟩ = false)
      case atStart => exact ⟨0, 0, a0.toNat, rfl, by omega, by omega, Nat.le_refl _, HM, ⟨Z2.out _⟩, ⟨by simp⟩, Z0.out _, Z1.out _, blk_frozen (by have := blk_new ((w.alloc (Obj.cells #[Value.int IntKind.i64 a0] 3)).drewN nd) (Obj.cells #[Value.int IntKind.i64 0] 3); simpa using this) 0⟩
      case round =>
        obtain ⟨i, x, d, rfl, hi0, hid, hdg, HL, HB, HS, hc0, hc1, hf1⟩ := hrel
        cases d with
        | zero =>
          have hlt : ¬ i < a0 := by omega
          have hx : x = m := Option.some.inj HL.out
          subst hx
          go_wp2
          go_meet
          case rel => exact ⟨HB, HS, hc0, hc1⟩
        | succ d =>
          have hlt : i < a0 := by omega
          obtain ⟨t, ht, hr⟩ := Option.bind_eq_some_iff.mp HL.out
          have HT := Aside0.mk ht
          have HR := Aside0.mk hr
          clear ht hr HL
          go_wp2
          go_region_with (go_at_call 34; refine (impl_orderOf.calls k a0 i t _ HT.out).mono ?_; rintro e w' ⟨rfl, ⟨nd2, rfl⟩⟩)
          all_goals
            generalize hy : (if x < t then t else x) = y
            have hy' : y = mx x t := hy.symm
            clear hy
            go_wp2
            go_roundg d
            case measure => omega
            case rel =>
              refine ⟨i + 1, y, d, ?_, by omega, by omega, Nat.le_refl _, ⟨by rw [hy']; exact HR.out⟩, ⟨below_set (pw_below_drewN HB.out _) (by simp)⟩, ⟨by have := HS.out; simp; omega⟩, ?_, ?_, ?_⟩
              · first | rfl | (simp only [i64_w]; congr 1; unfold wrap64; omega) | (congr 1; unfold wrap64; omega)
              · rw [cell_far (by simp)]; exact hc0
              · rw [hy']; exact World.cell?_setCell_same _ _ _ (cell_drawn _ hc1)
              · simp [hf1]
    case rest =>
      obtain ⟨HB, HS, hc0, hc1⟩ := hcut
      have HK := Aside0.mk (fun (W : World) (hb : Below wc.heap.size wc W) => impl_numbersWith.ask 0 (a0 - 1) 36 #[.pointer (some ⟨w.heap.size, 0, none⟩), .pointer (some ⟨w.heap.size + 1, 0, none⟩)] (fun z => impl_orderOf.f k a0 z == some m) (fun z => 0 ≤ z ∧ z ≤ a0 - 1)
        W (enters_of Try.func36 (by kernel_rfl) rfl) (by omega) (by omega)
        (impl_LongFactors_1.asks k a0 m _ _ W (by have := HS.out; have := hb.size; omega) (by have := HS.out; have := hb.size; omega) HALL.out ((hb.cell (p := ⟨w.heap.size, 0, none⟩) (by have := HS.out; simp; omega)).trans hc0) ((hb.cell (p := ⟨w.heap.size + 1, 0, none⟩) (by have := HS.out; simp; omega)).trans hc1)) (fun z hz hz2 => ⟨hz, hz2⟩))
      clear HALL HM Z0 Z1 Z2
      have hwr : IntKind.i64.wrap (a0 - 1) = a0 - 1 := IntWalk.i64_in _ (by omega)
      go_wp2
      go_region_held3 (fun w' => Aside0 (Below wc.heap.size wc w') ∧ w'.cell? ⟨w.heap.size, 0, none⟩ = some (.int .i64 a0) ∧ w'.cell? ⟨w.heap.size + 1, 0, none⟩ = some (.int .i64 m))
        (first
          | (refine ⟨?_, ?_, ?_⟩; assumption; assumption; assumption)
          | (refine ⟨⟨?_⟩, ?_, ?_⟩; exact below_drew (Below.refl _ _); assumption; assumption))
        ((go_at_call 35; refine (HK.out _ (below_drew (Below.refl _ _))).mono ?_; rintro e w1 ⟨v, rfl, ho, hb⟩; obtain ⟨A, c, rfl⟩ := Kd.R_slice ho; have z1 : Aside0 (Below wc.heap.size wc w1) := ⟨below_then (below_drew (Below.refl _ _)) (Nat.le_refl _) hb⟩; have z2 : w1.cell? ⟨w.heap.size, 0, none⟩ = some (.int .i64 a0) := (hb.cell (p := ⟨w.heap.size, 0, none⟩) (by have := HS.out; simp; omega)).trans hc0; have z3 : w1.cell? ⟨w.heap.size + 1, 0, none⟩ = some (.int .i64 m) := (hb.cell (p := ⟨w.heap.size + 1, 0, none⟩) (by have := HS.out; simp; omega)).trans hc1; have HO := Aside0.mk ho; clear ho hb))
      all_goals
        go_wp2
        go_ret3
        exact ⟨_, rfl, Kd.R_lower HO.out HB.out.size, below_then HB.out HB.out.size z1.out⟩
  · have HQ := Aside0.mk hq
    rw [hq, if_neg (by simp)] at h
    simp only [Option.some.injEq, Prod.mk.injEq] at h
    obtain ⟨rfl, rfl, rfl⟩ := h
    clear hq
    go_enter Try.func10, Try.ntmps10
    go_wp2_with (first | (go_at_call 33; refine (impl_isCircle.is _ _ false HQ.out).mono ?_; rintro e w' ⟨rfl, ⟨nd, rfl⟩⟩) | fail)
    go_ret3
    exact ⟨_, rfl, Kd.R_nil _ _ _ _ _, by repeat (first | exact Below.refl _ _ | apply pw_below_drewN | apply below_alloc)⟩

end Go.Proofs.Ytejchneeheeldaa.P
