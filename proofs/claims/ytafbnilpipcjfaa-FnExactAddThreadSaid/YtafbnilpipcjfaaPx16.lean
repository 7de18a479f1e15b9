/- A part of this seat's proofs: contracts of the translated functions, written by the session's own program (gp.py) out of the kit's print.py and the session's own contracts; no conditions of its own. -/
import Derived.Test.YtafbnilpipcjfaaPx0
import Derived.Test.YtafbnilpipcjfaaPx9
import Derived.Test.YtafbnilpipcjfaaPx10
import Derived.Test.YtafbnilpipcjfaaPx11
import Derived.Test.YtafbnilpipcjfaaPx12
import Derived.Test.YtafbnilpipcjfaaPx14
import Derived.Test.YtafbnilpipcjfaaPx15
namespace Go.Proofs.Ytafbnilpipcjfaa.P
open Go.RowKit Go.Proofs.YtafbnilpipcjfaaW.PrintWords Go.Proofs.YtafbnilpipcjfaaW.PrintLast Go.Proofs.YtafbnilpipcjfaaW.PrintMore
attribute [local go_sem] max2_int min2_int max_two min_two max_three min_three max_four min_four   -- for this text's walks alone
set_option linter.unusedVariables false
set_option linter.unusedSimpArgs false

/-! ### given: 40_addThread.tpl -/
/-- The call of Insert behind Clone: the thread's block is made behind it .. -/
theorem addT_one (g cap i : Nat) (l0 : List S38) (x : S38) (w3 w5 : World) (ho : w5.ownsRow w3.drew.heap.size 38 2 (.slice (some ⟨g, 0, none⟩) l0.length cap) l0.length (Go.Sort.flatK encTH 2 l0.toArray).toList) (hb : Below w3.drew.heap.size w3.drew w5) (hi : i ≤ l0.length) (hbig : (l0.length + 1) * 16 ≤ 140737488355328) :
    Calls Try.prog 49 #[.slice (some ⟨g, 0, none⟩) l0.length cap, .int .i64 i, .slice (some ⟨w5.heap.size, 0, none⟩) 1 1] (w5.alloc (.cells #[.int .i64 x.f0, .int .i64 x.f1] 38)) fun e w' => ∃ v1, e = .returned v1 ∧ Kd.R k38 38 w' w3.heap.size (fun _ => True) v1 (l0.take i ++ x :: l0.drop i) ∧ Below w3.heap.size w3 w' ∧ ∀ (v : Value) {a : Addr}, w3.cell? a = some v → w'.cell? a = some v := by
  rw [fm_unique (flat_reps (enc := encTH) (k := 2) (fun _ => rfl) l0)] at ho
  have hg1 := own_base ho g rfl
  have hg2 := own_lt ho g rfl
  have hb1 := below_alloc hb (.cells #[.int .i64 x.f0, .int .i64 x.f1] 38)
  refine (slices_InsertT.own w3.drew.heap.size g cap i w5.heap.size 1 l0 x _ hb1.size (fm_R (World.ownsRow.alloc ho _)) hi hbig (by omega) (heap_alloc_new w5 _)).mono ?_
  rintro e w' ⟨v1, rfl, hR, hg⟩
  have hbw : Below w3.heap.size w3 w' := below_then (below_drew (Below.refl _ w3)) (Nat.le_refl _) (pw_below_grown hb1 (some g) hb1.size hg (fun k hk => by injection hk with hk; rw [← hk]; exact hg1))
  exact ⟨v1, rfl, hR, hbw, fun v a ha => pw_cell_below hbw ha⟩
/-- .. or ahead of it. -/
theorem addT_two (g cap i : Nat) (l0 : List S38) (x : S38) (w3 w5 : World) (ho : w5.ownsRow (w3.alloc (.cells #[.int .i64 x.f0, .int .i64 x.f1] 38)).drew.heap.size 38 2 (.slice (some ⟨g, 0, none⟩) l0.length cap) l0.length (Go.Sort.flatK encTH 2 l0.toArray).toList) (hb : Below (w3.alloc (.cells #[.int .i64 x.f0, .int .i64 x.f1] 38)).drew.heap.size (w3.alloc (.cells #[.int .i64 x.f0, .int .i64 x.f1] 38)).drew w5) (hi : i ≤ l0.length) (hbig : (l0.length + 1) * 16 ≤ 140737488355328) :
    Calls Try.prog 49 #[.slice (some ⟨g, 0, none⟩) l0.length cap, .int .i64 i, .slice (some ⟨w3.heap.size, 0, none⟩) 1 1] w5 fun e w' => ∃ v1, e = .returned v1 ∧ Kd.R k38 38 w' w3.heap.size (fun _ => True) v1 (l0.take i ++ x :: l0.drop i) ∧ Below w3.heap.size w3 w' ∧ ∀ (v : Value) {a : Addr}, w3.cell? a = some v → w'.cell? a = some v := by
  rw [fm_unique (flat_reps (enc := encTH) (k := 2) (fun _ => rfl) l0)] at ho
  have hg1 := own_base ho g rfl
  have hsz : (w3.alloc (.cells #[.int .i64 x.f0, .int .i64 x.f1] 38)).drew.heap.size = w3.heap.size + 1 := by
    have h : (w3.alloc (.cells #[.int .i64 x.f0, .int .i64 x.f1] 38)).heap.size = w3.heap.size + 1 := by simp
    exact h
  have hb1 : Below w3.heap.size w3 w5 := below_then (below_drew (below_alloc (Below.refl _ w3) _)) (by rw [hsz]; exact Nat.le_succ _) hb
  have hv : w5.heap[w3.heap.size]? = some (.cells #[.int .i64 x.f0, .int .i64 x.f1] 38 (0, 0)) := (hb.block w3.heap.size (by omega)).trans (heap_alloc_new w3 _)
  refine (slices_InsertT.own (w3.alloc (.cells #[.int .i64 x.f0, .int .i64 x.f1] 38)).drew.heap.size g cap i w3.heap.size 1 l0 x _ hb.size (fm_R ho) hi hbig (by omega) hv).mono ?_
  rintro e w' ⟨v1, rfl, hR, hg⟩
  have hbw : Below w3.heap.size w3 w' := pw_below_grown hb1 (some g) hb1.size hg (fun k hk => by injection hk with hk; omega)
  exact ⟨v1, rfl, Kd.R_lower hR (by omega), hbw, fun v a ha => pw_cell_below hbw ha⟩
def impl_AddThread.f (k : Nat) (l0 : List (S38)) (a1_0 : Int) (a1_1 : Int) : Option (List (S38) × Bool) :=
  (impl_Thread_46.f l0 a1_0 a1_1).bind fun s => (impl_AreThreads.f k l0).bind fun t => if t = true then (impl_isThread.f a1_0 a1_1).bind (fun b => if b = true then (if s.2 = true then some ([], false) else if l0.length = 30 then some ([], false) else if 0 ≤ s.1 ∧ s.1 ≤ (l0.length : Int) ∧ 0 < l0.length ∧ l0.length ≤ 30 then some (l0.take s.1.toNat ++ ⟨a1_0, a1_1⟩ :: l0.drop s.1.toNat, true) else none) else some ([], false)) else some ([], false)
theorem impl_AddThread.mono : ∀ a0 a1_0 a1_1 k, LeO (impl_AddThread.f k a0 a1_0 a1_1) (impl_AddThread.f (k + 1) a0 a1_0 a1_1) := by
  intro l0 a1_0 a1_1 k
  unfold impl_AddThread.f
  repeat' first
    | (with_reducible exact impl_AreThreads.mono _ _)
    | (with_reducible exact LeO.refl _)
    | (with_reducible exact LeO.none _)
    | (with_reducible refine LeO.ite ?_ ?_)
    | (with_reducible refine LeO.bind ?_ (fun _ => ?_))
set_option maxHeartbeats 8000000 in
set_option maxRecDepth 100000 in
theorem impl_AddThread.calls (k : Nat) (A0 : Option Addr) (c0 : Nat) (l0 : List (S38)) (a1_0 : Int) (a1_1 : Int) (r1 : List (S38)) (r2 : Bool) (w : World) (hr0 : Kd.C k38 w A0 l0.length l0) (hc0 : l0.length ≤ c0) (h : impl_AddThread.f k l0 a1_0 a1_1 = some (r1, r2)) :
    Calls Try.prog 22 #[.slice A0 l0.length c0, .agg #[.int .i64 a1_0, .int .i64 a1_1]] w fun e w' => ∃ v0_ : Value, e = .returned (.tuple #[v0_, .bool r2]) ∧ Kd.R k38 38 w' w.heap.size (fun _ => True) v0_ r1 ∧ Below w.heap.size w w' := by
  unfold impl_AddThread.f at h
  replace h := Option.bind_eq_some_iff.mp h
  obtain ⟨⟨s1, s2⟩, hs, h⟩ := h
  replace h := Option.bind_eq_some_iff.mp h
  obtain ⟨t, ht, h⟩ := h
  simp only at h
  have hub := Try.underlying38
  have HS := Aside0.mk hs
  have HT := Aside0.mk ht
  have HC0 := Aside0.mk hc0
  have g0 : (w.alloc (.cells #[.int .i64 a1_0, .int .i64 a1_1] 38)).cell? ⟨w.heap.size, 0, none⟩ = some (.int .i64 a1_0) := by simp
  have g1 : (w.alloc (.cells #[.int .i64 a1_0, .int .i64 a1_1] 38)).cell? ⟨w.heap.size, 1, none⟩ = some (.int .i64 a1_1) := by simp
  have g2 : w.heap.size < (w.alloc (.cells #[.int .i64 a1_0, .int .i64 a1_1] 38)).heap.size := by simp
  have HB0 := Aside0.mk (below_alloc (Below.refl w.heap.size w) (.cells #[.int .i64 a1_0, .int .i64 a1_1] 38))
  have HR := Aside0.mk (Kd.C_alloc hr0 (.cells #[.int .i64 a1_0, .int .i64 a1_1] 38))
  clear hs ht hc0 hr0
  have G0 := Aside0.mk g0
  have G1 := Aside0.mk g1
  have G2 := Aside0.mk g2
  clear g0 g1 g2
  by_cases hq : t = true
  · subst hq
    rw [if_pos rfl] at h
    replace h := Option.bind_eq_some_iff.mp h
    obtain ⟨b, hb, h⟩ := h
    have HT2 := Aside0.mk hb
    clear hb
    by_cases hbt : b = true
    · subst hbt
      rw [if_pos rfl] at h
      by_cases hf : s2 = true
      · subst hf
        rw [if_pos rfl] at h
        simp only [Option.some.injEq, Prod.mk.injEq] at h
        obtain ⟨rfl, rfl⟩ := h
        go_enter Try.func22, Try.ntmps22
        go_wp2_with (first
          | (go_at_call 46; refine (impl_Thread_46.calls A0 c0 l0 a1_0 a1_1 s1 true _ HR.out HC0.out HS.out).mono ?_; rintro e w1 ⟨rfl, hb⟩; have HB1 := Aside0.mk (below_then HB0.out HB0.out.size hb); have HR1 := Aside0.mk (Kd.C_below HR.out hb); have y0 : w1.cell? ⟨w.heap.size, 0, none⟩ = some (.int .i64 a1_0) := (hb.cell (p := ⟨w.heap.size, 0, none⟩) G2.out).trans G0.out; have y1 : w1.cell? ⟨w.heap.size, 1, none⟩ = some (.int .i64 a1_1) := (hb.cell (p := ⟨w.heap.size, 1, none⟩) G2.out).trans G1.out; clear hb)
          | (go_at_call 35; refine (impl_AreThreads.calls k A0 c0 l0 true _ HR1.out HC0.out HT.out).mono ?_; rintro e w2 ⟨rfl, hb⟩; have HB2 := Aside0.mk (below_then HB1.out HB1.out.size hb); have HR2 := Aside0.mk (Kd.C_below HR1.out hb); have z0 := Go.Proofs.YtafbnilpipcjfaaW.PrintWords.pw_cell_below hb y0; have z1 := Go.Proofs.YtafbnilpipcjfaaW.PrintWords.pw_cell_below hb y1; clear hb)
          | (go_at_call 48; refine (impl_isThread.calls a1_0 a1_1 true _ HT2.out).mono ?_; rintro e w3 ⟨rfl, hb⟩; have HB3 := Aside0.mk (below_then HB2.out HB2.out.size hb); have HR3 := Aside0.mk (Kd.C_below HR2.out hb); have x0 := Go.Proofs.YtafbnilpipcjfaaW.PrintWords.pw_cell_below hb z0; have x1 := Go.Proofs.YtafbnilpipcjfaaW.PrintWords.pw_cell_below hb z1; clear hb)
          | fail)
        all_goals
          go_ret2
          exact ⟨_, rfl, Kd.R_nil _ _ _ _ _, HB3.out⟩
      · rw [if_neg hf] at h
        obtain rfl : s2 = false := by simpa using hf
        clear hf
        by_cases h30 : l0.length = 30
        · rw [if_pos h30] at h
          simp only [Option.some.injEq, Prod.mk.injEq] at h
          obtain ⟨rfl, rfl⟩ := h
          have hz : ((l0.length : Int) == 30) = true := by rw [beq_iff_eq]; omega
          clear h30
          go_enter Try.func22, Try.ntmps22
          go_wp2_with (first
            | (go_at_call 46; refine (impl_Thread_46.calls A0 c0 l0 a1_0 a1_1 s1 false _ HR.out HC0.out HS.out).mono ?_; rintro e w1 ⟨rfl, hb⟩; have HB1 := Aside0.mk (below_then HB0.out HB0.out.size hb); have HR1 := Aside0.mk (Kd.C_below HR.out hb); have y0 : w1.cell? ⟨w.heap.size, 0, none⟩ = some (.int .i64 a1_0) := (hb.cell (p := ⟨w.heap.size, 0, none⟩) G2.out).trans G0.out; have y1 : w1.cell? ⟨w.heap.size, 1, none⟩ = some (.int .i64 a1_1) := (hb.cell (p := ⟨w.heap.size, 1, none⟩) G2.out).trans G1.out; clear hb)
            | (go_at_call 35; refine (impl_AreThreads.calls k A0 c0 l0 true _ HR1.out HC0.out HT.out).mono ?_; rintro e w2 ⟨rfl, hb⟩; have HB2 := Aside0.mk (below_then HB1.out HB1.out.size hb); have HR2 := Aside0.mk (Kd.C_below HR1.out hb); have z0 := Go.Proofs.YtafbnilpipcjfaaW.PrintWords.pw_cell_below hb y0; have z1 := Go.Proofs.YtafbnilpipcjfaaW.PrintWords.pw_cell_below hb y1; clear hb)
            | (go_at_call 48; refine (impl_isThread.calls a1_0 a1_1 true _ HT2.out).mono ?_; rintro e w3 ⟨rfl, hb⟩; have HB3 := Aside0.mk (below_then HB2.out HB2.out.size hb); have HR3 := Aside0.mk (Kd.C_below HR2.out hb); have x0 := Go.Proofs.YtafbnilpipcjfaaW.PrintWords.pw_cell_below hb z0; have x1 := Go.Proofs.YtafbnilpipcjfaaW.PrintWords.pw_cell_below hb z1; clear hb)
            | fail)
          all_goals
            go_ret2
            exact ⟨_, rfl, Kd.R_nil _ _ _ _ _, HB3.out⟩
        · rw [if_neg h30] at h
          have hz : ((l0.length : Int) == 30) = false := by rw [beq_eq_false_iff_ne]; omega
          by_cases hI : 0 ≤ s1 ∧ s1 ≤ (l0.length : Int) ∧ 0 < l0.length ∧ l0.length ≤ 30
          · rw [if_pos hI] at h
            simp only [Option.some.injEq, Prod.mk.injEq] at h
            obtain ⟨rfl, rfl⟩ := h
            obtain ⟨i, rfl⟩ := Int.eq_ofNat_of_zero_le hI.1
            have hi : i ≤ l0.length := by omega
            have hp : 0 < l0.length := hI.2.2.1
            have hl30 : l0.length ≤ 30 := hI.2.2.2
            clear hI h30
            go_enter Try.func22, Try.ntmps22
            go_wp2_with (first
              | (go_at_call 46; refine (impl_Thread_46.calls A0 c0 l0 a1_0 a1_1 (i : Int) false _ HR.out HC0.out HS.out).mono ?_; rintro e w1 ⟨rfl, hb⟩; have HB1 := Aside0.mk (below_then HB0.out HB0.out.size hb); have HR1 := Aside0.mk (Kd.C_below HR.out hb); have y0 : w1.cell? ⟨w.heap.size, 0, none⟩ = some (.int .i64 a1_0) := (hb.cell (p := ⟨w.heap.size, 0, none⟩) G2.out).trans G0.out; have y1 : w1.cell? ⟨w.heap.size, 1, none⟩ = some (.int .i64 a1_1) := (hb.cell (p := ⟨w.heap.size, 1, none⟩) G2.out).trans G1.out; clear hb)
              | (go_at_call 35; refine (impl_AreThreads.calls k A0 c0 l0 true _ HR1.out HC0.out HT.out).mono ?_; rintro e w2 ⟨rfl, hb⟩; have HB2 := Aside0.mk (below_then HB1.out HB1.out.size hb); have HR2 := Aside0.mk (Kd.C_below HR1.out hb); have z0 := Go.Proofs.YtafbnilpipcjfaaW.PrintWords.pw_cell_below hb y0; have z1 := Go.Proofs.YtafbnilpipcjfaaW.PrintWords.pw_cell_below hb y1; clear hb)
              | (go_at_call 48; refine (impl_isThread.calls a1_0 a1_1 true _ HT2.out).mono ?_; rintro e w3 ⟨rfl, hb⟩; have HB3 := Aside0.mk (below_then HB2.out HB2.out.size hb); have HR3 := Aside0.mk (Kd.C_below HR2.out hb); have x0 := Go.Proofs.YtafbnilpipcjfaaW.PrintWords.pw_cell_below hb z0; have x1 := Go.Proofs.YtafbnilpipcjfaaW.PrintWords.pw_cell_below hb z1; clear hb)
              | fail)
            have hbig : (l0.length + 1) * 16 ≤ 140737488355328 := by omega
            have HI := Aside0.mk (show (i : Int).toNat = i by omega)
            have HX := Aside0.mk (And.intro x0 x1)
            go_region_held3 (fun w' => w'.cell? ⟨w.heap.size, 0, none⟩ = some (.int .i64 a1_0) ∧ w'.cell? ⟨w.heap.size, 1, none⟩ = some (.int .i64 a1_1))
              (first | (refine ⟨?_, ?_⟩; assumption; assumption) | (refine ⟨?_, ?_⟩ <;> (repeat (first | assumption | refine cell_drawn _ ?_ | refine cell_later _ ?_))))
              (first
                | (go_at_call 40; refine (slices_CloneT.own A0 c0 l0 _ (by (with_reducible repeat first | refine Kd.C_alloc ?_ _ | refine Kd.C_drewN ?_ _ | refine Kd.C_drew ?_); exact HR3.out) hp (by omega)).mono ?_; rintro e w5 ⟨g, cap, rfl, ho, hb⟩; have HO5 := Aside0.mk ho; have HB5 := Aside0.mk hb; have v0 := Go.Proofs.YtafbnilpipcjfaaW.PrintWords.pw_cell_below hb (by first | exact cell_drawn 1 x0 | exact cell_later _ (cell_drawn 1 x0) | exact cell_drawn 1 (cell_later _ x0)); have v1 := Go.Proofs.YtafbnilpipcjfaaW.PrintWords.pw_cell_below hb (by first | exact cell_drawn 1 x1 | exact cell_later _ (cell_drawn 1 x1) | exact cell_drawn 1 (cell_later _ x1)); clear ho hb)
                | (go_at_call 49; first
                    | (with_reducible refine (addT_one g cap i l0 ⟨a1_0, a1_1⟩ _ _ HO5.out HB5.out hi hbig).mono ?_; rintro e w6 ⟨vr, rfl, hR, hg, hs⟩; have t0 := hs _ x0; have t1 := hs _ x1; have HR6 := Aside0.mk hR; have HB6 := Aside0.mk (below_then HB3.out HB3.out.size hg); clear hR hg hs)
                    | (with_reducible refine (addT_two g cap i l0 ⟨a1_0, a1_1⟩ _ _ HO5.out HB5.out hi hbig).mono ?_; rintro e w6 ⟨vr, rfl, hR, hg, hs⟩; have t0 := hs _ x0; have t1 := hs _ x1; have HR6 := Aside0.mk hR; have HB6 := Aside0.mk (below_then HB3.out HB3.out.size hg); clear hR hg hs))
                | fail)
            all_goals
              go_wp2
              go_ret2
              exact ⟨_, rfl, by rw [HI.out]; exact Kd.R_lower HR6.out HB3.out.size, HB6.out⟩
          · rw [if_neg hI] at h; cases h
    · rw [if_neg hbt] at h
      obtain rfl : b = false := by simpa using hbt
      clear hbt
      simp only [Option.some.injEq, Prod.mk.injEq] at h
      obtain ⟨rfl, rfl⟩ := h
      go_enter Try.func22, Try.ntmps22
      go_wp2_with (first
        | (go_at_call 46; refine (impl_Thread_46.calls A0 c0 l0 a1_0 a1_1 s1 s2 _ HR.out HC0.out HS.out).mono ?_; rintro e w1 ⟨rfl, hb⟩; have HB1 := Aside0.mk (below_then HB0.out HB0.out.size hb); have HR1 := Aside0.mk (Kd.C_below HR.out hb); have y0 : w1.cell? ⟨w.heap.size, 0, none⟩ = some (.int .i64 a1_0) := (hb.cell (p := ⟨w.heap.size, 0, none⟩) G2.out).trans G0.out; have y1 : w1.cell? ⟨w.heap.size, 1, none⟩ = some (.int .i64 a1_1) := (hb.cell (p := ⟨w.heap.size, 1, none⟩) G2.out).trans G1.out; clear hb)
        | (go_at_call 35; refine (impl_AreThreads.calls k A0 c0 l0 true _ HR1.out HC0.out HT.out).mono ?_; rintro e w2 ⟨rfl, hb⟩; have HB2 := Aside0.mk (below_then HB1.out HB1.out.size hb); have HR2 := Aside0.mk (Kd.C_below HR1.out hb); have z0 := Go.Proofs.YtafbnilpipcjfaaW.PrintWords.pw_cell_below hb y0; have z1 := Go.Proofs.YtafbnilpipcjfaaW.PrintWords.pw_cell_below hb y1; clear hb)
        | (go_at_call 48; refine (impl_isThread.calls a1_0 a1_1 false _ HT2.out).mono ?_; rintro e w3 ⟨rfl, hb⟩; have HB3 := Aside0.mk (below_then HB2.out HB2.out.size hb); have HR3 := Aside0.mk (Kd.C_below HR2.out hb); have x0 := Go.Proofs.YtafbnilpipcjfaaW.PrintWords.pw_cell_below hb z0; have x1 := Go.Proofs.YtafbnilpipcjfaaW.PrintWords.pw_cell_below hb z1; clear hb)
        | fail)
      all_goals
        go_ret2
        exact ⟨_, rfl, Kd.R_nil _ _ _ _ _, HB3.out⟩
  · rw [if_neg hq] at h
    obtain rfl : t = false := by simpa using hq
    clear hq
    simp only [Option.some.injEq, Prod.mk.injEq] at h
    obtain ⟨rfl, rfl⟩ := h
    go_enter Try.func22, Try.ntmps22
    go_wp2_with (first
      | (go_at_call 46; refine (impl_Thread_46.calls A0 c0 l0 a1_0 a1_1 s1 s2 _ HR.out HC0.out HS.out).mono ?_; rintro e w1 ⟨rfl, hb⟩; have HB1 := Aside0.mk (below_then HB0.out HB0.out.size hb); have HR1 := Aside0.mk (Kd.C_below HR.out hb); have y0 : w1.cell? ⟨w.heap.size, 0, none⟩ = some (.int .i64 a1_0) := (hb.cell (p := ⟨w.heap.size, 0, none⟩) G2.out).trans G0.out; have y1 : w1.cell? ⟨w.heap.size, 1, none⟩ = some (.int .i64 a1_1) := (hb.cell (p := ⟨w.heap.size, 1, none⟩) G2.out).trans G1.out; clear hb)
      | (go_at_call 35; refine (impl_AreThreads.calls k A0 c0 l0 false _ HR1.out HC0.out HT.out).mono ?_; rintro e w2 ⟨rfl, hb⟩; have HB2 := Aside0.mk (below_then HB1.out HB1.out.size hb); have HR2 := Aside0.mk (Kd.C_below HR1.out hb); have z0 := Go.Proofs.YtafbnilpipcjfaaW.PrintWords.pw_cell_below hb y0; have z1 := Go.Proofs.YtafbnilpipcjfaaW.PrintWords.pw_cell_below hb y1; clear hb)
      | fail)
    all_goals
      go_ret2
      exact ⟨_, rfl, Kd.R_nil _ _ _ _ _, HB2.out⟩

/-! ### laws_heldThreadS: function 23 -/
def laws_heldThreadS.l0 : Nat → List (S38) → Int → Int → Option (Int)
 | 0, _, _, _ => none
 | k + 1, x0, x1, x5 => if x5 < (x0.length : Int) then (if 0 ≤ x5 then (if ((rd_T38 x0 x5).f0) = x1 then (if ((rd_T38 x0 x5).f1) = (wrap64 (x1 + 1)) then (laws_heldThreadS.l0 k x0 (wrap64 ((wrap64 (x1 + 1)) + 1)) (wrap64 (x5 + 1))) else (some (-1))) else (some (-1))) else (none)) else (some x1)
def laws_heldThreadS.f (k : Nat) (l0 : List (S38)) (a1 : Int) : Option (Int) := laws_heldThreadS.l0 k l0 a1 0
theorem laws_heldThreadS.mono_l : ∀ k, (∀ y0 y1 y2, LeO (laws_heldThreadS.l0 k y0 y1 y2) (laws_heldThreadS.l0 (k + 1) y0 y1 y2))
 | 0 => fun _ _ _ r h => by simp [laws_heldThreadS.l0] at h
 | k + 1 => by
  have ih0 := laws_heldThreadS.mono_l k
  ·intro y0 y1 y2
   unfold laws_heldThreadS.l0
   repeat' first
   | (with_reducible exact ih0 _ _ _)
   | (with_reducible exact LeO.refl _)
   | (with_reducible exact LeO.none _)
   | (with_reducible refine LeO.ite ?_ ?_)
   | (with_reducible refine LeO.bind ?_ (fun _ => ?_))
   | exact ih0 _ _ _
   | exact LeO.none _
   | refine LeO.ite ?_ ?_
   | refine LeO.bind ?_ (fun _ => ?_)
theorem laws_heldThreadS.mono : ∀ a0 a1 k, LeO (laws_heldThreadS.f k a0 a1) (laws_heldThreadS.f (k + 1) a0 a1) := by
 intro a0 a1 k
 have ih0 := laws_heldThreadS.mono_l k
 unfold laws_heldThreadS.f
 repeat' first
   | (with_reducible exact ih0 _ _ _)
   | (with_reducible exact LeO.refl _)
   | (with_reducible exact LeO.none _)
   | (with_reducible refine LeO.ite ?_ ?_)
   | (with_reducible refine LeO.bind ?_ (fun _ => ?_))
   | exact ih0 _ _ _
   | exact LeO.none _
   | refine LeO.ite ?_ ?_
   | refine LeO.bind ?_ (fun _ => ?_)
set_option maxHeartbeats 8000000 in
set_option maxRecDepth 100000 in
theorem laws_heldThreadS.calls (k : Nat) (A0 : Option Addr) (c0 : Nat) (l0 : List (S38)) (a1 : Int) (r : Int) (w : World) (hr0 : Kd.C k38 w A0 l0.length l0) (hc0 : l0.length ≤ c0) (h : laws_heldThreadS.f k l0 a1 = some r) :
  Calls Try.prog 23 #[.slice A0 l0.length c0, .int .i64 a1] w fun e w' => e = .returned (.int .i64 r) ∧ Drawn0 w w' := by
 have HR0 := Aside0.mk hr0
 have HC0 := Aside0.mk hc0
 clear hr0 hc0
 have H : (laws_heldThreadS.l0 k l0 a1 0) = some r := h
 clear h
 have H' := Aside0.mk H
 clear H
 go_enter Try.func23, Try.ntmps23
 go_wp2
 go_loopg [1, 5] k (fun kq v1 v5 w' => ∃ (x1_1 : Int) (x5_1 : Int), v1 = .int .i64 x1_1 ∧ v5 = .int .i64 x5_1 ∧ Aside0 (laws_heldThreadS.l0 kq l0 x1_1 x5_1 = some r) ∧ Aside0 (kq ≤ k) ∧ Drawn0 w w')
 case atStart => exact ⟨(a1), (0), (by first | rfl | (simp; done) | (simp [*]; done)), (by first | rfl | (simp; done) | (simp [*]; done)), H', ⟨Nat.le_refl _⟩, by repeat (first | exact Drawn0.refl _ | apply Drawn0.step)⟩
 case round =>
  clear H'
  try clear c2
  try clear p2
  obtain ⟨x1_1, x5_1, rfl, rfl, HA, HK1, ⟨m1, rfl⟩⟩ := hrel
  cases gk with
  | zero => exact absurd HA.out (by simp [laws_heldThreadS.l0])
  | succ k1 =>
   have H := HA.out
   clear HA
   simp only [laws_heldThreadS.l0] at H
   by_cases c3 : x5_1 < (l0.length : Int)
   rotate_left
   ·rw [if_neg c3] at H
    have c3b0 : decide (x5_1 < (l0.length : Int)) = false := decide_eq_false c3
    clear c3
    obtain rfl := Option.some.inj H
    go_wp2
    go_ret
    exact ⟨by first | rfl | (simp; done) | (simp [*]; done), by repeat (first | exact Drawn0.refl _ | apply Drawn0.step)⟩

   rw [if_pos c3] at H
   have c3b0 : decide (x5_1 < (l0.length : Int)) = true := decide_eq_true c3
   clear c3
   by_cases c4 : 0 ≤ x5_1
   rotate_left
   ·rw [if_neg c4] at H
    exact absurd H (by simp)
   rw [if_pos c4] at H
   have c4b0 : decide (0 ≤ x5_1) = true := decide_eq_true c4
   clear c4
   by_cases c5 : ((rd_T38 l0 x5_1).f0) = x1_1
   rotate_left
   ·rw [if_neg c5] at H
    have c5b0 : (((rd_T38 l0 x5_1).f0) == x1_1) = false := beq_eq_false_iff_ne.mpr c5
    have c5b1 : (((rd_T38 l0 x5_1).f0) != x1_1) = true := bne_iff_ne.mpr c5
    obtain rfl := Option.some.inj H
    have p217 : 0 ≤ (x5_1 : Int) := of_decide_eq_true (by assumption)
    have q217 : x5_1 < (l0.length : Int) := of_decide_eq_true (by assumption)
    obtain ⟨ad217, e217, hx217_0, hx217_1⟩ := at_T38 HR0.out x5_1 p217 q217
    cases e217
    replace p217 := eq_true p217
    replace q217 := eq_true q217
    go_wp2
    go_ret
    exact ⟨by first | rfl | (simp; done) | (simp [*]; done), by repeat (first | exact Drawn0.refl _ | apply Drawn0.step)⟩
   rw [if_pos c5] at H
   have c5b0 : (((rd_T38 l0 x5_1).f0) == x1_1) = true := beq_iff_eq.mpr c5
   have c5b1 : (((rd_T38 l0 x5_1).f0) != x1_1) = false := bne_eq_false_iff_eq.mpr c5
   clear c5
   by_cases c6 : ((rd_T38 l0 x5_1).f1) = (wrap64 (x1_1 + 1))
   rotate_left
   ·rw [if_neg c6] at H
    have c6b0 : (((rd_T38 l0 x5_1).f1) == (wrap64 (x1_1 + 1))) = false := beq_eq_false_iff_ne.mpr c6
    have c6b1 : (((rd_T38 l0 x5_1).f1) != (wrap64 (x1_1 + 1))) = true := bne_iff_ne.mpr c6
    obtain rfl := Option.some.inj H
    have p217 : 0 ≤ (x5_1 : Int) := of_decide_eq_true (by assumption)
    have q217 : x5_1 < (l0.length : Int) := of_decide_eq_true (by assumption)
    obtain ⟨ad217, e217, hx217_0, hx217_1⟩ := at_T38 HR0.out x5_1 p217 q217
    cases e217
    replace p217 := eq_true p217
    replace q217 := eq_true q217
    have p218 : 0 ≤ (x5_1 : Int) := of_decide_eq_true (by assumption)
    have q218 : x5_1 < (l0.length : Int) := of_decide_eq_true (by assumption)
    obtain ⟨ad218, e218, hx218_0, hx218_1⟩ := at_T38 HR0.out x5_1 p218 q218
    obtain rfl : ad217 = ad218 := (by injection e218)
    replace p218 := eq_true p218
    replace q218 := eq_true q218
    go_wp2
    go_ret
    exact ⟨by first | rfl | (simp; done) | (simp [*]; done), by repeat (first | exact Drawn0.refl _ | apply Drawn0.step)⟩
   rw [if_pos c6] at H
   have c6b0 : (((rd_T38 l0 x5_1).f1) == (wrap64 (x1_1 + 1))) = true := beq_iff_eq.mpr c6
   have c6b1 : (((rd_T38 l0 x5_1).f1) != (wrap64 (x1_1 + 1))) = false := bne_eq_false_iff_eq.mpr c6
   clear c6
   have H' := Aside0.mk H
   clear H
   have p217 : 0 ≤ (x5_1 : Int) := of_decide_eq_true (by assumption)
   have q217 : x5_1 < (l0.length : Int) := of_decide_eq_true (by assumption)
   obtain ⟨ad217, e217, hx217_0, hx217_1⟩ := at_T38 HR0.out x5_1 p217 q217
   cases e217
   replace p217 := eq_true p217
   replace q217 := eq_true q217
   have p218 : 0 ≤ (x5_1 : Int) := of_decide_eq_true (by assumption)
   have q218 : x5_1 < (l0.length : Int) := of_decide_eq_true (by assumption)
   obtain ⟨ad218, e218, hx218_0, hx218_1⟩ := at_T38 HR0.out x5_1 p218 q218
   obtain rfl : ad217 = ad218 := (by injection e218)
   replace p218 := eq_true p218
   replace q218 := eq_true q218
   go_wp2
   go_roundg k1
   case measure => have := HK1.out; omega
   case rel => exact ⟨(wrap64 ((wrap64 (x1_1 + 1)) + 1)), (wrap64 (x5_1 + 1)), (by first | rfl | (simp; done) | (simp [*]; done)), (by first | rfl | (simp; done) | (simp [*]; done)), H', ⟨by have := HK1.out; omega⟩, by repeat (first | exact Drawn0.refl _ | apply Drawn0.step)⟩
end Go.Proofs.Ytafbnilpipcjfaa.P
