/- A part of this seat's proofs: contracts of the translated functions, written by the session's own program (gp.py) out of the kit's print.py and the session's own contracts; no conditions of its own. -/
import Derived.Test.YtafbnilpipcjfaaPx0
import Derived.Test.YtafbnilpipcjfaaPx11
namespace Go.Proofs.Ytafbnilpipcjfaa.P
open Go.RowKit Go.Proofs.YtafbnilpipcjfaaW.PrintWords Go.Proofs.YtafbnilpipcjfaaW.PrintLast Go.Proofs.YtafbnilpipcjfaaW.PrintMore
attribute [local go_sem] max2_int min2_int max_two min_two max_three min_three max_four min_four   -- for this text's walks alone
set_option linter.unusedVariables false
set_option linter.unusedSimpArgs false

/-! ### given: 38_searchT.tpl -/
theorem Grew.below {w w' : World} (h : Grew w w') : Below w.heap.size w w' := by
  obtain ⟨q, os, rfl⟩ := h
  refine ⟨rfl, rfl, rfl, by simp [Go.Sort.grow], fun k hk => ?_⟩
  simp [Go.Sort.grow, Array.getElem?_append_left hk]
/-- Where a thread stands, by halves. -/
def bsT (l : List S38) (t : S38) : Nat → Nat → Nat → Nat
  | 0, lo, _ => lo
  | k + 1, lo, hi => if lo < hi then (if cmpT (l.getD ((lo + hi) / 2) z38) t < 0 then bsT l t k ((lo + hi) / 2 + 1) hi else bsT l t k lo ((lo + hi) / 2)) else lo
theorem bsT_end (l : List S38) (t : S38) (k lo : Nat) : bsT l t k lo lo = lo := by
  cases k with
  | zero => rfl
  | succ k => rw [bsT, if_neg (by omega)]
def impl_Thread_46.f (l0 : List (S38)) (a1_0 : Int) (a1_1 : Int) : Option (Int × Bool) :=
  if l0.length < 2305843009213693952 then some (((bsT l0 ⟨a1_0, a1_1⟩ l0.length 0 l0.length : Nat) : Int), decide (bsT l0 ⟨a1_0, a1_1⟩ l0.length 0 l0.length < l0.length) && decide (cmpT (l0.getD (bsT l0 ⟨a1_0, a1_1⟩ l0.length 0 l0.length) z38) ⟨a1_0, a1_1⟩ = 0)) else none
set_option maxHeartbeats 4000000 in
set_option maxRecDepth 100000 in
theorem impl_Thread_46.calls (A0 : Option Addr) (c0 : Nat) (l0 : List S38) (a1_0 : Int) (a1_1 : Int) (r1 : Int) (r2 : Bool) (w : World) (hr0 : Kd.C k38 w A0 l0.length l0) (hc0 : l0.length ≤ c0) (h : impl_Thread_46.f l0 a1_0 a1_1 = some (r1, r2)) :
    Calls Try.prog 46 #[.slice A0 l0.length c0, .agg #[.int .i64 a1_0, .int .i64 a1_1], .func (.func 47) #[] #[]] w fun e w' => e = .returned (.tuple #[.int .i64 r1, .bool r2]) ∧ Below w.heap.size w w' := by
  unfold impl_Thread_46.f at h
  by_cases hsz : l0.length < 2305843009213693952
  · rw [if_pos hsz] at h
    simp only [Option.some.injEq, Prod.mk.injEq] at h
    have hs2 := h.2
    obtain ⟨rfl, _⟩ := h
    obtain ⟨R, hR⟩ : ∃ R, bsT l0 ⟨a1_0, a1_1⟩ l0.length 0 l0.length = R := ⟨_, rfl⟩
    rw [hR] at hs2 ⊢
    have hub := Try.underlying38
    have HR := Aside0.mk hr0
    have HS2 := Aside0.mk hs2
    have HRR := Aside0.mk hR
    have g0 : (w.alloc (.cells #[.int .i64 a1_0, .int .i64 a1_1] 38)).cell? ⟨w.heap.size, 0, none⟩ = some (.int .i64 a1_0) := by simp
    have g1 : (w.alloc (.cells #[.int .i64 a1_0, .int .i64 a1_1] 38)).cell? ⟨w.heap.size, 1, none⟩ = some (.int .i64 a1_1) := by simp
    have g2 : w.heap.size < (w.alloc (.cells #[.int .i64 a1_0, .int .i64 a1_1] 38)).heap.size := by simp
    have g3 := below_alloc (Below.refl w.heap.size w) (.cells #[.int .i64 a1_0, .int .i64 a1_1] 38)
    clear hr0 hs2 hR
    go_enter Try.func46, Try.ntmps46
    go_wp2
    generalize w.alloc (.cells #[.int .i64 a1_0, .int .i64 a1_1] 38) = W0 at g0 g1 g2 g3 ⊢
    have G0 := Aside0.mk g0
    have G1 := Aside0.mk g1
    have G2 := Aside0.mk g2
    have G3 := Aside0.mk g3
    clear g0 g1 g2 g3
    go_loopg [9, 10] l0.length (fun gg s9 s10 wr => ∃ lo hi k : Nat, lo ≤ hi ∧ hi ≤ l0.length ∧ hi - lo ≤ gg ∧ s9 = .int .i64 lo ∧ s10 = .int .i64 hi ∧ Aside0 (hi - lo ≤ k ∧ bsT l0 ⟨a1_0, a1_1⟩ k lo hi = R) ∧ Aside0 (Below W0.heap.size W0 wr))
    case atStart => exact ⟨0, l0.length, l0.length, by omega, by omega, by omega, rfl, rfl, ⟨by omega, HRR.out⟩, ⟨Below.refl _ _⟩⟩
    case round =>
      obtain ⟨lo, hi, k, hlh, hhl, hgg, rfl, rfl, HK, HB⟩ := hrel
      have y0 : wr.cell? ⟨w.heap.size, 0, none⟩ = some (.int .i64 a1_0) := (HB.out.cell (p := ⟨w.heap.size, 0, none⟩) G2.out).trans G0.out
      have y1 : wr.cell? ⟨w.heap.size, 1, none⟩ = some (.int .i64 a1_1) := (HB.out.cell (p := ⟨w.heap.size, 1, none⟩) G2.out).trans G1.out
      by_cases hlt : lo < hi
      · obtain ⟨m, hm⟩ : ∃ m, (lo + hi) / 2 = m := ⟨_, rfl⟩
        obtain ⟨hk1, hk2⟩ := HK.out
        obtain ⟨k, rfl⟩ : ∃ j, k = j + 1 := ⟨k - 1, by omega⟩
        rw [bsT, if_pos hlt, hm] at hk2
        obtain ⟨ad, y, rfl, hcell, hcell1, HY, hmem⟩ := read_atT (Kd.C_below HR.out (below_then G3.out (Nat.le_of_lt G2.out) HB.out)) m (by omega)
        have hltz : (lo : Int) < (hi : Int) := by omega
        rw [← HY.out] at hk2
        clear hmem HK
        have hml : (m : Int) < (l0.length : Int) := by omega
        have hmz : ((lo : Int) + (hi : Int)) / 2 = (m : Int) := by omega
        have hw1 : IntKind.i64.wrap ((m : Int) + 1) = ((m + 1 : Nat) : Int) := by rw [IntWalk.i64_in _ (by omega)]; omega
        have HL := Aside0.mk (impl_compareThreads.lays y ⟨a1_0, a1_1⟩)
        generalize cmpT y ⟨a1_0, a1_1⟩ = c at hk2 HL
        by_cases hc : c < 0
        · rw [if_pos hc] at hk2
          have HK2 := Aside0.mk hk2
          clear hk2
          go_wp2_with fail
          go_region_held3 (fun w' => w'.cell? (ad.add (m * 2)) = some (.int .i64 y.f0) ∧ w'.cell? ⟨(ad.add (m * 2)).block, (ad.add (m * 2)).off + 1, none⟩ = some (.int .i64 y.f1) ∧ w'.cell? ⟨w.heap.size, 0, none⟩ = some (.int .i64 a1_0) ∧ w'.cell? ⟨w.heap.size, 1, none⟩ = some (.int .i64 a1_1))
            (first | (refine ⟨?_, ?_, ?_, ?_⟩; assumption; assumption; assumption; assumption))
            (first | (go_at_call 47; (with_reducible refine (HL.out _).mono ?_); rintro e w9 ⟨rfl, hG⟩; have z0 := Go.Proofs.YtafbnilpipcjfaaW.PrintWords.pw_cell_below hG.below hcell; have z1 := Go.Proofs.YtafbnilpipcjfaaW.PrintWords.pw_cell_below hG.below hcell1; have z2 := Go.Proofs.YtafbnilpipcjfaaW.PrintWords.pw_cell_below hG.below y0; have z3 := Go.Proofs.YtafbnilpipcjfaaW.PrintWords.pw_cell_below hG.below y1; have HB2 := Aside0.mk (below_then (below_drew HB.out) HB.out.size hG.below); clear hG))
          all_goals
            go_wp2
            go_roundg (hi - (m + 1))
            case measure => omega
            case rel => exact ⟨m + 1, hi, k, by omega, hhl, Nat.le_refl _, by go_num, rfl, ⟨by omega, HK2.out⟩, HB2⟩
        · rw [if_neg hc] at hk2
          have HK2 := Aside0.mk hk2
          clear hk2
          go_wp2_with fail
          go_region_held3 (fun w' => w'.cell? (ad.add (m * 2)) = some (.int .i64 y.f0) ∧ w'.cell? ⟨(ad.add (m * 2)).block, (ad.add (m * 2)).off + 1, none⟩ = some (.int .i64 y.f1) ∧ w'.cell? ⟨w.heap.size, 0, none⟩ = some (.int .i64 a1_0) ∧ w'.cell? ⟨w.heap.size, 1, none⟩ = some (.int .i64 a1_1))
            (first | (refine ⟨?_, ?_, ?_, ?_⟩; assumption; assumption; assumption; assumption))
            (first | (go_at_call 47; (with_reducible refine (HL.out _).mono ?_); rintro e w9 ⟨rfl, hG⟩; have z0 := Go.Proofs.YtafbnilpipcjfaaW.PrintWords.pw_cell_below hG.below hcell; have z1 := Go.Proofs.YtafbnilpipcjfaaW.PrintWords.pw_cell_below hG.below hcell1; have z2 := Go.Proofs.YtafbnilpipcjfaaW.PrintWords.pw_cell_below hG.below y0; have z3 := Go.Proofs.YtafbnilpipcjfaaW.PrintWords.pw_cell_below hG.below y1; have HB2 := Aside0.mk (below_then (below_drew HB.out) HB.out.size hG.below); clear hG))
          all_goals
            go_wp2
            go_roundg (m - lo)
            case measure => omega
            case rel => exact ⟨lo, m, k, by omega, by omega, Nat.le_refl _, rfl, rfl, ⟨by omega, HK2.out⟩, HB2⟩
      · obtain rfl : lo = hi := by omega
        obtain ⟨hk1, hk2⟩ := HK.out
        rw [bsT_end] at hk2
        subst hk2
        clear HK
        by_cases hlt2 : lo < l0.length
        · obtain ⟨ad, y, rfl, hcell, hcell1, HY, hmem⟩ := read_atT (Kd.C_below HR.out (below_then G3.out (Nat.le_of_lt G2.out) HB.out)) lo (by omega)
          have hltz : (lo : Int) < (l0.length : Int) := by omega
          have hs2 := HS2.out
          rw [← HY.out, decide_eq_true hlt2, Bool.true_and] at hs2
          have HL := Aside0.mk (impl_compareThreads.lays y ⟨a1_0, a1_1⟩)
          generalize cmpT y ⟨a1_0, a1_1⟩ = c at hs2 HL
          have hce : (c == 0) = r2 := by rw [← hs2]; rfl
          clear hs2 HS2
          go_wp2_with fail
          go_region_held3 (fun w' => w'.cell? (ad.add (lo * 2)) = some (.int .i64 y.f0) ∧ w'.cell? ⟨(ad.add (lo * 2)).block, (ad.add (lo * 2)).off + 1, none⟩ = some (.int .i64 y.f1) ∧ w'.cell? ⟨w.heap.size, 0, none⟩ = some (.int .i64 a1_0) ∧ w'.cell? ⟨w.heap.size, 1, none⟩ = some (.int .i64 a1_1))
            (first | (refine ⟨?_, ?_, ?_, ?_⟩; assumption; assumption; assumption; assumption))
            (first | (go_at_call 47; (with_reducible refine (HL.out _).mono ?_); rintro e w9 ⟨rfl, hG⟩; have z0 := Go.Proofs.YtafbnilpipcjfaaW.PrintWords.pw_cell_below hG.below hcell; have z1 := Go.Proofs.YtafbnilpipcjfaaW.PrintWords.pw_cell_below hG.below hcell1; have z2 := Go.Proofs.YtafbnilpipcjfaaW.PrintWords.pw_cell_below hG.below y0; have z3 := Go.Proofs.YtafbnilpipcjfaaW.PrintWords.pw_cell_below hG.below y1; have HB2 := Aside0.mk (below_then (below_drew HB.out) HB.out.size hG.below); clear hG))
          all_goals
            go_wp2
            go_ret2
            exact ⟨rfl, below_then G3.out (Nat.le_of_lt G2.out) HB2.out⟩
        · have hs2 := HS2.out
          rw [decide_eq_false hlt2, Bool.false_and] at hs2
          subst hs2
          obtain rfl : lo = l0.length := by omega
          clear HS2 hlt2 hk1
          go_wp2_with fail
          go_region
          all_goals
            go_wp2
            go_ret2
            exact ⟨rfl, below_then G3.out (Nat.le_of_lt G2.out) (below_drew HB.out)⟩
  · rw [if_neg hsz] at h; cases h

-- NOT PRINTED: function 67 (impl_Thread_67)

end Go.Proofs.Ytafbnilpipcjfaa.P
