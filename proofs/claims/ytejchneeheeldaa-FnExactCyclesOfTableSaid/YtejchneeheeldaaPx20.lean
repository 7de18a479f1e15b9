/- A part of this seat's proofs: contracts of the translated functions, written by the session's own program (gp.py) out of the kit's print.py and the session's own contracts; no conditions of its own. -/
import Derived.Test.YtejchneeheeldaaPx0
import Derived.Test.YtejchneeheeldaaPx10
import Derived.Test.YtejchneeheeldaaPx13
import Derived.Test.YtejchneeheeldaaPx17
import Derived.Test.YtejchneeheeldaaPx18
import Derived.Test.YtejchneeheeldaaPx19
namespace Go.Proofs.Ytejchneeheeldaa.P
open Go.RowKit Go.Proofs.YtejchneeheeldaaW.PrintWords Go.Proofs.YtejchneeheeldaaW.PrintLast Go.Proofs.YtejchneeheeldaaW.PrintMore
attribute [local go_sem] max2_int min2_int max_two min_two max_three min_three max_four min_four   -- for this text's walks alone
set_option linter.unusedVariables false
set_option linter.unusedSimpArgs false

/-! ### laws_heldIntSS: function 18 -/
def laws_heldIntSS.l0 : Nat → List (List Int) → Int → Int → Option (Int)
 | 0, _, _, _ => none
 | k + 1, x0, x1, x5 => if x5 < (x0.length : Int) then (if 0 ≤ x5 then ((laws_heldIntS.f k (rd_L1 x0 x5) x1).bind fun t174 => (if t174 < 0 then (some (-1)) else (laws_heldIntSS.l0 k x0 t174 (wrap64 (x5 + 1))))) else (none)) else (some x1)
def laws_heldIntSS.f (k : Nat) (l0 : List (List Int)) (a1 : Int) : Option (Int) := laws_heldIntSS.l0 k l0 a1 0
theorem laws_heldIntSS.mono_l : ∀ k, (∀ y0 y1 y2, LeO (laws_heldIntSS.l0 k y0 y1 y2) (laws_heldIntSS.l0 (k + 1) y0 y1 y2))
 | 0 => fun _ _ _ r h => by simp [laws_heldIntSS.l0] at h
 | k + 1 => by
  have ih0 := laws_heldIntSS.mono_l k
  ·intro y0 y1 y2
   unfold laws_heldIntSS.l0
   repeat' first
   | (with_reducible exact ih0 _ _ _)
   | (with_reducible exact laws_heldIntS.mono _ _ _)
   | (with_reducible exact LeO.refl _)
   | (with_reducible exact LeO.none _)
   | (with_reducible refine LeO.ite ?_ ?_)
   | (with_reducible refine LeO.bind ?_ (fun _ => ?_))
   | exact ih0 _ _ _
   | exact laws_heldIntS.mono _ _ _
   | exact LeO.none _
   | refine LeO.ite ?_ ?_
   | refine LeO.bind ?_ (fun _ => ?_)
theorem laws_heldIntSS.mono : ∀ a0 a1 k, LeO (laws_heldIntSS.f k a0 a1) (laws_heldIntSS.f (k + 1) a0 a1) := by
 intro a0 a1 k
 have ih0 := laws_heldIntSS.mono_l k
 unfold laws_heldIntSS.f
 repeat' first
   | (with_reducible exact ih0 _ _ _)
   | (with_reducible exact laws_heldIntS.mono _ _ _)
   | (with_reducible exact LeO.refl _)
   | (with_reducible exact LeO.none _)
   | (with_reducible refine LeO.ite ?_ ?_)
   | (with_reducible refine LeO.bind ?_ (fun _ => ?_))
   | exact ih0 _ _ _
   | exact laws_heldIntS.mono _ _ _
   | exact LeO.none _
   | refine LeO.ite ?_ ?_
   | refine LeO.bind ?_ (fun _ => ?_)
set_option maxHeartbeats 8000000 in
set_option maxRecDepth 100000 in
theorem laws_heldIntSS.calls (k : Nat) (A0 : Option Addr) (c0 : Nat) (l0 : List (List Int)) (a1 : Int) (r : Int) (w : World) (hr0 : Kd.C (Kd.slice 3 (Kd.int .i64)) w A0 l0.length l0) (hc0 : l0.length ≤ c0) (h : laws_heldIntSS.f k l0 a1 = some r) :
  Calls Try.prog 18 #[.slice A0 l0.length c0, .int .i64 a1] w fun e w' => e = .returned (.int .i64 r) ∧ Drawn0 w w' := by
 have HR0 := Aside0.mk hr0
 have HC0 := Aside0.mk hc0
 clear hr0 hc0
 have H : (laws_heldIntSS.l0 k l0 a1 0) = some r := h
 clear h
 have H' := Aside0.mk H
 clear H
 go_enter Try.func18, Try.ntmps18
 go_wp2
 go_loopg [1, 5] k (fun kq v1 v5 w' => ∃ (x1_1 : Int) (x5_1 : Int), v1 = .int .i64 x1_1 ∧ v5 = .int .i64 x5_1 ∧ Aside0 (laws_heldIntSS.l0 kq l0 x1_1 x5_1 = some r) ∧ Aside0 (kq ≤ k) ∧ Drawn0 w w')
 case atStart => exact ⟨(a1), (0), (by first | rfl | (simp; done) | (simp [*]; done)), (by first | rfl | (simp; done) | (simp [*]; done)), H', ⟨Nat.le_refl _⟩, by repeat (first | exact Drawn0.refl _ | apply Drawn0.step)⟩
 case round =>
  clear H'
  try clear c1
  try clear p2
  obtain ⟨x1_1, x5_1, rfl, rfl, HA, HK1, ⟨m1, rfl⟩⟩ := hrel
  cases gk with
  | zero => exact absurd HA.out (by simp [laws_heldIntSS.l0])
  | succ k1 =>
   have H := HA.out
   clear HA
   simp only [laws_heldIntSS.l0] at H
   by_cases c3 : x5_1 < (l0.length : Int)
   rotate_left
   ·rw [if_neg c3] at H
    have c3b0 : decide (x5_1 < (l0.length : Int)) = false := decide_eq_false c3
    clear c3
    obtain rfl := Option.some.inj H
    go_wp2
    go_ret
    exact ⟨by first | rfl | (simp; done) | (simp [*]; done), by repeat (first | exact Drawn0.refl _ | apply Drawn0.step)⟩

   rw [if_pos c3] at H
   have c3b0 : decide (x5_1 < (l0.length : Int)) = true := decide_eq_true c3
   clear c3
   by_cases c4 : 0 ≤ x5_1
   rotate_left
   ·rw [if_neg c4] at H
    exact absurd H (by simp)
   rw [if_pos c4] at H
   have c4b0 : decide (0 ≤ x5_1) = true := decide_eq_true c4
   clear c4
   replace H := Option.bind_eq_some_iff.mp H
   obtain ⟨t174, A50, H⟩ := H
   (try dsimp only at H)
   have A5 := Aside0.mk A50
   clear A50
   by_cases c6 : t174 < 0
   ·rw [if_pos c6] at H
    have c6b0 : decide (t174 < 0) = true := decide_eq_true c6
    clear c6
    obtain rfl := Option.some.inj H
    have p173 : 0 ≤ (x5_1 : Int) := of_decide_eq_true (by assumption)
    have q173 : x5_1 < (l0.length : Int) := of_decide_eq_true (by assumption)
    obtain ⟨ad173, A173_0, c173_0, e173, hx173_0, hl173_0, hi173_0⟩ := at_L1 HR0.out x5_1 p173 q173
    cases e173
    have HR173_0 := Aside0.mk hi173_0
    have HC173_0 := Aside0.mk hl173_0
    clear hi173_0 hl173_0
    replace p173 := eq_true p173
    replace q173 := eq_true q173
    go_wp2_with (first | ((with_reducible refine gate_callee (f := 13) rfl ?_); refine goesL_ (some 17) rfl rfl Try.func13 (by kernel_rfl) rfl #[.slice A173_0 (rd_L1 l0 x5_1).length c173_0, .int .i64 x1_1] rfl (by (try simp only [List.map_toArray, List.map_cons, List.map_nil]); first | done | rfl | (simp only [List.length_drop, List.length_take]; rfl)) ?_; (with_reducible refine (laws_heldIntS.calls k1 _ _ (rd_L1 l0 x5_1) x1_1 t174 _ ?side1 ?side2 A5.out).mono ?_); (case side1 => repeat (first | exact HR173_0.out | (with_reducible refine Kd.C_alloc ?_ _) | (with_reducible refine Kd.C_drewN ?_ _) | (with_reducible refine Kd.C_drew ?_))); (case side2 => exact HC173_0.out); rintro e w' ⟨rfl, ⟨nd, rfl⟩⟩; refine ⟨_, rfl, ?_⟩))
    go_ret
    exact ⟨by first | rfl | (simp; done) | (simp [*]; done), by repeat (first | exact Drawn0.refl _ | apply Drawn0.step)⟩
   rw [if_neg c6] at H
   have c6b0 : decide (t174 < 0) = false := decide_eq_false c6
   clear c6
   have H' := Aside0.mk H
   clear H
   have p173 : 0 ≤ (x5_1 : Int) := of_decide_eq_true (by assumption)
   have q173 : x5_1 < (l0.length : Int) := of_decide_eq_true (by assumption)
   obtain ⟨ad173, A173_0, c173_0, e173, hx173_0, hl173_0, hi173_0⟩ := at_L1 HR0.out x5_1 p173 q173
   cases e173
   have HR173_0 := Aside0.mk hi173_0
   have HC173_0 := Aside0.mk hl173_0
   clear hi173_0 hl173_0
   replace p173 := eq_true p173
   replace q173 := eq_true q173
   go_wp2_with (first | ((with_reducible refine gate_callee (f := 13) rfl ?_); refine goesL_ (some 17) rfl rfl Try.func13 (by kernel_rfl) rfl #[.slice A173_0 (rd_L1 l0 x5_1).length c173_0, .int .i64 x1_1] rfl (by (try simp only [List.map_toArray, List.map_cons, List.map_nil]); first | done | rfl | (simp only [List.length_drop, List.length_take]; rfl)) ?_; (with_reducible refine (laws_heldIntS.calls k1 _ _ (rd_L1 l0 x5_1) x1_1 t174 _ ?side1 ?side2 A5.out).mono ?_); (case side1 => repeat (first | exact HR173_0.out | (with_reducible refine Kd.C_alloc ?_ _) | (with_reducible refine Kd.C_drewN ?_ _) | (with_reducible refine Kd.C_drew ?_))); (case side2 => exact HC173_0.out); rintro e w' ⟨rfl, ⟨nd, rfl⟩⟩; refine ⟨_, rfl, ?_⟩))
   go_roundg k1
   case measure => have := HK1.out; omega
   case rel => exact ⟨(t174), (wrap64 (x5_1 + 1)), (by first | rfl | (simp; done) | (simp [*]; done)), (by first | rfl | (simp; done) | (simp [*]; done)), H', ⟨by have := HK1.out; omega⟩, by repeat (first | exact Drawn0.refl _ | apply Drawn0.step)⟩
/-! ### given: 37_lawCycles.tpl -/
def laws_FnExactCyclesOfTable.f (k : Nat) (a0 : Int) (a1 : Int) : Option (Bool) :=
  (spec_CyclesOfTable.f k a0 a1).bind fun s => (impl_CyclesOfTable.f k a0 a1).bind fun g => (laws_eqIntSS.f k g.1 s.1).bind fun e1 => (laws_markIntSS.f k g.1 1).bind fun m => (laws_heldIntSS.f k m.2 1).bind fun q =>
    if e1 = true ∧ g.2 = s.2 ∧ 0 ≤ q ∧ q = m.1 then some true else none
theorem laws_FnExactCyclesOfTable.mono : ∀ a0 a1 k, LeO (laws_FnExactCyclesOfTable.f k a0 a1) (laws_FnExactCyclesOfTable.f (k + 1) a0 a1) := by
  intro a0 a1 k
  unfold laws_FnExactCyclesOfTable.f
  repeat' first
    | (with_reducible exact impl_CyclesOfTable.mono _ _ _)
    | (with_reducible exact laws_eqIntSS.mono _ _ _)
    | (with_reducible exact laws_heldIntSS.mono _ _ _)
    | (with_reducible exact laws_markIntSS.mono _ _ _)
    | (with_reducible exact spec_CyclesOfTable.mono _ _ _)
    | (with_reducible exact LeO.refl _)
    | (with_reducible exact LeO.none _)
    | (with_reducible refine LeO.ite ?_ ?_)
    | (with_reducible refine LeO.bind ?_ (fun _ => ?_))
theorem below_goC {a W W' : World} (h : Below a.heap.size a W) (h2 : Below W.heap.size W W') : Below a.heap.size a W' := below_then h h.size h2
theorem below_drawnC {W W' : World} (h : Drawn0 W W') : Below W.heap.size W W' := by
  obtain ⟨nd, rfl⟩ := h
  exact pw_below_drewN (Below.refl _ _) nd
set_option maxHeartbeats 8000000 in
set_option maxRecDepth 100000 in
theorem laws_FnExactCyclesOfTable.calls (k : Nat) (a0 : Int) (a1 : Int) (r : Bool) (w : World) (h : laws_FnExactCyclesOfTable.f k a0 a1 = some r) :
    Calls Try.prog 4 #[.int .i64 a0, .int .i64 a1] w fun e w' => e = .returned (.bool r) ∧ Below w.heap.size w w' := by
  unfold laws_FnExactCyclesOfTable.f at h
  obtain ⟨s, hs, h⟩ := Option.bind_eq_some_iff.mp h
  obtain ⟨g, hg, h⟩ := Option.bind_eq_some_iff.mp h
  obtain ⟨e1, he1, h⟩ := Option.bind_eq_some_iff.mp h
  obtain ⟨m, hm, h⟩ := Option.bind_eq_some_iff.mp h
  obtain ⟨q, hq, h⟩ := Option.bind_eq_some_iff.mp h
  by_cases hc : e1 = true ∧ g.2 = s.2 ∧ 0 ≤ q ∧ q = m.1
  · rw [if_pos hc] at h
    obtain rfl := Option.some.inj h
    obtain ⟨rfl, hgs, hq0, rfl⟩ := hc
    obtain ⟨s1, s2⟩ := s
    obtain ⟨g1, g2⟩ := g
    obtain ⟨m1, m2⟩ := m
    simp only at hgs hq0 hm he1 hq
    subst hgs
    have HS := Aside0.mk hs
    have HG := Aside0.mk hg
    have HE1 := Aside0.mk he1
    have HMm := Aside0.mk hm
    have HQ := Aside0.mk hq
    have hq9 : ¬ m1 < 0 := by omega
    clear h hs hg he1 hm hq hq0
    go_enter Try.func4, Try.ntmps4
    go_wp2_with (go_at_call 14; refine (spec_CyclesOfTable.calls k a0 a1 s1 g2 _ HS.out).mono ?_; rintro e w3 ⟨v3, rfl, hS, hB⟩; obtain ⟨As, cs, rfl, hle, hC⟩ := Kd.S_reads hS; have HC3 := Aside0.mk hC; have HL3 := Aside0.mk hle; have HB3 := Aside0.mk hB; clear hS hB hle hC)
    go_wp2_with (go_at_call 15; refine (impl_CyclesOfTable.calls k a0 a1 g1 g2 _ HG.out).mono ?_; rintro e w5 ⟨v5, rfl, hS, hB⟩; obtain ⟨Ag, cg, rfl, hle, hC⟩ := Kd.S_reads hS; have HSG := Aside0.mk hS; have HC5 := Aside0.mk hC; have HL5 := Aside0.mk hle; have H35 := Aside0.mk hB; clear hS hB hle hC)
    go_wp2_with (go_at_call 16; refine (laws_eqIntSS.calls k Ag cg g1 As cs s1 true _ HC5.out HL5.out (Kd.C_below HC3.out H35.out) HL3.out HE1.out).mono ?_; rintro e w6 ⟨rfl, hd⟩; have H36 := Aside0.mk (below_goC H35.out (below_drawnC hd)); have HS6 := Aside0.mk (Kd.S_below HSG.out (below_drawnC hd)); clear hd)
    go_wp2_with (go_at_call 17; refine (laws_markIntSS.calls k (fun _ => True) _ g1 1 m1 m2 w3 _ H36.out HS6.out HMm.out).mono ?_; rintro e w11 ⟨rfl, hS, hB, _⟩; have H311 := Aside0.mk hB; have HS11 := Aside0.mk (Kd.S_reads' hS); clear hB hS)
    have HN := Aside0.mk HS11.out.1
    go_wp2_with (go_at_call 18; have hcc := laws_heldIntSS.calls k Ag cg m2 1 m1 _ HS11.out.2.2 (by rw [← HN.out]; exact HS11.out.2.1) HQ.out; rw [← HN.out] at hcc; refine hcc.mono ?_; rintro e w12 ⟨rfl, hd⟩; have H1112 := Aside0.mk (below_drawnC hd); have H312 := Aside0.mk (below_goC H311.out (below_drawnC hd)); clear hd hcc)
    go_wp2_with (go_at_call 15; refine (impl_CyclesOfTable.calls k a0 a1 g1 g2 _ HG.out).mono ?_; rintro e w14 ⟨v14, rfl, hS, hB⟩; obtain ⟨Ah, ch, rfl, hle, hC⟩ := Kd.S_reads hS; have HC14 := Aside0.mk hC; have HL14 := Aside0.mk hle; have H314 := Aside0.mk (below_goC H312.out hB); have H1114 := Aside0.mk (below_goC H1112.out hB); clear hS hB hle hC)
    go_wp2_with (go_at_call 16; refine (laws_eqIntSS.calls k Ah ch g1 As cs s1 true _ HC14.out HL14.out (Kd.C_below HC3.out H314.out) HL3.out HE1.out).mono ?_; rintro e w15 ⟨rfl, hd⟩; have H315 := Aside0.mk (below_goC H314.out (below_drawnC hd)); have H1115 := Aside0.mk (below_goC H1114.out (below_drawnC hd)); clear hd)
    go_wp2_with (go_at_call 18; have hcc := laws_heldIntSS.calls k Ag cg m2 1 m1 _ (Kd.C_below HS11.out.2.2 H1115.out) (by rw [← HN.out]; exact HS11.out.2.1) HQ.out; rw [← HN.out] at hcc; refine hcc.mono ?_; rintro e w16 ⟨rfl, hd⟩; have H316 := Aside0.mk (below_goC H315.out (below_drawnC hd)); clear hd hcc)
    go_ret
    exact ⟨rfl, below_goC HB3.out H316.out⟩
  · rw [if_neg hc] at h; cases h
def laws_FnExactCyclesOfTable.Pure : Prop := ∀ (a0 : Int) (a1 : Int), (Lit.int .i64 a0).wf = true → (Lit.int .i64 a1).wf = true → ∃ k, laws_FnExactCyclesOfTable.f k a0 a1 = some true
theorem laws_FnExactCyclesOfTable.walk (P : laws_FnExactCyclesOfTable.Pure) (a0 : Int) (a1 : Int) (w : World) (w0 : (Lit.int .i64 a0).wf = true) (w1 : (Lit.int .i64 a1).wf = true) :
    Calls Try.prog 4 #[.int .i64 a0, .int .i64 a1] w fun e w' => e = .returned (.bool true) ∧ Below w.heap.size w w' := by
  obtain ⟨k, h⟩ := P a0 a1 w0 w1
  refine (laws_FnExactCyclesOfTable.calls k a0 a1 true w h).mono ?_
  rintro e w' ⟨rfl, hd⟩
  exact ⟨rfl, hd⟩

end Go.Proofs.Ytejchneeheeldaa.P
