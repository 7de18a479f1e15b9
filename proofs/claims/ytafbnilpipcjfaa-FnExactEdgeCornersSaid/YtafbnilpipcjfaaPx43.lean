/- A part of this seat's proofs: contracts of the translated functions, written by the session's own program (gp.py) out of the kit's print.py and the session's own contracts; no conditions of its own. -/
import Derived.Test.YtafbnilpipcjfaaPx0
import Derived.Test.YtafbnilpipcjfaaPx2
import Derived.Test.YtafbnilpipcjfaaPx6
import Derived.Test.YtafbnilpipcjfaaPx18
import Derived.Test.YtafbnilpipcjfaaPx19
import Derived.Test.YtafbnilpipcjfaaPx38
import Derived.Test.YtafbnilpipcjfaaPx39
import Derived.Test.YtafbnilpipcjfaaPx40
import Derived.Test.YtafbnilpipcjfaaPx41
import Derived.Test.YtafbnilpipcjfaaPx42
namespace Go.Proofs.Ytafbnilpipcjfaa.P
open Go.RowKit Go.Proofs.YtafbnilpipcjfaaW.PrintWords Go.Proofs.YtafbnilpipcjfaaW.PrintLast Go.Proofs.YtafbnilpipcjfaaW.PrintMore
attribute [local go_sem] max2_int min2_int max_two min_two max_three min_three max_four min_four   -- for this text's walks alone
set_option linter.unusedVariables false
set_option linter.unusedSimpArgs false

/-! ### given: 35_lawCorners.tpl -/
def laws_FnExactEdgeCorners.f (k : Nat) (l0 : List (S35)) : Option (Bool) :=
  (laws_szThreadS.f l0 1048576).bind fun z => if z < 0 then some true else
    (laws_toThreadS.f k l0).bind fun t => (spec_EdgeCorners.f k t).bind fun s => (impl_EdgeCorners.f k t).bind fun g => (laws_eqIntSS.f k g.1 s.1).bind fun e1 => (laws_eqThreadS.f k t t).bind fun e2 =>
      (laws_markThreadS.f k t 1).bind fun b => (laws_markIntSS.f k g.1 1).bind fun m => (laws_heldIntSS.f k m.2 1).bind fun q =>
        if e1 = true ∧ g.2 = s.2 ∧ e2 = true ∧ 0 ≤ b.1 ∧ 0 ≤ q ∧ q = m.1 then some true else none
theorem laws_FnExactEdgeCorners.mono : ∀ a0 k, LeO (laws_FnExactEdgeCorners.f k a0) (laws_FnExactEdgeCorners.f (k + 1) a0) := by
  intro a0 k
  unfold laws_FnExactEdgeCorners.f
  repeat' first
    | (with_reducible exact impl_EdgeCorners.mono _ _)
    | (with_reducible exact laws_eqIntSS.mono _ _ _)
    | (with_reducible exact laws_eqThreadS.mono _ _ _)
    | (with_reducible exact laws_heldIntSS.mono _ _ _)
    | (with_reducible exact laws_markIntSS.mono _ _ _)
    | (with_reducible exact laws_markThreadS.mono _ _ _)
    | (with_reducible exact laws_toThreadS.mono _ _)
    | (with_reducible exact spec_EdgeCorners.mono _ _)
    | (with_reducible exact LeO.refl _)
    | (with_reducible exact LeO.none _)
    | (with_reducible refine LeO.ite ?_ ?_)
    | (with_reducible refine LeO.bind ?_ (fun _ => ?_))
theorem below_go {a W W' : World} (h : Below a.heap.size a W) (h2 : Below W.heap.size W W') : Below a.heap.size a W' := below_then h h.size h2
theorem below_drawn {W W' : World} (h : Drawn0 W W') : Below W.heap.size W W' := by
  obtain ⟨nd, rfl⟩ := h
  exact pw_below_drewN (Below.refl _ _) nd
set_option maxHeartbeats 8000000 in
set_option maxRecDepth 100000 in
theorem laws_FnExactEdgeCorners.calls (k : Nat) (A0 : Option Addr) (c0 : Nat) (l0 : List (S35)) (r : Bool) (w : World) (hr0 : Kd.C k35 w A0 l0.length l0) (hc0 : l0.length ≤ c0) (h : laws_FnExactEdgeCorners.f k l0 = some r) :
    Calls Try.prog 6 #[.slice A0 l0.length c0] w fun e w' => e = .returned (.bool r) ∧ Below w.heap.size w w' := by
  unfold laws_FnExactEdgeCorners.f at h
  obtain ⟨z, hz, h⟩ := Option.bind_eq_some_iff.mp h
  have HR0 := Aside0.mk hr0
  have HC0 := Aside0.mk hc0
  have HZ := Aside0.mk hz
  clear hr0 hz
  by_cases hz0 : z < 0
  · rw [if_pos hz0] at h
    obtain rfl := Option.some.inj h
    clear h hc0
    go_enter Try.func6, Try.ntmps6
    go_wp2_with (go_at_call 9; refine (laws_szThreadS.calls A0 c0 l0 1048576 z _ HR0.out HC0.out HZ.out).mono ?_; rintro e w1 ⟨rfl, ⟨nd, rfl⟩⟩)
    go_ret
    exact ⟨rfl, pw_below_drewN (Below.refl _ _) nd⟩
  · rw [if_neg hz0] at h
    obtain ⟨t, ht, h⟩ := Option.bind_eq_some_iff.mp h
    obtain ⟨s, hs, h⟩ := Option.bind_eq_some_iff.mp h
    obtain ⟨g, hg, h⟩ := Option.bind_eq_some_iff.mp h
    obtain ⟨e1, he1, h⟩ := Option.bind_eq_some_iff.mp h
    obtain ⟨e2, he2, h⟩ := Option.bind_eq_some_iff.mp h
    obtain ⟨b, hb, h⟩ := Option.bind_eq_some_iff.mp h
    obtain ⟨m, hm, h⟩ := Option.bind_eq_some_iff.mp h
    obtain ⟨q, hq, h⟩ := Option.bind_eq_some_iff.mp h
    by_cases hc : e1 = true ∧ g.2 = s.2 ∧ e2 = true ∧ 0 ≤ b.1 ∧ 0 ≤ q ∧ q = m.1
    · rw [if_pos hc] at h
      obtain rfl := Option.some.inj h
      obtain ⟨rfl, hgs, rfl, hb0, hq0, rfl⟩ := hc
      obtain ⟨s1, s2⟩ := s
      obtain ⟨g1, g2⟩ := g
      obtain ⟨b1, b2⟩ := b
      obtain ⟨m1, m2⟩ := m
      simp only at hgs hb0 hq0 hm he1 hb hq
      subst hgs
      have HT := Aside0.mk ht
      have HS := Aside0.mk hs
      have HG := Aside0.mk hg
      have HE1 := Aside0.mk he1
      have HE2 := Aside0.mk he2
      have HBm := Aside0.mk hb
      have HMm := Aside0.mk hm
      have HQ := Aside0.mk hq
      have hb9 : ¬ b1 < 0 := by omega
      have hq9 : ¬ m1 < 0 := by omega
      clear h ht hs hg he1 he2 hb hm hq hb0 hq0 hc0
      go_enter Try.func6, Try.ntmps6
      go_wp2_with (go_at_call 9; refine (laws_szThreadS.calls A0 c0 l0 1048576 z _ HR0.out HC0.out HZ.out).mono ?_; rintro e w1 ⟨rfl, hd⟩; have HB1 := Aside0.mk (below_drawn hd); clear hd)
      go_wp2_with (go_at_call 11; refine (laws_toThreadS.calls k A0 c0 l0 t _ (Kd.C_below HR0.out HB1.out) HC0.out HT.out).mono ?_; rintro e w2 ⟨v2, rfl, hR, hB⟩; obtain ⟨Aa, ca, rfl, hle, hC⟩ := Kd.R_reads hR; have HC2 := Aside0.mk hC; have HL2 := Aside0.mk hle; have HB2 := Aside0.mk (below_go HB1.out hB); clear hR hB hle hC)
      go_wp2_with (go_at_call 24; refine (spec_EdgeCorners.calls k Aa ca t s1 g2 _ HC2.out HL2.out HS.out).mono ?_; rintro e w3 ⟨v3, rfl, hS, hB⟩; obtain ⟨As, cs, rfl, hle, hC⟩ := Kd.S_reads hS; have HC3 := Aside0.mk hC; have HL3 := Aside0.mk hle; have HB3 := Aside0.mk (below_go HB2.out hB); clear hS hB hle hC)
      go_wp2_with (go_at_call 11; refine (laws_toThreadS.calls k A0 c0 l0 t _ (Kd.C_below HR0.out HB3.out) HC0.out HT.out).mono ?_; rintro e w4 ⟨v4, rfl, hR, hB⟩; obtain ⟨Ax, cx, rfl, hle, hC⟩ := Kd.R_reads hR; have HRX := Aside0.mk (Kd.R_mono (ok' := fun k_ => w3.heap.size ≤ k_ ∧ k_ < w4.heap.size) (Kd.R_bound hR) (fun k_ hk => ⟨hk.2.1, hk.2.2.1⟩)); have HC4 := Aside0.mk hC; have HL4 := Aside0.mk hle; have H34 := Aside0.mk hB; clear hR hB hle hC)
      go_wp2_with (go_at_call 25; refine (impl_EdgeCorners.calls k Ax cx t g1 g2 _ HC4.out HL4.out HG.out).mono ?_; rintro e w5 ⟨v5, rfl, hS, hB⟩; obtain ⟨Ag, cg, rfl, hle, hC⟩ := Kd.S_reads hS; have HSG := Aside0.mk (Kd.S_lower (Kd.S_mono (ok' := fun k_ => w4.heap.size ≤ k_) (Kd.S_bound hS) (fun k_ hk => hk.2.1)) H34.out.size); have HC5 := Aside0.mk hC; have HL5 := Aside0.mk hle; have H45 := Aside0.mk hB; clear hS hB hle hC)
      go_wp2_with (go_at_call 26; refine (laws_eqIntSS.calls k Ag cg g1 As cs s1 true _ HC5.out HL5.out (Kd.C_below HC3.out (below_go H34.out H45.out)) HL3.out HE1.out).mono ?_; rintro e w6 ⟨rfl, hd⟩; have H46 := Aside0.mk (below_go H45.out (below_drawn hd)); have H56 := Aside0.mk (below_drawn hd); clear hd)
      go_wp2_with (go_at_call 11; refine (laws_toThreadS.calls k A0 c0 l0 t _ (Kd.C_below HR0.out (below_go HB3.out (below_go H34.out H46.out))) HC0.out HT.out).mono ?_; rintro e w7 ⟨v7, rfl, hR, hB⟩; obtain ⟨Ay, cy, rfl, hle, hC⟩ := Kd.R_reads hR; have HC7 := Aside0.mk hC; have HL7 := Aside0.mk hle; have H47 := Aside0.mk (below_go H46.out hB); have H57 := Aside0.mk (below_go H56.out hB); clear hR hB hle hC)
      go_wp2_with (go_at_call 14; refine (laws_eqThreadS.calls k Ax cx t Ay cy t true _ (Kd.C_below HC4.out H47.out) HL4.out HC7.out HL7.out HE2.out).mono ?_; rintro e w8 ⟨rfl, hB⟩; have H48 := Aside0.mk (below_go H47.out hB); have H58 := Aside0.mk (below_go H57.out hB); clear hB)
      go_wp2_with (go_at_call 15; refine (laws_markThreadS.calls k (fun k_ => w3.heap.size ≤ k_ ∧ k_ < w4.heap.size) _ t 1 b1 b2 w3 _ (below_go H34.out H48.out) (Kd.R_below HRX.out H48.out) HBm.out).mono ?_; rintro e w9 ⟨rfl, _, hB, hK⟩; have H39 := Aside0.mk hB; have HS9 := Aside0.mk (Kd.S_step (Kd.S_below HSG.out H58.out) (fun k_ ho hk => hK.2 k_ hk (fun hn => Nat.not_lt.2 ho hn.2))); clear hB hK)
      have hR9 := Aside0.mk (Kd.S_reads' HS9.out)
      go_wp2_with (go_at_call 26; refine (laws_eqIntSS.calls k Ag cg g1 As cs s1 true _ hR9.out.2.2 hR9.out.2.1 (Kd.C_below HC3.out H39.out) HL3.out HE1.out).mono ?_; rintro e w10 ⟨rfl, hd⟩; have H310 := Aside0.mk (below_go H39.out (below_drawn hd)); have HS10 := Aside0.mk (Kd.S_below HS9.out (below_drawn hd)); clear hd)
      go_wp2_with (go_at_call 27; refine (laws_markIntSS.calls k (fun k_ => w4.heap.size ≤ k_) _ g1 1 m1 m2 w3 _ H310.out HS10.out HMm.out).mono ?_; rintro e w11 ⟨rfl, hS, hB, _⟩; have H311 := Aside0.mk hB; have HS11 := Aside0.mk (Kd.S_reads' hS); clear hB hS)
      have HN := Aside0.mk HS11.out.1
      go_wp2_with (go_at_call 28; have hcc := laws_heldIntSS.calls k Ag cg m2 1 m1 _ HS11.out.2.2 (by rw [← HN.out]; exact HS11.out.2.1) HQ.out; rw [← HN.out] at hcc; refine hcc.mono ?_; rintro e w12 ⟨rfl, hd⟩; have H1112 := Aside0.mk (below_drawn hd); have H312 := Aside0.mk (below_go H311.out (below_drawn hd)); clear hd hcc)
      go_wp2_with (go_at_call 11; refine (laws_toThreadS.calls k A0 c0 l0 t _ (Kd.C_below HR0.out (below_go HB3.out H312.out)) HC0.out HT.out).mono ?_; rintro e w13 ⟨v13, rfl, hR, hB⟩; obtain ⟨Az, cz, rfl, hle, hC⟩ := Kd.R_reads hR; have HC13 := Aside0.mk hC; have HL13 := Aside0.mk hle; have H313 := Aside0.mk (below_go H312.out hB); have H1113 := Aside0.mk (below_go H1112.out hB); clear hR hB hle hC)
      go_wp2_with (go_at_call 25; refine (impl_EdgeCorners.calls k Az cz t g1 g2 _ HC13.out HL13.out HG.out).mono ?_; rintro e w14 ⟨v14, rfl, hS, hB⟩; obtain ⟨Ah, ch, rfl, hle, hC⟩ := Kd.S_reads hS; have HC14 := Aside0.mk hC; have HL14 := Aside0.mk hle; have H314 := Aside0.mk (below_go H313.out hB); have H1114 := Aside0.mk (below_go H1113.out hB); clear hS hB hle hC)
      go_wp2_with (go_at_call 26; refine (laws_eqIntSS.calls k Ah ch g1 As cs s1 true _ HC14.out HL14.out (Kd.C_below HC3.out H314.out) HL3.out HE1.out).mono ?_; rintro e w15 ⟨rfl, hd⟩; have H315 := Aside0.mk (below_go H314.out (below_drawn hd)); have H1115 := Aside0.mk (below_go H1114.out (below_drawn hd)); clear hd)
      go_wp2_with (go_at_call 28; have hcc := laws_heldIntSS.calls k Ag cg m2 1 m1 _ (Kd.C_below HS11.out.2.2 H1115.out) (by rw [← HN.out]; exact HS11.out.2.1) HQ.out; rw [← HN.out] at hcc; refine hcc.mono ?_; rintro e w16 ⟨rfl, hd⟩; have H316 := Aside0.mk (below_go H315.out (below_drawn hd)); clear hd hcc)
      go_ret
      exact ⟨rfl, below_go HB3.out H316.out⟩
    · rw [if_neg hc] at h; cases h

/-! ### spec_l1Own: function 54 -/
def spec_l1Own.f (l0 : List Int) : Option (List Int) := (some (([] : List Int) : List Int)).bind fun y481 => (if y481.length + l0.length < 17592186044416 then (some (y481 ++ l0)) else (none))
set_option maxHeartbeats 8000000 in
set_option maxRecDepth 100000 in
theorem spec_l1Own.calls (A0 : Option Addr) (c0 : Nat) (l0 : List Int) (r : List Int) (w : World) (hr0 : Kd.C (Kd.int .i64) w A0 l0.length l0) (hc0 : l0.length ≤ c0) (h : spec_l1Own.f l0 = some r) :
  Calls Try.prog 54 #[.slice A0 l0.length c0] w fun e w' => ∃ v0_ : Value, e = .returned (v0_) ∧ Kd.R (Kd.int .i64) 3 w' w.heap.size (fun _ => True) v0_ r ∧ Below w.heap.size w w' := by
 have HR0 := Aside0.mk hr0
 have HC0 := Aside0.mk hc0
 clear hr0 hc0
 have HB := Aside0.mk (Below.refl w.heap.size w)
 have H : ((some (([] : List Int) : List Int)).bind fun y481 => (if y481.length + l0.length < 17592186044416 then (some (y481 ++ l0)) else (none))) = some r := h
 clear h
 obtain ⟨y481, hy481⟩ : ∃ y_ : List Int, y_ = (([] : List Int)) := ⟨_, rfl⟩
 replace H : (if y481.length + l0.length < 17592186044416 then (some (y481 ++ l0)) else (none)) = some r := by first | (rw [hy481]; with_reducible exact H) | (have H2_ := (Option.bind_some _ _).symm.trans H; rw [hy481]; with_reducible exact H2_) | (have H2_ := (Option.bind_some _ _).symm.trans H; with_reducible exact H2_) | with_reducible exact H | (rw [hy481]; exact H) | exact H
 have Ny481 := Aside0.mk hy481
 clear hy481
 by_cases c2 : y481.length + l0.length < 17592186044416
 rotate_left
 ·rw [if_neg c2] at H
  exact absurd H (by simp)

 rw [if_pos c2] at H
 have LMc2 := Aside0.mk c2
 clear c2
 obtain ⟨y484, hy484⟩ : ∃ y_ : List Int, y_ = (y481 ++ l0) := ⟨_, rfl⟩
 replace H : (some y484) = some r := by first | (rw [hy484]; with_reducible exact H) | (have H2_ := (Option.bind_some _ _).symm.trans H; rw [hy484]; with_reducible exact H2_) | (have H2_ := (Option.bind_some _ _).symm.trans H; with_reducible exact H2_) | with_reducible exact H | (rw [hy484]; exact H) | exact H
 have Ny484 := Aside0.mk hy484
 clear hy484
 obtain rfl := Option.some.inj H
 go_enter Try.func54, Try.ntmps54
 go_wp2_with (first | ((with_reducible refine gate_dst (N := 3) rfl ?_); refine Kd.R_lit (Kd.int .i64) _ 3 ?hg (N := 3) ?hd (xs := ([] : List Int)) (inner := []) (ok := fun _ => True) (okp := fun _ => True) ?hr ?hp (fun _ hk => hk) trivial (Below.refl _ _) (Nat.le_refl _) (by simp) ?_; (case hd => rfl); (case hg => rfl); (case hr => first | (go_simp; done) | (go_simp; rfl)); (case hp => exact (Reps.none _ _)); intro v482 w3 ho4 hb hg_ hnew_; clear hg_ hnew_; (first | rw [← Ny481.out] at ho4 | (simp only [Int.reduceToNat] at ho4; rw [← Ny481.out] at ho4)); have n0_ := Aside0.mk (Kd.R_lower ho4 (below_size (by repeat (first | (with_reducible first | apply below_alloc | apply pw_below_drewN | apply below_drew1) | exact HB.out)))); have n1_ := Aside0.mk (below_step (by repeat (first | (with_reducible first | apply below_alloc | apply pw_below_drewN | apply below_drew1) | exact HB.out)) hb); clear HB; have HO483 := n0_; have HB := n1_; clear n0_ n1_; clear hb ho4) | ((with_reducible refine gate_builtin (b := .append) (xs := #[.tmp 3, .tmp 4]) rfl ?_); at_builtin; refine Kd.R_append_rows (Kd.int .i64) (w0 := w) w.heap.size rfl (.tmp 3) (.tmp 4) 24 3 (.int .i64 0) 8 rfl Try.underlying24 info3 rfl (by decide) (by omega) v482 y481 l0 _ _ _ (fun _ => True) (fun _ => False) rfl rfl ?aO ?aR (fun _ _ h => h) (fun _ h => h.elim) ?aF ?aB ?aS ?aL ?_; (case aR => repeat (first | exact (Kd.C_below HR0.out HB.out) | (with_reducible refine Kd.C_alloc ?_ _) | (with_reducible refine Kd.C_drewN ?_ _) | (with_reducible refine Kd.C_drew ?_))); (case aB => exact (by repeat (first | (with_reducible first | apply below_alloc | apply pw_below_drewN | apply below_drew1) | exact HB.out))); (case aF => exact (fun _ _ => trivial)); (case aO => exact (by (with_reducible repeat (first | apply Kd.R_alloc | apply Kd.R_drewN | apply Kd.R_drew)); exact HO483.out)); (case aS => exact (below_size (by repeat (first | (with_reducible first | apply below_alloc | apply pw_below_drewN | apply below_drew1) | exact HB.out)))); (case aL => have := LMc2.out; omega); intro v485 w5 ho hb hg hat; rw [← Ny484.out] at ho; have n0_ := Aside0.mk (hb); have n1_ := Aside0.mk (ho); clear HB; clear HO483; have HB := n0_; have HO486 := n1_; clear n0_ n1_; clear ho hb hg hat))
 go_ret
 exact ⟨_, by first | rfl | (simp [errW_none, errW_some] <;> rfl) | (simp [*, errW_none, errW_some] <;> rfl), by (with_reducible repeat (first | apply Kd.R_alloc | apply Kd.R_drewN | apply Kd.R_drew)); exact HO486.out, by repeat (first | (with_reducible first | apply below_alloc | apply pw_below_drewN | apply below_drew1) | exact HB.out)⟩
end Go.Proofs.Ytafbnilpipcjfaa.P
