/- A part of this seat's proofs: contracts of the translated functions, written by the session's own program (gp.py) out of the kit's print.py and the session's own contracts; no conditions of its own. -/
import Derived.Test.YtejchneeheeldaaPx0
import Derived.Test.YtejchneeheeldaaPx8
import Derived.Test.YtejchneeheeldaaPx9
import Derived.Test.YtejchneeheeldaaPx10
import Derived.Test.YtejchneeheeldaaPx21
import Derived.Test.YtejchneeheeldaaPx24
namespace Go.Proofs.Ytejchneeheeldaa.P
open Go.RowKit Go.Proofs.YtejchneeheeldaaW.PrintWords Go.Proofs.YtejchneeheeldaaW.PrintLast Go.Proofs.YtejchneeheeldaaW.PrintMore
attribute [local go_sem] max2_int min2_int max_two min_two max_three min_three max_four min_four   -- for this text's walks alone
set_option linter.unusedVariables false
set_option linter.unusedSimpArgs false

/-! ### laws_FnExactPointsHit: function 5 -/
def laws_FnExactPointsHit.f (k : Nat) (a0 : Int) (a1 : Int) : Option (Bool) := (spec_PointsHit.f k a0 a1).bind fun bt218 => ((impl_PointsHit.f k a0 a1).bind fun bt222 => ((laws_eqIntS.f k bt222.1 bt218.1).bind fun t226 => (if t226 = true then (if (bt222.2 != bt218.2) = true then (none) else ((laws_markIntS.f k bt222.1 1).bind fun bt227 => ((laws_heldIntS.f k bt227.2 1).bind fun t229 => (if t229 < 0 then (none) else (if t229 = bt227.1 then ((impl_PointsHit.f k a0 a1).bind fun bt230 => ((laws_eqIntS.f k bt230.1 bt218.1).bind fun t234 => (if t234 = true then (if (bt230.2 != bt218.2) = true then (none) else ((laws_heldIntS.f k bt227.2 1).bind fun t235 => (if t235 < 0 then (none) else (if t235 = bt227.1 then (some true) else (none))))) else (none)))) else (none)))))) else (none))))
theorem laws_FnExactPointsHit.mono : ∀ a0 a1 k, LeO (laws_FnExactPointsHit.f k a0 a1) (laws_FnExactPointsHit.f (k + 1) a0 a1) := by
  intro a0 a1 k
  unfold laws_FnExactPointsHit.f
  repeat' first
      | (with_reducible exact impl_PointsHit.mono _ _ _)
      | (with_reducible exact laws_eqIntS.mono _ _ _)
      | (with_reducible exact laws_heldIntS.mono _ _ _)
      | (with_reducible exact laws_markIntS.mono _ _ _)
      | (with_reducible exact spec_PointsHit.mono _ _ _)
      | (with_reducible exact LeO.refl _)
      | (with_reducible exact LeO.none _)
      | (with_reducible refine LeO.ite ?_ ?_)
      | (with_reducible refine LeO.bind ?_ (fun _ => ?_))
      | exact impl_PointsHit.mono _ _ _
      | exact laws_eqIntS.mono _ _ _
      | exact laws_heldIntS.mono _ _ _
      | exact laws_markIntS.mono _ _ _
      | exact spec_PointsHit.mono _ _ _
      | exact LeO.none _
      | refine LeO.ite ?_ ?_
      | refine LeO.bind ?_ (fun _ => ?_)
set_option maxHeartbeats 8000000 in
set_option maxRecDepth 100000 in
theorem laws_FnExactPointsHit.calls (k : Nat) (a0 : Int) (a1 : Int) (r : Bool) (w : World) (h : laws_FnExactPointsHit.f k a0 a1 = some r) :
    Calls Try.prog 5 #[.int .i64 a0, .int .i64 a1] w fun e w' => e = .returned (.bool r) ∧ Below w.heap.size w w' := by
  have HB := Aside0.mk (Below.refl w.heap.size w)
  have H : ((spec_PointsHit.f k a0 a1).bind fun bt218 => ((impl_PointsHit.f k a0 a1).bind fun bt222 => ((laws_eqIntS.f k bt222.1 bt218.1).bind fun t226 => (if t226 = true then (if (bt222.2 != bt218.2) = true then (none) else ((laws_markIntS.f k bt222.1 1).bind fun bt227 => ((laws_heldIntS.f k bt227.2 1).bind fun t229 => (if t229 < 0 then (none) else (if t229 = bt227.1 then ((impl_PointsHit.f k a0 a1).bind fun bt230 => ((laws_eqIntS.f k bt230.1 bt218.1).bind fun t234 => (if t234 = true then (if (bt230.2 != bt218.2) = true then (none) else ((laws_heldIntS.f k bt227.2 1).bind fun t235 => (if t235 < 0 then (none) else (if t235 = bt227.1 then (some true) else (none))))) else (none)))) else (none)))))) else (none))))) = some r := h
  clear h
  replace H := Option.bind_eq_some_iff.mp H
  obtain ⟨⟨t218, t219⟩, A30, H⟩ := H
  replace H : ((impl_PointsHit.f k a0 a1).bind fun bt222 => ((laws_eqIntS.f k bt222.1 t218).bind fun t226 => (if t226 = true then (if (bt222.2 != t219) = true then (none) else ((laws_markIntS.f k bt222.1 1).bind fun bt227 => ((laws_heldIntS.f k bt227.2 1).bind fun t229 => (if t229 < 0 then (none) else (if t229 = bt227.1 then ((impl_PointsHit.f k a0 a1).bind fun bt230 => ((laws_eqIntS.f k bt230.1 t218).bind fun t234 => (if t234 = true then (if (bt230.2 != t219) = true then (none) else ((laws_heldIntS.f k bt227.2 1).bind fun t235 => (if t235 < 0 then (none) else (if t235 = bt227.1 then (some true) else (none))))) else (none)))) else (none)))))) else (none)))) = some r := H
  have A3 := Aside0.mk A30
  clear A30
  replace H := Option.bind_eq_some_iff.mp H
  obtain ⟨⟨t222, t223⟩, A40, H⟩ := H
  replace H : ((laws_eqIntS.f k t222 t218).bind fun t226 => (if t226 = true then (if (t223 != t219) = true then (none) else ((laws_markIntS.f k t222 1).bind fun bt227 => ((laws_heldIntS.f k bt227.2 1).bind fun t229 => (if t229 < 0 then (none) else (if t229 = bt227.1 then ((impl_PointsHit.f k a0 a1).bind fun bt230 => ((laws_eqIntS.f k bt230.1 t218).bind fun t234 => (if t234 = true then (if (bt230.2 != t219) = true then (none) else ((laws_heldIntS.f k bt227.2 1).bind fun t235 => (if t235 < 0 then (none) else (if t235 = bt227.1 then (some true) else (none))))) else (none)))) else (none)))))) else (none))) = some r := H
  have A4 := Aside0.mk A40
  clear A40
  replace H := Option.bind_eq_some_iff.mp H
  obtain ⟨t226, A50, H⟩ := H
  replace H : (if t226 = true then (if (t223 != t219) = true then (none) else ((laws_markIntS.f k t222 1).bind fun bt227 => ((laws_heldIntS.f k bt227.2 1).bind fun t229 => (if t229 < 0 then (none) else (if t229 = bt227.1 then ((impl_PointsHit.f k a0 a1).bind fun bt230 => ((laws_eqIntS.f k bt230.1 t218).bind fun t234 => (if t234 = true then (if (bt230.2 != t219) = true then (none) else ((laws_heldIntS.f k bt227.2 1).bind fun t235 => (if t235 < 0 then (none) else (if t235 = bt227.1 then (some true) else (none))))) else (none)))) else (none)))))) else (none)) = some r := H
  have A5 := Aside0.mk A50
  clear A50
  by_cases c6 : t226 = true
  · subst c6
    have H1 : (if (t223 != t219) = true then (none) else ((laws_markIntS.f k t222 1).bind fun bt227 => ((laws_heldIntS.f k bt227.2 1).bind fun t229 => (if t229 < 0 then (none) else (if t229 = bt227.1 then ((impl_PointsHit.f k a0 a1).bind fun bt230 => ((laws_eqIntS.f k bt230.1 t218).bind fun t234 => (if t234 = true then (if (bt230.2 != t219) = true then (none) else ((laws_heldIntS.f k bt227.2 1).bind fun t235 => (if t235 < 0 then (none) else (if t235 = bt227.1 then (some true) else (none))))) else (none)))) else (none)))))) = some r := by rw [if_pos rfl] at H; exact H
    clear H
    have H := H1
    clear H1
    by_cases c7 : (t223 != t219) = true
    · rw [if_pos c7] at H
      exact absurd H (by simp)
    · rw [if_neg c7] at H
      have c7b0 : (t223 != t219) = false := by simpa using c7
      (try (have c7b1 : decide (t223 = t219) = true := by simpa using c7))
      (try (have c7b2 : (t223 == t219) = true := by simpa using c7))
      clear c7
      replace H := Option.bind_eq_some_iff.mp H
      obtain ⟨⟨t227, t228⟩, A80, H⟩ := H
      replace H : ((laws_heldIntS.f k t228 1).bind fun t229 => (if t229 < 0 then (none) else (if t229 = t227 then ((impl_PointsHit.f k a0 a1).bind fun bt230 => ((laws_eqIntS.f k bt230.1 t218).bind fun t234 => (if t234 = true then (if (bt230.2 != t219) = true then (none) else ((laws_heldIntS.f k t228 1).bind fun t235 => (if t235 < 0 then (none) else (if t235 = t227 then (some true) else (none))))) else (none)))) else (none)))) = some r := H
      have A8 := Aside0.mk A80
      clear A80
      replace H := Option.bind_eq_some_iff.mp H
      obtain ⟨t229, A90, H⟩ := H
      replace H : (if t229 < 0 then (none) else (if t229 = t227 then ((impl_PointsHit.f k a0 a1).bind fun bt230 => ((laws_eqIntS.f k bt230.1 t218).bind fun t234 => (if t234 = true then (if (bt230.2 != t219) = true then (none) else ((laws_heldIntS.f k t228 1).bind fun t235 => (if t235 < 0 then (none) else (if t235 = t227 then (some true) else (none))))) else (none)))) else (none))) = some r := H
      have A9 := Aside0.mk A90
      clear A90
      by_cases c10 : t229 < 0
      · rw [if_pos c10] at H
        exact absurd H (by simp)
      · rw [if_neg c10] at H
        have c10b0 : decide (t229 < 0) = false := decide_eq_false c10
        clear c10
        by_cases c11 : t229 = t227
        · rw [if_pos c11] at H
          have c11b0 : (t229 == t227) = true := beq_iff_eq.mpr c11
          have c11b1 : (t229 != t227) = false := bne_eq_false_iff_eq.mpr c11
          clear c11
          replace H := Option.bind_eq_some_iff.mp H
          obtain ⟨⟨t230, t231⟩, A120, H⟩ := H
          replace H : ((laws_eqIntS.f k t230 t218).bind fun t234 => (if t234 = true then (if (t231 != t219) = true then (none) else ((laws_heldIntS.f k t228 1).bind fun t235 => (if t235 < 0 then (none) else (if t235 = t227 then (some true) else (none))))) else (none))) = some r := H
          have A12 := Aside0.mk A120
          clear A120
          replace H := Option.bind_eq_some_iff.mp H
          obtain ⟨t234, A130, H⟩ := H
          replace H : (if t234 = true then (if (t231 != t219) = true then (none) else ((laws_heldIntS.f k t228 1).bind fun t235 => (if t235 < 0 then (none) else (if t235 = t227 then (some true) else (none))))) else (none)) = some r := H
          have A13 := Aside0.mk A130
          clear A130
          by_cases c14 : t234 = true
          · subst c14
            have H1 : (if (t231 != t219) = true then (none) else ((laws_heldIntS.f k t228 1).bind fun t235 => (if t235 < 0 then (none) else (if t235 = t227 then (some true) else (none))))) = some r := by rw [if_pos rfl] at H; exact H
            clear H
            have H := H1
            clear H1
            by_cases c15 : (t231 != t219) = true
            · rw [if_pos c15] at H
              exact absurd H (by simp)
            · rw [if_neg c15] at H
              have c15b0 : (t231 != t219) = false := by simpa using c15
              (try (have c15b1 : decide (t231 = t219) = true := by simpa using c15))
              (try (have c15b2 : (t231 == t219) = true := by simpa using c15))
              clear c15
              replace H := Option.bind_eq_some_iff.mp H
              obtain ⟨t235, A160, H⟩ := H
              replace H : (if t235 < 0 then (none) else (if t235 = t227 then (some true) else (none))) = some r := H
              have A16 := Aside0.mk A160
              clear A160
              by_cases c17 : t235 < 0
              · rw [if_pos c17] at H
                exact absurd H (by simp)
              · rw [if_neg c17] at H
                have c17b0 : decide (t235 < 0) = false := decide_eq_false c17
                clear c17
                by_cases c18 : t235 = t227
                · as_aux_lemma =>
                  rw [if_pos c18] at H
                  have c18b0 : (t235 == t227) = true := beq_iff_eq.mpr c18
                  have c18b1 : (t235 != t227) = false := bne_eq_false_iff_eq.mpr c18
                  clear c18
                  obtain rfl := Option.some.inj H
                  go_enter Try.func5, Try.ntmps5
                  go_wp2_with (first | ((with_reducible refine gate_callee (f := 19) rfl ?_); refine goesL_ (some 16) rfl rfl Try.func19 (by kernel_rfl) rfl #[.int .i64 a0, .int .i64 a1] rfl (by (try simp only [List.map_toArray, List.map_cons, List.map_nil]); first | done | rfl | (simp only [List.length_drop, List.length_take]; rfl)) ?_; (with_reducible refine (spec_PointsHit.calls k a0 a1 t218 t219 _ A3.out).mono ?_); rintro e w19 ⟨v220, rfl, ho0, hb⟩; refine ⟨_, rfl, ?_⟩; have n0_ := Aside0.mk (Kd.R_lower ho0 (below_size (by repeat (first | (with_reducible first | exact HB.out | apply below_alloc | apply pw_below_drewN | apply below_drew1) | exact HB.out)))); have n1_ := Aside0.mk (below_step (by repeat (first | (with_reducible first | exact HB.out | apply below_alloc | apply pw_below_drewN | apply below_drew1) | exact HB.out)) hb); clear HB; have HO221 := n0_; have HB := n1_; clear n0_ n1_; (try clear hb); (try clear hb2); (try clear hk); (try clear hi); (try clear ho0)) | ((with_reducible refine gate_callee (f := 20) rfl ?_); refine goesL_ (some 22) rfl rfl Try.func20 (by kernel_rfl) rfl #[.int .i64 a0, .int .i64 a1] rfl (by (try simp only [List.map_toArray, List.map_cons, List.map_nil]); first | done | rfl | (simp only [List.length_drop, List.length_take]; rfl)) ?_; (with_reducible refine (impl_PointsHit.calls k a0 a1 t222 t223 _ A4.out).mono ?_); rintro e w20 ⟨v224, rfl, ho0, hb⟩; refine ⟨_, rfl, ?_⟩; have n0_ := Aside0.mk (Kd.R_elder' (by (with_reducible repeat (first | apply Kd.R_alloc | apply Kd.R_drewN | apply Kd.R_drew)); exact HO221.out) (Kd.R_base ho0) hb); have n1_ := Aside0.mk (Kd.R_lower (Kd.R_new' ho0 (Kd.R_lt (by (with_reducible repeat (first | apply Kd.R_alloc | apply Kd.R_drewN | apply Kd.R_drew)); exact HO221.out))) (below_size (by repeat (first | (with_reducible first | exact HB.out | apply below_alloc | apply pw_below_drewN | apply below_drew1) | exact HB.out)))); have n2_ := Aside0.mk (below_step (by repeat (first | (with_reducible first | exact HB.out | apply below_alloc | apply pw_below_drewN | apply below_drew1) | exact HB.out)) hb); clear HO221; clear HB; have HO221 := n0_; have HO225 := n1_; have HB := n2_; clear n0_ n1_ n2_; (try clear hb); (try clear hb2); (try clear hk); (try clear hi); (try clear ho0); obtain ⟨Ao21, co21, eo21⟩ := Kd.R_slice HO225.out; subst eo21; obtain ⟨Ao22, co22, eo22⟩ := Kd.R_slice HO221.out; subst eo22) | ((with_reducible refine gate_callee (f := 11) rfl ?_); refine goesL_ (some 27) rfl rfl Try.func11 (by kernel_rfl) rfl #[.slice Ao21 t222.length co21, .slice Ao22 t218.length co22] rfl (by (try simp only [List.map_toArray, List.map_cons, List.map_nil]); first | done | rfl | (simp only [List.length_drop, List.length_take]; rfl)) ?_; (with_reducible refine (laws_eqIntS.calls k _ _ t222 _ _ t218 true _ ?side1 ?side2 ?side3 ?side4 A5.out).mono ?_); (case side1 => repeat (first | exact (Kd.R_reads' HO225.out).2.2 | (with_reducible refine Kd.C_alloc ?_ _) | (with_reducible refine Kd.C_drewN ?_ _) | (with_reducible refine Kd.C_drew ?_))); (case side2 => exact (Kd.R_reads' HO225.out).2.1); (case side3 => repeat (first | exact (Kd.R_reads' HO221.out).2.2 | (with_reducible refine Kd.C_alloc ?_ _) | (with_reducible refine Kd.C_drewN ?_ _) | (with_reducible refine Kd.C_drew ?_))); (case side4 => exact (Kd.R_reads' HO221.out).2.1); rintro e w' ⟨rfl, ⟨nd, rfl⟩⟩; refine ⟨_, rfl, ?_⟩) | ((with_reducible refine gate_callee (f := 12) rfl ?_); refine goesL_ (some 36) rfl rfl Try.func12 (by kernel_rfl) rfl #[.slice Ao21 t222.length co21, .int .i64 1] rfl (by (try simp only [List.map_toArray, List.map_cons, List.map_nil]); first | done | rfl | (simp only [List.length_drop, List.length_take]; rfl)) ?_; (with_reducible refine (laws_markIntS.calls k (fun k_ => some k_ = (.slice Ao21 t222.length co21 : Value).ownBlock) (.slice Ao21 t222.length co21) t222 1 t227 t228 w _ ?side1 ?side2 A8.out).mono ?_); (case side1 => repeat (first | (with_reducible first | exact HB.out | apply below_alloc | apply pw_below_drewN | apply below_drew1) | exact HB.out)); (case side2 => exact Kd.R_tight rfl HO225.out); rintro e w23 ⟨rfl, hy0, hb, hkp⟩; refine ⟨_, rfl, ?_⟩; have n0_ := Aside0.mk (Kd.R_mono (ok' := fun k_ => some k_ ≠ (.slice Ao21 t222.length co21 : Value).ownBlock) (Kd.R_keptB (HO221.out) hkp (fun k_ hk_ hs_ => (hk_.2) hs_)) (fun k_ hk_ => hk_.1.2)); have n1_ := Aside0.mk (Kd.R_reok rfl hy0 (fun k_ e_ => HO225.out.1 k_ e_)); have n2_ := Aside0.mk (hb); clear HO221; clear HO225; clear HB; have HO221 := n0_; have HO225 := n1_; have HB := n2_; clear n0_ n1_ n2_; (try clear hb); (try clear hkp); (try clear hy0)) | ((with_reducible refine gate_callee (f := 13) rfl ?_); refine goesL_ (some 39) rfl rfl Try.func13 (by kernel_rfl) rfl #[.slice Ao21 t228.length co21, .int .i64 1] rfl (by (try simp only [List.map_toArray, List.map_cons, List.map_nil]); first | done | (rw [show t228.length = t222.length from (Kd.R_reads' HO225.out).1.symm] <;> rfl) | rfl | (simp only [List.length_drop, List.length_take]; rfl)) ?_; (with_reducible refine (laws_heldIntS.calls k _ _ t228 1 t229 _ ?side1 ?side2 A9.out).mono ?_); (case side1 => repeat (first | exact (Kd.R_reads' HO225.out).2.2 | (with_reducible refine Kd.C_alloc ?_ _) | (with_reducible refine Kd.C_drewN ?_ _) | (with_reducible refine Kd.C_drew ?_))); (case side2 => rw [show t228.length = t222.length from (Kd.R_reads' HO225.out).1.symm]; exact (Kd.R_reads' HO225.out).2.1); rintro e w' ⟨rfl, ⟨nd, rfl⟩⟩; refine ⟨_, rfl, ?_⟩) | ((with_reducible refine gate_callee (f := 20) rfl ?_); refine goesL_ (some 48) rfl rfl Try.func20 (by kernel_rfl) rfl #[.int .i64 a0, .int .i64 a1] rfl (by (try simp only [List.map_toArray, List.map_cons, List.map_nil]); first | done | rfl | (simp only [List.length_drop, List.length_take]; rfl)) ?_; (with_reducible refine (impl_PointsHit.calls k a0 a1 t230 t231 _ A12.out).mono ?_); rintro e w24 ⟨v232, rfl, ho0, hb⟩; refine ⟨_, rfl, ?_⟩; have n0_ := Aside0.mk (Kd.R_elder' (by (with_reducible repeat (first | apply Kd.R_alloc | apply Kd.R_drewN | apply Kd.R_drew)); exact HO221.out) (Kd.R_base ho0) hb); have n1_ := Aside0.mk (Kd.R_elder' (by (with_reducible repeat (first | apply Kd.R_alloc | apply Kd.R_drewN | apply Kd.R_drew)); exact HO225.out) (Kd.R_base ho0) hb); have n2_ := Aside0.mk (Kd.R_lower (Kd.R_new' (Kd.R_new' ho0 (Kd.R_lt (by (with_reducible repeat (first | apply Kd.R_alloc | apply Kd.R_drewN | apply Kd.R_drew)); exact HO221.out))) (Kd.R_lt (by (with_reducible repeat (first | apply Kd.R_alloc | apply Kd.R_drewN | apply Kd.R_drew)); exact HO225.out))) (below_size (by repeat (first | (with_reducible first | exact HB.out | apply below_alloc | apply pw_below_drewN | apply below_drew1) | exact HB.out)))); have n3_ := Aside0.mk (below_step (by repeat (first | (with_reducible first | exact HB.out | apply below_alloc | apply pw_below_drewN | apply below_drew1) | exact HB.out)) hb); clear HO221; clear HO225; clear HB; have HO221 := n0_; have HO225 := n1_; have HO233 := n2_; have HB := n3_; clear n0_ n1_ n2_ n3_; (try clear hb); (try clear hb2); (try clear hk); (try clear hi); (try clear ho0); obtain ⟨Ao25, co25, eo25⟩ := Kd.R_slice HO233.out; subst eo25) | ((with_reducible refine gate_callee (f := 11) rfl ?_); refine goesL_ (some 53) rfl rfl Try.func11 (by kernel_rfl) rfl #[.slice Ao25 t230.length co25, .slice Ao22 t218.length co22] rfl (by (try simp only [List.map_toArray, List.map_cons, List.map_nil]); first | done | rfl | (simp only [List.length_drop, List.length_take]; rfl)) ?_; (with_reducible refine (laws_eqIntS.calls k _ _ t230 _ _ t218 true _ ?side1 ?side2 ?side3 ?side4 A13.out).mono ?_); (case side1 => repeat (first | exact (Kd.R_reads' HO233.out).2.2 | (with_reducible refine Kd.C_alloc ?_ _) | (with_reducible refine Kd.C_drewN ?_ _) | (with_reducible refine Kd.C_drew ?_))); (case side2 => exact (Kd.R_reads' HO233.out).2.1); (case side3 => repeat (first | exact (Kd.R_reads' HO221.out).2.2 | (with_reducible refine Kd.C_alloc ?_ _) | (with_reducible refine Kd.C_drewN ?_ _) | (with_reducible refine Kd.C_drew ?_))); (case side4 => exact (Kd.R_reads' HO221.out).2.1); rintro e w' ⟨rfl, ⟨nd, rfl⟩⟩; refine ⟨_, rfl, ?_⟩) | ((with_reducible refine gate_callee (f := 13) rfl ?_); refine goesL_ (some 62) rfl rfl Try.func13 (by kernel_rfl) rfl #[.slice Ao21 t228.length co21, .int .i64 1] rfl (by (try simp only [List.map_toArray, List.map_cons, List.map_nil]); first | done | (rw [show t228.length = t222.length from (Kd.R_reads' HO225.out).1.symm] <;> rfl) | rfl | (simp only [List.length_drop, List.length_take]; rfl)) ?_; (with_reducible refine (laws_heldIntS.calls k _ _ t228 1 t235 _ ?side1 ?side2 A16.out).mono ?_); (case side1 => repeat (first | exact (Kd.R_reads' HO225.out).2.2 | (with_reducible refine Kd.C_alloc ?_ _) | (with_reducible refine Kd.C_drewN ?_ _) | (with_reducible refine Kd.C_drew ?_))); (case side2 => rw [show t228.length = t222.length from (Kd.R_reads' HO225.out).1.symm]; exact (Kd.R_reads' HO225.out).2.1); rintro e w' ⟨rfl, ⟨nd, rfl⟩⟩; refine ⟨_, rfl, ?_⟩))
                  go_ret
                  exact ⟨by first | rfl | (simp [errW_none, errW_some] <;> rfl) | (simp [*, errW_none, errW_some] <;> rfl), by repeat (first | (with_reducible first | exact HB.out | apply below_alloc | apply pw_below_drewN | apply below_drew1) | exact HB.out)⟩
                · rw [if_neg c18] at H
                  exact absurd H (by simp)
          · replace c14 := Bool.eq_false_iff.mpr c14
            subst c14
            have H1 : (none) = some r := by rw [if_neg (show ¬ (false = true) by decide)] at H; exact H
            clear H
            have H := H1
            clear H1
            exact absurd H (by simp)
        · rw [if_neg c11] at H
          exact absurd H (by simp)
  · replace c6 := Bool.eq_false_iff.mpr c6
    subst c6
    have H1 : (none) = some r := by rw [if_neg (show ¬ (false = true) by decide)] at H; exact H
    clear H
    have H := H1
    clear H1
    exact absurd H (by simp)

/-- THE ONE PURE STATEMENT of laws_FnExactPointsHit: yours. -/
def laws_FnExactPointsHit.Pure : Prop := ∀ (a0 : Int) (a1 : Int), (Lit.int .i64 a0).wf = true → (Lit.int .i64 a1).wf = true → ∃ k, laws_FnExactPointsHit.f k a0 a1 = some true
theorem laws_FnExactPointsHit.walk (P : laws_FnExactPointsHit.Pure) (a0 : Int) (a1 : Int) (w : World) (w0 : (Lit.int .i64 a0).wf = true) (w1 : (Lit.int .i64 a1).wf = true) :
    Calls Try.prog 5 #[.int .i64 a0, .int .i64 a1] w fun e w' => e = .returned (.bool true) ∧ Below w.heap.size w w' := by
  obtain ⟨k, h⟩ := P a0 a1 w0 w1
  refine (laws_FnExactPointsHit.calls k a0 a1 true w h).mono ?_
  rintro e w' ⟨rfl, hd⟩
  exact ⟨rfl, hd⟩

end Go.Proofs.Ytejchneeheeldaa.P
