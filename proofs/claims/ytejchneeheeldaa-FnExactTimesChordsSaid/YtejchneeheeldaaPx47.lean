/- A part of this seat's proofs: contracts of the translated functions, written by the session's own program (gp.py) out of the kit's print.py and the session's own contracts; no conditions of its own. -/
import Derived.Test.YtejchneeheeldaaPx0
import Derived.Test.YtejchneeheeldaaPx42
import Derived.Test.YtejchneeheeldaaPx43
import Derived.Test.YtejchneeheeldaaPx44
import Derived.Test.YtejchneeheeldaaPx45
import Derived.Test.YtejchneeheeldaaPx46
namespace Go.Proofs.Ytejchneeheeldaa.P
open Go.RowKit Go.Proofs.YtejchneeheeldaaW.PrintWords Go.Proofs.YtejchneeheeldaaW.PrintLast Go.Proofs.YtejchneeheeldaaW.PrintMore
attribute [local go_sem] max2_int min2_int max_two min_two max_three min_three max_four min_four   -- for this text's walks alone
set_option linter.unusedVariables false
set_option linter.unusedSimpArgs false

/-! ### laws_FnExactTimesChords: function 7 -/
def laws_FnExactTimesChords.f (k : Nat) (a0 : Int) (a1 : Int) : Option (Bool) := (spec_TimesChords.f k a0 a1).bind fun bt386 => ((impl_TimesChords.f k a0 a1).bind fun bt390 => ((laws_eqChordS.f k bt390.1 bt386.1).bind fun t394 => (if t394 = true then (if (bt390.2 != bt386.2) = true then (none) else ((laws_markChordS.f k bt390.1 1).bind fun bt395 => ((laws_heldChordS.f k bt395.2 1).bind fun t397 => (if t397 < 0 then (none) else (if t397 = bt395.1 then ((impl_TimesChords.f k a0 a1).bind fun bt398 => ((laws_eqChordS.f k bt398.1 bt386.1).bind fun t402 => (if t402 = true then (if (bt398.2 != bt386.2) = true then (none) else ((laws_heldChordS.f k bt395.2 1).bind fun t403 => (if t403 < 0 then (none) else (if t403 = bt395.1 then (some true) else (none))))) else (none)))) else (none)))))) else (none))))
theorem laws_FnExactTimesChords.mono : ∀ a0 a1 k, LeO (laws_FnExactTimesChords.f k a0 a1) (laws_FnExactTimesChords.f (k + 1) a0 a1) := by
  intro a0 a1 k
  unfold laws_FnExactTimesChords.f
  repeat' first
      | (with_reducible exact impl_TimesChords.mono _ _ _)
      | (with_reducible exact laws_eqChordS.mono _ _ _)
      | (with_reducible exact laws_heldChordS.mono _ _ _)
      | (with_reducible exact laws_markChordS.mono _ _ _)
      | (with_reducible exact spec_TimesChords.mono _ _ _)
      | (with_reducible exact LeO.refl _)
      | (with_reducible exact LeO.none _)
      | (with_reducible refine LeO.ite ?_ ?_)
      | (with_reducible refine LeO.bind ?_ (fun _ => ?_))
      | exact impl_TimesChords.mono _ _ _
      | exact laws_eqChordS.mono _ _ _
      | exact laws_heldChordS.mono _ _ _
      | exact laws_markChordS.mono _ _ _
      | exact spec_TimesChords.mono _ _ _
      | exact LeO.none _
      | refine LeO.ite ?_ ?_
      | refine LeO.bind ?_ (fun _ => ?_)
set_option maxHeartbeats 8000000 in
set_option maxRecDepth 100000 in
theorem laws_FnExactTimesChords.calls (k : Nat) (a0 : Int) (a1 : Int) (r : Bool) (w : World) (h : laws_FnExactTimesChords.f k a0 a1 = some r) :
    Calls Try.prog 7 #[.int .i64 a0, .int .i64 a1] w fun e w' => e = .returned (.bool r) ∧ Below w.heap.size w w' := by
  have HB := Aside0.mk (Below.refl w.heap.size w)
  have H : ((spec_TimesChords.f k a0 a1).bind fun bt386 => ((impl_TimesChords.f k a0 a1).bind fun bt390 => ((laws_eqChordS.f k bt390.1 bt386.1).bind fun t394 => (if t394 = true then (if (bt390.2 != bt386.2) = true then (none) else ((laws_markChordS.f k bt390.1 1).bind fun bt395 => ((laws_heldChordS.f k bt395.2 1).bind fun t397 => (if t397 < 0 then (none) else (if t397 = bt395.1 then ((impl_TimesChords.f k a0 a1).bind fun bt398 => ((laws_eqChordS.f k bt398.1 bt386.1).bind fun t402 => (if t402 = true then (if (bt398.2 != bt386.2) = true then (none) else ((laws_heldChordS.f k bt395.2 1).bind fun t403 => (if t403 < 0 then (none) else (if t403 = bt395.1 then (some true) else (none))))) else (none)))) else (none)))))) else (none))))) = some r := h
  clear h
  replace H := Option.bind_eq_some_iff.mp H
  obtain ⟨⟨t386, t387⟩, A30, H⟩ := H
  replace H : ((impl_TimesChords.f k a0 a1).bind fun bt390 => ((laws_eqChordS.f k bt390.1 t386).bind fun t394 => (if t394 = true then (if (bt390.2 != t387) = true then (none) else ((laws_markChordS.f k bt390.1 1).bind fun bt395 => ((laws_heldChordS.f k bt395.2 1).bind fun t397 => (if t397 < 0 then (none) else (if t397 = bt395.1 then ((impl_TimesChords.f k a0 a1).bind fun bt398 => ((laws_eqChordS.f k bt398.1 t386).bind fun t402 => (if t402 = true then (if (bt398.2 != t387) = true then (none) else ((laws_heldChordS.f k bt395.2 1).bind fun t403 => (if t403 < 0 then (none) else (if t403 = bt395.1 then (some true) else (none))))) else (none)))) else (none)))))) else (none)))) = some r := H
  have A3 := Aside0.mk A30
  clear A30
  replace H := Option.bind_eq_some_iff.mp H
  obtain ⟨⟨t390, t391⟩, A40, H⟩ := H
  replace H : ((laws_eqChordS.f k t390 t386).bind fun t394 => (if t394 = true then (if (t391 != t387) = true then (none) else ((laws_markChordS.f k t390 1).bind fun bt395 => ((laws_heldChordS.f k bt395.2 1).bind fun t397 => (if t397 < 0 then (none) else (if t397 = bt395.1 then ((impl_TimesChords.f k a0 a1).bind fun bt398 => ((laws_eqChordS.f k bt398.1 t386).bind fun t402 => (if t402 = true then (if (bt398.2 != t387) = true then (none) else ((laws_heldChordS.f k bt395.2 1).bind fun t403 => (if t403 < 0 then (none) else (if t403 = bt395.1 then (some true) else (none))))) else (none)))) else (none)))))) else (none))) = some r := H
  have A4 := Aside0.mk A40
  clear A40
  replace H := Option.bind_eq_some_iff.mp H
  obtain ⟨t394, A50, H⟩ := H
  replace H : (if t394 = true then (if (t391 != t387) = true then (none) else ((laws_markChordS.f k t390 1).bind fun bt395 => ((laws_heldChordS.f k bt395.2 1).bind fun t397 => (if t397 < 0 then (none) else (if t397 = bt395.1 then ((impl_TimesChords.f k a0 a1).bind fun bt398 => ((laws_eqChordS.f k bt398.1 t386).bind fun t402 => (if t402 = true then (if (bt398.2 != t387) = true then (none) else ((laws_heldChordS.f k bt395.2 1).bind fun t403 => (if t403 < 0 then (none) else (if t403 = bt395.1 then (some true) else (none))))) else (none)))) else (none)))))) else (none)) = some r := H
  have A5 := Aside0.mk A50
  clear A50
  by_cases c6 : t394 = true
  · subst c6
    have H1 : (if (t391 != t387) = true then (none) else ((laws_markChordS.f k t390 1).bind fun bt395 => ((laws_heldChordS.f k bt395.2 1).bind fun t397 => (if t397 < 0 then (none) else (if t397 = bt395.1 then ((impl_TimesChords.f k a0 a1).bind fun bt398 => ((laws_eqChordS.f k bt398.1 t386).bind fun t402 => (if t402 = true then (if (bt398.2 != t387) = true then (none) else ((laws_heldChordS.f k bt395.2 1).bind fun t403 => (if t403 < 0 then (none) else (if t403 = bt395.1 then (some true) else (none))))) else (none)))) else (none)))))) = some r := by rw [if_pos rfl] at H; exact H
    clear H
    have H := H1
    clear H1
    by_cases c7 : (t391 != t387) = true
    · rw [if_pos c7] at H
      exact absurd H (by simp)
    · rw [if_neg c7] at H
      have c7b0 : (t391 != t387) = false := by simpa using c7
      (try (have c7b1 : decide (t391 = t387) = true := by simpa using c7))
      (try (have c7b2 : (t391 == t387) = true := by simpa using c7))
      clear c7
      replace H := Option.bind_eq_some_iff.mp H
      obtain ⟨⟨t395, t396⟩, A80, H⟩ := H
      replace H : ((laws_heldChordS.f k t396 1).bind fun t397 => (if t397 < 0 then (none) else (if t397 = t395 then ((impl_TimesChords.f k a0 a1).bind fun bt398 => ((laws_eqChordS.f k bt398.1 t386).bind fun t402 => (if t402 = true then (if (bt398.2 != t387) = true then (none) else ((laws_heldChordS.f k t396 1).bind fun t403 => (if t403 < 0 then (none) else (if t403 = t395 then (some true) else (none))))) else (none)))) else (none)))) = some r := H
      have A8 := Aside0.mk A80
      clear A80
      replace H := Option.bind_eq_some_iff.mp H
      obtain ⟨t397, A90, H⟩ := H
      replace H : (if t397 < 0 then (none) else (if t397 = t395 then ((impl_TimesChords.f k a0 a1).bind fun bt398 => ((laws_eqChordS.f k bt398.1 t386).bind fun t402 => (if t402 = true then (if (bt398.2 != t387) = true then (none) else ((laws_heldChordS.f k t396 1).bind fun t403 => (if t403 < 0 then (none) else (if t403 = t395 then (some true) else (none))))) else (none)))) else (none))) = some r := H
      have A9 := Aside0.mk A90
      clear A90
      by_cases c10 : t397 < 0
      · rw [if_pos c10] at H
        exact absurd H (by simp)
      · rw [if_neg c10] at H
        have c10b0 : decide (t397 < 0) = false := decide_eq_false c10
        clear c10
        by_cases c11 : t397 = t395
        · rw [if_pos c11] at H
          have c11b0 : (t397 == t395) = true := beq_iff_eq.mpr c11
          have c11b1 : (t397 != t395) = false := bne_eq_false_iff_eq.mpr c11
          clear c11
          replace H := Option.bind_eq_some_iff.mp H
          obtain ⟨⟨t398, t399⟩, A120, H⟩ := H
          replace H : ((laws_eqChordS.f k t398 t386).bind fun t402 => (if t402 = true then (if (t399 != t387) = true then (none) else ((laws_heldChordS.f k t396 1).bind fun t403 => (if t403 < 0 then (none) else (if t403 = t395 then (some true) else (none))))) else (none))) = some r := H
          have A12 := Aside0.mk A120
          clear A120
          replace H := Option.bind_eq_some_iff.mp H
          obtain ⟨t402, A130, H⟩ := H
          replace H : (if t402 = true then (if (t399 != t387) = true then (none) else ((laws_heldChordS.f k t396 1).bind fun t403 => (if t403 < 0 then (none) else (if t403 = t395 then (some true) else (none))))) else (none)) = some r := H
          have A13 := Aside0.mk A130
          clear A130
          by_cases c14 : t402 = true
          · subst c14
            have H1 : (if (t399 != t387) = true then (none) else ((laws_heldChordS.f k t396 1).bind fun t403 => (if t403 < 0 then (none) else (if t403 = t395 then (some true) else (none))))) = some r := by rw [if_pos rfl] at H; exact H
            clear H
            have H := H1
            clear H1
            by_cases c15 : (t399 != t387) = true
            · rw [if_pos c15] at H
              exact absurd H (by simp)
            · rw [if_neg c15] at H
              have c15b0 : (t399 != t387) = false := by simpa using c15
              (try (have c15b1 : decide (t399 = t387) = true := by simpa using c15))
              (try (have c15b2 : (t399 == t387) = true := by simpa using c15))
              clear c15
              replace H := Option.bind_eq_some_iff.mp H
              obtain ⟨t403, A160, H⟩ := H
              replace H : (if t403 < 0 then (none) else (if t403 = t395 then (some true) else (none))) = some r := H
              have A16 := Aside0.mk A160
              clear A160
              by_cases c17 : t403 < 0
              · rw [if_pos c17] at H
                exact absurd H (by simp)
              · rw [if_neg c17] at H
                have c17b0 : decide (t403 < 0) = false := decide_eq_false c17
                clear c17
                by_cases c18 : t403 = t395
                · as_aux_lemma =>
                  rw [if_pos c18] at H
                  have c18b0 : (t403 == t395) = true := beq_iff_eq.mpr c18
                  have c18b1 : (t403 != t395) = false := bne_eq_false_iff_eq.mpr c18
                  clear c18
                  obtain rfl := Option.some.inj H
                  go_enter Try.func7, Try.ntmps7
                  go_wp2_with (first | ((with_reducible refine gate_callee (f := 23) rfl ?_); refine goesL_ (some 16) rfl rfl Try.func23 (by kernel_rfl) rfl #[.int .i64 a0, .int .i64 a1] rfl (by (try simp only [List.map_toArray, List.map_cons, List.map_nil]); first | done | rfl | (simp only [List.length_drop, List.length_take]; rfl)) ?_; (with_reducible refine (spec_TimesChords.calls k a0 a1 t386 t387 _ A3.out).mono ?_); rintro e w19 ⟨v388, rfl, ho0, hb⟩; refine ⟨_, rfl, ?_⟩; have n0_ := Aside0.mk (Kd.R_lower ho0 (below_size (by repeat (first | (with_reducible first | exact HB.out | apply below_alloc | apply pw_below_drewN | apply below_drew1) | exact HB.out)))); have n1_ := Aside0.mk (below_step (by repeat (first | (with_reducible first | exact HB.out | apply below_alloc | apply pw_below_drewN | apply below_drew1) | exact HB.out)) hb); clear HB; have HO389 := n0_; have HB := n1_; clear n0_ n1_; (try clear hb); (try clear hb2); (try clear hk); (try clear hi); (try clear ho0)) | ((with_reducible refine gate_callee (f := 24) rfl ?_); refine goesL_ (some 22) rfl rfl Try.func24 (by kernel_rfl) rfl #[.int .i64 a0, .int .i64 a1] rfl (by (try simp only [List.map_toArray, List.map_cons, List.map_nil]); first | done | rfl | (simp only [List.length_drop, List.length_take]; rfl)) ?_; (with_reducible refine (impl_TimesChords.calls k a0 a1 t390 t391 _ A4.out).mono ?_); rintro e w20 ⟨v392, rfl, ho0, hb⟩; refine ⟨_, rfl, ?_⟩; have n0_ := Aside0.mk (Kd.R_elder' (by (with_reducible repeat (first | apply Kd.R_alloc | apply Kd.R_drewN | apply Kd.R_drew)); exact HO389.out) (Kd.R_base ho0) hb); have n1_ := Aside0.mk (Kd.R_lower (Kd.R_new' ho0 (Kd.R_lt (by (with_reducible repeat (first | apply Kd.R_alloc | apply Kd.R_drewN | apply Kd.R_drew)); exact HO389.out))) (below_size (by repeat (first | (with_reducible first | exact HB.out | apply below_alloc | apply pw_below_drewN | apply below_drew1) | exact HB.out)))); have n2_ := Aside0.mk (below_step (by repeat (first | (with_reducible first | exact HB.out | apply below_alloc | apply pw_below_drewN | apply below_drew1) | exact HB.out)) hb); clear HO389; clear HB; have HO389 := n0_; have HO393 := n1_; have HB := n2_; clear n0_ n1_ n2_; (try clear hb); (try clear hb2); (try clear hk); (try clear hi); (try clear ho0); obtain ⟨Ao21, co21, eo21⟩ := Kd.R_slice HO393.out; subst eo21; obtain ⟨Ao22, co22, eo22⟩ := Kd.R_slice HO389.out; subst eo22) | ((with_reducible refine gate_callee (f := 25) rfl ?_); refine goesL_ (some 27) rfl rfl Try.func25 (by kernel_rfl) rfl #[.slice Ao21 t390.length co21, .slice Ao22 t386.length co22] rfl (by (try simp only [List.map_toArray, List.map_cons, List.map_nil]); first | done | rfl | (simp only [List.length_drop, List.length_take]; rfl)) ?_; (with_reducible refine (laws_eqChordS.calls k _ _ t390 _ _ t386 true _ ?side1 ?side2 ?side3 ?side4 A5.out).mono ?_); (case side1 => repeat (first | exact (Kd.R_reads' HO393.out).2.2 | (with_reducible refine Kd.C_alloc ?_ _) | (with_reducible refine Kd.C_drewN ?_ _) | (with_reducible refine Kd.C_drew ?_))); (case side2 => exact (Kd.R_reads' HO393.out).2.1); (case side3 => repeat (first | exact (Kd.R_reads' HO389.out).2.2 | (with_reducible refine Kd.C_alloc ?_ _) | (with_reducible refine Kd.C_drewN ?_ _) | (with_reducible refine Kd.C_drew ?_))); (case side4 => exact (Kd.R_reads' HO389.out).2.1); rintro e w23 ⟨rfl, hb⟩; refine ⟨_, rfl, ?_⟩; have n0_ := Aside0.mk (Kd.R_below (by (with_reducible repeat (first | apply Kd.R_alloc | apply Kd.R_drewN | apply Kd.R_drew)); exact HO389.out) hb); have n1_ := Aside0.mk (Kd.R_below (by (with_reducible repeat (first | apply Kd.R_alloc | apply Kd.R_drewN | apply Kd.R_drew)); exact HO393.out) hb); have n2_ := Aside0.mk (below_step (by repeat (first | (with_reducible first | exact HB.out | apply below_alloc | apply pw_below_drewN | apply below_drew1) | exact HB.out)) hb); clear HO389; clear HO393; clear HB; have HO389 := n0_; have HO393 := n1_; have HB := n2_; clear n0_ n1_ n2_; (try clear hb); (try clear hb2); (try clear hk); (try clear hi)) | ((with_reducible refine gate_callee (f := 26) rfl ?_); refine goesL_ (some 36) rfl rfl Try.func26 (by kernel_rfl) rfl #[.slice Ao21 t390.length co21, .int .i64 1] rfl (by (try simp only [List.map_toArray, List.map_cons, List.map_nil]); first | done | rfl | (simp only [List.length_drop, List.length_take]; rfl)) ?_; (with_reducible refine (laws_markChordS.calls k (fun k_ => some k_ = (.slice Ao21 t390.length co21 : Value).ownBlock) (.slice Ao21 t390.length co21) t390 1 t395 t396 w _ ?side1 ?side2 A8.out).mono ?_); (case side1 => repeat (first | (with_reducible first | exact HB.out | apply below_alloc | apply pw_below_drewN | apply below_drew1) | exact HB.out)); (case side2 => exact Kd.R_tight rfl HO393.out); rintro e w24 ⟨rfl, hy0, hb, hkp⟩; refine ⟨_, rfl, ?_⟩; have n0_ := Aside0.mk (Kd.R_mono (ok' := fun k_ => some k_ ≠ (.slice Ao21 t390.length co21 : Value).ownBlock) (Kd.R_keptB (HO389.out) hkp (fun k_ hk_ hs_ => (hk_.2) hs_)) (fun k_ hk_ => hk_.1.2)); have n1_ := Aside0.mk (Kd.R_reok rfl hy0 (fun k_ e_ => HO393.out.1 k_ e_)); have n2_ := Aside0.mk (hb); clear HO389; clear HO393; clear HB; have HO389 := n0_; have HO393 := n1_; have HB := n2_; clear n0_ n1_ n2_; (try clear hb); (try clear hkp); (try clear hy0)) | ((with_reducible refine gate_callee (f := 27) rfl ?_); refine goesL_ (some 39) rfl rfl Try.func27 (by kernel_rfl) rfl #[.slice Ao21 t396.length co21, .int .i64 1] rfl (by (try simp only [List.map_toArray, List.map_cons, List.map_nil]); first | done | (rw [show t396.length = t390.length from (Kd.R_reads' HO393.out).1.symm] <;> rfl) | rfl | (simp only [List.length_drop, List.length_take]; rfl)) ?_; (with_reducible refine (laws_heldChordS.calls k _ _ t396 1 t397 _ ?side1 ?side2 A9.out).mono ?_); (case side1 => repeat (first | exact (Kd.R_reads' HO393.out).2.2 | (with_reducible refine Kd.C_alloc ?_ _) | (with_reducible refine Kd.C_drewN ?_ _) | (with_reducible refine Kd.C_drew ?_))); (case side2 => rw [show t396.length = t390.length from (Kd.R_reads' HO393.out).1.symm]; exact (Kd.R_reads' HO393.out).2.1); rintro e w' ⟨rfl, ⟨nd, rfl⟩⟩; refine ⟨_, rfl, ?_⟩) | ((with_reducible refine gate_callee (f := 24) rfl ?_); refine goesL_ (some 48) rfl rfl Try.func24 (by kernel_rfl) rfl #[.int .i64 a0, .int .i64 a1] rfl (by (try simp only [List.map_toArray, List.map_cons, List.map_nil]); first | done | rfl | (simp only [List.length_drop, List.length_take]; rfl)) ?_; (with_reducible refine (impl_TimesChords.calls k a0 a1 t398 t399 _ A12.out).mono ?_); rintro e w25 ⟨v400, rfl, ho0, hb⟩; refine ⟨_, rfl, ?_⟩; have n0_ := Aside0.mk (Kd.R_elder' (by (with_reducible repeat (first | apply Kd.R_alloc | apply Kd.R_drewN | apply Kd.R_drew)); exact HO389.out) (Kd.R_base ho0) hb); have n1_ := Aside0.mk (Kd.R_elder' (by (with_reducible repeat (first | apply Kd.R_alloc | apply Kd.R_drewN | apply Kd.R_drew)); exact HO393.out) (Kd.R_base ho0) hb); have n2_ := Aside0.mk (Kd.R_lower (Kd.R_new' (Kd.R_new' ho0 (Kd.R_lt (by (with_reducible repeat (first | apply Kd.R_alloc | apply Kd.R_drewN | apply Kd.R_drew)); exact HO389.out))) (Kd.R_lt (by (with_reducible repeat (first | apply Kd.R_alloc | apply Kd.R_drewN | apply Kd.R_drew)); exact HO393.out))) (below_size (by repeat (first | (with_reducible first | exact HB.out | apply below_alloc | apply pw_below_drewN | apply below_drew1) | exact HB.out)))); have n3_ := Aside0.mk (below_step (by repeat (first | (with_reducible first | exact HB.out | apply below_alloc | apply pw_below_drewN | apply below_drew1) | exact HB.out)) hb); clear HO389; clear HO393; clear HB; have HO389 := n0_; have HO393 := n1_; have HO401 := n2_; have HB := n3_; clear n0_ n1_ n2_ n3_; (try clear hb); (try clear hb2); (try clear hk); (try clear hi); (try clear ho0); obtain ⟨Ao26, co26, eo26⟩ := Kd.R_slice HO401.out; subst eo26) | ((with_reducible refine gate_callee (f := 25) rfl ?_); refine goesL_ (some 53) rfl rfl Try.func25 (by kernel_rfl) rfl #[.slice Ao26 t398.length co26, .slice Ao22 t386.length co22] rfl (by (try simp only [List.map_toArray, List.map_cons, List.map_nil]); first | done | rfl | (simp only [List.length_drop, List.length_take]; rfl)) ?_; (with_reducible refine (laws_eqChordS.calls k _ _ t398 _ _ t386 true _ ?side1 ?side2 ?side3 ?side4 A13.out).mono ?_); (case side1 => repeat (first | exact (Kd.R_reads' HO401.out).2.2 | (with_reducible refine Kd.C_alloc ?_ _) | (with_reducible refine Kd.C_drewN ?_ _) | (with_reducible refine Kd.C_drew ?_))); (case side2 => exact (Kd.R_reads' HO401.out).2.1); (case side3 => repeat (first | exact (Kd.R_reads' HO389.out).2.2 | (with_reducible refine Kd.C_alloc ?_ _) | (with_reducible refine Kd.C_drewN ?_ _) | (with_reducible refine Kd.C_drew ?_))); (case side4 => exact (Kd.R_reads' HO389.out).2.1); rintro e w27 ⟨rfl, hb⟩; refine ⟨_, rfl, ?_⟩; have n0_ := Aside0.mk (Kd.R_below (by (with_reducible repeat (first | apply Kd.R_alloc | apply Kd.R_drewN | apply Kd.R_drew)); exact HO389.out) hb); have n1_ := Aside0.mk (Kd.R_below (by (with_reducible repeat (first | apply Kd.R_alloc | apply Kd.R_drewN | apply Kd.R_drew)); exact HO393.out) hb); have n2_ := Aside0.mk (Kd.R_below (by (with_reducible repeat (first | apply Kd.R_alloc | apply Kd.R_drewN | apply Kd.R_drew)); exact HO401.out) hb); have n3_ := Aside0.mk (below_step (by repeat (first | (with_reducible first | exact HB.out | apply below_alloc | apply pw_below_drewN | apply below_drew1) | exact HB.out)) hb); clear HO389; clear HO393; clear HO401; clear HB; have HO389 := n0_; have HO393 := n1_; have HO401 := n2_; have HB := n3_; clear n0_ n1_ n2_ n3_; (try clear hb); (try clear hb2); (try clear hk); (try clear hi)) | ((with_reducible refine gate_callee (f := 27) rfl ?_); refine goesL_ (some 62) rfl rfl Try.func27 (by kernel_rfl) rfl #[.slice Ao21 t396.length co21, .int .i64 1] rfl (by (try simp only [List.map_toArray, List.map_cons, List.map_nil]); first | done | (rw [show t396.length = t390.length from (Kd.R_reads' HO393.out).1.symm] <;> rfl) | rfl | (simp only [List.length_drop, List.length_take]; rfl)) ?_; (with_reducible refine (laws_heldChordS.calls k _ _ t396 1 t403 _ ?side1 ?side2 A16.out).mono ?_); (case side1 => repeat (first | exact (Kd.R_reads' HO393.out).2.2 | (with_reducible refine Kd.C_alloc ?_ _) | (with_reducible refine Kd.C_drewN ?_ _) | (with_reducible refine Kd.C_drew ?_))); (case side2 => rw [show t396.length = t390.length from (Kd.R_reads' HO393.out).1.symm]; exact (Kd.R_reads' HO393.out).2.1); rintro e w' ⟨rfl, ⟨nd, rfl⟩⟩; refine ⟨_, rfl, ?_⟩))
                  go_ret
                  exact ⟨by first | rfl | (simp [errW_none, errW_some] <;> rfl) | (simp [*, errW_none, errW_some] <;> rfl), by repeat (first | (with_reducible first | exact HB.out | apply below_alloc | apply pw_below_drewN | apply below_drew1) | exact HB.out)⟩
                · rw [if_neg c18] at H
                  exact absurd H (by simp)
          · replace c14 := Bool.eq_false_iff.mpr c14
            subst c14
            have H1 : (none) = some r := by rw [if_neg (show ¬ (false = true) by decide)] at H; exact H
            clear H
            have H := H1
            clear H1
            exact absurd H (by simp)
        · rw [if_neg c11] at H
          exact absurd H (by simp)
  · replace c6 := Bool.eq_false_iff.mpr c6
    subst c6
    have H1 : (none) = some r := by rw [if_neg (show ¬ (false = true) by decide)] at H; exact H
    clear H
    have H := H1
    clear H1
    exact absurd H (by simp)

/-- THE ONE PURE STATEMENT of laws_FnExactTimesChords: yours. -/
def laws_FnExactTimesChords.Pure : Prop := ∀ (a0 : Int) (a1 : Int), (Lit.int .i64 a0).wf = true → (Lit.int .i64 a1).wf = true → ∃ k, laws_FnExactTimesChords.f k a0 a1 = some true
theorem laws_FnExactTimesChords.walk (P : laws_FnExactTimesChords.Pure) (a0 : Int) (a1 : Int) (w : World) (w0 : (Lit.int .i64 a0).wf = true) (w1 : (Lit.int .i64 a1).wf = true) :
    Calls Try.prog 7 #[.int .i64 a0, .int .i64 a1] w fun e w' => e = .returned (.bool true) ∧ Below w.heap.size w w' := by
  obtain ⟨k, h⟩ := P a0 a1 w0 w1
  refine (laws_FnExactTimesChords.calls k a0 a1 true w h).mono ?_
  rintro e w' ⟨rfl, hd⟩
  exact ⟨rfl, hd⟩

end Go.Proofs.Ytejchneeheeldaa.P
