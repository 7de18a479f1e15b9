/- A part of this seat's proofs: contracts of the translated functions, written by the session's own program (gp.py) out of the kit's print.py and the session's own contracts; no conditions of its own. -/
import Derived.Test.YtejchneeheeldaaPx0
import Derived.Test.YtejchneeheeldaaPx50
import Derived.Test.YtejchneeheeldaaPx53
namespace Go.Proofs.Ytejchneeheeldaa.P
open Go.RowKit Go.Proofs.YtejchneeheeldaaW.PrintWords Go.Proofs.YtejchneeheeldaaW.PrintLast Go.Proofs.YtejchneeheeldaaW.PrintMore
attribute [local go_sem] max2_int min2_int max_two min_two max_three min_three max_four min_four   -- for this text's walks alone
set_option linter.unusedVariables false
set_option linter.unusedSimpArgs false

/-! ### laws_FnExactLeastTurnOfTable: function 8 -/
def laws_FnExactLeastTurnOfTable.f (k : Nat) (a0 : Int) (a1 : Int) : Option (Bool) := (spec_LeastTurnOfTable.f k a0 a1).bind fun bt444 => ((impl_LeastTurnOfTable.f k a0 a1).bind fun bt446 => (if bt446.1 = bt444.1 then (if (bt446.2 != bt444.2) = true then (none) else (some true)) else (none)))
theorem laws_FnExactLeastTurnOfTable.mono : ∀ a0 a1 k, LeO (laws_FnExactLeastTurnOfTable.f k a0 a1) (laws_FnExactLeastTurnOfTable.f (k + 1) a0 a1) := by
  intro a0 a1 k
  unfold laws_FnExactLeastTurnOfTable.f
  repeat' first
      | (with_reducible exact impl_LeastTurnOfTable.mono _ _ _)
      | (with_reducible exact spec_LeastTurnOfTable.mono _ _ _)
      | (with_reducible exact LeO.refl _)
      | (with_reducible exact LeO.none _)
      | (with_reducible refine LeO.ite ?_ ?_)
      | (with_reducible refine LeO.bind ?_ (fun _ => ?_))
      | exact impl_LeastTurnOfTable.mono _ _ _
      | exact spec_LeastTurnOfTable.mono _ _ _
      | exact LeO.none _
      | refine LeO.ite ?_ ?_
      | refine LeO.bind ?_ (fun _ => ?_)
set_option maxHeartbeats 8000000 in
set_option maxRecDepth 100000 in
theorem laws_FnExactLeastTurnOfTable.calls (k : Nat) (a0 : Int) (a1 : Int) (r : Bool) (w : World) (h : laws_FnExactLeastTurnOfTable.f k a0 a1 = some r) :
    Calls Try.prog 8 #[.int .i64 a0, .int .i64 a1] w fun e w' => e = .returned (.bool r) ∧ Below w.heap.size w w' := by
  have HB := Aside0.mk (Below.refl w.heap.size w)
  have H : ((spec_LeastTurnOfTable.f k a0 a1).bind fun bt444 => ((impl_LeastTurnOfTable.f k a0 a1).bind fun bt446 => (if bt446.1 = bt444.1 then (if (bt446.2 != bt444.2) = true then (none) else (some true)) else (none)))) = some r := h
  clear h
  replace H := Option.bind_eq_some_iff.mp H
  obtain ⟨⟨t444, t445⟩, A30, H⟩ := H
  replace H : ((impl_LeastTurnOfTable.f k a0 a1).bind fun bt446 => (if bt446.1 = t444 then (if (bt446.2 != t445) = true then (none) else (some true)) else (none))) = some r := H
  have A3 := Aside0.mk A30
  clear A30
  replace H := Option.bind_eq_some_iff.mp H
  obtain ⟨⟨t446, t447⟩, A40, H⟩ := H
  replace H : (if t446 = t444 then (if (t447 != t445) = true then (none) else (some true)) else (none)) = some r := H
  have A4 := Aside0.mk A40
  clear A40
  by_cases c5 : t446 = t444
  · rw [if_pos c5] at H
    have c5b0 : (t446 == t444) = true := beq_iff_eq.mpr c5
    have c5b1 : (t446 != t444) = false := bne_eq_false_iff_eq.mpr c5
    clear c5
    by_cases c6 : (t447 != t445) = true
    · rw [if_pos c6] at H
      exact absurd H (by simp)
    · as_aux_lemma =>
      rw [if_neg c6] at H
      have c6b0 : (t447 != t445) = false := by simpa using c6
      (try (have c6b1 : decide (t447 = t445) = true := by simpa using c6))
      (try (have c6b2 : (t447 == t445) = true := by simpa using c6))
      clear c6
      obtain rfl := Option.some.inj H
      go_enter Try.func8, Try.ntmps8
      go_wp2_with (first | ((with_reducible refine gate_callee (f := 28) rfl ?_); refine goesL_ (some 12) rfl rfl Try.func28 (by kernel_rfl) rfl #[.int .i64 a0, .int .i64 a1] rfl (by (try simp only [List.map_toArray, List.map_cons, List.map_nil]); first | done | rfl | (simp only [List.length_drop, List.length_take]; rfl)) ?_; (with_reducible refine (spec_LeastTurnOfTable.calls k a0 a1 t444 t445 _ A3.out).mono ?_); rintro e w7 ⟨rfl, hb⟩; refine ⟨_, rfl, ?_⟩; have n0_ := Aside0.mk (below_step (by repeat (first | (with_reducible first | exact HB.out | apply below_alloc | apply pw_below_drewN | apply below_drew1) | exact HB.out)) hb); clear HB; have HB := n0_; clear n0_; (try clear hb); (try clear hb2); (try clear hk); (try clear hi)) | ((with_reducible refine gate_callee (f := 29) rfl ?_); refine goesL_ (some 18) rfl rfl Try.func29 (by kernel_rfl) rfl #[.int .i64 a0, .int .i64 a1] rfl (by (try simp only [List.map_toArray, List.map_cons, List.map_nil]); first | done | rfl | (simp only [List.length_drop, List.length_take]; rfl)) ?_; (with_reducible refine (impl_LeastTurnOfTable.calls k a0 a1 t446 t447 _ A4.out).mono ?_); rintro e w8 ⟨rfl, hb⟩; refine ⟨_, rfl, ?_⟩; have n0_ := Aside0.mk (below_step (by repeat (first | (with_reducible first | exact HB.out | apply below_alloc | apply pw_below_drewN | apply below_drew1) | exact HB.out)) hb); clear HB; have HB := n0_; clear n0_; (try clear hb); (try clear hb2); (try clear hk); (try clear hi)))
      go_ret
      exact ⟨by first | rfl | (simp [errW_none, errW_some] <;> rfl) | (simp [*, errW_none, errW_some] <;> rfl), by repeat (first | (with_reducible first | exact HB.out | apply below_alloc | apply pw_below_drewN | apply below_drew1) | exact HB.out)⟩
  · rw [if_neg c5] at H
    exact absurd H (by simp)

/-- THE ONE PURE STATEMENT of laws_FnExactLeastTurnOfTable: yours. -/
def laws_FnExactLeastTurnOfTable.Pure : Prop := ∀ (a0 : Int) (a1 : Int), (Lit.int .i64 a0).wf = true → (Lit.int .i64 a1).wf = true → ∃ k, laws_FnExactLeastTurnOfTable.f k a0 a1 = some true
theorem laws_FnExactLeastTurnOfTable.walk (P : laws_FnExactLeastTurnOfTable.Pure) (a0 : Int) (a1 : Int) (w : World) (w0 : (Lit.int .i64 a0).wf = true) (w1 : (Lit.int .i64 a1).wf = true) :
    Calls Try.prog 8 #[.int .i64 a0, .int .i64 a1] w fun e w' => e = .returned (.bool true) ∧ Below w.heap.size w w' := by
  obtain ⟨k, h⟩ := P a0 a1 w0 w1
  refine (laws_FnExactLeastTurnOfTable.calls k a0 a1 true w h).mono ?_
  rintro e w' ⟨rfl, hd⟩
  exact ⟨rfl, hd⟩

end Go.Proofs.Ytejchneeheeldaa.P
