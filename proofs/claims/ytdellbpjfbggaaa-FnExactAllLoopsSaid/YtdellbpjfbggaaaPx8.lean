/- A part of this seat's proofs: contracts of the translated functions, written by the session's own program (gp.py) out of the kit's print.py and the session's own contracts; no conditions of its own. -/
import Derived.Test.YtdellbpjfbggaaaPx0
import Derived.Test.YtdellbpjfbggaaaPx1
import Derived.Test.YtdellbpjfbggaaaPx5
import Derived.Test.YtdellbpjfbggaaaPx6
import Derived.Test.YtdellbpjfbggaaaPx7
namespace Go.Proofs.Ytdellbpjfbggaaa.P
open Go.RowKit Go.Proofs.YtdellbpjfbggaaaW.PrintWords Go.Proofs.YtdellbpjfbggaaaW.PrintLast Go.Proofs.YtdellbpjfbggaaaW.PrintMore
attribute [local go_sem] max2_int min2_int max_two min_two max_three min_three max_four min_four   -- for this text's walks alone
set_option linter.unusedVariables false
set_option linter.unusedSimpArgs false

/-! ### laws_FnExactAllLoops: function 4 -/
def laws_FnExactAllLoops.f (k : Nat) (a0 : Int) : Option (Bool) := (spec_AllLoops.f k a0).bind fun bt156 => ((impl_AllLoops.f k a0).bind fun bt160 => ((laws_eqStringS.f k bt160.1 bt156.1).bind fun t164 => (if t164 = true then (if (bt160.2 != bt156.2) = true then (none) else ((laws_markStringS.f k bt160.1 1).bind fun bt165 => ((laws_heldStringS.f k bt165.2 1).bind fun t167 => (if t167 < 0 then (none) else (if t167 = bt165.1 then ((impl_AllLoops.f k a0).bind fun bt168 => ((laws_eqStringS.f k bt168.1 bt156.1).bind fun t172 => (if t172 = true then (if (bt168.2 != bt156.2) = true then (none) else ((laws_heldStringS.f k bt165.2 1).bind fun t173 => (if t173 < 0 then (none) else (if t173 = bt165.1 then (some true) else (none))))) else (none)))) else (none)))))) else (none))))
theorem laws_FnExactAllLoops.mono : ∀ a0 k, LeO (laws_FnExactAllLoops.f k a0) (laws_FnExactAllLoops.f (k + 1) a0) := by
 intro a0 k
 unfold laws_FnExactAllLoops.f
 repeat' with_reducible first | apply impl_AllLoops.mono | apply laws_eqStringS.mono | apply laws_heldStringS.mono | apply laws_markStringS.mono | apply spec_AllLoops.mono | exact LeO.refl _ | exact LeO.none _ | refine LeO.ite ?_ ?_ | refine LeO.bind ?_ (fun _ => ?_)
set_option maxHeartbeats 8000000 in
set_option maxRecDepth 100000 in
theorem laws_FnExactAllLoops.calls (k : Nat) (a0 : Int) (r : Bool) (w : World) (h : laws_FnExactAllLoops.f k a0 = some r) :
  Calls Try.prog 4 #[.int .i64 a0] w fun e w' => e = .returned (.bool r) ∧ Below w.heap.size w w' := by
 have HB := Aside0.mk (Below.refl w.heap.size w)
 have H : ((spec_AllLoops.f k a0).bind fun bt156 => ((impl_AllLoops.f k a0).bind fun bt160 => ((laws_eqStringS.f k bt160.1 bt156.1).bind fun t164 => (if t164 = true then (if (bt160.2 != bt156.2) = true then (none) else ((laws_markStringS.f k bt160.1 1).bind fun bt165 => ((laws_heldStringS.f k bt165.2 1).bind fun t167 => (if t167 < 0 then (none) else (if t167 = bt165.1 then ((impl_AllLoops.f k a0).bind fun bt168 => ((laws_eqStringS.f k bt168.1 bt156.1).bind fun t172 => (if t172 = true then (if (bt168.2 != bt156.2) = true then (none) else ((laws_heldStringS.f k bt165.2 1).bind fun t173 => (if t173 < 0 then (none) else (if t173 = bt165.1 then (some true) else (none))))) else (none)))) else (none)))))) else (none))))) = some r := h
 clear h
 replace H := Option.bind_eq_some_iff.mp H
 obtain ⟨⟨t156, t157⟩, A20, H⟩ := H
 (try dsimp only at H)
 have A2 := Aside0.mk A20
 clear A20
 replace H := Option.bind_eq_some_iff.mp H
 obtain ⟨⟨t160, t161⟩, A30, H⟩ := H
 (try dsimp only at H)
 have A3 := Aside0.mk A30
 clear A30
 replace H := Option.bind_eq_some_iff.mp H
 obtain ⟨t164, A40, H⟩ := H
 (try dsimp only at H)
 have A4 := Aside0.mk A40
 clear A40
 by_cases c5 : t164 = true
 ·subst c5
  rw [if_pos rfl] at H
  by_cases c6 : (t161 != t157) = true
  ·rw [if_pos c6] at H
   exact absurd H (by simp)
  ·rw [if_neg c6] at H
   have c6b0 : (t161 != t157) = false := by simpa using c6
   (try (have c6b1 : decide (t161 = t157) = true := by simpa using c6))
   (try (have c6b2 : (t161 == t157) = true := by simpa using c6))
   clear c6
   replace H := Option.bind_eq_some_iff.mp H
   obtain ⟨⟨t165, t166⟩, A70, H⟩ := H
   (try dsimp only at H)
   have A7 := Aside0.mk A70
   clear A70
   replace H := Option.bind_eq_some_iff.mp H
   obtain ⟨t167, A80, H⟩ := H
   (try dsimp only at H)
   have A8 := Aside0.mk A80
   clear A80
   by_cases c9 : t167 < 0
   ·rw [if_pos c9] at H
    exact absurd H (by simp)
   rw [if_neg c9] at H
   have c9b0 : decide (t167 < 0) = false := decide_eq_false c9
   clear c9
   by_cases c10 : t167 = t165
   rotate_left
   ·rw [if_neg c10] at H
    exact absurd H (by simp)
   rw [if_pos c10] at H
   have c10b0 : (t167 == t165) = true := beq_iff_eq.mpr c10
   have c10b1 : (t167 != t165) = false := bne_eq_false_iff_eq.mpr c10
   clear c10
   replace H := Option.bind_eq_some_iff.mp H
   obtain ⟨⟨t168, t169⟩, A110, H⟩ := H
   (try dsimp only at H)
   have A11 := Aside0.mk A110
   clear A110
   replace H := Option.bind_eq_some_iff.mp H
   obtain ⟨t172, A120, H⟩ := H
   (try dsimp only at H)
   have A12 := Aside0.mk A120
   clear A120
   by_cases c13 : t172 = true
   rotate_left
   ·replace c13 := Bool.eq_false_iff.mpr c13
    subst c13
    rw [if_neg (show ¬ (false = true) by decide)] at H
    exact absurd H (by simp)
   subst c13
   rw [if_pos rfl] at H
   by_cases c14 : (t169 != t157) = true
   ·rw [if_pos c14] at H
    exact absurd H (by simp)
   rw [if_neg c14] at H
   have c14b0 : (t169 != t157) = false := by simpa using c14
   (try (have c14b1 : decide (t169 = t157) = true := by simpa using c14))
   (try (have c14b2 : (t169 == t157) = true := by simpa using c14))
   clear c14
   replace H := Option.bind_eq_some_iff.mp H
   obtain ⟨t173, A150, H⟩ := H
   (try dsimp only at H)
   have A15 := Aside0.mk A150
   clear A150
   by_cases c16 : t173 < 0
   ·rw [if_pos c16] at H
    exact absurd H (by simp)
   rw [if_neg c16] at H
   have c16b0 : decide (t173 < 0) = false := decide_eq_false c16
   clear c16
   by_cases c17 : t173 = t165
   rotate_left
   ·rw [if_neg c17] at H
    exact absurd H (by simp)
   as_aux_lemma =>
   rw [if_pos c17] at H
   have c17b0 : (t173 == t165) = true := beq_iff_eq.mpr c17
   have c17b1 : (t173 != t165) = false := bne_eq_false_iff_eq.mpr c17
   clear c17
   obtain rfl := Option.some.inj H
   go_enter Try.func4, Try.ntmps4
   go_wp2_with (first | ((with_reducible refine gate_callee (f := 7) rfl ?_); refine gl_ (some 13) Try.func7 #[.int .i64 a0] ?_; (with_reducible refine (spec_AllLoops.calls k a0 t156 t157 _ A2.out).mono ?_); rintro e w18 ⟨v158, rfl, ho0, hb⟩; refine ⟨_, rfl, ?_⟩; have n0_ := Aside0.mk (Kd.R_lower ho0 bz_); have n1_ := Aside0.mk (bs_ hb); clear HB; have HO159 := n0_; have HB := n1_; clear n0_ n1_; (try clear hb); (try clear ho0)) | ((with_reducible refine gate_callee (f := 8) rfl ?_); refine gl_ (some 18) Try.func8 #[.int .i64 a0] ?_; (with_reducible refine (impl_AllLoops.calls k a0 t160 t161 _ A3.out).mono ?_); rintro e w19 ⟨v162, rfl, ho0, hb⟩; refine ⟨_, rfl, ?_⟩; have n0_ := Aside0.mk (Kd.R_elder' (ru_ HO159.out) (Kd.R_base ho0) hb); have n1_ := Aside0.mk (Kd.R_lower (Kd.R_new' ho0 (Kd.R_lt (ru_ HO159.out))) bz_); have n2_ := Aside0.mk (bs_ hb); clear HO159; clear HB; have HO159 := n0_; have HO163 := n1_; have HB := n2_; clear n0_ n1_ n2_; (try clear hb); (try clear ho0); obtain ⟨Ao20, co20, eo20⟩ := Kd.R_slice HO163.out; subst eo20; obtain ⟨Ao21, co21, eo21⟩ := Kd.R_slice HO159.out; subst eo21) | ((with_reducible refine gate_callee (f := 9) rfl ?_); refine gl_ (some 23) Try.func9 #[.slice Ao20 t160.length co20, .slice Ao21 t156.length co21] ?_; (with_reducible refine (laws_eqStringS.calls k _ _ t160 _ _ t156 true _ ?side1 ?side2 ?side3 ?side4 A4.out).mono ?_); (case side1 => exact cu_ (Kd.R_reads' HO163.out).2.2); (case side2 => exact (Kd.R_reads' HO163.out).2.1); (case side3 => exact cu_ (Kd.R_reads' HO159.out).2.2); (case side4 => exact (Kd.R_reads' HO159.out).2.1); rintro e w' ⟨rfl, ⟨nd, rfl⟩⟩; refine ⟨_, rfl, ?_⟩) | ((with_reducible refine gate_callee (f := 10) rfl ?_); refine gl_ (some 32) Try.func10 #[.slice Ao20 t160.length co20, .int .i64 1] ?_; (with_reducible refine (laws_markStringS.calls k (fun k_ => some k_ = (.slice Ao20 t160.length co20 : Value).ownBlock) (.slice Ao20 t160.length co20) t160 1 t165 t166 w _ ?side1 ?side2 A7.out).mono ?_); (case side1 => repeat (first | (with_reducible first | apply below_alloc | apply pw_below_drewN | apply below_drew1) | exact HB.out)); (case side2 => exact Kd.R_tight rfl HO163.out); rintro e w22 ⟨rfl, hy0, hb, hkp⟩; refine ⟨_, rfl, ?_⟩; have n0_ := Aside0.mk (Kd.R_mono (ok' := fun k_ => some k_ ≠ (.slice Ao20 t160.length co20 : Value).ownBlock) (Kd.R_keptB (HO159.out) hkp (fun k_ hk_ hs_ => (hk_.2) hs_)) (fun k_ hk_ => hk_.1.2)); have n1_ := Aside0.mk (Kd.R_reok rfl hy0 (fun k_ e_ => HO163.out.1 k_ e_)); have n2_ := Aside0.mk (hb); clear HO159; clear HO163; clear HB; have HO159 := n0_; have HO163 := n1_; have HB := n2_; clear n0_ n1_ n2_; (try clear hb); (try clear hkp); (try clear hy0)) | ((with_reducible refine gate_callee (f := 11) rfl ?_); refine goesL_ (some 35) rfl rfl Try.func11 (by kernel_rfl) rfl #[.slice Ao20 t166.length co20, .int .i64 1] rfl (by (try simp only [List.map_toArray, List.map_cons, List.map_nil]); first | done | (rw [show t166.length = t160.length from (Kd.R_reads' HO163.out).1.symm] <;> rfl) | rfl | (simp only [List.length_drop, List.length_take]; rfl)) ?_; (with_reducible refine (laws_heldStringS.calls k _ _ t166 1 t167 _ ?side1 ?side2 A8.out).mono ?_); (case side1 => exact cu_ (Kd.R_reads' HO163.out).2.2); (case side2 => rw [show t166.length = t160.length from (Kd.R_reads' HO163.out).1.symm]; exact (Kd.R_reads' HO163.out).2.1); rintro e w23 ⟨rfl, hb⟩; refine ⟨_, rfl, ?_⟩; have n0_ := Aside0.mk (Kd.R_below (ru_ HO159.out) hb); have n1_ := Aside0.mk (Kd.R_below (ru_ HO163.out) hb); have n2_ := Aside0.mk (bs_ hb); clear HO159; clear HO163; clear HB; have HO159 := n0_; have HO163 := n1_; have HB := n2_; clear n0_ n1_ n2_; (try clear hb)) | ((with_reducible refine gate_callee (f := 8) rfl ?_); refine gl_ (some 43) Try.func8 #[.int .i64 a0] ?_; (with_reducible refine (impl_AllLoops.calls k a0 t168 t169 _ A11.out).mono ?_); rintro e w24 ⟨v170, rfl, ho0, hb⟩; refine ⟨_, rfl, ?_⟩; have n0_ := Aside0.mk (Kd.R_elder' (ru_ HO159.out) (Kd.R_base ho0) hb); have n1_ := Aside0.mk (Kd.R_elder' (ru_ HO163.out) (Kd.R_base ho0) hb); have n2_ := Aside0.mk (Kd.R_lower (Kd.R_new' (Kd.R_new' ho0 (Kd.R_lt (ru_ HO159.out))) (Kd.R_lt (ru_ HO163.out))) bz_); have n3_ := Aside0.mk (bs_ hb); clear HO159; clear HO163; clear HB; have HO159 := n0_; have HO163 := n1_; have HO171 := n2_; have HB := n3_; clear n0_ n1_ n2_ n3_; (try clear hb); (try clear ho0); obtain ⟨Ao25, co25, eo25⟩ := Kd.R_slice HO171.out; subst eo25) | ((with_reducible refine gate_callee (f := 9) rfl ?_); refine gl_ (some 48) Try.func9 #[.slice Ao25 t168.length co25, .slice Ao21 t156.length co21] ?_; (with_reducible refine (laws_eqStringS.calls k _ _ t168 _ _ t156 true _ ?side1 ?side2 ?side3 ?side4 A12.out).mono ?_); (case side1 => exact cu_ (Kd.R_reads' HO171.out).2.2); (case side2 => exact (Kd.R_reads' HO171.out).2.1); (case side3 => exact cu_ (Kd.R_reads' HO159.out).2.2); (case side4 => exact (Kd.R_reads' HO159.out).2.1); rintro e w' ⟨rfl, ⟨nd, rfl⟩⟩; refine ⟨_, rfl, ?_⟩) | ((with_reducible refine gate_callee (f := 11) rfl ?_); refine goesL_ (some 57) rfl rfl Try.func11 (by kernel_rfl) rfl #[.slice Ao20 t166.length co20, .int .i64 1] rfl (by (try simp only [List.map_toArray, List.map_cons, List.map_nil]); first | done | (rw [show t166.length = t160.length from (Kd.R_reads' HO163.out).1.symm] <;> rfl) | rfl | (simp only [List.length_drop, List.length_take]; rfl)) ?_; (with_reducible refine (laws_heldStringS.calls k _ _ t166 1 t173 _ ?side1 ?side2 A15.out).mono ?_); (case side1 => exact cu_ (Kd.R_reads' HO163.out).2.2); (case side2 => rw [show t166.length = t160.length from (Kd.R_reads' HO163.out).1.symm]; exact (Kd.R_reads' HO163.out).2.1); rintro e w26 ⟨rfl, hb⟩; refine ⟨_, rfl, ?_⟩; have n0_ := Aside0.mk (Kd.R_below (ru_ HO159.out) hb); have n1_ := Aside0.mk (Kd.R_below (ru_ HO163.out) hb); have n2_ := Aside0.mk (Kd.R_below (ru_ HO171.out) hb); have n3_ := Aside0.mk (bs_ hb); clear HO159; clear HO163; clear HO171; clear HB; have HO159 := n0_; have HO163 := n1_; have HO171 := n2_; have HB := n3_; clear n0_ n1_ n2_ n3_; (try clear hb)))
   go_ret
   exact ⟨by first | rfl | (simp [errW_none, errW_some] <;> rfl) | (simp [*, errW_none, errW_some] <;> rfl), bb_⟩
 ·replace c5 := Bool.eq_false_iff.mpr c5
  subst c5
  rw [if_neg (show ¬ (false = true) by decide)] at H
  exact absurd H (by simp)

/-- THE ONE PURE STATEMENT of laws_FnExactAllLoops: yours. -/
def laws_FnExactAllLoops.Pure : Prop := ∀ (a0 : Int), (Lit.int .i64 a0).wf = true → ∃ k, laws_FnExactAllLoops.f k a0 = some true
theorem laws_FnExactAllLoops.walk (P : laws_FnExactAllLoops.Pure) (a0 : Int) (w : World) (w0 : (Lit.int .i64 a0).wf = true) :
  Calls Try.prog 4 #[.int .i64 a0] w fun e w' => e = .returned (.bool true) ∧ Below w.heap.size w w' := by
 obtain ⟨k, h⟩ := P a0 w0
 refine (laws_FnExactAllLoops.calls k a0 true w h).mono ?_
 rintro e w' ⟨rfl, hd⟩
 exact ⟨rfl, hd⟩

end Go.Proofs.Ytdellbpjfbggaaa.P
