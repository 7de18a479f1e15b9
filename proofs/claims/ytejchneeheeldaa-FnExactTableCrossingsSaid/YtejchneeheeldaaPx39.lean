/- A part of this seat's proofs: contracts of the translated functions, written by the session's own program (gp.py) out of the kit's print.py and the session's own contracts; no conditions of its own. -/
import Derived.Test.YtejchneeheeldaaPx0
import Derived.Test.YtejchneeheeldaaPx38
namespace Go.Proofs.Ytejchneeheeldaa.P
open Go.RowKit Go.Proofs.YtejchneeheeldaaW.PrintWords Go.Proofs.YtejchneeheeldaaW.PrintLast Go.Proofs.YtejchneeheeldaaW.PrintMore
attribute [local go_sem] max2_int min2_int max_two min_two max_three min_three max_four min_four   -- for this text's walks alone
set_option linter.unusedVariables false
set_option linter.unusedSimpArgs false

/-! ### given: 30_sortC.tpl -/
shelf_lay_g SlLaysF0.n6 Slsf 6 at Try 87 as Try.sortCho
instance instCho : Inhabited S59 := ⟨z59⟩
def encCL (x : S59) : List Value := [.int .i64 x.f0, .int .i64 x.f1]
theorem encCL_M (w : World) (base : Nat) (ok : Nat → Prop) (x : S59) (cs : List Value) (h : k59.M w base ok x cs) : cs = encCL x := by
  obtain ⟨c0, c1, rfl, rfl, rfl⟩ := h
  rfl
theorem encCL_M' (w : World) (base : Nat) (ok : Nat → Prop) (x : S59) (cs : List Value) (h : cs = encCL x) : k59.M w base ok x cs := by
  subst h
  exact ⟨[.int .i64 x.f0], [.int .i64 x.f1], rfl, rfl, rfl⟩
theorem cmpC_lt (x y : S59) : cmpC x y < 0 ↔ x.f0 < y.f0 ∨ x.f0 = y.f0 ∧ x.f1 < y.f1 := by
  unfold cmpC
  repeat' split
  all_goals omega
theorem ltC (x y : S59) : Go.Proofs.ltOf cmpC x y = decide (x.f0 < y.f0 ∨ x.f0 = y.f0 ∧ x.f1 < y.f1) := by
  unfold Go.Proofs.ltOf
  rw [decide_eq_decide]
  exact cmpC_lt x y
theorem swoC : Go.Sort.SWO (Go.Proofs.ltOf cmpC) where
  irrefl x := by rw [ltC]; simp
  trans x y z h1 h2 := by rw [ltC] at *; simp only [decide_eq_true_eq] at *; omega
  ntrans x y z h1 h2 := by rw [ltC] at *; simp only [decide_eq_false_iff_not] at *; omega
/-- The chords in order. -/
def impl_Chord_87.f (l0 : List S59) : Option (List S59) := if l0.length < 4611686018427387904 then some (l0.mergeSort fun x y => !(Go.Proofs.ltOf cmpC) y x) else none
theorem impl_Chord_87.calls (P0_ : Nat → Prop) (u9000_ : Value) (l0 : List S59) (r : List S59) (w0 w : World) (hB : Below w0.heap.size w0 w) (ho0 : Kd.R k59 59 w w0.heap.size P0_ u9000_ l0) (h : impl_Chord_87.f l0 = some r) :
    Calls Try.prog 87 #[u9000_, .func (.func 88) #[] #[]] w fun e w' => e = .returned (.tuple #[]) ∧ Kd.R k59 59 w' w0.heap.size (fun k_ => (P0_ k_ ∨ w.heap.size ≤ k_)) u9000_ r ∧ Below w0.heap.size w0 w' ∧ Kept w w' (fun k_ => P0_ k_) := by
  unfold impl_Chord_87.f at h
  by_cases hsz : l0.length < 4611686018427387904
  · rw [if_pos hsz] at h
    obtain rfl := Option.some.inj h
    clear h
    rcases Nat.eq_zero_or_pos l0.length with hz | hp
    · obtain ⟨A, c, rfl⟩ := Kd.R_slice ho0
      obtain rfl : l0 = [] := List.length_eq_zero_iff.1 hz
      have hc := Go.Proofs.AnyF.slices_SortFunc_none Try.sortCho A c (.func (.func 88) #[] #[]) w
      change Calls Try.prog 87 #[.slice A 0 c, .func (.func 88) #[] #[]] w _ at hc
      refine hc.mono ?_
      rintro e w' ⟨rfl, rfl⟩
      exact ⟨rfl, by simpa using Kd.R_mono ho0 (fun k hk => .inl hk), hB, Kept.refl _ _⟩
    · obtain ⟨g, cap, rfl, _⟩ := Kd.R_form ho0 hp
      obtain ⟨hb, hlt⟩ := RK_block ho0
      have hc := Go.Proofs.AnyQ.slices_SortFunc_total Try.sortCho 2 Try.isAgg59 Try.sizeOf59 encCL (fun _ => rfl) (fun x v hv => by simp [encCL] at hv; rcases hv with rfl | rfl <;> rfl) cmpC swoC 88 #[] g 0 cap l0.toArray w
        (enters_of Try.func88 (by kernel_rfl) rfl) (fun _ _ _ _ x y => impl_compareChords.lays x y _) (RK_holds rfl (fun _ => rfl) encCL_M ho0) hlt (by simpa using hsz)
        (fun x y h1 h2 => by rw [ltC] at h1 h2; simp only [decide_eq_false_iff_not] at h1 h2; cases x; cases y; simp only [S59.mk.injEq]; simp only at h1 h2; omega)
      change Calls Try.prog 87 #[.slice (some ⟨g, 0, none⟩) l0.length cap, .func (.func 88) #[] #[]] w _ at hc
      refine hc.mono ?_
      rintro e w' ⟨rfl, n, os, rfl⟩
      have hl : (l0.mergeSort fun x y => !(Go.Proofs.ltOf cmpC) y x).length = l0.length := by simp
      obtain ⟨h1, h2⟩ := RK_putRow rfl (fun _ => rfl) encCL_M' ho0 hl n os
      rw [hl] at h1
      exact ⟨rfl, Kd.R_mono h1 (fun k hk => .inl hk), pw_below_grown hB (some g) hB.size h2 (fun k hk => by injection hk with hk; omega), ⟨h2.size, fun i hi hn => h2.block i hi (fun he => hn (by injection he with he; rw [he]; exact ho0.1 g rfl))⟩⟩
  · rw [if_neg hsz] at h; cases h

end Go.Proofs.Ytejchneeheeldaa.P
