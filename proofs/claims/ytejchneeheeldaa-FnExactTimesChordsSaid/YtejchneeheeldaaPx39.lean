/- A part of this seat's proofs: contracts of the translated functions, written by the session's own program (gp.py) out of the kit's print.py and the session's own contracts; no conditions of its own. -/
import Derived.Test.YtejchneeheeldaaPx0
import Derived.Test.YtejchneeheeldaaPx38
namespace Go.Proofs.Ytejchneeheeldaa.P
open Go.RowKit Go.Proofs.YtejchneeheeldaaW.PrintWords Go.Proofs.YtejchneeheeldaaW.PrintLast Go.Proofs.YtejchneeheeldaaW.PrintMore
attribute [local go_sem] max2_int min2_int max_two min_two max_three min_three max_four min_four   -- for this text's walks alone
set_option linter.unusedVariables false
set_option linter.unusedSimpArgs false

/-! ### given: 30_sortC.tpl -/
def Try.sortCho_ren : Go.Shelf.Ren := ⟨fun | 6 => 87 | 15 => 64 | 14 => 96 | 28 => 81 | 29 => 82 | 20 => 100 | 21 => 101 | 22 => 102 | 23 => 103 | 24 => 104 | 25 => 105 | 26 => 106 | 27 => 107 | 46 => 108 | 47 => 91 | 48 => 92 | 49 => 109 | 50 => 110 | 57 => 111 | n => n, fun | 22 => 38 | 24 => 59 | 25 => 83 | 3 => 3 | 39 => 65 | 0 => 0 | 53 => 79 | 55 => 81 | 4 => 4 | 46 => 73 | 45 => 72 | 50 => 36 | 5 => 5 | 9 => 9 | 66 => 84 | 70 => 88 | 76 => 92 | 77 => 93 | n => n, fun | n => n⟩
theorem Try.sortCho : Go.Proofs.SlLaysF0.n6 Try.prog Try.sortCho_ren := {
  mixed := by kernel_rfl
  f6 := ⟨Try.f87.name, by decide, Try.func87.trans (congrArg some (by kernel_rfl))⟩
  f14 := ⟨Try.f96.name, by decide, Try.func96.trans (congrArg some (by kernel_rfl))⟩
  f15 := Try.func64.trans (congrArg some (by kernel_rfl))
  f20 := ⟨Try.f100.name, by decide, Try.func100.trans (congrArg some (by kernel_rfl))⟩
  f21 := ⟨Try.f101.name, by decide, Try.func101.trans (congrArg some (by kernel_rfl))⟩
  f22 := ⟨Try.f102.name, by decide, Try.func102.trans (congrArg some (by kernel_rfl))⟩
  f23 := ⟨Try.f103.name, by decide, Try.func103.trans (congrArg some (by kernel_rfl))⟩
  f24 := ⟨Try.f104.name, by decide, Try.func104.trans (congrArg some (by kernel_rfl))⟩
  f25 := ⟨Try.f105.name, by decide, Try.func105.trans (congrArg some (by kernel_rfl))⟩
  f26 := ⟨Try.f106.name, by decide, Try.func106.trans (congrArg some (by kernel_rfl))⟩
  f27 := ⟨Try.f107.name, by decide, Try.func107.trans (congrArg some (by kernel_rfl))⟩
  f28 := Try.func81.trans (congrArg some (by kernel_rfl))
  f29 := Try.func82.trans (congrArg some (by kernel_rfl))
  f46 := ⟨Try.f108.name, by decide, Try.func108.trans (congrArg some (by kernel_rfl))⟩
  f47 := Try.func91.trans (congrArg some (by kernel_rfl))
  f48 := Try.func92.trans (congrArg some (by kernel_rfl))
  f49 := ⟨Try.f109.name, by decide, Try.func109.trans (congrArg some (by kernel_rfl))⟩
  f50 := ⟨Try.f110.name, by decide, Try.func110.trans (congrArg some (by kernel_rfl))⟩
  f57 := ⟨Try.f111.name, by decide, Try.func111.trans (congrArg some (by kernel_rfl))⟩
  t0 := Try.underlying0
  a0 := Try.isAgg0
  z0 := Try.sizeOf0
  v0 := Try.zeroValue0
  t3 := Try.underlying3
  a3 := Try.isAgg3
  z3 := Try.sizeOf3
  v3 := Try.zeroValue3
  t4 := Try.underlying4
  a4 := Try.isAgg4
  z4 := Try.sizeOf4
  v4 := Try.zeroValue4
  t5 := Try.underlying5
  a5 := Try.isAgg5
  z5 := Try.sizeOf5
  v5 := Try.zeroValue5
  t9 := Try.underlying9
  a9 := Try.isAgg9
  z9 := Try.sizeOf9
  v9 := Try.zeroValue9
  t22 := Try.underlying38
  a22 := Try.isAgg38
  z22 := Try.sizeOf38
  v22 := Try.zeroValue38
  t25 := Try.underlying83
  a25 := Try.isAgg83
  z25 := Try.sizeOf83
  v25 := Try.zeroValue83
  t39 := Try.underlying65
  a39 := Try.isAgg65
  z39 := Try.sizeOf65
  v39 := Try.zeroValue65
  t45 := Try.underlying72
  a45 := Try.isAgg72
  z45 := Try.sizeOf72
  v45 := Try.zeroValue72
  t46 := Try.underlying73
  a46 := Try.isAgg73
  z46 := Try.sizeOf73
  v46 := Try.zeroValue73
  t50 := Try.underlying36
  a50 := Try.isAgg36
  z50 := Try.sizeOf36
  v50 := Try.zeroValue36
  t53 := Try.underlying79
  a53 := Try.isAgg79
  z53 := Try.sizeOf79
  v53 := Try.zeroValue79
  t55 := Try.underlying81
  a55 := Try.isAgg81
  z55 := Try.sizeOf81
  v55 := Try.zeroValue81
  t66 := Try.underlying84
  a66 := Try.isAgg84
  z66 := Try.sizeOf84
  v66 := Try.zeroValue84
  t70 := Try.underlying88
  a70 := Try.isAgg88
  z70 := Try.sizeOf88
  v70 := Try.zeroValue88
  t76 := Try.underlying92
  a76 := Try.isAgg92
  z76 := Try.sizeOf92
  v76 := Try.zeroValue92
  t77 := Try.underlying93
  a77 := Try.isAgg93
  z77 := Try.sizeOf93
  v77 := Try.zeroValue93 }
instance instCho : Inhabited S59 := ⟨z59⟩
def encCL (x : S59) : List Value := [.int .i64 x.f0, .int .i64 x.f1]
theorem encCL_M (w : World) (base : Nat) (ok : Nat → Prop) (x : S59) (cs : List Value) (h : k59.M w base ok x cs) : cs = encCL x := by
  obtain ⟨c0, c1, rfl, rfl, rfl⟩ := h
  rfl
theorem encCL_M' (w : World) (base : Nat) (ok : Nat → Prop) (x : S59) (cs : List Value) (h : cs = encCL x) : k59.M w base ok x cs := by
  subst h
  exact ⟨[.int .i64 x.f0], [.int .i64 x.f1], rfl, rfl, rfl⟩
theorem cmpC_lt (x y : S59) : cmpC x y < 0 ↔ x.f0 < y.f0 ∨ x.f0 = y.f0 ∧ x.f1 < y.f1 := by
  unfold cmpC
  repeat' split
  all_goals omega
theorem ltC (x y : S59) : Go.Proofs.ltOf cmpC x y = decide (x.f0 < y.f0 ∨ x.f0 = y.f0 ∧ x.f1 < y.f1) := by
  unfold Go.Proofs.ltOf
  rw [decide_eq_decide]
  exact cmpC_lt x y
theorem swoC : Go.Sort.SWO (Go.Proofs.ltOf cmpC) where
  irrefl x := by rw [ltC]; simp
  trans x y z h1 h2 := by rw [ltC] at *; simp only [decide_eq_true_eq] at *; omega
  ntrans x y z h1 h2 := by rw [ltC] at *; simp only [decide_eq_false_iff_not] at *; omega
/-- The chords in order. -/
def impl_Chord_87.f (l0 : List S59) : Option (List S59) := if l0.length < 4611686018427387904 then some (l0.mergeSort fun x y => !(Go.Proofs.ltOf cmpC) y x) else none
theorem impl_Chord_87.calls (P0_ : Nat → Prop) (u9000_ : Value) (l0 : List S59) (r : List S59) (w0 w : World) (hB : Below w0.heap.size w0 w) (ho0 : Kd.R k59 59 w w0.heap.size P0_ u9000_ l0) (h : impl_Chord_87.f l0 = some r) :
    Calls Try.prog 87 #[u9000_, .func (.func 88) #[] #[]] w fun e w' => e = .returned (.tuple #[]) ∧ Kd.R k59 59 w' w0.heap.size (fun k_ => (P0_ k_ ∨ w.heap.size ≤ k_)) u9000_ r ∧ Below w0.heap.size w0 w' ∧ Kept w w' (fun k_ => P0_ k_) := by
  unfold impl_Chord_87.f at h
  by_cases hsz : l0.length < 4611686018427387904
  · rw [if_pos hsz] at h
    obtain rfl := Option.some.inj h
    clear h
    rcases Nat.eq_zero_or_pos l0.length with hz | hp
    · obtain ⟨A, c, rfl⟩ := Kd.R_slice ho0
      obtain rfl : l0 = [] := List.length_eq_zero_iff.1 hz
      have hc := Go.Proofs.AnyF.slices_SortFunc_none Try.sortCho A c (.func (.func 88) #[] #[]) w
      change Calls Try.prog 87 #[.slice A 0 c, .func (.func 88) #[] #[]] w _ at hc
      refine hc.mono ?_
      rintro e w' ⟨rfl, rfl⟩
      exact ⟨rfl, by simpa using Kd.R_mono ho0 (fun k hk => .inl hk), hB, Kept.refl _ _⟩
    · obtain ⟨g, cap, rfl, _⟩ := Kd.R_form ho0 hp
      obtain ⟨hb, hlt⟩ := RK_block ho0
      have hc := Go.Proofs.AnyQ.slices_SortFunc_total Try.sortCho 2 Try.isAgg59 Try.sizeOf59 encCL (fun _ => rfl) (fun x v hv => by simp [encCL] at hv; rcases hv with rfl | rfl <;> rfl) cmpC swoC 88 #[] g 0 cap l0.toArray w
        (enters_of Try.func88 (by kernel_rfl) rfl) (fun _ _ _ _ x y => impl_compareChords.lays x y _) (RK_holds rfl (fun _ => rfl) encCL_M ho0) hlt (by simpa using hsz)
        (fun x y h1 h2 => by rw [ltC] at h1 h2; simp only [decide_eq_false_iff_not] at h1 h2; cases x; cases y; simp only [S59.mk.injEq]; simp only at h1 h2; omega)
      change Calls Try.prog 87 #[.slice (some ⟨g, 0, none⟩) l0.length cap, .func (.func 88) #[] #[]] w _ at hc
      refine hc.mono ?_
      rintro e w' ⟨rfl, n, os, rfl⟩
      have hl : (l0.mergeSort fun x y => !(Go.Proofs.ltOf cmpC) y x).length = l0.length := by simp
      obtain ⟨h1, h2⟩ := RK_putRow rfl (fun _ => rfl) encCL_M' ho0 hl n os
      rw [hl] at h1
      exact ⟨rfl, Kd.R_mono h1 (fun k hk => .inl hk), pw_below_grown hB (some g) hB.size h2 (fun k hk => by injection hk with hk; omega), ⟨h2.size, fun i hi hn => h2.block i hi (fun he => hn (by injection he with he; rw [he]; exact ho0.1 g rfl))⟩⟩
  · rw [if_neg hsz] at h; cases h

end Go.Proofs.Ytejchneeheeldaa.P
