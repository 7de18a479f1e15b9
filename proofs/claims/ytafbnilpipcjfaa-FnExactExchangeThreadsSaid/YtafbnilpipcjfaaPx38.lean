/- A part of this seat's proofs: contracts of the translated functions, written by the session's own program (gp.py) out of the kit's print.py and the session's own contracts; no conditions of its own. -/
import Derived.Test.YtafbnilpipcjfaaPx0
import Derived.Test.YtafbnilpipcjfaaPx37
namespace Go.Proofs.Ytafbnilpipcjfaa.P
open Go.RowKit Go.Proofs.YtafbnilpipcjfaaW.PrintWords Go.Proofs.YtafbnilpipcjfaaW.PrintLast Go.Proofs.YtafbnilpipcjfaaW.PrintMore
attribute [local go_sem] max2_int min2_int max_two min_two max_three min_three max_four min_four   -- for this text's walks alone
set_option linter.unusedVariables false
set_option linter.unusedSimpArgs false

/-! ### given: 25_rowsK.tpl -/
/-! rows of structs of the call's own, laid anew by a contract of the shelf ('putRowK') -/
section
open Go.Sort
variable {α : Type} [Inhabited α] {enc : α → List Value} {k : Nat}
theorem reps_flat (hk : ∀ x, (enc x).length = k) {xs : List α} {cs : List Value} (h : Reps (fun x c => c = enc x) k xs cs) : cs.toArray = flatK enc k xs.toArray := by
  apply Array.ext
  · rw [size_flatK]; simp [h.1]
  · intro t h1 h2
    have ht : t < xs.length * k := by rw [size_flatK] at h2; simpa using h2
    have k0 : 0 < k := by rcases Nat.eq_zero_or_pos k with e | e; · subst e; simp at ht
                          · exact e
    have hj : t / k < xs.length := Nat.div_lt_of_lt_mul (by rw [Nat.mul_comm]; exact ht)
    have hr := h.2 (t / k) _ (List.getElem?_eq_getElem hj)
    have hm := Nat.mod_lt t k0
    have e1 := get_flatK enc k xs.toArray t (by simpa using ht)
    rw [getElem!_pos _ t h2] at e1
    rw [e1]
    rw [getElem!_pos xs.toArray (t / k) (by simpa using hj)]
    simp only [List.getElem_toArray]
    rw [← hr]
    have hl : t % k < ((cs.drop (t / k * k)).take k).length := by rw [hr, hk]; exact hm
    rw [getElem!_pos _ (t % k) hl, List.getElem_take, List.getElem_drop]
    congr 1
    have := Nat.div_add_mod t k
    rw [Nat.mul_comm] at this
    exact this.symm
theorem flat_reps (hk : ∀ x, (enc x).length = k) (xs : List α) : Reps (fun x c => c = enc x) k xs (flatK enc k xs.toArray).toList := by
  refine ⟨by simp, fun j p hj => ?_⟩
  obtain ⟨hjl, rfl⟩ := List.getElem?_eq_some_iff.1 hj
  have hle : j * k + k ≤ xs.length * k := by rw [← Nat.succ_mul]; exact Nat.mul_le_mul_right k hjl
  apply List.ext_getElem
  · simp [hk]; omega
  · intro i h1 h2
    have hi : i < k := by rw [hk] at h2; exact h2
    rw [List.getElem_take, List.getElem_drop, Array.getElem_toList]
    have e1 := get_flatK enc k xs.toArray (j * k + i) (by simp; omega)
    rw [getElem!_pos _ (j * k + i) (by rw [size_flatK]; simp; omega)] at e1
    rw [e1]
    have d1 : (j * k + i) / k = j := by rw [Nat.mul_comm, Nat.mul_add_div (by omega), Nat.div_eq_of_lt hi, Nat.add_zero]
    have d2 : (j * k + i) % k = i := by rw [Nat.mul_comm, Nat.mul_add_mod, Nat.mod_eq_of_lt hi]
    rw [d1, d2, getElem!_pos xs.toArray j (by simpa using hjl)]
    simp only [List.getElem_toArray]
    rw [getElem!_pos _ i h2]
variable {d : Kd α} {e base g cap : Nat} {ok : Nat → Prop} {w : World} {xs ys : List α}
theorem RK_holds (hs : d.sz = k) (hk : ∀ x, (enc x).length = k) (hM : ∀ w base ok x cs, d.M w base ok x cs → cs = enc x) (h : d.R e w base ok (.slice (some ⟨g, 0, none⟩) xs.length cap) xs) : HoldsK enc k w g 0 xs.toArray := by
  obtain ⟨_, inner, ho, hr⟩ := h
  rw [hs] at ho hr
  have h1 := own_holds ho
  rw [reps_flat hk (hr.imp_ (fun _ _ hp => hM _ _ _ _ _ hp))] at h1
  exact h1
theorem RK_putRow (hs : d.sz = k) (hk : ∀ x, (enc x).length = k) (hM : ∀ w base ok x cs, cs = enc x → d.M w base ok x cs) (h : d.R e w base ok (.slice (some ⟨g, 0, none⟩) xs.length cap) xs) (hl : ys.length = xs.length) (m : Nat) (os : Array Obj) :
    d.R e (grow (putRowK enc k (Go.Sort.ahead w m) g 0 ys.toArray) os) base ok (.slice (some ⟨g, 0, none⟩) ys.length cap) ys ∧ w.grownBy (grow (putRowK enc k (Go.Sort.ahead w m) g 0 ys.toArray) os) (some g) := by
  obtain ⟨h0, inner, ho, hr⟩ := h
  rw [hs] at ho hr
  have hlen : (flatK enc k ys.toArray).toList.length = inner.length := by
    rw [hr.1]; simp [hl]
  obtain ⟨h1, h2⟩ := own_putRow (ys := (flatK enc k ys.toArray).toList) ho hlen m os
  rw [Array.toArray_toList] at h1 h2
  refine ⟨⟨h0, (flatK enc k ys.toArray).toList, ?_, ?_⟩, h2⟩
  · rw [hs, hl]; exact h1
  · rw [hs]; exact (flat_reps hk ys).imp_ (fun _ _ hp => hM _ _ _ _ _ hp)
theorem RK_block {β : Type} {d : Kd β} {e base g cap : Nat} {ok : Nat → Prop} {w : World} {xs : List β} (h : d.R e w base ok (.slice (some ⟨g, 0, none⟩) xs.length cap) xs) : base ≤ g ∧ g < w.heap.size := by
  obtain ⟨_, inner, ho, _⟩ := h
  exact ⟨own_base ho g rfl, own_lt ho g rfl⟩
end

/-! ### given: 26_sortT.tpl -/
def Try.sortThr_ren : Go.Shelf.Ren := ⟨fun | 6 => 61 | 15 => 73 | 14 => 72 | 28 => 90 | 29 => 91 | 20 => 82 | 21 => 83 | 22 => 84 | 23 => 85 | 24 => 86 | 25 => 87 | 26 => 88 | 27 => 89 | 46 => 95 | 47 => 96 | 48 => 97 | 49 => 98 | 50 => 99 | 57 => 101 | n => n, fun | 22 => 27 | 24 => 38 | 25 => 63 | 3 => 3 | 39 => 73 | 0 => 0 | 53 => 92 | 55 => 94 | 4 => 4 | 46 => 86 | 45 => 85 | 50 => 61 | 5 => 5 | 9 => 9 | 66 => 97 | 70 => 101 | 76 => 103 | 77 => 76 | n => n, fun | n => n⟩
theorem Try.sortThr : Go.Proofs.SlLaysF0.n6 Try.prog Try.sortThr_ren := {
  mixed := by kernel_rfl
  f6 := ⟨Try.f61.name, by decide, Try.func61.trans (congrArg some (by kernel_rfl))⟩
  f14 := ⟨Try.f72.name, by decide, Try.func72.trans (congrArg some (by kernel_rfl))⟩
  f15 := Try.func73.trans (congrArg some (by kernel_rfl))
  f20 := ⟨Try.f82.name, by decide, Try.func82.trans (congrArg some (by kernel_rfl))⟩
  f21 := ⟨Try.f83.name, by decide, Try.func83.trans (congrArg some (by kernel_rfl))⟩
  f22 := ⟨Try.f84.name, by decide, Try.func84.trans (congrArg some (by kernel_rfl))⟩
  f23 := ⟨Try.f85.name, by decide, Try.func85.trans (congrArg some (by kernel_rfl))⟩
  f24 := ⟨Try.f86.name, by decide, Try.func86.trans (congrArg some (by kernel_rfl))⟩
  f25 := ⟨Try.f87.name, by decide, Try.func87.trans (congrArg some (by kernel_rfl))⟩
  f26 := ⟨Try.f88.name, by decide, Try.func88.trans (congrArg some (by kernel_rfl))⟩
  f27 := ⟨Try.f89.name, by decide, Try.func89.trans (congrArg some (by kernel_rfl))⟩
  f28 := Try.func90.trans (congrArg some (by kernel_rfl))
  f29 := Try.func91.trans (congrArg some (by kernel_rfl))
  f46 := ⟨Try.f95.name, by decide, Try.func95.trans (congrArg some (by kernel_rfl))⟩
  f47 := Try.func96.trans (congrArg some (by kernel_rfl))
  f48 := Try.func97.trans (congrArg some (by kernel_rfl))
  f49 := ⟨Try.f98.name, by decide, Try.func98.trans (congrArg some (by kernel_rfl))⟩
  f50 := ⟨Try.f99.name, by decide, Try.func99.trans (congrArg some (by kernel_rfl))⟩
  f57 := ⟨Try.f101.name, by decide, Try.func101.trans (congrArg some (by kernel_rfl))⟩
  t0 := Try.underlying0
  a0 := Try.isAgg0
  z0 := Try.sizeOf0
  v0 := Try.zeroValue0
  t3 := Try.underlying3
  a3 := Try.isAgg3
  z3 := Try.sizeOf3
  v3 := Try.zeroValue3
  t4 := Try.underlying4
  a4 := Try.isAgg4
  z4 := Try.sizeOf4
  v4 := Try.zeroValue4
  t5 := Try.underlying5
  a5 := Try.isAgg5
  z5 := Try.sizeOf5
  v5 := Try.zeroValue5
  t9 := Try.underlying9
  a9 := Try.isAgg9
  z9 := Try.sizeOf9
  v9 := Try.zeroValue9
  t22 := Try.underlying27
  a22 := Try.isAgg27
  z22 := Try.sizeOf27
  v22 := Try.zeroValue27
  t25 := Try.underlying63
  a25 := Try.isAgg63
  z25 := Try.sizeOf63
  v25 := Try.zeroValue63
  t39 := Try.underlying73
  a39 := Try.isAgg73
  z39 := Try.sizeOf73
  v39 := Try.zeroValue73
  t45 := Try.underlying85
  a45 := Try.isAgg85
  z45 := Try.sizeOf85
  v45 := Try.zeroValue85
  t46 := Try.underlying86
  a46 := Try.isAgg86
  z46 := Try.sizeOf86
  v46 := Try.zeroValue86
  t50 := Try.underlying61
  a50 := Try.isAgg61
  z50 := Try.sizeOf61
  v50 := Try.zeroValue61
  t53 := Try.underlying92
  a53 := Try.isAgg92
  z53 := Try.sizeOf92
  v53 := Try.zeroValue92
  t55 := Try.underlying94
  a55 := Try.isAgg94
  z55 := Try.sizeOf94
  v55 := Try.zeroValue94
  t66 := Try.underlying97
  a66 := Try.isAgg97
  z66 := Try.sizeOf97
  v66 := Try.zeroValue97
  t70 := Try.underlying101
  a70 := Try.isAgg101
  z70 := Try.sizeOf101
  v70 := Try.zeroValue101
  t76 := Try.underlying103
  a76 := Try.isAgg103
  z76 := Try.sizeOf103
  v76 := Try.zeroValue103
  t77 := Try.underlying76
  a77 := Try.isAgg76
  z77 := Try.sizeOf76
  v77 := Try.zeroValue76 }
instance instThr : Inhabited S38 := ⟨z38⟩
def encTL (x : S38) : List Value := [.int .i64 x.f0, .int .i64 x.f1]
theorem encTL_M (w : World) (base : Nat) (ok : Nat → Prop) (x : S38) (cs : List Value) (h : k38.M w base ok x cs) : cs = encTL x := by
  obtain ⟨c0, c1, rfl, rfl, rfl⟩ := h
  rfl
theorem encTL_M' (w : World) (base : Nat) (ok : Nat → Prop) (x : S38) (cs : List Value) (h : cs = encTL x) : k38.M w base ok x cs := by
  subst h
  exact ⟨[.int .i64 x.f0], [.int .i64 x.f1], rfl, rfl, rfl⟩
theorem cmpT_lt (x y : S38) : cmpT x y < 0 ↔ x.f0 < y.f0 ∨ x.f0 = y.f0 ∧ x.f1 < y.f1 := by
  unfold cmpT
  repeat' split
  all_goals omega
theorem ltT (x y : S38) : Go.Proofs.ltOf cmpT x y = decide (x.f0 < y.f0 ∨ x.f0 = y.f0 ∧ x.f1 < y.f1) := by
  unfold Go.Proofs.ltOf
  rw [decide_eq_decide]
  exact cmpT_lt x y
theorem swoT : Go.Sort.SWO (Go.Proofs.ltOf cmpT) where
  irrefl x := by rw [ltT]; simp
  trans x y z h1 h2 := by rw [ltT] at *; simp only [decide_eq_true_eq] at *; omega
  ntrans x y z h1 h2 := by rw [ltT] at *; simp only [decide_eq_false_iff_not] at *; omega
/-- The threads in order. -/
def impl_Thread_61.f (l0 : List S38) : Option (List S38) := if l0.length < 4611686018427387904 then some (l0.mergeSort fun x y => !(Go.Proofs.ltOf cmpT) y x) else none
theorem impl_Thread_61.calls (P0_ : Nat → Prop) (u9000_ : Value) (l0 : List S38) (r : List S38) (w0 w : World) (hB : Below w0.heap.size w0 w) (ho0 : Kd.R k38 38 w w0.heap.size P0_ u9000_ l0) (h : impl_Thread_61.f l0 = some r) :
    Calls Try.prog 61 #[u9000_, .func (.func 47) #[] #[]] w fun e w' => e = .returned (.tuple #[]) ∧ Kd.R k38 38 w' w0.heap.size (fun k_ => (P0_ k_ ∨ w.heap.size ≤ k_)) u9000_ r ∧ Below w0.heap.size w0 w' ∧ Kept w w' (fun k_ => P0_ k_) := by
  unfold impl_Thread_61.f at h
  by_cases hsz : l0.length < 4611686018427387904
  · rw [if_pos hsz] at h
    obtain rfl := Option.some.inj h
    clear h
    rcases Nat.eq_zero_or_pos l0.length with hz | hp
    · obtain ⟨A, c, rfl⟩ := Kd.R_slice ho0
      obtain rfl : l0 = [] := List.length_eq_zero_iff.1 hz
      have hc := Go.Proofs.AnyF.slices_SortFunc_none Try.sortThr A c (.func (.func 47) #[] #[]) w
      change Calls Try.prog 61 #[.slice A 0 c, .func (.func 47) #[] #[]] w _ at hc
      refine hc.mono ?_
      rintro e w' ⟨rfl, rfl⟩
      exact ⟨rfl, by simpa using Kd.R_mono ho0 (fun k hk => .inl hk), hB, Kept.refl _ _⟩
    · obtain ⟨g, cap, rfl, _⟩ := Kd.R_form ho0 hp
      obtain ⟨hb, hlt⟩ := RK_block ho0
      have hc := Go.Proofs.AnyQ.slices_SortFunc_total Try.sortThr 2 Try.isAgg38 Try.sizeOf38 encTL (fun _ => rfl) (fun x v hv => by simp [encTL] at hv; rcases hv with rfl | rfl <;> rfl) cmpT swoT 47 #[] g 0 cap l0.toArray w
        (enters_of Try.func47 (by kernel_rfl) rfl) (fun _ _ _ _ x y => impl_compareThreads.lays x y _) (RK_holds rfl (fun _ => rfl) encTL_M ho0) hlt (by simpa using hsz)
        (fun x y h1 h2 => by rw [ltT] at h1 h2; simp only [decide_eq_false_iff_not] at h1 h2; cases x; cases y; simp only [S38.mk.injEq]; simp only at h1 h2; omega)
      change Calls Try.prog 61 #[.slice (some ⟨g, 0, none⟩) l0.length cap, .func (.func 47) #[] #[]] w _ at hc
      refine hc.mono ?_
      rintro e w' ⟨rfl, n, os, rfl⟩
      have hl : (l0.mergeSort fun x y => !(Go.Proofs.ltOf cmpT) y x).length = l0.length := by simp
      obtain ⟨h1, h2⟩ := RK_putRow rfl (fun _ => rfl) encTL_M' ho0 hl n os
      rw [hl] at h1
      exact ⟨rfl, Kd.R_mono h1 (fun k hk => .inl hk), pw_below_grown hB (some g) hB.size h2 (fun k hk => by injection hk with hk; omega), ⟨h2.size, fun i hi hn => h2.block i hi (fun he => hn (by injection he with he; rw [he]; exact ho0.1 g rfl))⟩⟩
  · rw [if_neg hsz] at h; cases h

end Go.Proofs.Ytafbnilpipcjfaa.P
