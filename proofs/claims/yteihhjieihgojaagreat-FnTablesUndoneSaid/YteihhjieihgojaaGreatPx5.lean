/- A part of this seat's proofs: contracts of the translated functions, written by the session's own program (gp.py) out of the kit's print.py and the session's own contracts; no conditions of its own. -/
import Derived.Test.YteihhjieihgojaaGreatPx0
import Derived.Test.YteihhjieihgojaaGreatPx2
import Derived.Test.YteihhjieihgojaaGreatPx3
import Derived.Test.YteihhjieihgojaaGreatPx4
namespace Go.Proofs.YteihhjieihgojaaGreat.P
open Go.RowKit Go.Proofs.YteihhjieihgojaaGreatW.PrintWords Go.Proofs.YteihhjieihgojaaGreatW.PrintLast Go.Proofs.YteihhjieihgojaaGreatW.PrintMore
attribute [local go_sem] max2_int min2_int max_two min_two max_three min_three max_four min_four   -- for this text's walks alone
set_option linter.unusedVariables false
set_option linter.unusedSimpArgs false

/-! ### given: 25_rowsK.tpl -/
/-! rows of structs of the call's own, laid anew by a contract of the shelf ('putRowK') -/
section
open Go.Sort
variable {α : Type} [Inhabited α] {enc : α → List Value} {k : Nat}
theorem reps_flat (hk : ∀ x, (enc x).length = k) {xs : List α} {cs : List Value} (h : Reps (fun x c => c = enc x) k xs cs) : cs.toArray = flatK enc k xs.toArray := by
  apply Array.ext
  · rw [size_flatK]; simp [h.1]
  · intro t h1 h2
    have ht : t < xs.length * k := by rw [size_flatK] at h2; simpa using h2
    have k0 : 0 < k := by rcases Nat.eq_zero_or_pos k with e | e; · subst e; simp at ht
                          · exact e
    have hj : t / k < xs.length := Nat.div_lt_of_lt_mul (by rw [Nat.mul_comm]; exact ht)
    have hr := h.2 (t / k) _ (List.getElem?_eq_getElem hj)
    have hm := Nat.mod_lt t k0
    have e1 := get_flatK enc k xs.toArray t (by simpa using ht)
    rw [getElem!_pos _ t h2] at e1
    rw [e1]
    rw [getElem!_pos xs.toArray (t / k) (by simpa using hj)]
    simp only [List.getElem_toArray]
    rw [← hr]
    have hl : t % k < ((cs.drop (t / k * k)).take k).length := by rw [hr, hk]; exact hm
    rw [getElem!_pos _ (t % k) hl, List.getElem_take, List.getElem_drop]
    congr 1
    have := Nat.div_add_mod t k
    rw [Nat.mul_comm] at this
    exact this.symm
theorem flat_reps (hk : ∀ x, (enc x).length = k) (xs : List α) : Reps (fun x c => c = enc x) k xs (flatK enc k xs.toArray).toList := by
  refine ⟨by simp, fun j p hj => ?_⟩
  obtain ⟨hjl, rfl⟩ := List.getElem?_eq_some_iff.1 hj
  have hle : j * k + k ≤ xs.length * k := by rw [← Nat.succ_mul]; exact Nat.mul_le_mul_right k hjl
  apply List.ext_getElem
  · simp [hk]; omega
  · intro i h1 h2
    have hi : i < k := by rw [hk] at h2; exact h2
    rw [List.getElem_take, List.getElem_drop, Array.getElem_toList]
    have e1 := get_flatK enc k xs.toArray (j * k + i) (by simp; omega)
    rw [getElem!_pos _ (j * k + i) (by rw [size_flatK]; simp; omega)] at e1
    rw [e1]
    have d1 : (j * k + i) / k = j := by rw [Nat.mul_comm, Nat.mul_add_div (by omega), Nat.div_eq_of_lt hi, Nat.add_zero]
    have d2 : (j * k + i) % k = i := by rw [Nat.mul_comm, Nat.mul_add_mod, Nat.mod_eq_of_lt hi]
    rw [d1, d2, getElem!_pos xs.toArray j (by simpa using hjl)]
    simp only [List.getElem_toArray]
    rw [getElem!_pos _ i h2]
variable {d : Kd α} {e base g cap : Nat} {ok : Nat → Prop} {w : World} {xs ys : List α}
theorem RK_holds (hs : d.sz = k) (hk : ∀ x, (enc x).length = k) (hM : ∀ w base ok x cs, d.M w base ok x cs → cs = enc x) (h : d.R e w base ok (.slice (some ⟨g, 0, none⟩) xs.length cap) xs) : HoldsK enc k w g 0 xs.toArray := by
  obtain ⟨_, inner, ho, hr⟩ := h
  rw [hs] at ho hr
  have h1 := own_holds ho
  rw [reps_flat hk (hr.imp_ (fun _ _ hp => hM _ _ _ _ _ hp))] at h1
  exact h1
theorem RK_putRow (hs : d.sz = k) (hk : ∀ x, (enc x).length = k) (hM : ∀ w base ok x cs, cs = enc x → d.M w base ok x cs) (h : d.R e w base ok (.slice (some ⟨g, 0, none⟩) xs.length cap) xs) (hl : ys.length = xs.length) (m : Nat) (os : Array Obj) :
    d.R e (grow (putRowK enc k (Go.Sort.ahead w m) g 0 ys.toArray) os) base ok (.slice (some ⟨g, 0, none⟩) ys.length cap) ys ∧ w.grownBy (grow (putRowK enc k (Go.Sort.ahead w m) g 0 ys.toArray) os) (some g) := by
  obtain ⟨h0, inner, ho, hr⟩ := h
  rw [hs] at ho hr
  have hlen : (flatK enc k ys.toArray).toList.length = inner.length := by
    rw [hr.1]; simp [hl]
  obtain ⟨h1, h2⟩ := own_putRow (ys := (flatK enc k ys.toArray).toList) ho hlen m os
  rw [Array.toArray_toList] at h1 h2
  refine ⟨⟨h0, (flatK enc k ys.toArray).toList, ?_, ?_⟩, h2⟩
  · rw [hs, hl]; exact h1
  · rw [hs]; exact (flat_reps hk ys).imp_ (fun _ _ hp => hM _ _ _ _ _ hp)
theorem RK_block {β : Type} {d : Kd β} {e base g cap : Nat} {ok : Nat → Prop} {w : World} {xs : List β} (h : d.R e w base ok (.slice (some ⟨g, 0, none⟩) xs.length cap) xs) : base ≤ g ∧ g < w.heap.size := by
  obtain ⟨_, inner, ho, _⟩ := h
  exact ⟨own_base ho g rfl, own_lt ho g rfl⟩
end

/-! ### given: 30_sortC.tpl -/
def Tryz.sortCho_ren : Go.Shelf.Ren := ⟨fun | 6 => 79 | 15 => 89 | 14 => 88 | 28 => 100 | 29 => 101 | 20 => 92 | 21 => 93 | 22 => 94 | 23 => 95 | 24 => 96 | 25 => 97 | 26 => 98 | 27 => 99 | 46 => 103 | 47 => 104 | 48 => 105 | 49 => 106 | 50 => 107 | 57 => 108 | n => n, fun | 22 => 30 | 24 => 41 | 25 => 77 | 3 => 3 | 39 => 82 | 0 => 0 | 53 => 92 | 55 => 62 | 4 => 4 | 46 => 86 | 45 => 85 | 50 => 26 | 5 => 5 | 9 => 9 | 66 => 94 | 70 => 98 | 76 => 100 | 77 => 24 | n => n, fun | n => n⟩
theorem Tryz.sortCho : Go.Proofs.SlLaysF0.n6 Tryz.prog Tryz.sortCho_ren := {
  mixed := by kernel_rfl
  f6 := ⟨Tryz.f79.name, by decide, Tryz.func79.trans (congrArg some (by kernel_rfl))⟩
  f14 := ⟨Tryz.f88.name, by decide, Tryz.func88.trans (congrArg some (by kernel_rfl))⟩
  f15 := Tryz.func89.trans (congrArg some (by kernel_rfl))
  f20 := ⟨Tryz.f92.name, by decide, Tryz.func92.trans (congrArg some (by kernel_rfl))⟩
  f21 := ⟨Tryz.f93.name, by decide, Tryz.func93.trans (congrArg some (by kernel_rfl))⟩
  f22 := ⟨Tryz.f94.name, by decide, Tryz.func94.trans (congrArg some (by kernel_rfl))⟩
  f23 := ⟨Tryz.f95.name, by decide, Tryz.func95.trans (congrArg some (by kernel_rfl))⟩
  f24 := ⟨Tryz.f96.name, by decide, Tryz.func96.trans (congrArg some (by kernel_rfl))⟩
  f25 := ⟨Tryz.f97.name, by decide, Tryz.func97.trans (congrArg some (by kernel_rfl))⟩
  f26 := ⟨Tryz.f98.name, by decide, Tryz.func98.trans (congrArg some (by kernel_rfl))⟩
  f27 := ⟨Tryz.f99.name, by decide, Tryz.func99.trans (congrArg some (by kernel_rfl))⟩
  f28 := Tryz.func100.trans (congrArg some (by kernel_rfl))
  f29 := Tryz.func101.trans (congrArg some (by kernel_rfl))
  f46 := ⟨Tryz.f103.name, by decide, Tryz.func103.trans (congrArg some (by kernel_rfl))⟩
  f47 := Tryz.func104.trans (congrArg some (by kernel_rfl))
  f48 := Tryz.func105.trans (congrArg some (by kernel_rfl))
  f49 := ⟨Tryz.f106.name, by decide, Tryz.func106.trans (congrArg some (by kernel_rfl))⟩
  f50 := ⟨Tryz.f107.name, by decide, Tryz.func107.trans (congrArg some (by kernel_rfl))⟩
  f57 := ⟨Tryz.f108.name, by decide, Tryz.func108.trans (congrArg some (by kernel_rfl))⟩
  t0 := Tryz.underlying0
  a0 := Tryz.isAgg0
  z0 := Tryz.sizeOf0
  v0 := Tryz.zeroValue0
  t3 := Tryz.underlying3
  a3 := Tryz.isAgg3
  z3 := Tryz.sizeOf3
  v3 := Tryz.zeroValue3
  t4 := Tryz.underlying4
  a4 := Tryz.isAgg4
  z4 := Tryz.sizeOf4
  v4 := Tryz.zeroValue4
  t5 := Tryz.underlying5
  a5 := Tryz.isAgg5
  z5 := Tryz.sizeOf5
  v5 := Tryz.zeroValue5
  t9 := Tryz.underlying9
  a9 := Tryz.isAgg9
  z9 := Tryz.sizeOf9
  v9 := Tryz.zeroValue9
  t22 := Tryz.underlying30
  a22 := Tryz.isAgg30
  z22 := Tryz.sizeOf30
  v22 := Tryz.zeroValue30
  t25 := Tryz.underlying77
  a25 := Tryz.isAgg77
  z25 := Tryz.sizeOf77
  v25 := Tryz.zeroValue77
  t39 := Tryz.underlying82
  a39 := Tryz.isAgg82
  z39 := Tryz.sizeOf82
  v39 := Tryz.zeroValue82
  t45 := Tryz.underlying85
  a45 := Tryz.isAgg85
  z45 := Tryz.sizeOf85
  v45 := Tryz.zeroValue85
  t46 := Tryz.underlying86
  a46 := Tryz.isAgg86
  z46 := Tryz.sizeOf86
  v46 := Tryz.zeroValue86
  t50 := Tryz.underlying26
  a50 := Tryz.isAgg26
  z50 := Tryz.sizeOf26
  v50 := Tryz.zeroValue26
  t53 := Tryz.underlying92
  a53 := Tryz.isAgg92
  z53 := Tryz.sizeOf92
  v53 := Tryz.zeroValue92
  t55 := Tryz.underlying62
  a55 := Tryz.isAgg62
  z55 := Tryz.sizeOf62
  v55 := Tryz.zeroValue62
  t66 := Tryz.underlying94
  a66 := Tryz.isAgg94
  z66 := Tryz.sizeOf94
  v66 := Tryz.zeroValue94
  t70 := Tryz.underlying98
  a70 := Tryz.isAgg98
  z70 := Tryz.sizeOf98
  v70 := Tryz.zeroValue98
  t76 := Tryz.underlying100
  a76 := Tryz.isAgg100
  z76 := Tryz.sizeOf100
  v76 := Tryz.zeroValue100
  t77 := Tryz.underlying24
  a77 := Tryz.isAgg24
  z77 := Tryz.sizeOf24
  v77 := Tryz.zeroValue24 }
instance instCho : Inhabited S41 := ⟨z41⟩
def encCL (x : S41) : List Value := [.int .i64 x.f0, .int .i64 x.f1]
theorem encCL_M (w : World) (base : Nat) (ok : Nat → Prop) (x : S41) (cs : List Value) (h : k41.M w base ok x cs) : cs = encCL x := by
  obtain ⟨c0, c1, rfl, rfl, rfl⟩ := h
  rfl
theorem encCL_M' (w : World) (base : Nat) (ok : Nat → Prop) (x : S41) (cs : List Value) (h : cs = encCL x) : k41.M w base ok x cs := by
  subst h
  exact ⟨[.int .i64 x.f0], [.int .i64 x.f1], rfl, rfl, rfl⟩
theorem cmpC_lt (x y : S41) : cmpC x y < 0 ↔ x.f0 < y.f0 ∨ x.f0 = y.f0 ∧ x.f1 < y.f1 := by
  unfold cmpC
  repeat' split
  all_goals omega
theorem ltC (x y : S41) : Go.Proofs.ltOf cmpC x y = decide (x.f0 < y.f0 ∨ x.f0 = y.f0 ∧ x.f1 < y.f1) := by
  unfold Go.Proofs.ltOf
  rw [decide_eq_decide]
  exact cmpC_lt x y
theorem swoC : Go.Sort.SWO (Go.Proofs.ltOf cmpC) where
  irrefl x := by rw [ltC]; simp
  trans x y z h1 h2 := by rw [ltC] at *; simp only [decide_eq_true_eq] at *; omega
  ntrans x y z h1 h2 := by rw [ltC] at *; simp only [decide_eq_false_iff_not] at *; omega
/-- The chords in order. -/
def impl_Chord_79.f (l0 : List S41) : Option (List S41) := if l0.length < 4611686018427387904 then some (l0.mergeSort fun x y => !(Go.Proofs.ltOf cmpC) y x) else none
theorem impl_Chord_79.calls (P0_ : Nat → Prop) (u9000_ : Value) (l0 : List S41) (r : List S41) (w0 w : World) (hB : Below w0.heap.size w0 w) (ho0 : Kd.R k41 41 w w0.heap.size P0_ u9000_ l0) (h : impl_Chord_79.f l0 = some r) :
    Calls Tryz.prog 79 #[u9000_, .func (.func 80) #[] #[]] w fun e w' => e = .returned (.tuple #[]) ∧ Kd.R k41 41 w' w0.heap.size (fun k_ => (P0_ k_ ∨ w.heap.size ≤ k_)) u9000_ r ∧ Below w0.heap.size w0 w' ∧ Kept w w' (fun k_ => P0_ k_) := by
  unfold impl_Chord_79.f at h
  by_cases hsz : l0.length < 4611686018427387904
  · rw [if_pos hsz] at h
    obtain rfl := Option.some.inj h
    clear h
    rcases Nat.eq_zero_or_pos l0.length with hz | hp
    · obtain ⟨A, c, rfl⟩ := Kd.R_slice ho0
      obtain rfl : l0 = [] := List.length_eq_zero_iff.1 hz
      have hc := Go.Proofs.AnyF.slices_SortFunc_none Tryz.sortCho A c (.func (.func 80) #[] #[]) w
      change Calls Tryz.prog 79 #[.slice A 0 c, .func (.func 80) #[] #[]] w _ at hc
      refine hc.mono ?_
      rintro e w' ⟨rfl, rfl⟩
      exact ⟨rfl, by simpa using Kd.R_mono ho0 (fun k hk => .inl hk), hB, Kept.refl _ _⟩
    · obtain ⟨g, cap, rfl, _⟩ := Kd.R_form ho0 hp
      obtain ⟨hb, hlt⟩ := RK_block ho0
      have hc := Go.Proofs.AnyQ.slices_SortFunc_total Tryz.sortCho 2 Tryz.isAgg41 Tryz.sizeOf41 encCL (fun _ => rfl) (fun x v hv => by simp [encCL] at hv; rcases hv with rfl | rfl <;> rfl) cmpC swoC 80 #[] g 0 cap l0.toArray w
        (enters_of Tryz.func80 (by kernel_rfl) rfl) (fun _ _ _ _ x y => impl_compareChords.lays x y _) (RK_holds rfl (fun _ => rfl) encCL_M ho0) hlt (by simpa using hsz)
        (fun x y h1 h2 => by rw [ltC] at h1 h2; simp only [decide_eq_false_iff_not] at h1 h2; cases x; cases y; simp only [S41.mk.injEq]; simp only at h1 h2; omega)
      change Calls Tryz.prog 79 #[.slice (some ⟨g, 0, none⟩) l0.length cap, .func (.func 80) #[] #[]] w _ at hc
      refine hc.mono ?_
      rintro e w' ⟨rfl, n, os, rfl⟩
      have hl : (l0.mergeSort fun x y => !(Go.Proofs.ltOf cmpC) y x).length = l0.length := by simp
      obtain ⟨h1, h2⟩ := RK_putRow rfl (fun _ => rfl) encCL_M' ho0 hl n os
      rw [hl] at h1
      exact ⟨rfl, Kd.R_mono h1 (fun k hk => .inl hk), pw_below_grown hB (some g) hB.size h2 (fun k hk => by injection hk with hk; omega), ⟨h2.size, fun i hi hn => h2.block i hi (fun he => hn (by injection he with he; rw [he]; exact ho0.1 g rfl))⟩⟩
  · rw [if_neg hsz] at h; cases h

/-! ### given: 31_compactC.tpl -/
theorem run_clear_two {P : Program} (w : World) (t e ty : TypeId) (z : Value) (z0 z1 : Value) (ht : P.underlying t = some (.slice e)) (hv : ∀ w, (zeroValue e).run P w = .ok z w) (hz : z.cells = #[z0, z1]) (h0 : z0.oneCell' = true) (h1 : z1.oneCell' = true) (b o n c : Nat) (hn : 0 < n)
    (hc : ∀ j, j < n * 2 → (w.cell? ⟨b, o + j, none⟩).isSome = true) (hf : ∀ j, j < n * 2 → w.frozen? ⟨b, o + j, none⟩ = false) (zs : List Value) (hzs : zs.length = n * 2) (hze : ∀ i, i < n * 2 → zs[i]? = some (if i % 2 = 0 then z0 else z1)) :
    (Builtin.clear_ #[t] ty #[.slice (some ⟨b, o, none⟩) n c]).run P w = .ok (.tuple #[]) (w.setCells b o zs) := by
  have hzc : (Builtin.zeroCells z.cells n).toList = zs := by
    rw [hz]
    apply List.ext_getElem
    · simp [Builtin.zeroCells, hzs]
    · intro i h1 h2
      have h3 := hze i (by omega)
      rw [List.getElem?_eq_getElem h2] at h3
      rw [Option.some.inj h3]
      rcases Nat.mod_two_eq_zero_or_one i with h | h <;> simp [Builtin.zeroCells, h]
  have hst := run_storeCells_cells (P := P) b o zs 0 w (by simpa [hzs] using hc) (by simpa [hzs] using hf) (by
    intro v hv'
    obtain ⟨i, hi, rfl⟩ := List.getElem_of_mem hv'
    have h3 := hze i (by omega)
    rw [List.getElem?_eq_getElem hi] at h3
    rw [Option.some.inj h3]
    split <;> assumption)
  simp only [Nat.add_zero] at hst
  obtain ⟨m, rfl⟩ : ∃ m, n = m + 1 := ⟨n - 1, by omega⟩
  simp [Builtin.clear_, run_underlying ht, hv, hzc, hst]
instance decCho : DecidableEq S41 := fun x y => decidable_of_iff (x.f0 = y.f0 ∧ x.f1 = y.f1) ⟨fun h => by cases x; cases y; simp only at h; rw [h.1, h.2], fun h => by rw [h]; exact ⟨rfl, rfl⟩⟩
theorem eqlC (x y : S41) (w : World) : (binOp .eql 41 (.agg #[.int .i64 x.f0, .int .i64 x.f1]) (.agg #[.int .i64 y.f0, .int .i64 y.f1])).run Tryz.prog w = .ok (.bool (decide (x = y))) w := by
  go_simp
  obtain ⟨x0, x1⟩ := x
  obtain ⟨y0, y1⟩ := y
  by_cases h1 : x0 = y0 <;> by_cases h2 : x1 = y1 <;> simp [h1, h2]
theorem neqC (x y : S41) (w : World) : (binOp .neq 41 (.agg #[.int .i64 x.f0, .int .i64 x.f1]) (.agg #[.int .i64 y.f0, .int .i64 y.f1])).run Tryz.prog w = .ok (.bool (!decide (x = y))) w := by
  go_simp
  obtain ⟨x0, x1⟩ := x
  obtain ⟨y0, y1⟩ := y
  by_cases h1 : x0 = y0 <;> by_cases h2 : x1 = y1 <;> simp [h1, h2]
section
open Go.Sort Go.Lib
theorem setCells_app (b : Nat) : ∀ (vs us : List Value) (o : Nat) (w : World), w.setCells b o (vs ++ us) = (w.setCells b o vs).setCells b (o + vs.length) us
  | [], us, o, w => by simp [World.setCells]
  | v :: r, us, o, w => by
    simp only [List.cons_append, World.setCells, List.length_cons]
    rw [setCells_app b r us, show o + 1 + r.length = o + (r.length + 1) by omega]
theorem setMany_one {α : Type} [Inhabited α] (enc : α → List Value) (k : Nat) (hk : ∀ x, (enc x).length = k) (d : Array α) (i : Nat) (x : α) (hi : i < d.size) : setMany (flatK enc k d) (i * k) (enc x) = flatK enc k (d.setIfInBounds i x) := by
  refine ext_get! (by simp) fun t ht => ?_
  have ht' : t < d.size * k := by simpa using ht
  have k0 : 0 < k := by rcases Nat.eq_zero_or_pos k with h | h; · subst h; simp at ht'
                        · exact h
  have htk : t / k < d.size := Nat.div_lt_of_lt_mul (by rw [Nat.mul_comm]; exact ht')
  rw [get_setMany _ _ _ t (by simpa using ht'), get_flatK _ _ _ t ht', get_flatK _ _ _ t (by simpa using ht'), hk]
  by_cases a : t / k = i
  · rw [if_pos ((blk_iff k i t k0).2 a), a]
    rw [show (d.setIfInBounds i x)[i]! = x by simp [Array.getElem!_eq_getD, Array.getD, hi]]
    congr 1
    subst a
    rw [Nat.mod_eq_sub_div_mul]
  · rw [if_neg (fun h => a ((blk_iff k i t k0).1 h))]
    rw [show (d.setIfInBounds i x)[t / k]! = d[t / k]! by simp [Array.getElem!_eq_getD, Array.getD, Array.getElem_setIfInBounds, htk, Ne.symm a]]
theorem putRowK_one {α : Type} [Inhabited α] (enc : α → List Value) (k : Nat) (hk : ∀ x, (enc x).length = k) (w : World) (blk : Nat) (d : Array α) (i : Nat) (x : α) (hi : i < d.size) : (putRowK enc k w blk 0 d).setCells blk (i * k) (enc x) = putRowK enc k w blk 0 (d.setIfInBounds i x) := by
  unfold putRowK
  have hb : i * k + k ≤ d.size * k := by
    have := Nat.mul_le_mul_right k (show i + 1 ≤ d.size from hi); rwa [Nat.add_mul, Nat.one_mul] at this
  have h := setCells_putRow w blk 0 (enc x) (i * k) (flatK enc k d) (by rw [hk, size_flatK]; exact hb)
  rw [Nat.zero_add] at h
  rw [h, setMany_one enc k hk d i x hi]
theorem putRowK_all {α : Type} [Inhabited α] (enc : α → List Value) (k : Nat) (hk : ∀ x, (enc x).length = k) (w : World) (blk : Nat) : ∀ (xs : List α) (d : Array α) (i : Nat), i + xs.length ≤ d.size → (putRowK enc k w blk 0 d).setCells blk (i * k) (xs.flatMap enc) = putRowK enc k w blk 0 (lay d i xs)
  | [], d, i, _ => by simp [World.setCells, lay]
  | x :: r, d, i, h => by
    have hl : i + (r.length + 1) ≤ d.size := by simpa using h
    rw [List.flatMap_cons, setCells_app, putRowK_one enc k hk w blk d i x (by omega), hk, lay, ← Nat.succ_mul]
    exact putRowK_all enc k hk w blk r _ (i + 1) (by simp; omega)
theorem holdsC_two {d : Array S41} {w : World} {g i : Nat} (h : HoldsK encCL 2 w g 0 d) (hi : i < d.size) : w.cell? ⟨g, i * 2, none⟩ = some (.int .i64 d[i]!.f0) ∧ w.cell? ⟨g, i * 2 + 1, none⟩ = some (.int .i64 d[i]!.f1) ∧ w.frozen? ⟨g, i * 2, none⟩ = false ∧ w.frozen? ⟨g, i * 2 + 1, none⟩ = false := by
  obtain ⟨a1, a2⟩ := h.cell (c := 0) hi (by omega)
  obtain ⟨b1, b2⟩ := h.cell (c := 1) hi (by omega)
  simp only [Nat.zero_add, Nat.add_zero] at a1 a2 b1 b2
  exact ⟨a1, b1, a2, b2⟩
theorem flat_rep (n : Nat) (x : S41) : ((List.replicate n x).flatMap encCL).length = n * 2 ∧ ∀ i, i < n * 2 → ((List.replicate n x).flatMap encCL)[i]? = some (if i % 2 = 0 then .int .i64 x.f0 else .int .i64 x.f1) := by
  induction n with
  | zero => exact ⟨by simp, fun i hi => by omega⟩
  | succ n ih =>
    rw [List.replicate_succ, List.flatMap_cons]
    refine ⟨by rw [List.length_append, ih.1]; simp [encCL]; omega, fun i hi => ?_⟩
    match i, hi with
    | 0, _ => simp [encCL]
    | 1, _ => simp [encCL]
    | i + 2, hi =>
      have := ih.2 i (by omega)
      rw [Nat.add_mod_right]
      simpa [encCL] using this
set_option maxHeartbeats 4000000 in
set_option maxRecDepth 1000000 in
theorem slices_CompactC.own (g cap : Nat) (d : Array S41) (w : World) (hH : HoldsK encCL 2 w g 0 d) (hsz : d.size ≤ 4611686018427387903) (hcap : d.size ≤ cap) :
    Calls Tryz.prog 81 #[.slice (some ⟨g, 0, none⟩) d.size cap] w fun e w' => e = .returned (.slice (some ⟨g, 0, none⟩) (compactUpTo d d.size).length cap) ∧ ∃ q, w' = putRowK encCL 2 (Go.Sort.ahead w q) g 0 (compactUpTo d d.size ++ List.replicate (d.size - (compactUpTo d d.size).length) (⟨0, 0⟩ : S41)).toArray := by
  have t27 := Tryz.underlying30
  have same : ∀ q, (∀ j, j < d.size → keeps d j = true) → (compactUpTo d d.size).length = d.size ∧ w.drewN q = putRowK encCL 2 (Go.Sort.ahead w q) g 0 (compactUpTo d d.size ++ List.replicate (d.size - (compactUpTo d d.size).length) (⟨0, 0⟩ : S41)).toArray := by
    intro q hall
    have e : compactUpTo d d.size = d.toList := by rw [compactUpTo_all d _ hall, range_map_get]
    rw [e]
    refine ⟨by simp, ?_⟩
    simp only [Array.length_toList, Nat.sub_self, List.replicate_zero, List.append_nil, Array.toArray_toList]
    exact (putRowK_self encCL 2 (Go.Sort.ahead w q) g 0 d (holdsK_ahead encCL 2 w q g 0 d hH)).symm
  have HS := Aside0.mk same
  clear same
  have HH := Aside0.mk hH
  clear hH
  have E1 := eqlC
  have E2 := neqC
  by_cases h2 : d.size < 2
  · go_enter Tryz.func81, Tryz.ntmps81
    go_wp2
    go_ret
    obtain ⟨e1, e2⟩ := HS.out 0 (fun j hj => keeps_lt_one d j (by omega))
    exact ⟨by rw [e1]; rfl, 0, e2⟩
  · go_enter Tryz.func81, Tryz.ntmps81
    go_wp2
    go_loopg [3] d.size (fun gk s3 wr => ∃ k q : Nat, 1 ≤ k ∧ k ≤ d.size ∧ d.size - k ≤ gk ∧ s3 = .int .i64 k ∧ wr = w.drewN q ∧ Aside (∀ j, j < k → keeps d j = true))
    case atStart => exact ⟨1, 0, Nat.le_refl _, by omega, by omega, rfl, rfl, keeps_lt_one d⟩
    case round =>
      obtain ⟨k, q, hk1, hk, hg, rfl, rfl, A⟩ := hrel
      by_cases hlt : k < d.size
      · obtain ⟨c1, c1', f1, f1'⟩ := holdsC_two HH.out hlt
        obtain ⟨c0, c0', f0, f0'⟩ := holdsC_two HH.out (show k - 1 < d.size by omega)
        generalize hx : d[k]! = x at c1 c1'
        generalize hy : d[k - 1]! = y at c0 c0'
        have B : Aside (d[k]! = x ∧ d[k - 1]! = y) := ⟨hx, hy⟩
        clear hx hy
        have hwr : IntKind.i64.wrap ((k : Int) - 1) = ((k - 1 : Nat) : Int) := by rw [IntWalk.i64_in _ (by omega)]; omega
        have hwk : IntKind.i64.wrap ((k : Int) + 1) = ((k + 1 : Nat) : Int) := by rw [IntWalk.i64_in _ (by omega)]; omega
        by_cases hdup : x = y
        · subst hdup
          go_wp2
          go_region
          go_wp2
          clear c0 c1 f0 f1 c0' c1' f0' f1'
          go_loopg [3, 5] d.size (fun gk s3 s5 wr => ∃ (kk k2 q2 : Nat) (dk : Array S41), s3 = .int .i64 kk ∧ s5 = .int .i64 k2 ∧ 1 ≤ k2 ∧ k + k2 ≤ d.size ∧ d.size - (k + k2) ≤ gk ∧ Aside (wr = putRowK encCL 2 (Go.Sort.ahead w q2) g 0 dk) ∧ Aside (CompInv d (k + k2) kk dk))
          case atStart => exact ⟨k, 1, q + 1, d, rfl, rfl, Nat.le_refl _, by omega, by omega, (putRowK_self encCL 2 (Go.Sort.ahead w (q + 1)) g 0 d (holdsK_ahead encCL 2 w (q + 1) g 0 d HH.out)).symm, CompInv.start A.out (keeps_neg (by omega) (by rw [B.out.1, B.out.2]))⟩
          case round =>
            obtain ⟨kk, k2, q2, dk, rfl, rfl, h1, hle, hg2, W2, I2⟩ := hrel
            have hkk := I2.out.lt
            have hds := I2.out.size
            have hHk : HoldsK encCL 2 wr g 0 dk := by rw [W2.out]; exact holdsK_putRowK encCL 2 _ g 0 d dk (holdsK_ahead encCL 2 w q2 g 0 d HH.out) hds
            by_cases hlt2 : k + k2 < d.size
            · obtain ⟨cm, cm', fm, fm'⟩ := holdsC_two hHk (show k + k2 < dk.size by omega)
              obtain ⟨cp, cp', fp, fp'⟩ := holdsC_two hHk (show k + (k2 - 1) < dk.size by omega)
              obtain ⟨ck, ck', fk, fk'⟩ := holdsC_two hHk (show kk < dk.size by omega)
              rw [I2.out.high (k + k2) (by omega)] at cm cm'
              rw [I2.out.high (k + (k2 - 1)) (by omega)] at cp cp'
              rw [Nat.add_mul] at cm cm' fm fm' cp cp' fp fp'
              clear hHk
              generalize hu : d[k + k2]! = u at cm cm'
              generalize hv : d[k + (k2 - 1)]! = v at cp cp'
              generalize dk[kk]! = old at ck ck'
              have C : Aside (d[k + k2]! = u ∧ d[k + (k2 - 1)]! = v) := ⟨hu, hv⟩
              clear hu hv
              have hw2 : IntKind.i64.wrap ((k2 : Int) - 1) = ((k2 - 1 : Nat) : Int) := by rw [IntWalk.i64_in _ (by omega)]; omega
              have hw3 : IntKind.i64.wrap ((k2 : Int) + 1) = ((k2 + 1 : Nat) : Int) := by rw [IntWalk.i64_in _ (by omega)]; omega
              have hw4 : IntKind.i64.wrap ((kk : Int) + 1) = ((kk + 1 : Nat) : Int) := by rw [IntWalk.i64_in _ (by omega)]; omega
              by_cases huv : u = v
              · subst huv
                go_wp2
                go_region
                go_wp2
                go_roundg (d.size - (k + (k2 + 1)))
                case measure => omega
                case rel => exact ⟨kk, k2 + 1, q2 + 1, dk, rfl, by go_num, by omega, by omega, Nat.le_refl _, by rw [W2.out]; rfl, I2.out.skip (keeps_neg (by omega) (by rw [C.out.1, show k + k2 - 1 = k + (k2 - 1) by omega, C.out.2]))⟩
              · go_wp2
                go_region
                go_wp2
                go_roundg (d.size - (k + (k2 + 1)))
                case measure => omega
                case rel =>
                  refine ⟨kk + 1, k2 + 1, q2 + 1, dk.setIfInBounds kk u, by go_num, by go_num, by omega, by omega, Nat.le_refl _, ?_, ?_⟩
                  · rw [W2.out]
                    exact (congrArg World.drew (putRowK_one encCL 2 (fun _ => rfl) _ g dk kk u (by omega))).trans (putRowK_drewN encCL 2 w q2 1 g 0 _)
                  · have := I2.out.keep hlt2 (keeps_pos (by rw [C.out.1, show k + k2 - 1 = k + (k2 - 1) by omega, C.out.2]; exact huv))
                    rwa [C.out.1] at this
            · have hend : k + k2 = d.size := by omega
              have hrep := flat_rep (d.size - kk) (⟨0, 0⟩ : S41)
              have hcl : ∀ ty, (Builtin.clear_ #[30] ty #[.slice (some ⟨g, kk * 2, none⟩) (d.size - kk) (cap - kk)]).run Tryz.prog wr = .ok (.tuple #[]) (wr.setCells g (kk * 2) ((List.replicate (d.size - kk) (⟨0, 0⟩ : S41)).flatMap encCL)) :=
                fun ty => run_clear_two wr _ _ ty _ (.int .i64 0) (.int .i64 0) t27 Tryz.zeroValue41 rfl rfl rfl g (kk * 2) (d.size - kk) (cap - kk) (by omega)
                  (fun j hj => by
                    have hh := (hHk (kk * 2 + j) (by rw [size_flatK]; omega)).1
                    rw [Nat.zero_add] at hh
                    rw [hh]; rfl)
                  (fun j hj => by
                    have hh := (hHk (kk * 2 + j) (by rw [size_flatK]; omega)).2
                    rw [Nat.zero_add] at hh
                    exact hh) _ hrep.1 hrep.2
              clear hHk
              go_wp2
              go_ret
              have hI := I2.out
              rw [hend] at hI
              refine ⟨by rw [hI.len]; rfl, q2, ?_⟩
              rw [hI.len, ← hI.done (⟨0, 0⟩ : S41), ← putRowK_all encCL 2 (fun _ => rfl) _ g _ dk kk (by simp; omega), ← W2.out]
        · go_wp2
          go_region
          go_wp2
          go_roundg (d.size - (k + 1))
          case measure => omega
          case rel =>
            refine ⟨k + 1, q + 1, by omega, by omega, Nat.le_refl _, by go_num, rfl, fun j hj => ?_⟩
            by_cases e : j = k
            · subst e
              exact keeps_pos (by rw [B.out.1, B.out.2]; exact hdup)
            · exact A.out j (by omega)
      · have : k = d.size := by omega
        subst this
        go_wp2
        go_ret
        obtain ⟨e1, e2⟩ := HS.out q A.out
        exact ⟨by rw [e1]; rfl, q, e2⟩
end
set_option maxHeartbeats 4000000 in
theorem slices_CompactC.none (A : Option Addr) (c : Nat) (w : World) :
    Calls Tryz.prog 81 #[.slice A 0 c] w fun e w' => e = .returned (.slice A 0 c) ∧ w' = w := by
  go_enter Tryz.func81, Tryz.ntmps81
  go_wp2
  go_ret
  exact ⟨rfl, rfl⟩
theorem compact_leC (l : List S41) : (Go.Lib.compact l).length ≤ l.length := by
  unfold Go.Lib.compact Go.Lib.compactUpTo
  rw [List.length_map]
  have := List.length_filter_le (Go.Lib.keeps l.toArray) (List.range l.length)
  simpa using this
/-- Of equal ones that stand side by side the first. -/
def impl_Chord_81.f (l0 : List S41) : Option (List S41) := if l0.length < 4611686018427387904 then some (Go.Lib.compact l0) else none
theorem impl_Chord_81.calls (P0_ : Nat → Prop) (u9000_ : Value) (l0 : List S41) (r : List S41) (w0 w : World) (hB : Below w0.heap.size w0 w) (ho0 : Kd.R k41 41 w w0.heap.size P0_ u9000_ l0) (h : impl_Chord_81.f l0 = some r) :
    Calls Tryz.prog 81 #[u9000_] w fun e w' => ∃ v0_ : Value, e = .returned (v0_) ∧ Kd.R k41 41 w' w0.heap.size (fun k_ => (P0_ k_ ∨ w.heap.size ≤ k_)) v0_ r ∧ Below w0.heap.size w0 w' ∧ Kept w w' (fun k_ => P0_ k_) := by
  unfold impl_Chord_81.f at h
  by_cases hsz : l0.length < 4611686018427387904
  · rw [if_pos hsz] at h
    obtain rfl := Option.some.inj h
    clear h
    rcases Nat.eq_zero_or_pos l0.length with hz | hp
    · obtain ⟨A, c, rfl⟩ := Kd.R_slice ho0
      obtain rfl : l0 = [] := List.length_eq_zero_iff.1 hz
      refine (slices_CompactC.none A c w).mono ?_
      rintro e w' ⟨rfl, rfl⟩
      exact ⟨_, rfl, Kd.R_mono ho0 (fun k hk => .inl hk), hB, Kept.refl _ _⟩
    · obtain ⟨g, cap, rfl, _⟩ := Kd.R_form ho0 hp
      obtain ⟨hb, hlt⟩ := RK_block ho0
      have hm := Kd.R_reads' ho0
      have hc := slices_CompactC.own g cap l0.toArray w (RK_holds rfl (fun _ => rfl) encCL_M ho0) (by simp; omega) (by simpa using hm.2.1)
      change Calls Tryz.prog 81 #[.slice (some ⟨g, 0, none⟩) l0.length cap] w _ at hc
      refine hc.mono ?_
      rintro e w' ⟨rfl, n, rfl⟩
      have hle := compact_leC l0
      have hl : (Go.Lib.compact l0 ++ List.replicate (l0.length - (Go.Lib.compact l0).length) (⟨0, 0⟩ : S41)).length = l0.length := by simp; omega
      obtain ⟨h1, h2⟩ := RK_putRow rfl (fun _ => rfl) encCL_M' ho0 hl n #[]
      rw [Go.Sort.grow_empty] at h1 h2
      have h3 := Kd.R_take h1 (m := (Go.Lib.compact l0).length) (by rw [hl]; exact hle)
      rw [List.take_left] at h3
      exact ⟨_, rfl, Kd.R_mono h3 (fun k hk => .inl hk), pw_below_grown hB (some g) hB.size h2 (fun k hk => by injection hk with hk; omega), ⟨h2.size, fun i hi hn => h2.block i hi (fun he => hn (by injection he with he; rw [he]; exact ho0.1 g rfl))⟩⟩
  · rw [if_neg hsz] at h; cases h

/-! ### impl_ordered: function 67 -/
def impl_ordered.f (l0 : List (S41)) : Option ((List (S41))) := (impl_Chord_79.f l0).bind fun t169 => ((impl_Chord_81.f t169).bind fun t170 => (some t170))
set_option maxHeartbeats 8000000 in
set_option maxRecDepth 100000 in
theorem impl_ordered.calls (P0_ : Nat → Prop) (u9000_ : Value) (l0 : List (S41)) (r : List (S41)) (w0 w : World) (hB : Below w0.heap.size w0 w) (ho0 : Kd.R k41 41 w w0.heap.size P0_ u9000_ l0) (h : impl_ordered.f l0 = some r) :
  Calls Tryz.prog 67 #[u9000_] w fun e w' => ∃ v0_ : Value, e = .returned (v0_) ∧ Kd.R k41 41 w' w0.heap.size (fun k_ => (P0_ k_ ∨ w.heap.size ≤ k_)) v0_ r ∧ Below w0.heap.size w0 w' ∧ Kept w w' (fun k_ => P0_ k_) := by
 have HO0 := Aside0.mk (show Kd.R k41 41 w w0.heap.size (fun k_ => (P0_ k_ ∨ w.heap.size ≤ k_)) u9000_ l0 from Kd.R_mono ho0 (fun k_ hk => (.inl hk)))
 have HK := Aside0.mk (Kept.refl w (fun k_ => P0_ k_))
 have HW0 := Aside0.mk hB.size
 have HB := Aside0.mk hB
 clear hB
 have H : ((impl_Chord_79.f l0).bind fun t169 => ((impl_Chord_81.f t169).bind fun t170 => (some t170))) = some r := h
 clear h
 replace H := Option.bind_eq_some_iff.mp H
 obtain ⟨t169, A20, H⟩ := H
 replace H : ((impl_Chord_81.f t169).bind fun t170 => (some t170)) = some r := H
 have A2 := Aside0.mk A20
 clear A20
 replace H := Option.bind_eq_some_iff.mp H
 obtain ⟨t170, A30, H⟩ := H
 replace H : (some t170) = some r := H
 have A3 := Aside0.mk A30
 clear A30
 obtain rfl := Option.some.inj H
 obtain ⟨Ao4, co4, eo4⟩ := Kd.R_slice HO0.out
 subst eo4
 go_enter Tryz.func67, Tryz.ntmps67
 go_wp2_with (first | ((with_reducible refine gate_callee (f := 79) rfl ?_); refine gl_ (some 4) Tryz.func79 #[.slice Ao4 l0.length co4, .func (.func 80) #[] #[]] ?_; (with_reducible refine (impl_Chord_79.calls (fun k_ => some k_ = (.slice Ao4 l0.length co4 : Value).ownBlock) (.slice Ao4 l0.length co4) l0 t169 w0 _ ?side1 ?side2 A2.out).mono ?_); (case side1 => repeat (first | (with_reducible first | apply below_alloc | apply pw_below_drewN | apply below_drew1) | exact HB.out)); (case side2 => exact Kd.R_tight rfl HO0.out); rintro e w5 ⟨rfl, hy0, hb, hkp⟩; refine ⟨_, rfl, ?_⟩; have n0_ := Aside0.mk (Kd.R_reok rfl hy0 (fun k_ e_ => HO0.out.1 k_ e_)); have n1_ := Aside0.mk (Kept.then_ (S := (fun k_ => P0_ k_)) (by repeat (first | (with_reducible first | apply Kept.alloc | apply Kept.drewN | apply Kept.drew) | exact HK.out)) hkp (fun k_ hs_ => (fun e_ => (HO0.out.1 k_ e_.symm)) hs_)); have n2_ := Aside0.mk (hb); clear HO0; clear HK; clear HB; have HO0 := n0_; have HK := n1_; have HB := n2_; clear n0_ n1_ n2_; (try clear hb); (try clear hkp); (try clear hy0)) | ((with_reducible refine gate_callee (f := 81) rfl ?_); refine gl_ (some 6) Tryz.func81 #[.slice Ao4 l0.length co4] ?_; (with_reducible refine (impl_Chord_81.calls (fun k_ => some k_ = (.slice Ao4 l0.length co4 : Value).ownBlock) (.slice Ao4 l0.length co4) t169 t170 w0 _ ?side1 ?side2 A3.out).mono ?_); (case side1 => repeat (first | (with_reducible first | apply below_alloc | apply pw_below_drewN | apply below_drew1) | exact HB.out)); (case side2 => exact Kd.R_tight rfl HO0.out); rintro e w6 ⟨v171, rfl, ho0, hb, hkp⟩; refine ⟨_, rfl, ?_⟩; have n0_ := Aside0.mk (Kd.R_mono (ok' := fun k_ => (P0_ k_ ∨ w.heap.size ≤ k_)) ho0 (fun k_ hk_ => Or.elim hk_ (fun hs_ => (HO0.out.1 k_ (hs_).symm)) (fun hn_ => (.inr (Nat.le_trans (by first | exact HK.out.1 | exact (show Kept w _ (fun k_ => P0_ k_) from by repeat (first | (with_reducible first | apply Kept.alloc | apply Kept.drewN | apply Kept.drew) | exact HK.out)).1) hn_))))); have n1_ := Aside0.mk (Kept.then_ (S := (fun k_ => P0_ k_)) (by repeat (first | (with_reducible first | apply Kept.alloc | apply Kept.drewN | apply Kept.drew) | exact HK.out)) hkp (fun k_ hs_ => (fun e_ => (HO0.out.1 k_ e_.symm)) hs_)); have n2_ := Aside0.mk (hb); clear HK; clear HB; clear HO0; have HO172 := n0_; have HK := n1_; have HB := n2_; clear n0_ n1_ n2_; (try clear hb); (try clear hkp); (try clear ho0)))
 go_ret
 exact ⟨_, by first | rfl | (simp [errW_none, errW_some] <;> rfl) | (simp [*, errW_none, errW_some] <;> rfl), by (with_reducible repeat (first | apply Kd.R_alloc | apply Kd.R_drewN | apply Kd.R_drew)); exact HO172.out, by repeat (first | (with_reducible first | apply below_alloc | apply pw_below_drewN | apply below_drew1) | exact HB.out), by repeat (first | (with_reducible first | apply Kept.alloc | apply Kept.drewN | apply Kept.drew) | exact HK.out)⟩

/-! ### impl_timesChords: function 41 -/
def impl_timesChords.l0 : Nat → List (S41) → List Int → Int → Int → Option ((List (S41)))
 | 0, _, _, _, _ => none
 | k + 1, x5, x11, x12, x13 => if x13 < x12 then (if 0 ≤ x13 then (if x13 < (x11.length : Int) then (if x13 = (rd x11 x13) then (impl_timesChords.l0 k x5 x11 x12 (wrap64 (x13 + 1))) else ((impl_chord.f x13 (rd x11 x13)).bind fun bt180 => (if x5.length < 8796093022208 then (impl_timesChords.l0 k (x5 ++ [(⟨bt180.1, bt180.2⟩ : S41)]) x11 x12 (wrap64 (x13 + 1))) else (none)))) else (none)) else (none)) else ((impl_ordered.f x5).bind fun t185 => (some t185))
def impl_timesChords.f (k : Nat) (a0 : Int) (a1 : Int) : Option ((List (S41))) := (impl_timesRow.f k a0 a1).bind fun t176 => (impl_timesChords.l0 k (([] : List (S41))) t176 (t176.length : Int) 0)
theorem impl_timesChords.mono_l : ∀ k, (∀ y0 y1 y2 y3, LeO (impl_timesChords.l0 k y0 y1 y2 y3) (impl_timesChords.l0 (k + 1) y0 y1 y2 y3))
 | 0 => fun _ _ _ _ r h => by simp [impl_timesChords.l0] at h
 | k + 1 => by
  have ih0 := impl_timesChords.mono_l k
  ·intro y0 y1 y2 y3
   unfold impl_timesChords.l0
   repeat' with_reducible first | apply ih0 | apply impl_timesRow.mono | exact LeO.refl _ | exact LeO.none _ | refine LeO.ite ?_ ?_ | refine LeO.bind ?_ (fun _ => ?_)
theorem impl_timesChords.mono : ∀ a0 a1 k, LeO (impl_timesChords.f k a0 a1) (impl_timesChords.f (k + 1) a0 a1) := by
 intro a0 a1 k
 have ih0 := impl_timesChords.mono_l k
 unfold impl_timesChords.f
 repeat' with_reducible first | apply ih0 | apply impl_timesRow.mono | exact LeO.refl _ | exact LeO.none _ | refine LeO.ite ?_ ?_ | refine LeO.bind ?_ (fun _ => ?_)
set_option maxHeartbeats 8000000 in
set_option maxRecDepth 100000 in
theorem impl_timesChords.calls (k : Nat) (a0 : Int) (a1 : Int) (r : List (S41)) (w : World) (h : impl_timesChords.f k a0 a1 = some r) :
  Calls Tryz.prog 41 #[.int .i64 a0, .int .i64 a1] w fun e w' => ∃ v0_ : Value, e = .returned (v0_) ∧ Kd.R k41 41 w' w.heap.size (fun _ => True) v0_ r ∧ Below w.heap.size w w' := by
 have HB := Aside0.mk (Below.refl w.heap.size w)
 have H : ((impl_timesRow.f k a0 a1).bind fun t176 => (impl_timesChords.l0 k (([] : List (S41))) t176 (t176.length : Int) 0)) = some r := h
 clear h
 obtain ⟨y173, hy173⟩ : ∃ y_ : List (S41), y_ = (([] : List (S41))) := ⟨_, rfl⟩
 replace H : ((impl_timesRow.f k a0 a1).bind fun t176 => (impl_timesChords.l0 k y173 t176 (t176.length : Int) 0)) = some r := by first | (rw [hy173]; with_reducible exact H) | (have H2_ := (Option.bind_some _ _).symm.trans H; rw [hy173]; with_reducible exact H2_) | (have H2_ := (Option.bind_some _ _).symm.trans H; with_reducible exact H2_) | with_reducible exact H | (rw [hy173]; exact H) | exact H
 have Ny173 := Aside0.mk hy173
 clear hy173
 replace H := Option.bind_eq_some_iff.mp H
 obtain ⟨t176, A30, H⟩ := H
 replace H : (impl_timesChords.l0 k y173 t176 (t176.length : Int) 0) = some r := H
 have A3 := Aside0.mk A30
 clear A30
 have H' := Aside0.mk H
 clear H
 go_enter Tryz.func41, Tryz.ntmps41
 go_wp2_with (first | ((with_reducible refine gate_dst (N := 8) rfl ?_); refine Kd.R_lit k41 _ 41 ?hg (N := 8) ?hd (xs := ([] : List (S41))) (inner := []) (ok := fun _ => True) (okp := fun _ => True) ?hr ?hp (fun _ hk => hk) trivial (Below.refl _ _) (Nat.le_refl _) (by simp) ?_; (case hd => rfl); (case hg => rfl); (case hr => first | (go_simp; done) | (go_simp; rfl)); (case hp => exact (Reps.none _ _)); intro v174 w4 ho5 hb hg_ hnew_; clear hg_ hnew_; (first | rw [← Ny173.out] at ho5 | (simp only [Int.reduceToNat] at ho5; rw [← Ny173.out] at ho5)); have n0_ := Aside0.mk (Kd.R_lower ho5 bz_); have n1_ := Aside0.mk (bs_ hb); clear HB; have HO175 := n0_; have HB := n1_; clear n0_ n1_; clear hb ho5) | ((with_reducible refine gate_callee (f := 53) rfl ?_); refine gl_ (some 11) Tryz.func53 #[.int .i64 a0, .int .i64 a1] ?_; (with_reducible refine (impl_timesRow.calls k a0 a1 t176 _ A3.out).mono ?_); rintro e w6 ⟨v177, rfl, ho0, hb⟩; refine ⟨_, rfl, ?_⟩; have n0_ := Aside0.mk (Kd.R_below (ru_ HO175.out) hb); have n1_ := Aside0.mk (Kd.R_lower ho0 bz_); have n2_ := Aside0.mk (bs_ hb); clear HO175; clear HB; have HO175 := n0_; have HO178 := n1_; have HB := n2_; clear n0_ n1_ n2_; (try clear hb); (try clear ho0); obtain ⟨Ao7, co7, eo7⟩ := Kd.R_slice HO178.out; subst eo7))
 go_loopg [5, 13] k (fun kq v5 v13 w' => ∃ (x5_1 : List (S41)) (x13_1 : Int), v13 = .int .i64 x13_1 ∧ Aside0 (impl_timesChords.l0 kq x5_1 t176 (t176.length : Int) x13_1 = some r) ∧ Aside0 (kq ≤ k) ∧ Aside0 (Kd.R k41 41 w' w.heap.size (fun _ => True) v5 x5_1) ∧ Aside0 (Kd.R (Kd.int .i64) 3 w' w.heap.size (fun _ => True) (.slice Ao7 t176.length co7) t176) ∧ Aside0 (Below w.heap.size w w'))
 case atStart => exact ⟨(y173), (0), (by first | rfl | (simp; done) | (simp [*]; done)), H', ⟨Nat.le_refl _⟩, ⟨by (with_reducible repeat (first | apply Kd.R_alloc | apply Kd.R_drewN | apply Kd.R_drew)); exact HO175.out⟩, ⟨by (with_reducible repeat (first | apply Kd.R_alloc | apply Kd.R_drewN | apply Kd.R_drew)); exact HO178.out⟩, ⟨bb_⟩⟩
 case round =>
  clear H'
  (try clear p2); (try clear c4); (try clear c5)
  obtain ⟨x5_1, x13_1, rfl, HA, HK1, HO_5, HO_11, HB⟩ := hrel
  cases gk with
  | zero => exact absurd HA.out (by simp [impl_timesChords.l0])
  | succ k1 =>
   have H := HA.out
   clear HA
   simp only [impl_timesChords.l0] at H
   by_cases c8 : x13_1 < (t176.length : Int)
   rotate_left
   ·rw [if_neg c8] at H
    have c8b0 : decide (x13_1 < (t176.length : Int)) = false := decide_eq_false c8
    clear c8
    replace H := Option.bind_eq_some_iff.mp H
    obtain ⟨t185, A160, H⟩ := H
    replace H : (some t185) = some r := H
    have A16 := Aside0.mk A160
    clear A160
    obtain rfl := Option.some.inj H
    obtain ⟨Ao17, co17, eo17⟩ := Kd.R_slice HO_5.out
    subst eo17
    go_wp2_with (first | ((with_reducible refine gate_callee (f := 67) rfl ?_); refine gl_ (some 29) Tryz.func67 #[.slice Ao17 x5_1.length co17] ?_; (with_reducible refine (impl_ordered.calls (fun k_ => some k_ = (.slice Ao17 x5_1.length co17 : Value).ownBlock) (.slice Ao17 x5_1.length co17) x5_1 t185 w _ ?side1 ?side2 A16.out).mono ?_); (case side1 => repeat (first | (with_reducible first | apply below_alloc | apply pw_below_drewN | apply below_drew1) | exact HB.out)); (case side2 => exact Kd.R_tight rfl HO_5.out); rintro e w18 ⟨v186, rfl, ho0, hb, hkp⟩; refine ⟨_, rfl, ?_⟩; have n0_ := Aside0.mk (Kd.R_mono (ok' := fun k_ => True) (Kd.R_keptB ((Kd.R_apart' HO_11.out (Kd.R_typed HO_5.out) (by decide))) hkp (fun k_ hk_ hs_ => (hk_.2) hs_)) (fun k_ hk_ => trivial)); have n1_ := Aside0.mk (Kd.R_mono (ok' := fun k_ => True) ho0 (fun k_ hk_ => trivial)); have n2_ := Aside0.mk (hb); clear HO_11; clear HB; clear HO_5; have HO_11 := n0_; have HO187 := n1_; have HB := n2_; clear n0_ n1_ n2_; (try clear hb); (try clear hkp); (try clear ho0)))
    go_ret
    exact ⟨_, by first | rfl | (simp [errW_none, errW_some] <;> rfl) | (simp [*, errW_none, errW_some] <;> rfl), by (with_reducible repeat (first | apply Kd.R_alloc | apply Kd.R_drewN | apply Kd.R_drew)); exact HO187.out, bb_⟩

   rw [if_pos c8] at H
   have c8b0 : decide (x13_1 < (t176.length : Int)) = true := decide_eq_true c8
   clear c8
   by_cases c9 : 0 ≤ x13_1
   rotate_left
   ·rw [if_neg c9] at H
    exact absurd H (by simp)
   rw [if_pos c9] at H
   have c9b0 : decide (0 ≤ x13_1) = true := decide_eq_true c9
   clear c9
   by_cases c10 : x13_1 < (t176.length : Int)
   rotate_left
   ·rw [if_neg c10] at H
    exact absurd H (by simp)
   rw [if_pos c10] at H
   have c10b0 : decide (x13_1 < (t176.length : Int)) = true := decide_eq_true c10
   clear c10
   by_cases c11 : x13_1 = (rd t176 x13_1)
   ·rw [if_pos c11] at H
    have c11b0 : (x13_1 == (rd t176 x13_1)) = true := beq_iff_eq.mpr c11
    have c11b1 : (x13_1 != (rd t176 x13_1)) = false := bne_eq_false_iff_eq.mpr c11
    clear c11
    have H' := Aside0.mk H
    clear H
    have p179 : 0 ≤ (x13_1 : Int) := of_decide_eq_true (by assumption)
    have q179 : x13_1 < (t176.length : Int) := of_decide_eq_true (by assumption)
    obtain ⟨ad179, e179, hx179_0⟩ := Kd.at_int (Kd.R_reads' HO_11.out).2.2 x13_1 p179 q179
    cases e179
    replace p179 := eq_true p179
    replace q179 := eq_true q179
    go_wp2
    go_roundg k1
    case measure => have := HK1.out; omega
    case rel => exact ⟨(x5_1), (wrap64 (x13_1 + 1)), (by first | rfl | (simp; done) | (simp [*]; done)), H', ⟨by have := HK1.out; omega⟩, ⟨by (with_reducible repeat (first | apply Kd.R_alloc | apply Kd.R_drewN | apply Kd.R_drew)); exact HO_5.out⟩, ⟨by (with_reducible repeat (first | apply Kd.R_alloc | apply Kd.R_drewN | apply Kd.R_drew)); exact HO_11.out⟩, ⟨bb_⟩⟩
   rw [if_neg c11] at H
   have c11b0 : (x13_1 == (rd t176 x13_1)) = false := beq_eq_false_iff_ne.mpr c11
   have c11b1 : (x13_1 != (rd t176 x13_1)) = true := bne_iff_ne.mpr c11
   replace H := Option.bind_eq_some_iff.mp H
   obtain ⟨⟨t180, t181⟩, A120, H⟩ := H
   (try dsimp only at H)
   have A12 := Aside0.mk A120
   clear A120
   by_cases c13 : x5_1.length < 8796093022208
   rotate_left
   ·rw [if_neg c13] at H
    exact absurd H (by simp)
   rw [if_pos c13] at H
   have LMc13 := Aside0.mk c13
   clear c13
   obtain ⟨y182, hy182⟩ : ∃ y_ : List (S41), y_ = (x5_1 ++ [(⟨t180, t181⟩ : S41)]) := ⟨_, rfl⟩
   replace H : (impl_timesChords.l0 k1 y182 t176 (t176.length : Int) (wrap64 (x13_1 + 1))) = some r := by first | (rw [hy182]; with_reducible exact H) | (have H2_ := (Option.bind_some _ _).symm.trans H; rw [hy182]; with_reducible exact H2_) | (have H2_ := (Option.bind_some _ _).symm.trans H; with_reducible exact H2_) | with_reducible exact H | (rw [hy182]; exact H) | exact H
   have Ny182 := Aside0.mk hy182
   clear hy182
   have H' := Aside0.mk H
   clear H
   have p179 : 0 ≤ (x13_1 : Int) := of_decide_eq_true (by assumption)
   have q179 : x13_1 < (t176.length : Int) := of_decide_eq_true (by assumption)
   obtain ⟨ad179, e179, hx179_0⟩ := Kd.at_int (Kd.R_reads' HO_11.out).2.2 x13_1 p179 q179
   cases e179
   replace p179 := eq_true p179
   replace q179 := eq_true q179
   go_wp2_with (first | ((with_reducible refine gate_callee (f := 66) rfl ?_); refine gl_ (some 24) Tryz.func66 #[.int .i64 x13_1, .int .i64 (rd t176 x13_1)] ?_; (with_reducible refine (impl_chord.calls x13_1 (rd t176 x13_1) t180 t181 _ A12.out).mono ?_); rintro e w14 ⟨rfl, hb⟩; refine ⟨_, rfl, ?_⟩; have n0_ := Aside0.mk (Kd.R_below (ru_ HO_5.out) hb); have n1_ := Aside0.mk (Kd.R_below (ru_ HO_11.out) hb); have n2_ := Aside0.mk (bs_ hb); clear HO_5; clear HO_11; clear HB; have HO_5 := n0_; have HO_11 := n1_; have HB := n2_; clear n0_ n1_ n2_; (try clear hb)) | ((with_reducible refine gate_builtin (b := .append) (xs := #[.tmp 21, .tmp 25]) rfl ?_); at_builtin; refine Kd.R_append k41 (w0 := w) w.heap.size rfl (.tmp 21) (.tmp 25) 30 41 (.agg #[(.int .i64 0), (.int .i64 0)]) 16 rfl Tryz.underlying30 info41 rfl (by decide) (by omega) u5 x5_1 (⟨t180, t181⟩ : S41) [.int .i64 t180, .int .i64 t181] (fun _ => True) (fun _ => False) rfl rfl ?aP (fun _ hk => hk.elim) ?aF ?aO ?aB ?aS ?aL ?_; (case aP => exact k41_mkM _ _ _ (⟨t180, t181⟩ : S41)); (case aB => exact bb_); (case aF => exact (fun _ _ => trivial)); (case aO => exact (ru_ HO_5.out)); (case aS => exact bz_); (case aL => have := LMc13.out; omega); intro v183 w15 ho hb hg hat; rw [← Ny182.out] at ho; have n0_ := Aside0.mk (Kd.R_over' (ru_ HO_11.out) (Kd.R_typed (ru_ HO_5.out)) (by decide) hg); have n1_ := Aside0.mk (hb); have n2_ := Aside0.mk (ho); clear HO_11; clear HB; clear HO_5; have HO_11 := n0_; have HB := n1_; have HO184 := n2_; clear n0_ n1_ n2_; clear ho hb hg hat))
   go_roundg k1
   case measure => have := HK1.out; omega
   case rel => exact ⟨(y182), (wrap64 (x13_1 + 1)), (by first | rfl | (simp; done) | (simp [*]; done)), H', ⟨by have := HK1.out; omega⟩, ⟨by (with_reducible repeat (first | apply Kd.R_alloc | apply Kd.R_drewN | apply Kd.R_drew)); exact HO184.out⟩, ⟨by (with_reducible repeat (first | apply Kd.R_alloc | apply Kd.R_drewN | apply Kd.R_drew)); exact HO_11.out⟩, ⟨bb_⟩⟩
/-! ### impl_TimesChords: function 12 -/
def impl_TimesChords.f (k : Nat) (a0 : Int) (a1 : Int) : Option ((List (S41)) × Bool) := (impl_isTable.f a0 a1 ([] : List Int)).bind fun t188 => (if t188 = true then ((impl_timesChords.f k a0 a1).bind fun t189 => (some (t189, true))) else (some (([] : List (S41)), false)))
theorem impl_TimesChords.mono : ∀ a0 a1 k, LeO (impl_TimesChords.f k a0 a1) (impl_TimesChords.f (k + 1) a0 a1) := by
 intro a0 a1 k
 unfold impl_TimesChords.f
 repeat' with_reducible first | apply impl_timesChords.mono | exact LeO.refl _ | exact LeO.none _ | refine LeO.ite ?_ ?_ | refine LeO.bind ?_ (fun _ => ?_)
set_option maxHeartbeats 8000000 in
set_option maxRecDepth 100000 in
theorem impl_TimesChords.calls (k : Nat) (a0 : Int) (a1 : Int) (r1 : List (S41)) (r2 : Bool) (w : World) (h : impl_TimesChords.f k a0 a1 = some (r1, r2)) :
  Calls Tryz.prog 12 #[.int .i64 a0, .int .i64 a1] w fun e w' => ∃ v0_ : Value, e = .returned (.tuple #[v0_, .bool r2]) ∧ Kd.R k41 41 w' w.heap.size (fun _ => True) v0_ r1 ∧ Below w.heap.size w w' := by
 have HB := Aside0.mk (Below.refl w.heap.size w)
 have H : ((impl_isTable.f a0 a1 ([] : List Int)).bind fun t188 => (if t188 = true then ((impl_timesChords.f k a0 a1).bind fun t189 => (some (t189, true))) else (some (([] : List (S41)), false)))) = some (r1, r2) := h
 clear h
 replace H := Option.bind_eq_some_iff.mp H
 obtain ⟨t188, A30, H⟩ := H
 (try dsimp only at H)
 have A3 := Aside0.mk A30
 clear A30
 by_cases c4 : t188 = true
 rotate_left
 ·replace c4 := Bool.eq_false_iff.mpr c4
  subst c4
  rw [if_neg (show ¬ (false = true) by decide)] at H
  simp only [Option.some.injEq, Prod.mk.injEq] at H
  obtain ⟨rfl, rfl⟩ := H
  go_enter Tryz.func12, Tryz.ntmps12
  go_wp2_with (first | ((with_reducible refine gate_callee (f := 35) rfl ?_); refine gl_ (some 8) Tryz.func35 #[.int .i64 a0, .int .i64 a1, .slice none 0 0] ?_; (refine (impl_isTable.calls a0 a1 _ _ ([] : List Int) false _ ?side1 ?side2 A3.out).mono ?_); (case side1 => exact Kd.C_nil _ _); (case side2 => exact Nat.le_refl _); rintro e w8 ⟨rfl, hb⟩; refine ⟨_, rfl, ?_⟩; have n0_ := Aside0.mk (bs_ hb); clear HB; have HB := n0_; clear n0_; (try clear hb)))
  go_ret2
  exact ⟨_, by first | rfl | (simp [errW_none, errW_some] <;> rfl) | (simp [*, errW_none, errW_some] <;> rfl), by first | exact Kd.R_nil _ _ _ _ _ | exact Kd.N_nil _ _ _ _ _ | exact Kd.V_nil _ _ _ _ _ | exact Kd.Q_nil _ _ _ _ _ | exact Kd.S_nil _ _ _ _ _, bb_⟩

 subst c4
 rw [if_pos rfl] at H
 replace H := Option.bind_eq_some_iff.mp H
 obtain ⟨t189, A50, H⟩ := H
 replace H : (some (t189, true)) = some (r1, r2) := H
 have A5 := Aside0.mk A50
 clear A50
 simp only [Option.some.injEq, Prod.mk.injEq] at H
 obtain ⟨rfl, rfl⟩ := H
 go_enter Tryz.func12, Tryz.ntmps12
 go_wp2_with (first | ((with_reducible refine gate_callee (f := 35) rfl ?_); refine gl_ (some 8) Tryz.func35 #[.int .i64 a0, .int .i64 a1, .slice none 0 0] ?_; (refine (impl_isTable.calls a0 a1 _ _ ([] : List Int) true _ ?side1 ?side2 A3.out).mono ?_); (case side1 => exact Kd.C_nil _ _); (case side2 => exact Nat.le_refl _); rintro e w6 ⟨rfl, hb⟩; refine ⟨_, rfl, ?_⟩; have n0_ := Aside0.mk (bs_ hb); clear HB; have HB := n0_; clear n0_; (try clear hb)) | ((with_reducible refine gate_callee (f := 41) rfl ?_); refine gl_ (some 12) Tryz.func41 #[.int .i64 a0, .int .i64 a1] ?_; (with_reducible refine (impl_timesChords.calls k a0 a1 t189 _ A5.out).mono ?_); rintro e w7 ⟨v190, rfl, ho0, hb⟩; refine ⟨_, rfl, ?_⟩; have n0_ := Aside0.mk (Kd.R_lower ho0 bz_); have n1_ := Aside0.mk (bs_ hb); clear HB; have HO191 := n0_; have HB := n1_; clear n0_ n1_; (try clear hb); (try clear ho0)))
 go_ret2
 exact ⟨_, by first | rfl | (simp [errW_none, errW_some] <;> rfl) | (simp [*, errW_none, errW_some] <;> rfl), by (with_reducible repeat (first | apply Kd.R_alloc | apply Kd.R_drewN | apply Kd.R_drew)); exact HO191.out, bb_⟩
/-! ### spec_taRow: function 68 -/
def spec_taRow.l0 : Nat → Int → Int → List Int → Int → Option (List Int)
 | 0, _, _, _, _ => none
 | k + 1, x0, x1, x5, x6 => if x6 < x0 then (if x0 = 0 then (none) else (if x5.length < 17592186044416 then (spec_taRow.l0 k x0 x1 (x5 ++ [Int.tmod (wrap64 (x6 * x1)) x0]) (wrap64 (x6 + 1))) else (none))) else (some x5)
def spec_taRow.f (k : Nat) (a0 : Int) (a1 : Int) : Option (List Int) := spec_taRow.l0 k a0 a1 ([] : List Int) 0
theorem spec_taRow.mono_l : ∀ k, (∀ y0 y1 y2 y3, LeO (spec_taRow.l0 k y0 y1 y2 y3) (spec_taRow.l0 (k + 1) y0 y1 y2 y3))
 | 0 => fun _ _ _ _ r h => by simp [spec_taRow.l0] at h
 | k + 1 => by
  have ih0 := spec_taRow.mono_l k
  ·intro y0 y1 y2 y3
   unfold spec_taRow.l0
   repeat' with_reducible first | apply ih0 | exact LeO.refl _ | exact LeO.none _ | refine LeO.ite ?_ ?_ | refine LeO.bind ?_ (fun _ => ?_)
theorem spec_taRow.mono : ∀ a0 a1 k, LeO (spec_taRow.f k a0 a1) (spec_taRow.f (k + 1) a0 a1) := by
 intro a0 a1 k
 have ih0 := spec_taRow.mono_l k
 unfold spec_taRow.f
 repeat' with_reducible first | apply ih0 | exact LeO.refl _ | exact LeO.none _ | refine LeO.ite ?_ ?_ | refine LeO.bind ?_ (fun _ => ?_)
set_option maxHeartbeats 8000000 in
set_option maxRecDepth 100000 in
theorem spec_taRow.calls (k : Nat) (a0 : Int) (a1 : Int) (r : List Int) (w : World) (h : spec_taRow.f k a0 a1 = some r) :
  Calls Tryz.prog 68 #[.int .i64 a0, .int .i64 a1] w fun e w' => ∃ v0_ : Value, e = .returned (v0_) ∧ Kd.R (Kd.int .i64) 3 w' w.heap.size (fun _ => True) v0_ r ∧ Below w.heap.size w w' := by
 have HB := Aside0.mk (Below.refl w.heap.size w)
 have H : (spec_taRow.l0 k a0 a1 ([] : List Int) 0) = some r := h
 clear h
 have H' := Aside0.mk H
 clear H
 go_enter Tryz.func68, Tryz.ntmps68
 go_wp2
 go_loopg [5, 6] k (fun kq v5 v6 w' => ∃ (x5_1 : List Int) (x6_1 : Int), v6 = .int .i64 x6_1 ∧ Aside0 (spec_taRow.l0 kq a0 a1 x5_1 x6_1 = some r) ∧ Aside0 (kq ≤ k) ∧ Aside0 (Kd.R (Kd.int .i64) 3 w' w.heap.size (fun _ => True) v5 x5_1) ∧ Aside0 (Below w.heap.size w w'))
 case atStart => exact ⟨(([] : List Int)), (0), (by first | rfl | (simp; done) | (simp [*]; done)), H', ⟨Nat.le_refl _⟩, ⟨by first | exact Kd.R_nil _ _ _ _ _ | exact Kd.N_nil _ _ _ _ _ | exact Kd.V_nil _ _ _ _ _ | exact Kd.Q_nil _ _ _ _ _ | exact Kd.S_nil _ _ _ _ _⟩, ⟨bb_⟩⟩
 case round =>
  clear H'
  try clear p2
  obtain ⟨x5_1, x6_1, rfl, HA, HK1, HO_5, HB⟩ := hrel
  cases gk with
  | zero => exact absurd HA.out (by simp [spec_taRow.l0])
  | succ k1 =>
   have H := HA.out
   clear HA
   simp only [spec_taRow.l0] at H
   by_cases c3 : x6_1 < a0
   rotate_left
   ·rw [if_neg c3] at H
    have c3b0 : decide (x6_1 < a0) = false := decide_eq_false c3
    clear c3
    obtain rfl := Option.some.inj H
    go_wp2
    go_ret
    exact ⟨_, by first | rfl | (simp [errW_none, errW_some] <;> rfl) | (simp [*, errW_none, errW_some] <;> rfl), by (with_reducible repeat (first | apply Kd.R_alloc | apply Kd.R_drewN | apply Kd.R_drew)); exact HO_5.out, bb_⟩

   rw [if_pos c3] at H
   have c3b0 : decide (x6_1 < a0) = true := decide_eq_true c3
   clear c3
   by_cases c4 : a0 = 0
   ·rw [if_pos c4] at H
    exact absurd H (by simp)
   rw [if_neg c4] at H
   have c4b0 : (a0 == 0) = false := beq_eq_false_iff_ne.mpr c4
   have c4b1 : (a0 != 0) = true := bne_iff_ne.mpr c4
   by_cases c5 : x5_1.length < 17592186044416
   rotate_left
   ·rw [if_neg c5] at H
    exact absurd H (by simp)
   rw [if_pos c5] at H
   have LMc5 := Aside0.mk c5
   clear c5
   obtain ⟨y192, hy192⟩ : ∃ y_ : List Int, y_ = (x5_1 ++ [Int.tmod (wrap64 (x6_1 * a1)) a0]) := ⟨_, rfl⟩
   replace H : (spec_taRow.l0 k1 a0 a1 y192 (wrap64 (x6_1 + 1))) = some r := by first | (rw [hy192]; with_reducible exact H) | (have H2_ := (Option.bind_some _ _).symm.trans H; rw [hy192]; with_reducible exact H2_) | (have H2_ := (Option.bind_some _ _).symm.trans H; with_reducible exact H2_) | with_reducible exact H | (rw [hy192]; exact H) | exact H
   have Ny192 := Aside0.mk hy192
   clear hy192
   have H' := Aside0.mk H
   clear H
   go_wp2_with (first | ((with_reducible refine gate_builtin (b := .append) (xs := #[.tmp 12, .tmp 18]) rfl ?_); at_builtin; refine Kd.R_append (Kd.int .i64) (w0 := w) w.heap.size rfl (.tmp 12) (.tmp 18) 33 3 (.int .i64 0) 8 rfl Tryz.underlying33 info3 rfl (by decide) (by omega) u5 x5_1 (Int.tmod (wrap64 (x6_1 * a1)) a0) [.int .i64 (Int.tmod (wrap64 (x6_1 * a1)) a0)] (fun _ => True) (fun _ => False) rfl rfl ?aP (fun _ hk => hk.elim) ?aF ?aO ?aB ?aS ?aL ?_; (case aP => exact rfl); (case aB => exact bb_); (case aF => exact (fun _ _ => trivial)); (case aO => exact (ru_ HO_5.out)); (case aS => exact bz_); (case aL => have := LMc5.out; omega); intro v193 w6 ho hb hg hat; rw [← Ny192.out] at ho; have n0_ := Aside0.mk (hb); have n1_ := Aside0.mk (ho); clear HB; clear HO_5; have HB := n0_; have HO194 := n1_; clear n0_ n1_; clear ho hb hg hat))
   go_roundg k1
   case measure => have := HK1.out; omega
   case rel => exact ⟨(y192), (wrap64 (x6_1 + 1)), (by first | rfl | (simp; done) | (simp [*]; done)), H', ⟨by have := HK1.out; omega⟩, ⟨by (with_reducible repeat (first | apply Kd.R_alloc | apply Kd.R_drewN | apply Kd.R_drew)); exact HO194.out⟩, ⟨bb_⟩⟩
/-! ### given: 43_small.tpl -/
def spec_srLess.f (a0_0 : Int) (a0_1 : Int) (a1_0 : Int) (a1_1 : Int) : Option (Bool) := some (decide (a0_0 < a1_0 ∨ a0_0 = a1_0 ∧ a0_1 < a1_1))
set_option maxHeartbeats 8000000 in
set_option maxRecDepth 100000 in
theorem spec_srLess.calls (a0_0 : Int) (a0_1 : Int) (a1_0 : Int) (a1_1 : Int) (r : Bool) (w : World) (h : spec_srLess.f a0_0 a0_1 a1_0 a1_1 = some r) :
    Calls Tryz.prog 82 #[.agg #[.int .i64 a0_0, .int .i64 a0_1], .agg #[.int .i64 a1_0, .int .i64 a1_1]] w fun e w' => e = .returned (.bool r) ∧ Below w.heap.size w w' := by
  have hu := Tryz.underlying41
  obtain rfl := Option.some.inj h
  clear h
  go_enter Tryz.func82, Tryz.ntmps82
  go_wp2
  all_goals
    go_ret
    refine ⟨congrArg (fun b => Ending.returned (Value.bool b)) ?_, below_alloc (below_alloc (Below.refl _ _) _) _⟩
    grind

end Go.Proofs.YteihhjieihgojaaGreat.P
