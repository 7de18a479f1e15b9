/- A part of this seat's proofs: contracts of the translated functions, written by the session's own program (gp.py) out of the kit's print.py and the session's own contracts; no conditions of its own. -/
import Derived.Test.YtejchneeheeldaaPx0
namespace Go.Proofs.Ytejchneeheeldaa.P
open Go.RowKit Go.Proofs.YtejchneeheeldaaW.PrintWords Go.Proofs.YtejchneeheeldaaW.PrintLast Go.Proofs.YtejchneeheeldaaW.PrintMore
attribute [local go_sem] max2_int min2_int max_two min_two max_three min_three max_four min_four   -- for this text's walks alone
set_option linter.unusedVariables false
set_option linter.unusedSimpArgs false

/-! ### given: 20_rows.tpl -/
/-! rows of the call's own, laid anew by a contract of the shelf ('putRow') -/
theorem putRow_enc {α : Type} [Inhabited α] (enc : α → Value) (w : World) (b o : Nat) (d : Array α) : Go.Sort.putRow enc w b o d = Go.Sort.putRow id w b o (d.map enc) := by
  unfold Go.Sort.putRow
  congr 1
  funext c
  unfold Go.Sort.putCells
  congr 1
  funext k x
  rw [Array.size_map]
  by_cases h : o ≤ k ∧ k < o + d.size
  · have h2 : k - o < d.size := by omega
    rw [if_pos h, if_pos h, getElem!_pos d _ h2, getElem!_pos (d.map enc) _ (by simpa using h2)]
    simp
  · rw [if_neg h, if_neg h]
theorem own_putRow {w : World} {base g cap n size : Nat} {e : TypeId} {xs ys : List Value} (h : w.ownsRow base e size (.slice (some ⟨g, 0, none⟩) n cap) n xs) (hl : ys.length = xs.length) (m : Nat) (os : Array Obj) :
    (Go.Sort.grow (Go.Sort.putRow id (Go.Sort.ahead w m) g 0 ys.toArray) os).ownsRow base e size (.slice (some ⟨g, 0, none⟩) n cap) n ys ∧ w.grownBy (Go.Sort.grow (Go.Sort.putRow id (Go.Sort.ahead w m) g 0 ys.toArray) os) (some g) := by
  obtain ⟨hx, h⟩ := h
  rcases h with ⟨h, _⟩ | ⟨g', cap', cur, he, hb, hg, hn, hc, hs, ht⟩
  · simp at h
  · simp only [Value.slice.injEq, Option.some.injEq, Addr.mk.injEq, and_true, true_and] at he
    obtain ⟨rfl, rfl⟩ := he
    have hlt : g < w.heap.size := (Array.getElem?_eq_some_iff.1 hg).1
    refine ⟨⟨by omega, .inr ⟨g, cap, Go.Sort.putCells id 0 ys.toArray cur, rfl, hb, ?_, hn, hc, ?_, ?_⟩⟩, ⟨rfl, rfl, rfl, ?_, ?_⟩⟩
    · show (Array.modify w.heap g (Go.Sort.onCells (Go.Sort.putCells id 0 ys.toArray)) ++ os)[g]? = _
      rw [Array.getElem?_append_left (by simpa using hlt), Array.getElem?_modify, if_pos rfl, hg]
      rfl
    · unfold Go.Sort.putCells; simp [hs]
    · apply List.ext_getElem
      · rw [List.length_take]
        unfold Go.Sort.putCells
        simp only [Array.length_toList, Array.size_mapIdx]
        have := congrArg List.length ht
        rw [List.length_take, Array.length_toList] at this
        omega
      · intro i h1 h2
        have h3 : i < cur.size := by
          have := congrArg List.length ht
          rw [List.length_take, Array.length_toList] at this
          omega
        rw [List.getElem_take]
        unfold Go.Sort.putCells
        simp only [Array.getElem_toList, Array.getElem_mapIdx, Nat.zero_le, true_and, Nat.zero_add, List.size_toArray, Nat.sub_zero, id]
        rw [if_pos h2, getElem!_pos ys.toArray i (by simpa using h2)]
        simp
    · show w.heap.size ≤ (Array.modify w.heap g (Go.Sort.onCells (Go.Sort.putCells id 0 ys.toArray)) ++ os).size
      simp
    · intro k hk hne
      have hne' : ¬ g = k := fun h => hne (by rw [h])
      show (Array.modify w.heap g (Go.Sort.onCells (Go.Sort.putCells id 0 ys.toArray)) ++ os)[k]? = _
      rw [Array.getElem?_append_left (by simpa using hk), Array.getElem?_modify, if_neg hne']
theorem own_holds {w : World} {base g cap n size : Nat} {e : TypeId} {xs : List Value} (h : w.ownsRow base e size (.slice (some ⟨g, 0, none⟩) n cap) n xs) : Go.Sort.Holds id w g 0 xs.toArray := by
  obtain ⟨hx, h⟩ := h
  rcases h with ⟨h, _⟩ | ⟨g', cap', cur, he, hb, hg, hn, hc, hs, ht⟩
  · simp at h
  · simp only [Value.slice.injEq, Option.some.injEq, Addr.mk.injEq, and_true, true_and] at he
    obtain ⟨rfl, rfl⟩ := he
    intro j hj
    have hj' : j < xs.length := by simpa using hj
    have h3 : j < cur.size := by
      have := congrArg List.length ht
      rw [List.length_take, Array.length_toList] at this
      omega
    refine ⟨?_, by simp [World.frozen?, hg]⟩
    rw [getElem!_pos xs.toArray j hj]
    simp only [World.cell?, hg, Nat.zero_add, Option.isSome_none, Bool.false_eq_true, if_false]
    rw [Array.getElem?_eq_getElem h3]
    subst ht
    simp
theorem holds_enc {α : Type} [Inhabited α] (enc : α → Value) {w : World} {b o : Nat} {d : Array α} (h : Go.Sort.Holds id w b o (d.map enc)) : Go.Sort.Holds enc w b o d := by
  intro j hj
  have := h j (by simpa using hj)
  rw [getElem!_pos (d.map enc) j (by simpa using hj)] at this
  rw [getElem!_pos d j hj]
  simpa using this
/-- A row of whole numbers that is not nil: its block. -/
theorem R_block {d : Kd Int} {e base : Nat} {ok : Nat → Prop} {w : World} {v : Value} {xs : List Int} (h : d.R e w base ok v xs) (hp : 0 < xs.length) : ∃ g cap, v = .slice (some ⟨g, 0, none⟩) xs.length cap ∧ base ≤ g ∧ g < w.heap.size := by
  obtain ⟨g, cap, hv, hb, hlt, _⟩ := Kd.R_form h hp
  exact ⟨g, cap, hv, hb, hlt⟩
theorem R_holds {e base g cap : Nat} {ok : Nat → Prop} {w : World} {xs : List Int} (h : (Kd.int .i64).R e w base ok (.slice (some ⟨g, 0, none⟩) xs.length cap) xs) : Go.Sort.Holds (Value.int .i64) w g 0 xs.toArray := by
  have ho := Kd.own_of_R h
  have h1 := own_holds ho
  refine holds_enc (Value.int .i64) ?_
  simpa [encs] using h1
theorem R_putRow {e base g cap : Nat} {ok : Nat → Prop} {w : World} {xs ys : List Int} (h : (Kd.int .i64).R e w base ok (.slice (some ⟨g, 0, none⟩) xs.length cap) xs) (hl : ys.length = xs.length) (m : Nat) (os : Array Obj) :
    (Kd.int .i64).R e (Go.Sort.grow (Go.Sort.putRow (Value.int .i64) (Go.Sort.ahead w m) g 0 ys.toArray) os) base ok (.slice (some ⟨g, 0, none⟩) ys.length cap) ys ∧ w.grownBy (Go.Sort.grow (Go.Sort.putRow (Value.int .i64) (Go.Sort.ahead w m) g 0 ys.toArray) os) (some g) := by
  have ho := Kd.own_of_R h
  have e1 : (ys.toArray.map (Value.int .i64)) = (ys.map (Value.int .i64)).toArray := by simp
  obtain ⟨h1, h2⟩ := own_putRow (ys := ys.map (Value.int .i64)) ho (by simp [encs, hl]) m os
  rw [putRow_enc, e1]
  refine ⟨Kd.R_of_own ?_ h.1, h2⟩
  rw [hl]
  simpa [encs] using h1

/-! ### given: 22_sort.tpl -/
def Try.lays189_ren : Go.Shelf.Ren := ⟨fun | 189 => 45 | 125 => 64 | 257 => 63 | 128 => 81 | 129 => 82 | 294 => 72 | 295 => 73 | 296 => 74 | 297 => 75 | 298 => 76 | 299 => 77 | 216 => 78 | 300 => 79 | 301 => 80 | 328 => 90 | 329 => 91 | 330 => 92 | 331 => 93 | 332 => 94 | 215 => 95 | 343 => 99 | n => n, fun | 28 => 22 | 3 => 3 | 46 => 65 | 0 => 0 | 51 => 79 | 53 => 81 | 4 => 4 | 183 => 73 | 182 => 72 | 131 => 36 | 5 => 5 | 9 => 9 | 218 => 84 | 222 => 88 | 228 => 92 | 229 => 93 | n => n, fun | n => n⟩
theorem Try.lays189 : Go.Proofs.Lays.n189 Try.prog Try.lays189_ren := {
  mixed := by kernel_rfl
  f125 := Try.func64.trans (congrArg some (by kernel_rfl))
  f128 := Try.func81.trans (congrArg some (by kernel_rfl))
  f129 := Try.func82.trans (congrArg some (by kernel_rfl))
  f189 := Try.func45.trans (congrArg some (by kernel_rfl))
  f215 := Try.func95.trans (congrArg some (by kernel_rfl))
  f216 := Try.func78.trans (congrArg some (by kernel_rfl))
  f257 := Try.func63.trans (congrArg some (by kernel_rfl))
  f294 := Try.func72.trans (congrArg some (by kernel_rfl))
  f295 := Try.func73.trans (congrArg some (by kernel_rfl))
  f296 := Try.func74.trans (congrArg some (by kernel_rfl))
  f297 := Try.func75.trans (congrArg some (by kernel_rfl))
  f298 := Try.func76.trans (congrArg some (by kernel_rfl))
  f299 := Try.func77.trans (congrArg some (by kernel_rfl))
  f300 := Try.func79.trans (congrArg some (by kernel_rfl))
  f301 := Try.func80.trans (congrArg some (by kernel_rfl))
  f328 := Try.func90.trans (congrArg some (by kernel_rfl))
  f329 := Try.func91.trans (congrArg some (by kernel_rfl))
  f330 := Try.func92.trans (congrArg some (by kernel_rfl))
  f331 := Try.func93.trans (congrArg some (by kernel_rfl))
  f332 := Try.func94.trans (congrArg some (by kernel_rfl))
  f343 := Try.func99.trans (congrArg some (by kernel_rfl))
  t0 := Try.underlying0
  a0 := Try.isAgg0
  z0 := Try.sizeOf0
  v0 := Try.zeroValue0
  t3 := Try.underlying3
  a3 := Try.isAgg3
  z3 := Try.sizeOf3
  v3 := Try.zeroValue3
  t4 := Try.underlying4
  a4 := Try.isAgg4
  z4 := Try.sizeOf4
  v4 := Try.zeroValue4
  t5 := Try.underlying5
  a5 := Try.isAgg5
  z5 := Try.sizeOf5
  v5 := Try.zeroValue5
  t9 := Try.underlying9
  a9 := Try.isAgg9
  z9 := Try.sizeOf9
  v9 := Try.zeroValue9
  t28 := Try.underlying22
  a28 := Try.isAgg22
  z28 := Try.sizeOf22
  v28 := Try.zeroValue22
  t46 := Try.underlying65
  a46 := Try.isAgg65
  z46 := Try.sizeOf65
  v46 := Try.zeroValue65
  t51 := Try.underlying79
  a51 := Try.isAgg79
  z51 := Try.sizeOf79
  v51 := Try.zeroValue79
  t53 := Try.underlying81
  a53 := Try.isAgg81
  z53 := Try.sizeOf81
  v53 := Try.zeroValue81
  t131 := Try.underlying36
  a131 := Try.isAgg36
  z131 := Try.sizeOf36
  v131 := Try.zeroValue36
  t182 := Try.underlying72
  a182 := Try.isAgg72
  z182 := Try.sizeOf72
  v182 := Try.zeroValue72
  t183 := Try.underlying73
  a183 := Try.isAgg73
  z183 := Try.sizeOf73
  v183 := Try.zeroValue73
  t218 := Try.underlying84
  a218 := Try.isAgg84
  z218 := Try.sizeOf84
  v218 := Try.zeroValue84
  t222 := Try.underlying88
  a222 := Try.isAgg88
  z222 := Try.sizeOf88
  v222 := Try.zeroValue88
  t228 := Try.underlying92
  a228 := Try.isAgg92
  z228 := Try.sizeOf92
  v228 := Try.zeroValue92
  t229 := Try.underlying93
  a229 := Try.isAgg93
  z229 := Try.sizeOf93
  v229 := Try.zeroValue93 }
/-- The row in order. -/
def slices_Sort_int_int.f (l0 : List Int) : Option (List Int) := if l0.length < 4611686018427387904 then some (l0.mergeSort fun x y => decide (x ≤ y)) else none
theorem slices_Sort_int_int.calls (P0_ : Nat → Prop) (u9000_ : Value) (l0 : List Int) (r : List Int) (w0 w : World) (hB : Below w0.heap.size w0 w) (ho0 : Kd.R (Kd.int .i64) 3 w w0.heap.size P0_ u9000_ l0) (h : slices_Sort_int_int.f l0 = some r) :
    Calls Try.prog 45 #[u9000_] w fun e w' => e = .returned (.tuple #[]) ∧ Kd.R (Kd.int .i64) 3 w' w0.heap.size (fun k_ => (P0_ k_ ∨ w.heap.size ≤ k_)) u9000_ r ∧ Below w0.heap.size w0 w' ∧ Kept w w' (fun k_ => P0_ k_) := by
  unfold slices_Sort_int_int.f at h
  by_cases hsz : l0.length < 4611686018427387904
  · rw [if_pos hsz] at h
    obtain rfl := Option.some.inj h
    clear h
    rcases Nat.eq_zero_or_pos l0.length with hz | hp
    · obtain ⟨A, c, rfl⟩ := Kd.R_slice ho0
      obtain rfl : l0 = [] := List.length_eq_zero_iff.1 hz
      have hc := Go.Proofs.Any.slices_Sort_int_none Try.lays189 A c w
      change Calls Try.prog 45 #[.slice A 0 c] w _ at hc
      refine hc.mono ?_
      rintro e w' ⟨rfl, rfl⟩
      exact ⟨rfl, by simpa using Kd.R_mono ho0 (fun k hk => .inl hk), hB, Kept.refl _ _⟩
    · obtain ⟨g, cap, rfl, hb, hlt⟩ := R_block ho0 hp
      have hc := Go.Proofs.Any.slices_Sort_int Try.lays189 g 0 cap l0 w (R_holds ho0) hlt hsz
      change Calls Try.prog 45 #[.slice (some ⟨g, 0, none⟩) l0.length cap] w _ at hc
      refine hc.mono ?_
      rintro e w' ⟨rfl, n, os, rfl⟩
      have hl : (l0.mergeSort fun x y => decide (x ≤ y)).length = l0.length := by simp
      obtain ⟨h1, h2⟩ := R_putRow ho0 hl n os
      rw [hl] at h1
      exact ⟨rfl, Kd.R_mono h1 (fun k hk => .inl hk), pw_below_grown hB (some g) hB.size h2 (fun k hk => by injection hk with hk; omega), ⟨h2.size, fun i hi hn => h2.block i hi (fun he => hn (by injection he with he; rw [he]; exact ho0.1 g rfl))⟩⟩
  · rw [if_neg hsz] at h; cases h

/-! ### given: 23_compact.tpl -/
def Try.lays2n20_ren : Go.Shelf.Ren := ⟨fun | 20 => 46 | n => n, fun | 22 => 22 | 3 => 3 | 4 => 4 | 0 => 0 | n => n, fun | n => n⟩
theorem Try.lays2n20 : Go.Proofs.Lays2.n20 Try.prog Try.lays2n20_ren := {
  mixed := by kernel_rfl
  f20 := Try.func46.trans (congrArg some (by kernel_rfl))
  t0 := Try.underlying0
  a0 := Try.isAgg0
  z0 := Try.sizeOf0
  v0 := Try.zeroValue0
  t3 := Try.underlying3
  a3 := Try.isAgg3
  z3 := Try.sizeOf3
  v3 := Try.zeroValue3
  t4 := Try.underlying4
  a4 := Try.isAgg4
  z4 := Try.sizeOf4
  v4 := Try.zeroValue4
  t22 := Try.underlying22
  a22 := Try.isAgg22
  z22 := Try.sizeOf22
  v22 := Try.zeroValue22
  i3 := by kernel_rfl }
/-- Of equal ones that stand side by side the first. -/
def slices_Compact_int_int.f (l0 : List Int) : Option (List Int) := some (Go.Lib.compact l0)
theorem compact_le (l : List Int) : (Go.Lib.compact l).length ≤ l.length := by
  unfold Go.Lib.compact Go.Lib.compactUpTo
  rw [List.length_map]
  have := List.length_filter_le (Go.Lib.keeps l.toArray) (List.range l.length)
  simpa using this
theorem slices_Compact_int_int.calls (P0_ : Nat → Prop) (u9000_ : Value) (l0 : List Int) (r : List Int) (w0 w : World) (hB : Below w0.heap.size w0 w) (ho0 : Kd.R (Kd.int .i64) 3 w w0.heap.size P0_ u9000_ l0) (h : slices_Compact_int_int.f l0 = some r) :
    Calls Try.prog 46 #[u9000_] w fun e w' => ∃ v0_ : Value, e = .returned (v0_) ∧ Kd.R (Kd.int .i64) 3 w' w0.heap.size (fun k_ => (P0_ k_ ∨ w.heap.size ≤ k_)) v0_ r ∧ Below w0.heap.size w0 w' ∧ Kept w w' (fun k_ => P0_ k_) := by
  obtain rfl := Option.some.inj h
  clear h
  rcases Nat.eq_zero_or_pos l0.length with hz | hp
  · obtain ⟨A, c, rfl⟩ := Kd.R_slice ho0
    obtain rfl : l0 = [] := List.length_eq_zero_iff.1 hz
    have hc := Go.Proofs.Any.slices_Compact_int_empty Try.lays2n20 A c w
    change Calls Try.prog 46 #[.slice A 0 c] w _ at hc
    refine hc.mono ?_
    rintro e w' ⟨rfl, rfl⟩
    exact ⟨_, rfl, Kd.R_mono ho0 (fun k hk => .inl hk), hB, Kept.refl _ _⟩
  · obtain ⟨g, cap, rfl, hb, hlt⟩ := R_block ho0 hp
    have hm := Kd.R_reads' ho0
    have hc := Go.Proofs.Any.slices_Compact_int Try.lays2n20 g 0 cap l0 w (R_holds ho0) (Kd.C_max hm.2.2) hm.2.1
    change Calls Try.prog 46 #[.slice (some ⟨g, 0, none⟩) l0.length cap] w _ at hc
    refine hc.mono ?_
    rintro e w' ⟨rfl, n, rfl⟩
    have hle := compact_le l0
    have hl : (Go.Lib.compact l0 ++ List.replicate (l0.length - (Go.Lib.compact l0).length) 0).length = l0.length := by simp; omega
    obtain ⟨h1, h2⟩ := R_putRow ho0 hl n #[]
    rw [Go.Sort.grow_empty] at h1 h2
    have h3 := Kd.R_take h1 (m := (Go.Lib.compact l0).length) (by rw [hl]; exact hle)
    rw [List.take_left] at h3
    exact ⟨_, rfl, Kd.R_mono h3 (fun k hk => .inl hk), pw_below_grown hB (some g) hB.size h2 (fun k hk => by injection hk with hk; omega), ⟨h2.size, fun i hi hn => h2.block i hi (fun he => hn (by injection he with he; rw [he]; exact ho0.1 g rfl))⟩⟩

end Go.Proofs.Ytejchneeheeldaa.P
