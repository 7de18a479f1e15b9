/- A part of this seat's proofs: contracts of the translated functions, written by the session's own program (gp.py) out of the kit's print.py and the session's own contracts; no conditions of its own. -/
import Derived.Test.YtejchneeheeldaaPx0
namespace Go.Proofs.Ytejchneeheeldaa.P
open Go.RowKit Go.Proofs.YtejchneeheeldaaW.PrintWords Go.Proofs.YtejchneeheeldaaW.PrintLast Go.Proofs.YtejchneeheeldaaW.PrintMore
attribute [local go_sem] max2_int min2_int max_two min_two max_three min_three max_four min_four   -- for this text's walks alone
set_option linter.unusedVariables false
set_option linter.unusedSimpArgs false

/-! ### given: 20_rows.tpl -/
/-! rows of the call's own, laid anew by a contract of the shelf ('putRow') -/
theorem putRow_enc {α : Type} [Inhabited α] (enc : α → Value) (w : World) (b o : Nat) (d : Array α) : Go.Sort.putRow enc w b o d = Go.Sort.putRow id w b o (d.map enc) := by
  unfold Go.Sort.putRow
  congr 1
  funext c
  unfold Go.Sort.putCells
  congr 1
  funext k x
  rw [Array.size_map]
  by_cases h : o ≤ k ∧ k < o + d.size
  · have h2 : k - o < d.size := by omega
    rw [if_pos h, if_pos h, getElem!_pos d _ h2, getElem!_pos (d.map enc) _ (by simpa using h2)]
    simp
  · rw [if_neg h, if_neg h]
theorem own_putRow {w : World} {base g cap n size : Nat} {e : TypeId} {xs ys : List Value} (h : w.ownsRow base e size (.slice (some ⟨g, 0, none⟩) n cap) n xs) (hl : ys.length = xs.length) (m : Nat) (os : Array Obj) :
    (Go.Sort.grow (Go.Sort.putRow id (Go.Sort.ahead w m) g 0 ys.toArray) os).ownsRow base e size (.slice (some ⟨g, 0, none⟩) n cap) n ys ∧ w.grownBy (Go.Sort.grow (Go.Sort.putRow id (Go.Sort.ahead w m) g 0 ys.toArray) os) (some g) := by
  obtain ⟨hx, h⟩ := h
  rcases h with ⟨h, _⟩ | ⟨g', cap', cur, he, hb, hg, hn, hc, hs, ht⟩
  · simp at h
  · simp only [Value.slice.injEq, Option.some.injEq, Addr.mk.injEq, and_true, true_and] at he
    obtain ⟨rfl, rfl⟩ := he
    have hlt : g < w.heap.size := (Array.getElem?_eq_some_iff.1 hg).1
    refine ⟨⟨by omega, .inr ⟨g, cap, Go.Sort.putCells id 0 ys.toArray cur, rfl, hb, ?_, hn, hc, ?_, ?_⟩⟩, ⟨rfl, rfl, rfl, ?_, ?_⟩⟩
    · show (Array.modify w.heap g (Go.Sort.onCells (Go.Sort.putCells id 0 ys.toArray)) ++ os)[g]? = _
      rw [Array.getElem?_append_left (by simpa using hlt), Array.getElem?_modify, if_pos rfl, hg]
      rfl
    · unfold Go.Sort.putCells; simp [hs]
    · apply List.ext_getElem
      · rw [List.length_take]
        unfold Go.Sort.putCells
        simp only [Array.length_toList, Array.size_mapIdx]
        have := congrArg List.length ht
        rw [List.length_take, Array.length_toList] at this
        omega
      · intro i h1 h2
        have h3 : i < cur.size := by
          have := congrArg List.length ht
          rw [List.length_take, Array.length_toList] at this
          omega
        rw [List.getElem_take]
        unfold Go.Sort.putCells
        simp only [Array.getElem_toList, Array.getElem_mapIdx, Nat.zero_le, true_and, Nat.zero_add, List.size_toArray, Nat.sub_zero, id]
        rw [if_pos h2, getElem!_pos ys.toArray i (by simpa using h2)]
        simp
    · show w.heap.size ≤ (Array.modify w.heap g (Go.Sort.onCells (Go.Sort.putCells id 0 ys.toArray)) ++ os).size
      simp
    · intro k hk hne
      have hne' : ¬ g = k := fun h => hne (by rw [h])
      show (Array.modify w.heap g (Go.Sort.onCells (Go.Sort.putCells id 0 ys.toArray)) ++ os)[k]? = _
      rw [Array.getElem?_append_left (by simpa using hk), Array.getElem?_modify, if_neg hne']
theorem own_holds {w : World} {base g cap n size : Nat} {e : TypeId} {xs : List Value} (h : w.ownsRow base e size (.slice (some ⟨g, 0, none⟩) n cap) n xs) : Go.Sort.Holds id w g 0 xs.toArray := by
  obtain ⟨hx, h⟩ := h
  rcases h with ⟨h, _⟩ | ⟨g', cap', cur, he, hb, hg, hn, hc, hs, ht⟩
  · simp at h
  · simp only [Value.slice.injEq, Option.some.injEq, Addr.mk.injEq, and_true, true_and] at he
    obtain ⟨rfl, rfl⟩ := he
    intro j hj
    have hj' : j < xs.length := by simpa using hj
    have h3 : j < cur.size := by
      have := congrArg List.length ht
      rw [List.length_take, Array.length_toList] at this
      omega
    refine ⟨?_, by simp [World.frozen?, hg]⟩
    rw [getElem!_pos xs.toArray j hj]
    simp only [World.cell?, hg, Nat.zero_add, Option.isSome_none, Bool.false_eq_true, if_false]
    rw [Array.getElem?_eq_getElem h3]
    subst ht
    simp
theorem holds_enc {α : Type} [Inhabited α] (enc : α → Value) {w : World} {b o : Nat} {d : Array α} (h : Go.Sort.Holds id w b o (d.map enc)) : Go.Sort.Holds enc w b o d := by
  intro j hj
  have := h j (by simpa using hj)
  rw [getElem!_pos (d.map enc) j (by simpa using hj)] at this
  rw [getElem!_pos d j hj]
  simpa using this
/-- A row of whole numbers that is not nil: its block. -/
theorem R_block {d : Kd Int} {e base : Nat} {ok : Nat → Prop} {w : World} {v : Value} {xs : List Int} (h : d.R e w base ok v xs) (hp : 0 < xs.length) : ∃ g cap, v = .slice (some ⟨g, 0, none⟩) xs.length cap ∧ base ≤ g ∧ g < w.heap.size := by
  obtain ⟨g, cap, hv, hb, hlt, _⟩ := Kd.R_form h hp
  exact ⟨g, cap, hv, hb, hlt⟩
theorem R_holds {e base g cap : Nat} {ok : Nat → Prop} {w : World} {xs : List Int} (h : (Kd.int .i64).R e w base ok (.slice (some ⟨g, 0, none⟩) xs.length cap) xs) : Go.Sort.Holds (Value.int .i64) w g 0 xs.toArray := by
  have ho := Kd.own_of_R h
  have h1 := own_holds ho
  refine holds_enc (Value.int .i64) ?_
  simpa [encs] using h1
theorem R_putRow {e base g cap : Nat} {ok : Nat → Prop} {w : World} {xs ys : List Int} (h : (Kd.int .i64).R e w base ok (.slice (some ⟨g, 0, none⟩) xs.length cap) xs) (hl : ys.length = xs.length) (m : Nat) (os : Array Obj) :
    (Kd.int .i64).R e (Go.Sort.grow (Go.Sort.putRow (Value.int .i64) (Go.Sort.ahead w m) g 0 ys.toArray) os) base ok (.slice (some ⟨g, 0, none⟩) ys.length cap) ys ∧ w.grownBy (Go.Sort.grow (Go.Sort.putRow (Value.int .i64) (Go.Sort.ahead w m) g 0 ys.toArray) os) (some g) := by
  have ho := Kd.own_of_R h
  have e1 : (ys.toArray.map (Value.int .i64)) = (ys.map (Value.int .i64)).toArray := by simp
  obtain ⟨h1, h2⟩ := own_putRow (ys := ys.map (Value.int .i64)) ho (by simp [encs, hl]) m os
  rw [putRow_enc, e1]
  refine ⟨Kd.R_of_own ?_ h.1, h2⟩
  rw [hl]
  simpa [encs] using h1

/-! ### given: 22_sort.tpl -/
shelf_lay Lays.n189 Nm 189 at Try as Try.lays189
/-- The row in order. -/
def slices_Sort_int_int.f (l0 : List Int) : Option (List Int) := if l0.length < 4611686018427387904 then some (l0.mergeSort fun x y => decide (x ≤ y)) else none
theorem slices_Sort_int_int.calls (P0_ : Nat → Prop) (u9000_ : Value) (l0 : List Int) (r : List Int) (w0 w : World) (hB : Below w0.heap.size w0 w) (ho0 : Kd.R (Kd.int .i64) 3 w w0.heap.size P0_ u9000_ l0) (h : slices_Sort_int_int.f l0 = some r) :
    Calls Try.prog 45 #[u9000_] w fun e w' => e = .returned (.tuple #[]) ∧ Kd.R (Kd.int .i64) 3 w' w0.heap.size (fun k_ => (P0_ k_ ∨ w.heap.size ≤ k_)) u9000_ r ∧ Below w0.heap.size w0 w' ∧ Kept w w' (fun k_ => P0_ k_) := by
  unfold slices_Sort_int_int.f at h
  by_cases hsz : l0.length < 4611686018427387904
  · rw [if_pos hsz] at h
    obtain rfl := Option.some.inj h
    clear h
    rcases Nat.eq_zero_or_pos l0.length with hz | hp
    · obtain ⟨A, c, rfl⟩ := Kd.R_slice ho0
      obtain rfl : l0 = [] := List.length_eq_zero_iff.1 hz
      have hc := Go.Proofs.Any.slices_Sort_int_none Try.lays189 A c w
      change Calls Try.prog 45 #[.slice A 0 c] w _ at hc
      refine hc.mono ?_
      rintro e w' ⟨rfl, rfl⟩
      exact ⟨rfl, by simpa using Kd.R_mono ho0 (fun k hk => .inl hk), hB, Kept.refl _ _⟩
    · obtain ⟨g, cap, rfl, hb, hlt⟩ := R_block ho0 hp
      have hc := Go.Proofs.Any.slices_Sort_int Try.lays189 g 0 cap l0 w (R_holds ho0) hlt hsz
      change Calls Try.prog 45 #[.slice (some ⟨g, 0, none⟩) l0.length cap] w _ at hc
      refine hc.mono ?_
      rintro e w' ⟨rfl, n, os, rfl⟩
      have hl : (l0.mergeSort fun x y => decide (x ≤ y)).length = l0.length := by simp
      obtain ⟨h1, h2⟩ := R_putRow ho0 hl n os
      rw [hl] at h1
      exact ⟨rfl, Kd.R_mono h1 (fun k hk => .inl hk), pw_below_grown hB (some g) hB.size h2 (fun k hk => by injection hk with hk; omega), ⟨h2.size, fun i hi hn => h2.block i hi (fun he => hn (by injection he with he; rw [he]; exact ho0.1 g rfl))⟩⟩
  · rw [if_neg hsz] at h; cases h

/-! ### given: 23_compact.tpl -/
shelf_lay Lays2.n20 Nm2 20 at Try as Try.lays2n20
/-- Of equal ones that stand side by side the first. -/
def slices_Compact_int_int.f (l0 : List Int) : Option (List Int) := some (Go.Lib.compact l0)
theorem compact_le (l : List Int) : (Go.Lib.compact l).length ≤ l.length := by
  unfold Go.Lib.compact Go.Lib.compactUpTo
  rw [List.length_map]
  have := List.length_filter_le (Go.Lib.keeps l.toArray) (List.range l.length)
  simpa using this
theorem slices_Compact_int_int.calls (P0_ : Nat → Prop) (u9000_ : Value) (l0 : List Int) (r : List Int) (w0 w : World) (hB : Below w0.heap.size w0 w) (ho0 : Kd.R (Kd.int .i64) 3 w w0.heap.size P0_ u9000_ l0) (h : slices_Compact_int_int.f l0 = some r) :
    Calls Try.prog 46 #[u9000_] w fun e w' => ∃ v0_ : Value, e = .returned (v0_) ∧ Kd.R (Kd.int .i64) 3 w' w0.heap.size (fun k_ => (P0_ k_ ∨ w.heap.size ≤ k_)) v0_ r ∧ Below w0.heap.size w0 w' ∧ Kept w w' (fun k_ => P0_ k_) := by
  obtain rfl := Option.some.inj h
  clear h
  rcases Nat.eq_zero_or_pos l0.length with hz | hp
  · obtain ⟨A, c, rfl⟩ := Kd.R_slice ho0
    obtain rfl : l0 = [] := List.length_eq_zero_iff.1 hz
    have hc := Go.Proofs.Any.slices_Compact_int_empty Try.lays2n20 A c w
    change Calls Try.prog 46 #[.slice A 0 c] w _ at hc
    refine hc.mono ?_
    rintro e w' ⟨rfl, rfl⟩
    exact ⟨_, rfl, Kd.R_mono ho0 (fun k hk => .inl hk), hB, Kept.refl _ _⟩
  · obtain ⟨g, cap, rfl, hb, hlt⟩ := R_block ho0 hp
    have hm := Kd.R_reads' ho0
    have hc := Go.Proofs.Any.slices_Compact_int Try.lays2n20 g 0 cap l0 w (R_holds ho0) (Kd.C_max hm.2.2) hm.2.1
    change Calls Try.prog 46 #[.slice (some ⟨g, 0, none⟩) l0.length cap] w _ at hc
    refine hc.mono ?_
    rintro e w' ⟨rfl, n, rfl⟩
    have hle := compact_le l0
    have hl : (Go.Lib.compact l0 ++ List.replicate (l0.length - (Go.Lib.compact l0).length) 0).length = l0.length := by simp; omega
    obtain ⟨h1, h2⟩ := R_putRow ho0 hl n #[]
    rw [Go.Sort.grow_empty] at h1 h2
    have h3 := Kd.R_take h1 (m := (Go.Lib.compact l0).length) (by rw [hl]; exact hle)
    rw [List.take_left] at h3
    exact ⟨_, rfl, Kd.R_mono h3 (fun k hk => .inl hk), pw_below_grown hB (some g) hB.size h2 (fun k hk => by injection hk with hk; omega), ⟨h2.size, fun i hi hn => h2.block i hi (fun he => hn (by injection he with he; rw [he]; exact ho0.1 g rfl))⟩⟩

end Go.Proofs.Ytejchneeheeldaa.P
