/- A part of this seat's proofs: contracts of the translated functions, written by the session's own program (gp.py) out of the kit's print.py and the session's own contracts; no conditions of its own. -/
import Derived.Test.YtafbnilpipcjfaaPx0
namespace Go.Proofs.Ytafbnilpipcjfaa.P
open Go.RowKit Go.Proofs.YtafbnilpipcjfaaW.PrintWords Go.Proofs.YtafbnilpipcjfaaW.PrintLast Go.Proofs.YtafbnilpipcjfaaW.PrintMore
attribute [local go_sem] max2_int min2_int max_two min_two max_three min_three max_four min_four   -- for this text's walks alone
set_option linter.unusedVariables false
set_option linter.unusedSimpArgs false

-- NOT PRINTED: function 77 (impl_Thread_77)

-- NOT PRINTED: function 68 (impl_Thread_68)

-- NOT PRINTED: function 49 (impl_Thread_49)

/-! ### given: 20_rows.tpl -/
/-! rows of the call's own, laid anew by a contract of the shelf ('putRow') -/
theorem putRow_enc {α : Type} [Inhabited α] (enc : α → Value) (w : World) (b o : Nat) (d : Array α) : Go.Sort.putRow enc w b o d = Go.Sort.putRow id w b o (d.map enc) := by
  unfold Go.Sort.putRow
  congr 1
  funext c
  unfold Go.Sort.putCells
  congr 1
  funext k x
  rw [Array.size_map]
  by_cases h : o ≤ k ∧ k < o + d.size
  · have h2 : k - o < d.size := by omega
    rw [if_pos h, if_pos h, getElem!_pos d _ h2, getElem!_pos (d.map enc) _ (by simpa using h2)]
    simp
  · rw [if_neg h, if_neg h]
theorem own_putRow {w : World} {base g cap n size : Nat} {e : TypeId} {xs ys : List Value} (h : w.ownsRow base e size (.slice (some ⟨g, 0, none⟩) n cap) n xs) (hl : ys.length = xs.length) (m : Nat) (os : Array Obj) :
    (Go.Sort.grow (Go.Sort.putRow id (Go.Sort.ahead w m) g 0 ys.toArray) os).ownsRow base e size (.slice (some ⟨g, 0, none⟩) n cap) n ys ∧ w.grownBy (Go.Sort.grow (Go.Sort.putRow id (Go.Sort.ahead w m) g 0 ys.toArray) os) (some g) := by
  obtain ⟨hx, h⟩ := h
  rcases h with ⟨h, _⟩ | ⟨g', cap', cur, he, hb, hg, hn, hc, hs, ht⟩
  · simp at h
  · simp only [Value.slice.injEq, Option.some.injEq, Addr.mk.injEq, and_true, true_and] at he
    obtain ⟨rfl, rfl⟩ := he
    have hlt : g < w.heap.size := (Array.getElem?_eq_some_iff.1 hg).1
    refine ⟨⟨by omega, .inr ⟨g, cap, Go.Sort.putCells id 0 ys.toArray cur, rfl, hb, ?_, hn, hc, ?_, ?_⟩⟩, ⟨rfl, rfl, rfl, ?_, ?_⟩⟩
    · show (Array.modify w.heap g (Go.Sort.onCells (Go.Sort.putCells id 0 ys.toArray)) ++ os)[g]? = _
      rw [Array.getElem?_append_left (by simpa using hlt), Array.getElem?_modify, if_pos rfl, hg]
      rfl
    · unfold Go.Sort.putCells; simp [hs]
    · apply List.ext_getElem
      · rw [List.length_take]
        unfold Go.Sort.putCells
        simp only [Array.length_toList, Array.size_mapIdx]
        have := congrArg List.length ht
        rw [List.length_take, Array.length_toList] at this
        omega
      · intro i h1 h2
        have h3 : i < cur.size := by
          have := congrArg List.length ht
          rw [List.length_take, Array.length_toList] at this
          omega
        rw [List.getElem_take]
        unfold Go.Sort.putCells
        simp only [Array.getElem_toList, Array.getElem_mapIdx, Nat.zero_le, true_and, Nat.zero_add, List.size_toArray, Nat.sub_zero, id]
        rw [if_pos h2, getElem!_pos ys.toArray i (by simpa using h2)]
        simp
    · show w.heap.size ≤ (Array.modify w.heap g (Go.Sort.onCells (Go.Sort.putCells id 0 ys.toArray)) ++ os).size
      simp
    · intro k hk hne
      have hne' : ¬ g = k := fun h => hne (by rw [h])
      show (Array.modify w.heap g (Go.Sort.onCells (Go.Sort.putCells id 0 ys.toArray)) ++ os)[k]? = _
      rw [Array.getElem?_append_left (by simpa using hk), Array.getElem?_modify, if_neg hne']
theorem own_holds {w : World} {base g cap n size : Nat} {e : TypeId} {xs : List Value} (h : w.ownsRow base e size (.slice (some ⟨g, 0, none⟩) n cap) n xs) : Go.Sort.Holds id w g 0 xs.toArray := by
  obtain ⟨hx, h⟩ := h
  rcases h with ⟨h, _⟩ | ⟨g', cap', cur, he, hb, hg, hn, hc, hs, ht⟩
  · simp at h
  · simp only [Value.slice.injEq, Option.some.injEq, Addr.mk.injEq, and_true, true_and] at he
    obtain ⟨rfl, rfl⟩ := he
    intro j hj
    have hj' : j < xs.length := by simpa using hj
    have h3 : j < cur.size := by
      have := congrArg List.length ht
      rw [List.length_take, Array.length_toList] at this
      omega
    refine ⟨?_, by simp [World.frozen?, hg]⟩
    rw [getElem!_pos xs.toArray j hj]
    simp only [World.cell?, hg, Nat.zero_add, Option.isSome_none, Bool.false_eq_true, if_false]
    rw [Array.getElem?_eq_getElem h3]
    subst ht
    simp
theorem holds_enc {α : Type} [Inhabited α] (enc : α → Value) {w : World} {b o : Nat} {d : Array α} (h : Go.Sort.Holds id w b o (d.map enc)) : Go.Sort.Holds enc w b o d := by
  intro j hj
  have := h j (by simpa using hj)
  rw [getElem!_pos (d.map enc) j (by simpa using hj)] at this
  rw [getElem!_pos d j hj]
  simpa using this
/-- A row of whole numbers that is not nil: its block. -/
theorem R_block {d : Kd Int} {e base : Nat} {ok : Nat → Prop} {w : World} {v : Value} {xs : List Int} (h : d.R e w base ok v xs) (hp : 0 < xs.length) : ∃ g cap, v = .slice (some ⟨g, 0, none⟩) xs.length cap ∧ base ≤ g ∧ g < w.heap.size := by
  obtain ⟨g, cap, hv, hb, hlt, _⟩ := Kd.R_form h hp
  exact ⟨g, cap, hv, hb, hlt⟩
theorem R_holds {e base g cap : Nat} {ok : Nat → Prop} {w : World} {xs : List Int} (h : (Kd.int .i64).R e w base ok (.slice (some ⟨g, 0, none⟩) xs.length cap) xs) : Go.Sort.Holds (Value.int .i64) w g 0 xs.toArray := by
  have ho := Kd.own_of_R h
  have h1 := own_holds ho
  refine holds_enc (Value.int .i64) ?_
  simpa [encs] using h1
theorem R_putRow {e base g cap : Nat} {ok : Nat → Prop} {w : World} {xs ys : List Int} (h : (Kd.int .i64).R e w base ok (.slice (some ⟨g, 0, none⟩) xs.length cap) xs) (hl : ys.length = xs.length) (m : Nat) (os : Array Obj) :
    (Kd.int .i64).R e (Go.Sort.grow (Go.Sort.putRow (Value.int .i64) (Go.Sort.ahead w m) g 0 ys.toArray) os) base ok (.slice (some ⟨g, 0, none⟩) ys.length cap) ys ∧ w.grownBy (Go.Sort.grow (Go.Sort.putRow (Value.int .i64) (Go.Sort.ahead w m) g 0 ys.toArray) os) (some g) := by
  have ho := Kd.own_of_R h
  have e1 : (ys.toArray.map (Value.int .i64)) = (ys.map (Value.int .i64)).toArray := by simp
  obtain ⟨h1, h2⟩ := own_putRow (ys := ys.map (Value.int .i64)) ho (by simp [encs, hl]) m os
  rw [putRow_enc, e1]
  refine ⟨Kd.R_of_own ?_ h.1, h2⟩
  rw [hl]
  simpa [encs] using h1

/-! ### given: 25_rowsK.tpl -/
/-! rows of structs of the call's own, laid anew by a contract of the shelf ('putRowK') -/
section
open Go.Sort
variable {α : Type} [Inhabited α] {enc : α → List Value} {k : Nat}
theorem reps_flat (hk : ∀ x, (enc x).length = k) {xs : List α} {cs : List Value} (h : Reps (fun x c => c = enc x) k xs cs) : cs.toArray = flatK enc k xs.toArray := by
  apply Array.ext
  · rw [size_flatK]; simp [h.1]
  · intro t h1 h2
    have ht : t < xs.length * k := by rw [size_flatK] at h2; simpa using h2
    have k0 : 0 < k := by rcases Nat.eq_zero_or_pos k with e | e; · subst e; simp at ht
                          · exact e
    have hj : t / k < xs.length := Nat.div_lt_of_lt_mul (by rw [Nat.mul_comm]; exact ht)
    have hr := h.2 (t / k) _ (List.getElem?_eq_getElem hj)
    have hm := Nat.mod_lt t k0
    have e1 := get_flatK enc k xs.toArray t (by simpa using ht)
    rw [getElem!_pos _ t h2] at e1
    rw [e1]
    rw [getElem!_pos xs.toArray (t / k) (by simpa using hj)]
    simp only [List.getElem_toArray]
    rw [← hr]
    have hl : t % k < ((cs.drop (t / k * k)).take k).length := by rw [hr, hk]; exact hm
    rw [getElem!_pos _ (t % k) hl, List.getElem_take, List.getElem_drop]
    congr 1
    have := Nat.div_add_mod t k
    rw [Nat.mul_comm] at this
    exact this.symm
theorem flat_reps (hk : ∀ x, (enc x).length = k) (xs : List α) : Reps (fun x c => c = enc x) k xs (flatK enc k xs.toArray).toList := by
  refine ⟨by simp, fun j p hj => ?_⟩
  obtain ⟨hjl, rfl⟩ := List.getElem?_eq_some_iff.1 hj
  have hle : j * k + k ≤ xs.length * k := by rw [← Nat.succ_mul]; exact Nat.mul_le_mul_right k hjl
  apply List.ext_getElem
  · simp [hk]; omega
  · intro i h1 h2
    have hi : i < k := by rw [hk] at h2; exact h2
    rw [List.getElem_take, List.getElem_drop, Array.getElem_toList]
    have e1 := get_flatK enc k xs.toArray (j * k + i) (by simp; omega)
    rw [getElem!_pos _ (j * k + i) (by rw [size_flatK]; simp; omega)] at e1
    rw [e1]
    have d1 : (j * k + i) / k = j := by rw [Nat.mul_comm, Nat.mul_add_div (by omega), Nat.div_eq_of_lt hi, Nat.add_zero]
    have d2 : (j * k + i) % k = i := by rw [Nat.mul_comm, Nat.mul_add_mod, Nat.mod_eq_of_lt hi]
    rw [d1, d2, getElem!_pos xs.toArray j (by simpa using hjl)]
    simp only [List.getElem_toArray]
    rw [getElem!_pos _ i h2]
variable {d : Kd α} {e base g cap : Nat} {ok : Nat → Prop} {w : World} {xs ys : List α}
theorem RK_holds (hs : d.sz = k) (hk : ∀ x, (enc x).length = k) (hM : ∀ w base ok x cs, d.M w base ok x cs → cs = enc x) (h : d.R e w base ok (.slice (some ⟨g, 0, none⟩) xs.length cap) xs) : HoldsK enc k w g 0 xs.toArray := by
  obtain ⟨_, inner, ho, hr⟩ := h
  rw [hs] at ho hr
  have h1 := own_holds ho
  rw [reps_flat hk (hr.imp_ (fun _ _ hp => hM _ _ _ _ _ hp))] at h1
  exact h1
theorem RK_putRow (hs : d.sz = k) (hk : ∀ x, (enc x).length = k) (hM : ∀ w base ok x cs, cs = enc x → d.M w base ok x cs) (h : d.R e w base ok (.slice (some ⟨g, 0, none⟩) xs.length cap) xs) (hl : ys.length = xs.length) (m : Nat) (os : Array Obj) :
    d.R e (grow (putRowK enc k (Go.Sort.ahead w m) g 0 ys.toArray) os) base ok (.slice (some ⟨g, 0, none⟩) ys.length cap) ys ∧ w.grownBy (grow (putRowK enc k (Go.Sort.ahead w m) g 0 ys.toArray) os) (some g) := by
  obtain ⟨h0, inner, ho, hr⟩ := h
  rw [hs] at ho hr
  have hlen : (flatK enc k ys.toArray).toList.length = inner.length := by
    rw [hr.1]; simp [hl]
  obtain ⟨h1, h2⟩ := own_putRow (ys := (flatK enc k ys.toArray).toList) ho hlen m os
  rw [Array.toArray_toList] at h1 h2
  refine ⟨⟨h0, (flatK enc k ys.toArray).toList, ?_, ?_⟩, h2⟩
  · rw [hs, hl]; exact h1
  · rw [hs]; exact (flat_reps hk ys).imp_ (fun _ _ hp => hM _ _ _ _ _ hp)
theorem RK_block {β : Type} {d : Kd β} {e base g cap : Nat} {ok : Nat → Prop} {w : World} {xs : List β} (h : d.R e w base ok (.slice (some ⟨g, 0, none⟩) xs.length cap) xs) : base ≤ g ∧ g < w.heap.size := by
  obtain ⟨_, inner, ho, _⟩ := h
  exact ⟨own_base ho g rfl, own_lt ho g rfl⟩
end

/-! ### given: 28a_clone.tpl -/
def Try.cloneThr_ren : Go.Shelf.Ren := ⟨fun | 41 => 40 | n => n, fun | 22 => 27 | 23 => 38 | 4 => 4 | n => n, fun | n => n⟩
theorem Try.cloneThr : Go.Proofs.SlLaysE0.n41 Try.prog Try.cloneThr_ren := {
  mixed := by kernel_rfl
  f41 := ⟨Try.f40.name, by decide, Try.func40.trans (congrArg some (by kernel_rfl))⟩
  t4 := Try.underlying4
  a4 := Try.isAgg4
  z4 := Try.sizeOf4
  v4 := Try.zeroValue4
  t22 := Try.underlying27
  a22 := Try.isAgg27
  z22 := Try.sizeOf27
  v22 := Try.zeroValue27 }
instance instThr0 : Inhabited S38 := ⟨z38⟩
def encTH (x : S38) : List Value := [.int .i64 x.f0, .int .i64 x.f1]
theorem flat_one {l0 : List S38} : ∀ u ∈ (Go.Sort.flatK encTH 2 l0.toArray).toList, u.oneCell' = true := by
  intro u hu
  have hfl := flat_reps (enc := encTH) (k := 2) (fun _ => rfl) l0
  obtain ⟨j, hj, rfl⟩ := List.getElem_of_mem hu
  have hj1 := hj
  rw [hfl.1] at hj1
  have hj2 : j / 2 < l0.length := by omega
  have h1 := hfl.2 (j / 2) _ (List.getElem?_eq_getElem hj2)
  have h2 : (((Go.Sort.flatK encTH 2 l0.toArray).toList.drop (j / 2 * 2)).take 2)[j % 2]? = some ((Go.Sort.flatK encTH 2 l0.toArray).toList[j]) := by
    rw [List.getElem?_take_of_lt (by omega), List.getElem?_drop, show j / 2 * 2 + j % 2 = j by omega]
    exact List.getElem?_eq_getElem hj
  rw [h1] at h2
  have hm : j % 2 = 0 ∨ j % 2 = 1 := by omega
  rcases hm with hm | hm <;> rw [hm] at h2 <;> simp only [encTH, List.getElem?_cons_zero, List.getElem?_cons_succ, Option.some.injEq] at h2 <;> rw [← h2] <;> rfl
/-- slices.Clone of threads: a row of the call's own. -/
theorem slices_CloneT.own (A0 : Option Addr) (c0 : Nat) (l0 : List S38) (w : World) (hr0 : Kd.C k38 w A0 l0.length l0) (hp : 0 < l0.length) (hsz : l0.length * 16 ≤ 140737488351232) :
    Calls Try.prog 40 #[.slice A0 l0.length c0] w fun e w' => ∃ g cap, e = .returned (.slice (some ⟨g, 0, none⟩) l0.length cap) ∧ w'.ownsRow w.heap.size 38 2 (.slice (some ⟨g, 0, none⟩) l0.length cap) l0.length (Go.Sort.flatK encTH 2 l0.toArray).toList ∧ Below w.heap.size w w' := by
  have hmax := Kd.C_max hr0
  obtain ⟨_, _, hr⟩ := hr0
  obtain ⟨⟨b, off, sp⟩, rfl, hcell⟩ := hr hp
  have hall : ∀ j p, l0[j]? = some p → ∀ i u, (encTH p)[i]? = some u → w.cell? ((⟨b, off, sp⟩ : Addr).add (j * 2 + i)) = some u := by
    intro j p hj i u hu
    obtain ⟨c, _, hK, hc⟩ := hcell j p hj
    obtain rfl := k38_open hK
    exact hc i u hu
  have hsp : sp = none := by
    have h0 := hall 0 _ (List.getElem?_eq_getElem hp) 0 _ rfl
    have e : (⟨b, off, sp⟩ : Addr).add (0 * 2 + 0) = ⟨b, off, sp⟩ := by unfold Addr.add; simp
    rw [e] at h0
    cases sp with
    | none => rfl
    | some s => 
      exfalso
      simp only [World.cell?, Option.isSome_some, if_true] at h0
      split at h0 <;> simp at h0
  subst hsp
  have hfl := flat_reps (enc := encTH) (k := 2) (fun _ => rfl) l0
  have hc : ∀ j u, (Go.Sort.flatK encTH 2 l0.toArray).toList[j]? = some u → w.cell? ⟨b, off + j, none⟩ = some u := by
    intro j u hu
    obtain ⟨hj, hu'⟩ := List.getElem?_eq_some_iff.1 hu
    rw [hfl.1] at hj
    have hj2 : j / 2 < l0.length := by omega
    have h1 := hfl.2 (j / 2) _ (List.getElem?_eq_getElem hj2)
    have h2 : (((Go.Sort.flatK encTH 2 l0.toArray).toList.drop (j / 2 * 2)).take 2)[j % 2]? = some u := by
      rw [List.getElem?_take_of_lt (by omega), List.getElem?_drop, show j / 2 * 2 + j % 2 = j by omega]
      exact hu
    rw [h1] at h2
    have h3 := hall (j / 2) _ (List.getElem?_eq_getElem hj2) (j % 2) u h2
    rw [show j / 2 * 2 + j % 2 = j by omega, Go.Proofs.YtafbnilpipcjfaaW.PrintWords.add_at] at h3
    exact h3
  obtain ⟨i0, hi0, hz0, hz1, hz2⟩ : ∃ i0 : TypeInfo, Try.prog.info? 38 = some i0 ∧ i0.zero = some (.agg #[(.int .i64 0), (.int .i64 0)]) ∧ i0.size = 2 ∧ i0.bytes = 16 := by
    have h : (Try.prog.info? 38).map (fun i => (i.zero, i.size, i.bytes)) = some (some (.agg #[(.int .i64 0), (.int .i64 0)]), 2, 16) := by kernel_rfl
    obtain ⟨i0, h0, h1⟩ := Option.map_eq_some_iff.1 h
    exact ⟨i0, h0, congrArg (fun x => x.1) h1, congrArg (fun x => x.2.1) h1, congrArg (fun x => x.2.2) h1⟩
  have hcon := Go.Proofs.AnyE.slices_Clone Try.cloneThr i0 _ 2 16 hi0 hz0 hz1 hz2 rfl (by omega) Try.sizeOf38 b off l0.length c0 (Go.Sort.flatK encTH 2 l0.toArray).toList w hfl.1 (by unfold maxLen; omega) (by omega) hc
    flat_one
  change Calls Try.prog 40 #[.slice (some ⟨b, off, none⟩) l0.length c0] w _ at hcon
  refine hcon.mono ?_
  rintro e w' ⟨v', rfl, ho, _, hb⟩
  have ho' := ho
  obtain ⟨_, hrest⟩ := ho'
  rcases hrest with ⟨_, h⟩ | ⟨g, cap, cur, rfl, _⟩
  · omega
  · exact ⟨g, cap, rfl, ho, hb⟩

end Go.Proofs.Ytafbnilpipcjfaa.P
