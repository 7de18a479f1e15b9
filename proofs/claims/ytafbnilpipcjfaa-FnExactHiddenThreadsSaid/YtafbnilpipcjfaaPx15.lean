/- A part of this seat's proofs: contracts of the translated functions, written by the session's own program (gp.py) out of the kit's print.py and the session's own contracts; no conditions of its own. -/
import Derived.Test.YtafbnilpipcjfaaPx0
import Derived.Test.YtafbnilpipcjfaaPx14
namespace Go.Proofs.Ytafbnilpipcjfaa.P
open Go.RowKit Go.Proofs.YtafbnilpipcjfaaW.PrintWords Go.Proofs.YtafbnilpipcjfaaW.PrintLast Go.Proofs.YtafbnilpipcjfaaW.PrintMore
attribute [local go_sem] max2_int min2_int max_two min_two max_three min_three max_four min_four   -- for this text's walks alone
set_option linter.unusedVariables false
set_option linter.unusedSimpArgs false

/-! ### given: 25_rowsK.tpl -/
/-! rows of structs of the call's own, laid anew by a contract of the shelf ('putRowK') -/
section
open Go.Sort
variable {α : Type} [Inhabited α] {enc : α → List Value} {k : Nat}
theorem reps_flat (hk : ∀ x, (enc x).length = k) {xs : List α} {cs : List Value} (h : Reps (fun x c => c = enc x) k xs cs) : cs.toArray = flatK enc k xs.toArray := by
  apply Array.ext
  · rw [size_flatK]; simp [h.1]
  · intro t h1 h2
    have ht : t < xs.length * k := by rw [size_flatK] at h2; simpa using h2
    have k0 : 0 < k := by rcases Nat.eq_zero_or_pos k with e | e; · subst e; simp at ht
                          · exact e
    have hj : t / k < xs.length := Nat.div_lt_of_lt_mul (by rw [Nat.mul_comm]; exact ht)
    have hr := h.2 (t / k) _ (List.getElem?_eq_getElem hj)
    have hm := Nat.mod_lt t k0
    have e1 := get_flatK enc k xs.toArray t (by simpa using ht)
    rw [getElem!_pos _ t h2] at e1
    rw [e1]
    rw [getElem!_pos xs.toArray (t / k) (by simpa using hj)]
    simp only [List.getElem_toArray]
    rw [← hr]
    have hl : t % k < ((cs.drop (t / k * k)).take k).length := by rw [hr, hk]; exact hm
    rw [getElem!_pos _ (t % k) hl, List.getElem_take, List.getElem_drop]
    congr 1
    have := Nat.div_add_mod t k
    rw [Nat.mul_comm] at this
    exact this.symm
theorem flat_reps (hk : ∀ x, (enc x).length = k) (xs : List α) : Reps (fun x c => c = enc x) k xs (flatK enc k xs.toArray).toList := by
  refine ⟨by simp, fun j p hj => ?_⟩
  obtain ⟨hjl, rfl⟩ := List.getElem?_eq_some_iff.1 hj
  have hle : j * k + k ≤ xs.length * k := by rw [← Nat.succ_mul]; exact Nat.mul_le_mul_right k hjl
  apply List.ext_getElem
  · simp [hk]; omega
  · intro i h1 h2
    have hi : i < k := by rw [hk] at h2; exact h2
    rw [List.getElem_take, List.getElem_drop, Array.getElem_toList]
    have e1 := get_flatK enc k xs.toArray (j * k + i) (by simp; omega)
    rw [getElem!_pos _ (j * k + i) (by rw [size_flatK]; simp; omega)] at e1
    rw [e1]
    have d1 : (j * k + i) / k = j := by rw [Nat.mul_comm, Nat.mul_add_div (by omega), Nat.div_eq_of_lt hi, Nat.add_zero]
    have d2 : (j * k + i) % k = i := by rw [Nat.mul_comm, Nat.mul_add_mod, Nat.mod_eq_of_lt hi]
    rw [d1, d2, getElem!_pos xs.toArray j (by simpa using hjl)]
    simp only [List.getElem_toArray]
    rw [getElem!_pos _ i h2]
variable {d : Kd α} {e base g cap : Nat} {ok : Nat → Prop} {w : World} {xs ys : List α}
theorem RK_holds (hs : d.sz = k) (hk : ∀ x, (enc x).length = k) (hM : ∀ w base ok x cs, d.M w base ok x cs → cs = enc x) (h : d.R e w base ok (.slice (some ⟨g, 0, none⟩) xs.length cap) xs) : HoldsK enc k w g 0 xs.toArray := by
  obtain ⟨_, inner, ho, hr⟩ := h
  rw [hs] at ho hr
  have h1 := own_holds ho
  rw [reps_flat hk (hr.imp_ (fun _ _ hp => hM _ _ _ _ _ hp))] at h1
  exact h1
theorem RK_putRow (hs : d.sz = k) (hk : ∀ x, (enc x).length = k) (hM : ∀ w base ok x cs, cs = enc x → d.M w base ok x cs) (h : d.R e w base ok (.slice (some ⟨g, 0, none⟩) xs.length cap) xs) (hl : ys.length = xs.length) (m : Nat) (os : Array Obj) :
    d.R e (grow (putRowK enc k (Go.Sort.ahead w m) g 0 ys.toArray) os) base ok (.slice (some ⟨g, 0, none⟩) ys.length cap) ys ∧ w.grownBy (grow (putRowK enc k (Go.Sort.ahead w m) g 0 ys.toArray) os) (some g) := by
  obtain ⟨h0, inner, ho, hr⟩ := h
  rw [hs] at ho hr
  have hlen : (flatK enc k ys.toArray).toList.length = inner.length := by
    rw [hr.1]; simp [hl]
  obtain ⟨h1, h2⟩ := own_putRow (ys := (flatK enc k ys.toArray).toList) ho hlen m os
  rw [Array.toArray_toList] at h1 h2
  refine ⟨⟨h0, (flatK enc k ys.toArray).toList, ?_, ?_⟩, h2⟩
  · rw [hs, hl]; exact h1
  · rw [hs]; exact (flat_reps hk ys).imp_ (fun _ _ hp => hM _ _ _ _ _ hp)
theorem RK_block {β : Type} {d : Kd β} {e base g cap : Nat} {ok : Nat → Prop} {w : World} {xs : List β} (h : d.R e w base ok (.slice (some ⟨g, 0, none⟩) xs.length cap) xs) : base ≤ g ∧ g < w.heap.size := by
  obtain ⟨_, inner, ho, _⟩ := h
  exact ⟨own_base ho g rfl, own_lt ho g rfl⟩
end

/-! ### given: 27_deleteT.tpl -/
theorem run_clear_one {P : Program} (w : World) (t e ty : TypeId) (z : Value) (z0 z1 : Value) (ht : P.underlying t = some (.slice e)) (hv : ∀ w, (zeroValue e).run P w = .ok z w) (hz : z.cells = #[z0, z1]) (h0 : z0.oneCell' = true) (h1 : z1.oneCell' = true) (b o c : Nat)
    (hc : ∀ j, j < 2 → (w.cell? ⟨b, o + j, none⟩).isSome = true) (hf : ∀ j, j < 2 → w.frozen? ⟨b, o + j, none⟩ = false) :
    (Builtin.clear_ #[t] ty #[.slice (some ⟨b, o, none⟩) 1 c]).run P w = .ok (.tuple #[]) (w.setCells b o [z0, z1]) := by
  have hzc : (Builtin.zeroCells z.cells 1).toList = [z0, z1] := by
    rw [hz]
    apply List.ext_getElem
    · simp [Builtin.zeroCells]
    · intro i h1 h2
      have hi : i = 0 ∨ i = 1 := by simp at h2; omega
      rcases hi with rfl | rfl <;> simp [Builtin.zeroCells]
  have hst := run_storeCells_cells (P := P) b o [z0, z1] 0 w (by simpa using hc) (by simpa using hf) (by intro v hv'; simp at hv'; rcases hv' with rfl | rfl <;> assumption)
  simp only [Nat.add_zero] at hst
  simp [Builtin.clear_, run_underlying ht, hv, hzc, hst]
set_option maxHeartbeats 4000000 in
set_option maxRecDepth 100000 in
/-- slices.Delete(s, k, k + 1): the element is taken out, in place. -/
theorem slices_DeleteT.own (base g n cap k : Nat) (inner : List Value) (w : World) (ho : w.ownsRow base 38 2 (.slice (some ⟨g, 0, none⟩) n cap) n inner) (h1c : ∀ u ∈ inner, u.oneCell' = true) (hk : k < n) :
    Calls Try.prog 39 #[.slice (some ⟨g, 0, none⟩) n cap, .int .i64 k, .int .i64 (k + 1)] w fun e w' => e = .returned (.slice (some ⟨g, 0, none⟩) (n - 1) cap) ∧ w'.ownsRow base 38 2 (.slice (some ⟨g, 0, none⟩) (n - 1) cap) (n - 1) (inner.take (k * 2) ++ inner.drop ((k + 1) * 2)) ∧ w.grownBy w' (some g) := by
  have t27 := Try.underlying27
  have hH := own_holds ho
  obtain ⟨hx, hrest⟩ := ho
  rcases hrest with ⟨h, _⟩ | ⟨g', cap', cur, he, hb, hg, hn, hc, hs, ht⟩
  · simp at h
  simp only [Value.slice.injEq, Option.some.injEq, Addr.mk.injEq, and_true, true_and] at he
  obtain ⟨rfl, rfl⟩ := he
  have hcm : cap ≤ 9223372036854775807 := hc
  obtain ⟨news, hnews⟩ : ∃ news, news = inner.drop ((k + 1) * 2) := ⟨_, rfl⟩
  have hlen : news.length = (n - (k + 1)) * 2 := by rw [hnews, List.length_drop, hx, Nat.sub_mul]
  obtain ⟨A, hA, hsrc⟩ : ∃ A : Addr, (if cap = k + 1 then some (⟨g, 0, none⟩ : Addr) else some ⟨g, (k + 1) * 2, none⟩) = some A ∧ (∀ t u, news[t]? = some u → w.drew.cell? (A.add t) = some u) := by
    by_cases h : cap = k + 1
    · refine ⟨⟨g, 0, none⟩, by simp [h], fun t u hu => ?_⟩
      have h0 : news.length = 0 := by rw [hlen]; omega
      rw [List.length_eq_zero_iff.1 h0] at hu
      simp at hu
    · refine ⟨⟨g, (k + 1) * 2, none⟩, by simp [h], fun t u hu => ?_⟩
      obtain ⟨ht', hu'⟩ := List.getElem?_eq_some_iff.1 hu
      have hin : (k + 1) * 2 + t < inner.length := by rw [hx]; rw [hlen] at ht'; omega
      have hh := (hH ((k + 1) * 2 + t) (by simpa using hin)).1
      rw [getElem!_pos inner.toArray _ (by simpa using hin)] at hh
      rw [Go.Proofs.YtafbnilpipcjfaaW.PrintWords.add_at]
      show w.cell? _ = some u
      simp only [Nat.zero_add, List.getElem_toArray, id] at hh
      rw [hh]
      subst hnews
      rw [List.getElem_drop] at hu'
      rw [hu']
  have s2 : ∀ u ∈ news, u.oneCell' = true := fun u hu => h1c u (by rw [hnews] at hu; exact List.mem_of_mem_drop hu)
  have s3 : ∀ t, t < news.length → (w.drew.cell? ⟨g, 0 + k * 2 + t, none⟩).isSome = true ∧ w.drew.frozen? ⟨g, 0 + k * 2 + t, none⟩ = false := by
    intro t ht'
    rw [hlen] at ht'
    have hin : k * 2 + t < inner.length := by rw [hx]; omega
    have hh := hH (k * 2 + t) (by simpa using hin)
    rw [show 0 + k * 2 + t = 0 + (k * 2 + t) by omega]
    exact ⟨by show (w.cell? _).isSome = true; rw [hh.1]; rfl, hh.2⟩
  obtain ⟨W1, hW1⟩ : ∃ W1, W1 = w.drew.setCells g (0 + k * 2) news := ⟨_, rfl⟩
  have hgd : w.drew.heap[g]? = some (.cells cur 38 (0, 0)) := hg
  have hcs : n * 2 ≤ cap * 2 := Nat.mul_le_mul_right _ hn
  obtain ⟨cur1, c1, c2, c3⟩ := Go.Proofs.YtafbnilpipcjfaaW.PrintWords.setCells_row news (0 + k * 2) w.drew cur hgd (by rw [hlen, hs]; omega)
  rw [← hW1] at c1
  have hcl : ∀ ty, (Builtin.clear_ #[27] ty #[.slice (some ⟨g, (n - 1) * 2, none⟩) 1 (cap - (n - 1))]).run Try.prog W1 = .ok (.tuple #[]) (W1.setCells g ((n - 1) * 2) [.int .i64 0, .int .i64 0]) := fun ty =>
    run_clear_one W1 _ _ ty _ _ _ t27 Try.zeroValue38 rfl rfl rfl g ((n - 1) * 2) _
      (fun j hj => by
        have : (n - 1) * 2 + j < cur1.size := by rw [c2, hs]; omega
        simp only [World.cell?, c1, Option.isSome_none, Bool.false_eq_true, if_false]
        rw [Array.getElem?_eq_getElem this]; rfl)
      (fun j hj => by simp [World.frozen?, c1])
  obtain ⟨cur2, d1, d2, d3⟩ := Go.Proofs.YtafbnilpipcjfaaW.PrintWords.setCells_row [.int .i64 0, .int .i64 0] ((n - 1) * 2) W1 cur1 c1 (by rw [c2, hs]; simp; omega)
  have hfin : (W1.setCells g ((n - 1) * 2) [.int .i64 0, .int .i64 0]).ownsRow base 38 2 (.slice (some ⟨g, 0, none⟩) (n - 1) cap) (n - 1) (inner.take (k * 2) ++ inner.drop ((k + 1) * 2)) ∧ w.grownBy (W1.setCells g ((n - 1) * 2) [.int .i64 0, .int .i64 0]) (some g) := by
    have e0 := Go.Proofs.YtafbnilpipcjfaaW.PrintWords.setCells_same g news (0 + k * 2) w.drew
    rw [← hW1] at e0
    have e1 := Go.Proofs.YtafbnilpipcjfaaW.PrintWords.setCells_same g [.int .i64 0, .int .i64 0] ((n - 1) * 2) W1
    refine ⟨⟨?_, .inr ⟨g, cap, cur2, rfl, hb, d1, by omega, hc, by rw [d2, c2, hs], ?_⟩⟩, ⟨e1.1.trans e0.1, e1.2.1.trans e0.2.1, e1.2.2.1.trans e0.2.2.1, by rw [e1.2.2.2, e0.2.2.2]; exact Nat.le_refl _, fun j hj hne => ?_⟩⟩
    · rw [List.length_append, List.length_take, List.length_drop, hx]; omega
    · rw [d3]
      have hl1 : (cur1.toList.take ((n - 1) * 2)).length = (n - 1) * 2 := by rw [List.length_take, Array.length_toList, c2, hs]; omega
      rw [List.append_assoc, List.take_append_of_le_length (Nat.le_of_eq hl1.symm), List.take_of_length_le (Nat.le_of_eq hl1), c3]
      have hl2 : (cur.toList.take (0 + k * 2)).length = k * 2 := by rw [List.length_take, Array.length_toList, hs]; omega
      have hl3 : (cur.toList.take (0 + k * 2) ++ news).length = (n - 1) * 2 := by rw [List.length_append, hl2, hlen]; omega
      rw [List.take_append_of_le_length (Nat.le_of_eq hl3.symm), List.take_of_length_le (Nat.le_of_eq hl3), hnews]
      congr 1
      rw [← ht, List.take_take]
      congr 1
      omega
    · have hne' : j ≠ g := fun h => hne (by rw [h])
      rw [Go.Proofs.YtafbnilpipcjfaaW.PrintWords.setCells_far _ _ j hne', hW1, Go.Proofs.YtafbnilpipcjfaaW.PrintWords.setCells_far _ _ j hne']
      rfl
  have FIN := Aside0.mk hfin
  have HW := Aside0.mk hW1
  have H1 := Aside0.mk hlen
  have H2 := Aside0.mk hsrc
  have H3 := Aside0.mk s2
  have H4 := Aside0.mk s3
  have hcl' : ∀ ty, (Builtin.clear_ #[27] ty #[.slice (some ⟨g, (k + (n - (k + 1))) * 2, none⟩) (n - (k + (n - (k + 1)))) (cap - (k + (n - (k + 1))))]).run Try.prog W1 = .ok (.tuple #[]) (W1.setCells g ((n - 1) * 2) [.int .i64 0, .int .i64 0]) := by
    have e1 : k + (n - (k + 1)) = n - 1 := by omega
    have e2 : n - (n - 1) = 1 := by omega
    rw [e1, e2]; exact hcl
  have hk0 : (0 : Int) ≤ (k : Int) + 1 := by omega
  have hic : k ≤ cap := by omega
  have hjc : k + 1 ≤ cap := by omega
  have hkn : (k : Int) + 1 ≤ (n : Int) := by omega
  have hknc : (k : Int) + 1 ≤ (cap : Int) := by omega
  have hnc : (n : Int) ≤ (cap : Int) := by omega
  obtain ⟨i0, hi0, hz1⟩ : ∃ i0 : TypeInfo, Try.prog.info? 38 = some i0 ∧ i0.size = 2 := by
    have h : (Try.prog.info? 38).map (fun i => (i.zero, i.size, i.bytes)) = some (some (.agg #[(.int .i64 0), (.int .i64 0)]), 2, 16) := by kernel_rfl
    obtain ⟨i0, h0, h1⟩ := Option.map_eq_some_iff.1 h
    exact ⟨i0, h0, by simpa using congrArg (fun x => x.2.1) h1⟩
  have HI := Aside0.mk hi0
  have HZ := Aside0.mk hz1
  clear hi0 hz1 hfin hW1 hlen hsrc s2 s3 c1 c2 c3 d1 d2 d3 hgd hcs hg ht hs hx hnews hH h1c hcl cur cur1 cur2
  go_enter Try.func39, Try.ntmps39
  go_wp2_with fail
  go_region_law (refine step_append_room rfl (.tmp 22) (.tmp 25) 27 rfl 38 i0 2 t27 HI.out HZ.out g 0 k cap (by simp [Act.eval, Act.put]) A (n - (k + 1)) (cap - (k + 1)) news (by simp [Act.eval, Act.put, hA]) H1.out H2.out H3.out (by omega) H4.out ?_; rw [← HW.out])
  go_wp2
  go_ret
  exact ⟨by rw [show k + (n - (k + 1)) = n - 1 by omega]; rfl, FIN.out⟩

end Go.Proofs.Ytafbnilpipcjfaa.P
