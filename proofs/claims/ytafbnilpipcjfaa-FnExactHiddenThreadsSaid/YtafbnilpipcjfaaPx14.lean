/- A part of this seat's proofs: contracts of the translated functions, written by the session's own program (gp.py) out of the kit's print.py and the session's own contracts; no conditions of its own. -/
import Derived.Test.YtafbnilpipcjfaaPx0
import Derived.Test.YtafbnilpipcjfaaPx12
namespace Go.Proofs.Ytafbnilpipcjfaa.P
open Go.RowKit Go.Proofs.YtafbnilpipcjfaaW.PrintWords Go.Proofs.YtafbnilpipcjfaaW.PrintLast Go.Proofs.YtafbnilpipcjfaaW.PrintMore
attribute [local go_sem] max2_int min2_int max_two min_two max_three min_three max_four min_four   -- for this text's walks alone
set_option linter.unusedVariables false
set_option linter.unusedSimpArgs false

/-! ### given: 04_numbersWith.tpl -/
/-- The numbers of a range at which p holds. -/
def numsW (p : Int → Bool) (lo hi : Int) : List Int := ((List.range (hi + 1 - lo).toNat).map fun (j : Nat) => lo + (j : Int)).filter p
/-- The first k numbers from lo on at which p holds. -/
def numsK (p : Int → Bool) (lo : Int) (k : Nat) : List Int := ((List.range k).map fun (j : Nat) => lo + (j : Int)).filter p
theorem numsK_len (p : Int → Bool) (lo : Int) (k : Nat) : (numsK p lo k).length ≤ k := by
  have := List.length_filter_le p ((List.range k).map fun (j : Nat) => lo + (j : Int))
  simpa [numsK] using this
theorem numsK_yes {p : Int → Bool} {lo : Int} {k : Nat} (h : p (lo + k) = true) : numsK p lo (k + 1) = numsK p lo k ++ [lo + k] := by
  simp [numsK, List.range_succ, h]
theorem numsK_no {p : Int → Bool} {lo : Int} {k : Nat} (h : p (lo + k) = false) : numsK p lo (k + 1) = numsK p lo k := by
  simp [numsK, List.range_succ, h]

set_option maxHeartbeats 2000000 in
set_option maxRecDepth 100000 in
theorem impl_numbersWith.ask (lo hi : Int) (g : Nat) (lb : Array Value) (p : Int → Bool) (D : Int → Prop) (w : World)
    (eg : ∀ args w, (callFunc g args).run Try.prog w = .ok (.enter g args) w) (h1 : -1000000000 ≤ lo) (h2 : hi ≤ 1000000000)
    (hp : Asks Try.prog g lb (Value.int .i64) p D w) (hD : ∀ x, lo ≤ x → x ≤ hi → D x) :
    Calls Try.prog 37 #[.int .i64 lo, .int .i64 hi, .func (.func g) #[] lb] w fun e w' => ∃ v0_ : Value, e = .returned (v0_) ∧ Kd.R (Kd.int .i64) 3 w' w.heap.size (fun _ => True) v0_ (numsW p lo hi) ∧ Below w.heap.size w w' := by
  have HB := Aside0.mk (Below.refl w.heap.size w)
  have HP := Aside0.mk hp
  have HD := Aside0.mk hD
  clear hp hD
  go_enter Try.func37, Try.ntmps37
  go_wp2_with (first | ((with_reducible refine gate_dst (N := 9) rfl ?_); refine Kd.R_lit (Kd.int .i64) _ 3 ?hg (N := 9) ?hd (xs := ([] : List Int)) (inner := []) (ok := fun _ => True) (okp := fun _ => True) ?hr ?hp (fun _ hk => hk) trivial (Below.refl _ _) (Nat.le_refl _) (by simp) ?_; (case hd => rfl); (case hg => rfl); (case hr => first | (go_simp; done) | (go_simp; rfl)); (case hp => exact (Reps.none _ _)); intro v247 w6 ho7 hb hg_ hnew_; clear hg_ hnew_; have n1_ := Aside0.mk (below_step HB.out hb); clear HB; have HO := Aside0.mk ho7; have HB := n1_; clear n1_; clear hb ho7))
  go_loopg [7, 8] (hi + 1 - lo).toNat (fun gg v7 v8 wr => ∃ kk : Nat, (kk : Int) ≤ max 0 (hi + 1 - lo) ∧ (hi + 1 - lo).toNat - kk ≤ gg ∧ v8 = .int .i64 (lo + kk) ∧ Aside0 (Kd.R (Kd.int .i64) 3 wr w.heap.size (fun _ => True) v7 (numsK p lo kk)) ∧ Aside0 (Below w.heap.size w wr))
  case atStart => exact ⟨0, by omega, by omega, by simp, HO, HB⟩
  case round =>
    obtain ⟨kk, hkk, hg, rfl, HO, HB⟩ := hrel
    by_cases hlt : lo + (kk : Int) ≤ hi
    · have hcall := HP.out wr (lo + kk) HB.out (HD.out _ (by omega) hlt)
      rcases Bool.eq_false_or_eq_true (p (lo + kk)) with hq | hq
      · have HC := Aside0.mk (hq ▸ hcall)
        have HQ := Aside0.mk (numsK_yes (lo := lo) hq)
        have HL := Aside0.mk (numsK_len p lo kk)
        clear hq hcall HP HD
        go_wp2_with (fail)
        refine HC.out.mono ?_
        rintro e w1 ⟨rfl, hb⟩
        have HO1 := Aside0.mk (Kd.R_below HO.out hb)
        have HB1 := Aside0.mk (below_then HB.out HB.out.size hb)
        clear hb HC HO HB
        go_wp2_with (first | ((with_reducible refine gate_builtin (b := .append) (xs := #[.tmp 19, .tmp 21]) rfl ?_); at_builtin; refine Kd.R_append (Kd.int .i64) (w0 := w) w.heap.size rfl (.tmp 19) (.tmp 21) 24 3 (.int .i64 0) 8 rfl Try.underlying24 info3 rfl (by decide) (by omega) u7 (numsK p lo kk) (lo + kk) [.int .i64 (lo + kk)] (fun _ => True) (fun _ => False) rfl rfl ?aP (fun _ hk => hk.elim) ?aF ?aO ?aB ?aS ?aL ?_; (case aP => exact rfl); (case aB => exact HB1.out); (case aF => exact (fun _ _ => trivial)); (case aO => exact HO1.out); (case aS => exact (below_size HB1.out)); (case aL => have := HL.out; omega); intro v238 w8 ho hb hg hat; rw [← HQ.out] at ho; have HB := Aside0.mk hb; have HO := Aside0.mk ho; clear ho hb hg hat HB1 HO1))
        go_roundg ((hi + 1 - lo).toNat - (kk + 1))
        case measure => omega
        case rel => exact ⟨kk + 1, by omega, by omega, by first | go_num | (congr 1; omega), HO, HB⟩
      · have HC := Aside0.mk (hq ▸ hcall)
        have HQ := Aside0.mk (numsK_no (lo := lo) hq)
        clear hq hcall HP HD
        go_wp2_with (fail)
        refine HC.out.mono ?_
        rintro e w1 ⟨rfl, hb⟩
        have HO1 := Aside0.mk (Kd.R_below HO.out hb)
        have HB1 := Aside0.mk (below_then HB.out HB.out.size hb)
        clear hb HC HO HB
        go_wp2
        go_roundg ((hi + 1 - lo).toNat - (kk + 1))
        case measure => omega
        case rel => exact ⟨kk + 1, by omega, by omega, by first | go_num | (congr 1; omega), ⟨by rw [HQ.out]; exact HO1.out⟩, HB1⟩
    · have hk' : kk = (hi + 1 - lo).toNat := by omega
      subst hk'
      clear HP HD
      go_wp2
      go_ret
      exact ⟨_, rfl, HO.out, HB.out⟩

/-! ### given: 20_rows.tpl -/
/-! rows of the call's own, laid anew by a contract of the shelf ('putRow') -/
theorem putRow_enc {α : Type} [Inhabited α] (enc : α → Value) (w : World) (b o : Nat) (d : Array α) : Go.Sort.putRow enc w b o d = Go.Sort.putRow id w b o (d.map enc) := by
  unfold Go.Sort.putRow
  congr 1
  funext c
  unfold Go.Sort.putCells
  congr 1
  funext k x
  rw [Array.size_map]
  by_cases h : o ≤ k ∧ k < o + d.size
  · have h2 : k - o < d.size := by omega
    rw [if_pos h, if_pos h, getElem!_pos d _ h2, getElem!_pos (d.map enc) _ (by simpa using h2)]
    simp
  · rw [if_neg h, if_neg h]
theorem own_putRow {w : World} {base g cap n size : Nat} {e : TypeId} {xs ys : List Value} (h : w.ownsRow base e size (.slice (some ⟨g, 0, none⟩) n cap) n xs) (hl : ys.length = xs.length) (m : Nat) (os : Array Obj) :
    (Go.Sort.grow (Go.Sort.putRow id (Go.Sort.ahead w m) g 0 ys.toArray) os).ownsRow base e size (.slice (some ⟨g, 0, none⟩) n cap) n ys ∧ w.grownBy (Go.Sort.grow (Go.Sort.putRow id (Go.Sort.ahead w m) g 0 ys.toArray) os) (some g) := by
  obtain ⟨hx, h⟩ := h
  rcases h with ⟨h, _⟩ | ⟨g', cap', cur, he, hb, hg, hn, hc, hs, ht⟩
  · simp at h
  · simp only [Value.slice.injEq, Option.some.injEq, Addr.mk.injEq, and_true, true_and] at he
    obtain ⟨rfl, rfl⟩ := he
    have hlt : g < w.heap.size := (Array.getElem?_eq_some_iff.1 hg).1
    refine ⟨⟨by omega, .inr ⟨g, cap, Go.Sort.putCells id 0 ys.toArray cur, rfl, hb, ?_, hn, hc, ?_, ?_⟩⟩, ⟨rfl, rfl, rfl, ?_, ?_⟩⟩
    · show (Array.modify w.heap g (Go.Sort.onCells (Go.Sort.putCells id 0 ys.toArray)) ++ os)[g]? = _
      rw [Array.getElem?_append_left (by simpa using hlt), Array.getElem?_modify, if_pos rfl, hg]
      rfl
    · unfold Go.Sort.putCells; simp [hs]
    · apply List.ext_getElem
      · rw [List.length_take]
        unfold Go.Sort.putCells
        simp only [Array.length_toList, Array.size_mapIdx]
        have := congrArg List.length ht
        rw [List.length_take, Array.length_toList] at this
        omega
      · intro i h1 h2
        have h3 : i < cur.size := by
          have := congrArg List.length ht
          rw [List.length_take, Array.length_toList] at this
          omega
        rw [List.getElem_take]
        unfold Go.Sort.putCells
        simp only [Array.getElem_toList, Array.getElem_mapIdx, Nat.zero_le, true_and, Nat.zero_add, List.size_toArray, Nat.sub_zero, id]
        rw [if_pos h2, getElem!_pos ys.toArray i (by simpa using h2)]
        simp
    · show w.heap.size ≤ (Array.modify w.heap g (Go.Sort.onCells (Go.Sort.putCells id 0 ys.toArray)) ++ os).size
      simp
    · intro k hk hne
      have hne' : ¬ g = k := fun h => hne (by rw [h])
      show (Array.modify w.heap g (Go.Sort.onCells (Go.Sort.putCells id 0 ys.toArray)) ++ os)[k]? = _
      rw [Array.getElem?_append_left (by simpa using hk), Array.getElem?_modify, if_neg hne']
theorem own_holds {w : World} {base g cap n size : Nat} {e : TypeId} {xs : List Value} (h : w.ownsRow base e size (.slice (some ⟨g, 0, none⟩) n cap) n xs) : Go.Sort.Holds id w g 0 xs.toArray := by
  obtain ⟨hx, h⟩ := h
  rcases h with ⟨h, _⟩ | ⟨g', cap', cur, he, hb, hg, hn, hc, hs, ht⟩
  · simp at h
  · simp only [Value.slice.injEq, Option.some.injEq, Addr.mk.injEq, and_true, true_and] at he
    obtain ⟨rfl, rfl⟩ := he
    intro j hj
    have hj' : j < xs.length := by simpa using hj
    have h3 : j < cur.size := by
      have := congrArg List.length ht
      rw [List.length_take, Array.length_toList] at this
      omega
    refine ⟨?_, by simp [World.frozen?, hg]⟩
    rw [getElem!_pos xs.toArray j hj]
    simp only [World.cell?, hg, Nat.zero_add, Option.isSome_none, Bool.false_eq_true, if_false]
    rw [Array.getElem?_eq_getElem h3]
    subst ht
    simp
theorem holds_enc {α : Type} [Inhabited α] (enc : α → Value) {w : World} {b o : Nat} {d : Array α} (h : Go.Sort.Holds id w b o (d.map enc)) : Go.Sort.Holds enc w b o d := by
  intro j hj
  have := h j (by simpa using hj)
  rw [getElem!_pos (d.map enc) j (by simpa using hj)] at this
  rw [getElem!_pos d j hj]
  simpa using this
/-- A row of whole numbers that is not nil: its block. -/
theorem R_block {d : Kd Int} {e base : Nat} {ok : Nat → Prop} {w : World} {v : Value} {xs : List Int} (h : d.R e w base ok v xs) (hp : 0 < xs.length) : ∃ g cap, v = .slice (some ⟨g, 0, none⟩) xs.length cap ∧ base ≤ g ∧ g < w.heap.size := by
  obtain ⟨g, cap, hv, hb, hlt, _⟩ := Kd.R_form h hp
  exact ⟨g, cap, hv, hb, hlt⟩
theorem R_holds {e base g cap : Nat} {ok : Nat → Prop} {w : World} {xs : List Int} (h : (Kd.int .i64).R e w base ok (.slice (some ⟨g, 0, none⟩) xs.length cap) xs) : Go.Sort.Holds (Value.int .i64) w g 0 xs.toArray := by
  have ho := Kd.own_of_R h
  have h1 := own_holds ho
  refine holds_enc (Value.int .i64) ?_
  simpa [encs] using h1
theorem R_putRow {e base g cap : Nat} {ok : Nat → Prop} {w : World} {xs ys : List Int} (h : (Kd.int .i64).R e w base ok (.slice (some ⟨g, 0, none⟩) xs.length cap) xs) (hl : ys.length = xs.length) (m : Nat) (os : Array Obj) :
    (Kd.int .i64).R e (Go.Sort.grow (Go.Sort.putRow (Value.int .i64) (Go.Sort.ahead w m) g 0 ys.toArray) os) base ok (.slice (some ⟨g, 0, none⟩) ys.length cap) ys ∧ w.grownBy (Go.Sort.grow (Go.Sort.putRow (Value.int .i64) (Go.Sort.ahead w m) g 0 ys.toArray) os) (some g) := by
  have ho := Kd.own_of_R h
  have e1 : (ys.toArray.map (Value.int .i64)) = (ys.map (Value.int .i64)).toArray := by simp
  obtain ⟨h1, h2⟩ := own_putRow (ys := ys.map (Value.int .i64)) ho (by simp [encs, hl]) m os
  rw [putRow_enc, e1]
  refine ⟨Kd.R_of_own ?_ h.1, h2⟩
  rw [hl]
  simpa [encs] using h1

end Go.Proofs.Ytafbnilpipcjfaa.P
