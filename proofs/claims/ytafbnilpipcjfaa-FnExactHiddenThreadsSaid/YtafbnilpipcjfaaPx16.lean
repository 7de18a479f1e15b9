/- A part of this seat's proofs: contracts of the translated functions, written by the session's own program (gp.py) out of the kit's print.py and the session's own contracts; no conditions of its own. -/
import Derived.Test.YtafbnilpipcjfaaPx0
import Derived.Test.YtafbnilpipcjfaaPx11
import Derived.Test.YtafbnilpipcjfaaPx12
import Derived.Test.YtafbnilpipcjfaaPx13
import Derived.Test.YtafbnilpipcjfaaPx14
import Derived.Test.YtafbnilpipcjfaaPx15
namespace Go.Proofs.Ytafbnilpipcjfaa.P
open Go.RowKit Go.Proofs.YtafbnilpipcjfaaW.PrintWords Go.Proofs.YtafbnilpipcjfaaW.PrintLast Go.Proofs.YtafbnilpipcjfaaW.PrintMore
attribute [local go_sem] max2_int min2_int max_two min_two max_three min_three max_four min_four   -- for this text's walks alone
set_option linter.unusedVariables false
set_option linter.unusedSimpArgs false

/-! ### given: 28_hidden.tpl -/
def Try.cloneThr_ren : Go.Shelf.Ren := ⟨fun | 41 => 40 | n => n, fun | 22 => 27 | 23 => 38 | 4 => 4 | n => n, fun | n => n⟩
theorem Try.cloneThr : Go.Proofs.SlLaysE0.n41 Try.prog Try.cloneThr_ren := {
  mixed := by kernel_rfl
  f41 := ⟨Try.f40.name, by decide, Try.func40.trans (congrArg some (by kernel_rfl))⟩
  t4 := Try.underlying4
  a4 := Try.isAgg4
  z4 := Try.sizeOf4
  v4 := Try.zeroValue4
  t22 := Try.underlying27
  a22 := Try.isAgg27
  z22 := Try.sizeOf27
  v22 := Try.zeroValue27 }
instance instThr0 : Inhabited S38 := ⟨z38⟩
def encTH (x : S38) : List Value := [.int .i64 x.f0, .int .i64 x.f1]
theorem reps_erase2 {α : Type} {R : α → List Value → Prop} {xs : List α} {cs : List Value} (k : Nat) (hk : k < xs.length) (h : Reps R 2 xs cs) : Reps R 2 (xs.eraseIdx k) (cs.take (k * 2) ++ cs.drop ((k + 1) * 2)) := by
  obtain ⟨h1, h2⟩ := h
  have hl : (cs.take (k * 2)).length = k * 2 := by rw [List.length_take, h1]; omega
  refine ⟨?_, fun j p hj => ?_⟩
  · rw [List.length_append, hl, List.length_drop, h1, List.length_eraseIdx, if_pos hk]; omega
  · rw [List.getElem?_eraseIdx] at hj
    by_cases hjk : j < k
    · rw [if_pos hjk] at hj
      have := h2 j p hj
      have e : ((cs.take (k * 2) ++ cs.drop ((k + 1) * 2)).drop (j * 2)).take 2 = (cs.drop (j * 2)).take 2 := by
        rw [List.drop_append_of_le_length (by rw [hl]; omega), List.take_append_of_le_length (by rw [List.length_drop, hl]; omega), List.drop_take, List.take_take, Nat.min_eq_left (by omega)]
      rw [e]; exact this
    · rw [if_neg hjk] at hj
      have := h2 (j + 1) p hj
      have e : ((cs.take (k * 2) ++ cs.drop ((k + 1) * 2)).drop (j * 2)).take 2 = (cs.drop ((j + 1) * 2)).take 2 := by
        rw [List.drop_append, hl, List.drop_drop, List.drop_eq_nil_of_le (by rw [hl]; omega), List.nil_append, show (k + 1) * 2 + (j * 2 - k * 2) = (j + 1) * 2 by omega]
      rw [e]; exact this
theorem flat_one {l0 : List S38} : ∀ u ∈ (Go.Sort.flatK encTH 2 l0.toArray).toList, u.oneCell' = true := by
  intro u hu
  have hfl := flat_reps (enc := encTH) (k := 2) (fun _ => rfl) l0
  obtain ⟨j, hj, rfl⟩ := List.getElem_of_mem hu
  have hj1 := hj
  rw [hfl.1] at hj1
  have hj2 : j / 2 < l0.length := by omega
  have h1 := hfl.2 (j / 2) _ (List.getElem?_eq_getElem hj2)
  have h2 : (((Go.Sort.flatK encTH 2 l0.toArray).toList.drop (j / 2 * 2)).take 2)[j % 2]? = some ((Go.Sort.flatK encTH 2 l0.toArray).toList[j]) := by
    rw [List.getElem?_take_of_lt (by omega), List.getElem?_drop, show j / 2 * 2 + j % 2 = j by omega]
    exact List.getElem?_eq_getElem hj
  rw [h1] at h2
  have hm : j % 2 = 0 ∨ j % 2 = 1 := by omega
  rcases hm with hm | hm <;> rw [hm] at h2 <;> simp only [encTH, List.getElem?_cons_zero, List.getElem?_cons_succ, Option.some.injEq] at h2 <;> rw [← h2] <;> rfl
/-- slices.Clone of threads: a row of the call's own. -/
theorem slices_CloneT.own (A0 : Option Addr) (c0 : Nat) (l0 : List S38) (w : World) (hr0 : Kd.C k38 w A0 l0.length l0) (hp : 0 < l0.length) (hsz : l0.length * 16 ≤ 140737488351232) :
    Calls Try.prog 40 #[.slice A0 l0.length c0] w fun e w' => ∃ g cap, e = .returned (.slice (some ⟨g, 0, none⟩) l0.length cap) ∧ w'.ownsRow w.heap.size 38 2 (.slice (some ⟨g, 0, none⟩) l0.length cap) l0.length (Go.Sort.flatK encTH 2 l0.toArray).toList ∧ Below w.heap.size w w' := by
  have hmax := Kd.C_max hr0
  obtain ⟨_, _, hr⟩ := hr0
  obtain ⟨⟨b, off, sp⟩, rfl, hcell⟩ := hr hp
  have hall : ∀ j p, l0[j]? = some p → ∀ i u, (encTH p)[i]? = some u → w.cell? ((⟨b, off, sp⟩ : Addr).add (j * 2 + i)) = some u := by
    intro j p hj i u hu
    obtain ⟨c, _, hK, hc⟩ := hcell j p hj
    obtain rfl := k38_open hK
    exact hc i u hu
  have hsp : sp = none := by
    have h0 := hall 0 _ (List.getElem?_eq_getElem hp) 0 _ rfl
    have e : (⟨b, off, sp⟩ : Addr).add (0 * 2 + 0) = ⟨b, off, sp⟩ := by unfold Addr.add; simp
    rw [e] at h0
    cases sp with
    | none => rfl
    | some s => 
      exfalso
      simp only [World.cell?, Option.isSome_some, if_true] at h0
      split at h0 <;> simp at h0
  subst hsp
  have hfl := flat_reps (enc := encTH) (k := 2) (fun _ => rfl) l0
  have hc : ∀ j u, (Go.Sort.flatK encTH 2 l0.toArray).toList[j]? = some u → w.cell? ⟨b, off + j, none⟩ = some u := by
    intro j u hu
    obtain ⟨hj, hu'⟩ := List.getElem?_eq_some_iff.1 hu
    rw [hfl.1] at hj
    have hj2 : j / 2 < l0.length := by omega
    have h1 := hfl.2 (j / 2) _ (List.getElem?_eq_getElem hj2)
    have h2 : (((Go.Sort.flatK encTH 2 l0.toArray).toList.drop (j / 2 * 2)).take 2)[j % 2]? = some u := by
      rw [List.getElem?_take_of_lt (by omega), List.getElem?_drop, show j / 2 * 2 + j % 2 = j by omega]
      exact hu
    rw [h1] at h2
    have h3 := hall (j / 2) _ (List.getElem?_eq_getElem hj2) (j % 2) u h2
    rw [show j / 2 * 2 + j % 2 = j by omega, Go.Proofs.YtafbnilpipcjfaaW.PrintWords.add_at] at h3
    exact h3
  obtain ⟨i0, hi0, hz0, hz1, hz2⟩ : ∃ i0 : TypeInfo, Try.prog.info? 38 = some i0 ∧ i0.zero = some (.agg #[(.int .i64 0), (.int .i64 0)]) ∧ i0.size = 2 ∧ i0.bytes = 16 := by
    have h : (Try.prog.info? 38).map (fun i => (i.zero, i.size, i.bytes)) = some (some (.agg #[(.int .i64 0), (.int .i64 0)]), 2, 16) := by kernel_rfl
    obtain ⟨i0, h0, h1⟩ := Option.map_eq_some_iff.1 h
    exact ⟨i0, h0, congrArg (fun x => x.1) h1, congrArg (fun x => x.2.1) h1, congrArg (fun x => x.2.2) h1⟩
  have hcon := Go.Proofs.AnyE.slices_Clone Try.cloneThr i0 _ 2 16 hi0 hz0 hz1 hz2 rfl (by omega) Try.sizeOf38 b off l0.length c0 (Go.Sort.flatK encTH 2 l0.toArray).toList w hfl.1 (by unfold maxLen; omega) (by omega) hc
    flat_one
  change Calls Try.prog 40 #[.slice (some ⟨b, off, none⟩) l0.length c0] w _ at hcon
  refine hcon.mono ?_
  rintro e w' ⟨v', rfl, ho, _, hb⟩
  have ho' := ho
  obtain ⟨_, hrest⟩ := ho'
  rcases hrest with ⟨_, h⟩ | ⟨g, cap, cur, rfl, _⟩
  · omega
  · exact ⟨g, cap, rfl, ho, hb⟩
set_option maxHeartbeats 4000000 in
theorem impl_HiddenThreads_1.asks (k : Nat) (A0 : Option Addr) (c0 : Nat) (l0 : List S38) (m : Int) (B C : Nat) (w : World) (hB : B < w.heap.size) (hC : C < w.heap.size) (hr0 : Kd.C k38 w A0 l0.length l0) (hp : 1 < l0.length) (hsz : l0.length ≤ 30)
    (hall : ∀ x : Nat, x < l0.length → ∃ v, impl_countUnder.f k (l0.eraseIdx x) 0 = some v)
    (hb : w.cell? ⟨B, 0, none⟩ = some (.slice A0 l0.length c0)) (hc : w.cell? ⟨C, 0, none⟩ = some (.int .i64 m)) :
    Asks Try.prog 38 #[.pointer (some ⟨B, 0, none⟩), .pointer (some ⟨C, 0, none⟩)] (Value.int .i64) (fun x => impl_countUnder.f k (l0.eraseIdx x.toNat) 0 == some m) (fun x => 0 ≤ x ∧ x ≤ (l0.length : Int) - 1) w := by
  intro W x hW hx
  obtain ⟨x, rfl⟩ := Int.eq_ofNat_of_zero_le hx.1
  have hxl : x < l0.length := by omega
  obtain ⟨v, hv⟩ := hall x hxl
  have hb' : W.cell? ⟨B, 0, none⟩ = some (.slice A0 l0.length c0) := (hW.cell (p := ⟨B, 0, none⟩) hB).trans hb
  have hc' : W.cell? ⟨C, 0, none⟩ = some (.int .i64 m) := (hW.cell (p := ⟨C, 0, none⟩) hC).trans hc
  have HR := Aside0.mk (Kd.C_below hr0 hW)
  have HV := Aside0.mk hv
  have HE := Aside0.mk (show (v == m) = (impl_countUnder.f k (l0.eraseIdx ((x : Int)).toNat) 0 == some m) by rw [Int.toNat_natCast, hv]; rfl)
  have HBW := Aside0.mk (Nat.lt_of_lt_of_le hB hW.size)
  have HCW := Aside0.mk (Nat.lt_of_lt_of_le hC hW.size)
  have HL := Aside0.mk (show (l0.eraseIdx x).length = l0.length - 1 by rw [List.length_eraseIdx, if_pos hxl])
  have hwr : IntKind.i64.wrap ((x : Int) + 1) = (x : Int) + 1 := IntWalk.i64_in _ (by omega)
  clear hb hc hW hB hC hall hr0 hv hx
  go_enter Try.func38, Try.ntmps38
  go_wp2
  go_region_held3 (fun w' => w'.cell? ⟨B, 0, none⟩ = some (.slice A0 l0.length c0) ∧ w'.cell? ⟨C, 0, none⟩ = some (.int .i64 m))
    (first
      | (refine ⟨?_, ?_⟩; assumption; assumption))
    (first
      | (go_at_call 40; refine (slices_CloneT.own A0 c0 l0 _ (Kd.C_drew HR.out) (by omega) (by omega)).mono ?_; rintro e w1 ⟨g, cap, rfl, ho, hb1⟩; have y2 : w1.cell? ⟨B, 0, none⟩ = some (.slice A0 l0.length c0) := (hb1.cell (p := ⟨B, 0, none⟩) HBW.out).trans hb'; have y3 : w1.cell? ⟨C, 0, none⟩ = some (.int .i64 m) := (hb1.cell (p := ⟨C, 0, none⟩) HCW.out).trans hc'; have HO1 := Aside0.mk ho; have HB1 := Aside0.mk (below_then (below_drew (Below.refl W.heap.size W)) (Nat.le_refl _) hb1); have HG := Aside0.mk (own_base ho g rfl); clear ho hb1)
      | (go_at_call 39; refine (slices_DeleteT.own _ g l0.length cap x (Go.Sort.flatK encTH 2 l0.toArray).toList _ HO1.out flat_one hxl).mono ?_; rintro e w2 ⟨rfl, ho2, hg2⟩; have hbw2 := pw_below_grown HB1.out (some g) HB1.out.size hg2 (fun k_ hk => by injection hk with hk; rw [← hk]; exact HG.out); have y2 : w2.cell? ⟨B, 0, none⟩ = some (.slice A0 l0.length c0) := (hbw2.cell (p := ⟨B, 0, none⟩) HBW.out).trans hb'; have y3 : w2.cell? ⟨C, 0, none⟩ = some (.int .i64 m) := (hbw2.cell (p := ⟨C, 0, none⟩) HCW.out).trans hc'; have HO2 := Aside0.mk ho2; have HB2 := Aside0.mk hbw2; clear ho2 hg2 hbw2)
      | (go_at_call 36; have hR2 : Kd.R k38 38 w2 W.heap.size (fun _ => True) (.slice (some ⟨g, 0, none⟩) (l0.length - 1) cap) (l0.eraseIdx x) := (⟨fun _ _ => trivial, _, by rw [HL.out]; exact HO2.out, (reps_erase2 x hxl (flat_reps (enc := encTH) (k := 2) (fun _ => rfl) l0)).imp_ (fun p c hp => by subst hp; exact k38_mkM _ _ _ _)⟩); have hcu := impl_countUnder.calls k (some ⟨g, 0, none⟩) cap (l0.eraseIdx x) 0 v w2 (Kd.R_reads' hR2).2.2 (by rw [HL.out]; exact (Kd.R_reads' hR2).2.1) HV.out; rw [HL.out] at hcu; refine hcu.mono ?_; rintro e w3 ⟨rfl, hb3⟩; have hbw3 := below_then HB2.out HB2.out.size hb3; have y2 : w3.cell? ⟨B, 0, none⟩ = some (.slice A0 l0.length c0) := (hbw3.cell (p := ⟨B, 0, none⟩) HBW.out).trans hb'; have y3 : w3.cell? ⟨C, 0, none⟩ = some (.int .i64 m) := (hbw3.cell (p := ⟨C, 0, none⟩) HCW.out).trans hc'; have HB3 := Aside0.mk hbw3; clear hb3 hbw3 hR2 hcu))
  all_goals
    go_wp2
    go_ret
    exact ⟨by rw [← HE.out]; rfl, HB3.out⟩
/-- Every list with one thread less is told. -/
def hidAll (k : Nat) (l0 : List S38) : Bool := decide (1 < l0.length ∧ l0.length ≤ 30) && (List.range l0.length).all fun x => (impl_countUnder.f k (l0.eraseIdx x) 0).isSome
theorem hidAll_iff {k : Nat} {l0 : List S38} : hidAll k l0 = true ↔ (1 < l0.length ∧ l0.length ≤ 30) ∧ ∀ x : Nat, x < l0.length → ∃ v, impl_countUnder.f k (l0.eraseIdx x) 0 = some v := by
  unfold hidAll
  rw [Bool.and_eq_true, decide_eq_true_eq, List.all_eq_true]
  constructor
  · rintro ⟨h1, h2⟩
    exact ⟨h1, fun x hx => Option.isSome_iff_exists.1 (h2 x (List.mem_range.2 hx))⟩
  · rintro ⟨h1, h2⟩
    exact ⟨h1, fun x hx => Option.isSome_iff_exists.2 (h2 x (List.mem_range.1 hx))⟩
def impl_HiddenThreads.f (k : Nat) (l0 : List S38) : Option (List Int × Bool) :=
  (impl_AreThreads.f k l0).bind fun t => if t = true then (if l0.length = 1 then some ([], false) else (impl_countUnder.f k l0 0).bind fun m => if hidAll k l0 = true then some (numsW (fun x => impl_countUnder.f k (l0.eraseIdx x.toNat) 0 == some m) 0 ((l0.length : Int) - 1), true) else none) else some ([], false)
theorem impl_HiddenThreads.mono : ∀ a0 k, LeO (impl_HiddenThreads.f k a0) (impl_HiddenThreads.f (k + 1) a0) := by
  intro l0 k r h
  unfold impl_HiddenThreads.f at h ⊢
  obtain ⟨t, ht, h⟩ := Option.bind_eq_some_iff.mp h
  rw [impl_AreThreads.mono _ _ _ ht, Option.bind_some]
  by_cases hq : t = true
  · rw [if_pos hq] at h ⊢
    by_cases h1 : l0.length = 1
    · rw [if_pos h1] at h ⊢; exact h
    · rw [if_neg h1] at h ⊢
      obtain ⟨m, hm, h⟩ := Option.bind_eq_some_iff.mp h
      rw [impl_countUnder.mono _ _ _ _ hm, Option.bind_some]
      by_cases hA : hidAll k l0 = true
      · rw [if_pos hA] at h
        obtain ⟨hA1, hA2⟩ := hidAll_iff.1 hA
        rw [if_pos (hidAll_iff.2 ⟨hA1, fun x hx => by obtain ⟨v, hv⟩ := hA2 x hx; exact ⟨v, impl_countUnder.mono _ _ _ _ hv⟩⟩), ← Option.some.inj h]
        have e : numsW (fun x => impl_countUnder.f (k + 1) (l0.eraseIdx x.toNat) 0 == some m) 0 ((l0.length : Int) - 1) = numsW (fun x => impl_countUnder.f k (l0.eraseIdx x.toNat) 0 == some m) 0 ((l0.length : Int) - 1) := by
          unfold numsW
          apply List.filter_congr
          intro x hx
          obtain ⟨j, hj, rfl⟩ := List.mem_map.1 hx
          have hj2 := List.mem_range.1 hj
          obtain ⟨v, hv⟩ := hA2 (0 + (j : Int)).toNat (by omega)
          rw [hv, impl_countUnder.mono _ _ _ _ hv]
        rw [e]
      · rw [if_neg hA] at h; cases h
  · rw [if_neg hq] at h ⊢; exact h
set_option maxHeartbeats 4000000 in
theorem impl_HiddenThreads.calls (k : Nat) (A0 : Option Addr) (c0 : Nat) (l0 : List S38) (r1 : List Int) (r2 : Bool) (w : World) (hr0 : Kd.C k38 w A0 l0.length l0) (hc0 : l0.length ≤ c0) (h : impl_HiddenThreads.f k l0 = some (r1, r2)) :
    Calls Try.prog 12 #[.slice A0 l0.length c0] w fun e w' => ∃ v0_ : Value, e = .returned (.tuple #[v0_, .bool r2]) ∧ Kd.R (Kd.int .i64) 3 w' w.heap.size (fun _ => True) v0_ r1 ∧ Below w.heap.size w w' := by
  unfold impl_HiddenThreads.f at h
  obtain ⟨t, ht, h⟩ := Option.bind_eq_some_iff.mp h
  have HT := Aside0.mk ht
  have HR := Aside0.mk (Kd.C_alloc hr0 (.cells #[.slice A0 l0.length c0] 27))
  have HC0 := Aside0.mk hc0
  have HB0 := Aside0.mk (below_alloc (Below.refl w.heap.size w) (.cells #[.slice A0 l0.length c0] 27))
  have HN := Aside0.mk (cell_new (W := w) (v := .slice A0 l0.length c0) (T := 27) rfl)
  have HZ := Aside0.mk (show w.heap.size < (w.alloc (.cells #[.slice A0 l0.length c0] 27)).heap.size by simp)
  clear ht hr0 hc0
  by_cases hq : t = true
  · subst hq
    rw [if_pos rfl] at h
    by_cases h1 : l0.length = 1
    · rw [if_pos h1] at h
      simp only [Option.some.injEq, Prod.mk.injEq] at h
      obtain ⟨rfl, rfl⟩ := h
      have hz : (l0.length : Int) = 1 := by omega
      clear h1
      have hz' : ((l0.length : Int) == 1) = true := by simpa using hz
      clear hz
      go_enter Try.func12, Try.ntmps12
      go_wp2_with (first | (go_at_call 35; refine (impl_AreThreads.calls k A0 c0 l0 true _ HR.out HC0.out HT.out).mono ?_; rintro e w1 ⟨rfl, hb⟩; have y1 : w1.cell? ⟨w.heap.size, 0, none⟩ = some (.slice A0 l0.length c0) := (hb.cell (p := ⟨w.heap.size, 0, none⟩) HZ.out).trans HN.out; have HB1 := Aside0.mk (below_then HB0.out HB0.out.size hb); clear hb) | fail)
      all_goals
        go_ret2
        exact ⟨_, rfl, Kd.R_nil _ _ _ _ _, HB1.out⟩
    · rw [if_neg h1] at h
      obtain ⟨m, hm, h⟩ := Option.bind_eq_some_iff.mp h
      by_cases hA : hidAll k l0 = true
      · rw [if_pos hA] at h
        simp only [Option.some.injEq, Prod.mk.injEq] at h
        obtain ⟨rfl, rfl⟩ := h
        obtain ⟨⟨hA1, hA2⟩, hA3⟩ := hidAll_iff.1 hA
        have HA3 := Aside0.mk hA3
        have HM := Aside0.mk hm
        have hz' : ((l0.length : Int) == 1) = false := by simp; omega
        clear h1 hA hA3 hm
        go_enter Try.func12, Try.ntmps12
        go_wp2_with (first
          | (go_at_call 35; refine (impl_AreThreads.calls k A0 c0 l0 true _ HR.out HC0.out HT.out).mono ?_; rintro e w1 ⟨rfl, hb⟩; have y1 : w1.cell? ⟨w.heap.size, 0, none⟩ = some (.slice A0 l0.length c0) := (hb.cell (p := ⟨w.heap.size, 0, none⟩) HZ.out).trans HN.out; have HB1 := Aside0.mk (below_then HB0.out HB0.out.size hb); have HR1 := Aside0.mk (Kd.C_below HR.out hb); have HZ1 := Aside0.mk (Nat.lt_of_lt_of_le HZ.out hb.size); clear hb)
          | (go_at_call 36; refine (impl_countUnder.calls k A0 c0 l0 0 m _ HR1.out HC0.out HM.out).mono ?_; rintro e w2 ⟨rfl, hb⟩; have y2 : w2.cell? ⟨w.heap.size, 0, none⟩ = some (.slice A0 l0.length c0) := (hb.cell (p := ⟨w.heap.size, 0, none⟩) HZ1.out).trans y1; have HB2 := Aside0.mk (below_then HB1.out HB1.out.size hb); have HR2 := Aside0.mk (Kd.C_below HR1.out hb); have HZ2 := Aside0.mk (Nat.lt_of_lt_of_le HZ1.out hb.size); have y3 : (w2.alloc (.cells #[.int .i64 m] 3)).cell? ⟨w.heap.size, 0, none⟩ = some (.slice A0 l0.length c0) := cell_later _ y2; clear hb)
          | (go_at_call 37; refine (impl_numbersWith.ask 0 ((l0.length : Int) - 1) 38 #[.pointer (some ⟨w.heap.size, 0, none⟩), .pointer (some ⟨w2.heap.size, 0, none⟩)] (fun x => impl_countUnder.f k (l0.eraseIdx x.toNat) 0 == some m) (fun x => 0 ≤ x ∧ x ≤ (l0.length : Int) - 1) (w2.alloc (.cells #[.int .i64 m] 3)) (enters_of Try.func38 (by kernel_rfl) rfl) (by omega) (by omega)
                (impl_HiddenThreads_1.asks k A0 c0 l0 m _ _ _ (by have := HZ2.out; simp; omega) (by simp) (Kd.C_alloc HR2.out _) hA1 hA2 HA3.out y3 (cell_new rfl)) (fun z hz hz2 => ⟨hz, hz2⟩)).mono ?_; rintro e w4 ⟨v, rfl, ho, hb⟩; have HO := Aside0.mk ho; have HB4 := Aside0.mk (below_then (below_alloc HB2.out (.cells #[.int .i64 m] 3)) (below_alloc HB2.out (.cells #[.int .i64 m] 3)).size hb); clear ho hb)
          | fail)
        all_goals
          go_ret2
          exact ⟨_, rfl, Kd.R_lower HO.out (below_alloc HB2.out (.cells #[.int .i64 m] 3)).size, HB4.out⟩
      · rw [if_neg hA] at h; cases h
  · rw [if_neg hq] at h
    simp only [Option.some.injEq, Prod.mk.injEq] at h
    obtain ⟨rfl, rfl⟩ := h
    simp only [Bool.not_eq_true] at hq
    subst hq
    go_enter Try.func12, Try.ntmps12
    go_wp2_with (first | (go_at_call 35; refine (impl_AreThreads.calls k A0 c0 l0 false _ HR.out HC0.out HT.out).mono ?_; rintro e w1 ⟨rfl, hb⟩; have y1 : w1.cell? ⟨w.heap.size, 0, none⟩ = some (.slice A0 l0.length c0) := (hb.cell (p := ⟨w.heap.size, 0, none⟩) HZ.out).trans HN.out; have HB1 := Aside0.mk (below_then HB0.out HB0.out.size hb); clear hb) | fail)
    all_goals
      go_ret2
      exact ⟨_, rfl, Kd.R_nil _ _ _ _ _, HB1.out⟩

end Go.Proofs.Ytafbnilpipcjfaa.P
