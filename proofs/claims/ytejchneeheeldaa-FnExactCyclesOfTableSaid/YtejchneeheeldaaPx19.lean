/- A part of this seat's proofs: contracts of the translated functions, written by the session's own program (gp.py) out of the kit's print.py and the session's own contracts; no conditions of its own. -/
import Derived.Test.YtejchneeheeldaaPx0
import Derived.Test.YtejchneeheeldaaPx9
namespace Go.Proofs.Ytejchneeheeldaa.P
open Go.RowKit Go.Proofs.YtejchneeheeldaaW.PrintWords Go.Proofs.YtejchneeheeldaaW.PrintLast Go.Proofs.YtejchneeheeldaaW.PrintMore
attribute [local go_sem] max2_int min2_int max_two min_two max_three min_three max_four min_four   -- for this text's walks alone
set_option linter.unusedVariables false
set_option linter.unusedSimpArgs false

/-! ### given: 34_markSS.tpl -/
/-- The rows, marked one behind the other. -/
def markSS (k : Nat) : List (List Int) → Int → Option (Int × List (List Int))
  | [], a => some (a, [])
  | r :: rs, a => (laws_markIntS.f k r a).bind fun t => (markSS k rs t.1).bind fun u => some (u.1, t.2 :: u.2)
theorem markSS_mono (k : Nat) : ∀ (l : List (List Int)) (a : Int), LeO (markSS k l a) (markSS (k + 1) l a)
  | [], a, r, h => h
  | x :: l, a, r, h => by
    unfold markSS at h ⊢
    obtain ⟨t, ht, h⟩ := Option.bind_eq_some_iff.mp h
    obtain ⟨u, hu, h⟩ := Option.bind_eq_some_iff.mp h
    rw [laws_markIntS.mono _ _ _ _ ht, Option.bind_some, markSS_mono k l t.1 _ hu, Option.bind_some]
    exact h
theorem markSS_len (k : Nat) : ∀ (l : List (List Int)) (a : Int) (r : Int × List (List Int)), markSS k l a = some r → r.2.length = l.length
  | [], a, r, h => by
    unfold markSS at h
    rw [← Option.some.inj h]
  | x :: l, a, r, h => by
    unfold markSS at h
    obtain ⟨t, ht, h⟩ := Option.bind_eq_some_iff.mp h
    obtain ⟨u, hu, h⟩ := Option.bind_eq_some_iff.mp h
    rw [← Option.some.inj h]
    simp [markSS_len k l t.1 _ hu]
def laws_markIntSS.f (k : Nat) (l0 : List (List Int)) (a1 : Int) : Option (Int × (List (List Int))) := if l0.length < 4611686018427387904 then markSS k l0 a1 else none
theorem laws_markIntSS.mono : ∀ a0 a1 k, LeO (laws_markIntSS.f k a0 a1) (laws_markIntSS.f (k + 1) a0 a1) := by
  intro a0 a1 k r h
  unfold laws_markIntSS.f at h ⊢
  by_cases hs : a0.length < 4611686018427387904
  · rw [if_pos hs] at h ⊢; exact markSS_mono k _ _ _ h
  · rw [if_neg hs] at h; cases h
/-- Row i, lent to the marking, and taken back. -/
theorem lendRow {w0 W : World} {ok : Nat → Prop} {g n cap : Nat} {l : List (List Int)} (h : Kd.S (Kd.slice 3 (Kd.int .i64)) 22 W w0.heap.size ok (.slice (some ⟨g, 0, none⟩) n cap) l) (i : Nat) (hi : i < n) (hnew : ∀ k, W.heap.size ≤ k → ok k) :
    ∃ (oki : Nat → Prop) (v : Value), W.cell? ⟨g, i, none⟩ = some v ∧ Kd.R (Kd.int .i64) 3 W w0.heap.size oki v (l.getD i []) ∧ (∀ k, oki k → ok k) ∧
      ∀ (w1 : World) (x : List Int), Kept W w1 oki → Kd.R (Kd.int .i64) 3 w1 w0.heap.size (fun k => oki k ∨ W.heap.size ≤ k) v x → Kd.S (Kd.slice 3 (Kd.int .i64)) 22 w1 w0.heap.size ok (.slice (some ⟨g, 0, none⟩) n cap) (l.set i x) := by
  obtain ⟨oki, c, hc, hM, hcell, hok, hH⟩ := Kd.S_lend h [] (i : Int) (by omega) (by omega)
  obtain ⟨v, rfl, hR⟩ := hM
  have h0 := hcell 0 v rfl
  refine ⟨oki, v, by simpa [Kd.slice] using h0, by simpa using hR, fun k hk => (hok k hk).1, fun w1 x hk hx => ?_⟩
  have h1 := Kd.H_widen hH
  have h2 := Kd.H_step (w1 := w1) h1 (fun k _ hn hlt => hk.2 k hlt (fun h3 => hn (.inl h3)))
  have h3 := Kd.H_back h2 (x' := x) (okp := fun k => oki k ∨ W.heap.size ≤ k) ⟨v, rfl, hx⟩ (fun k h => h.elim .inl (fun h4 => .inr ⟨hnew k h4, h4⟩))
  simpa using h3
set_option maxHeartbeats 4000000 in
theorem laws_markIntSS.calls (k : Nat) (P0_ : Nat → Prop) (u9000_ : Value) (l0 : List (List Int)) (a1 : Int) (r1 : Int) (r2 : List (List Int)) (w0 w : World) (hB : Below w0.heap.size w0 w) (ho0 : Kd.S (Kd.slice 3 (Kd.int .i64)) 22 w w0.heap.size P0_ u9000_ l0) (h : laws_markIntSS.f k l0 a1 = some (r1, r2)) :
    Calls Try.prog 17 #[u9000_, .int .i64 a1] w fun e w' => e = .returned (.int .i64 r1) ∧ Kd.S (Kd.slice 3 (Kd.int .i64)) 22 w' w0.heap.size (fun k_ => (P0_ k_ ∨ w.heap.size ≤ k_)) u9000_ r2 ∧ Below w0.heap.size w0 w' ∧ Kept w w' (fun k_ => P0_ k_) := by
  unfold laws_markIntSS.f at h
  by_cases hsz : l0.length < 4611686018427387904
  · rw [if_pos hsz] at h
    have hS := Kd.S_mono ho0 (ok' := fun k_ => (P0_ k_ ∨ w.heap.size ≤ k_)) (fun k hk => .inl hk)
    rcases Nat.eq_zero_or_pos l0.length with hz | hp
    · obtain rfl : l0 = [] := List.length_eq_zero_iff.1 hz
      obtain ⟨A, c, rfl⟩ := Kd.S_slice ho0
      unfold markSS at h
      simp only [Option.some.injEq, Prod.mk.injEq] at h
      obtain ⟨rfl, rfl⟩ := h
      have HS := Aside0.mk hS
      have HB := Aside0.mk hB
      clear hS ho0 hB
      go_enter Try.func17, Try.ntmps17
      go_wp2
      go_loopg [1, 5] 1 (fun gg v1 v5 wr => v1 = .int .i64 a1 ∧ v5 = .int .i64 0 ∧ Aside0 (wr = w))
      case atStart => exact ⟨rfl, rfl, ⟨rfl⟩⟩
      case round =>
        obtain ⟨rfl, rfl, HW⟩ := hrel
        obtain rfl := HW.out
        go_wp2
        go_ret
        exact ⟨rfl, HS.out, HB.out, Kept.refl _ _⟩
    · obtain ⟨g, cap, rfl, hg0, hglt, _⟩ := Kd.S_form ho0 hp
      have HS := Aside0.mk hS
      have HB := Aside0.mk hB
      have HM := Aside0.mk h
      clear hS ho0 hB h
      go_enter Try.func17, Try.ntmps17
      go_wp2
      go_loopg [1, 5] l0.length (fun gg v1 v5 wr => ∃ (i : Nat) (a : Int) (ds ts : List (List Int)), i ≤ l0.length ∧ l0.length - i ≤ gg ∧ v1 = .int .i64 a ∧ v5 = .int .i64 i ∧ Aside0 (ds.length = i ∧ ds.length + ts.length = l0.length) ∧ Aside0 (Kd.S (Kd.slice 3 (Kd.int .i64)) 22 wr w0.heap.size (fun k_ => (P0_ k_ ∨ w.heap.size ≤ k_)) (.slice (some ⟨g, 0, none⟩) l0.length cap) (ds ++ ts)) ∧ Aside0 (Below w0.heap.size w0 wr) ∧ Aside0 (Kept w wr (fun k_ => P0_ k_)) ∧ Aside0 (∃ u, markSS k ts a = some u ∧ r1 = u.1 ∧ r2 = ds ++ u.2))
      case atStart => exact ⟨0, a1, [], l0, by omega, by omega, rfl, rfl, ⟨by simp⟩, HS, HB, ⟨Kept.refl _ _⟩, ⟨(r1, r2), HM.out, rfl, by simp⟩⟩
      case round =>
        obtain ⟨i, a, ds, ts, hi, hgg, rfl, rfl, HL, HS, HB, HK, HM⟩ := hrel
        by_cases hlt : i < l0.length
        · obtain ⟨hl1, hl2⟩ := HL.out
          match ts, HM, HS, hl2 with
          | [], HM, HS, hl2 => exact absurd hl2 (by simp; omega)
          | x :: ts, HM, HS, hl2 =>
            obtain ⟨u, hu, hr1, hr2⟩ := HM.out
            unfold markSS at hu
            obtain ⟨t, ht, hu⟩ := Option.bind_eq_some_iff.mp hu
            obtain ⟨u', hu', hu⟩ := Option.bind_eq_some_iff.mp hu
            obtain rfl := Option.some.inj hu
            obtain ⟨oki, v, hcell, hR, hokk, hback⟩ := lendRow HS.out i hlt (fun k hk => .inr (Nat.le_trans HK.out.1 hk))
            have e0 : (ds ++ x :: ts).getD i [] = x := by rw [List.getD_eq_getElem?_getD, List.getElem?_append_right (by omega), hl1, Nat.sub_self]; rfl
            rw [e0] at hR
            have HR := Aside0.mk hR
            have HT := Aside0.mk ht
            have HU := Aside0.mk hu'
            have H1 := Aside0.mk hr1
            have H2 := Aside0.mk hr2
            have HOK := Aside0.mk hokk
            have HBK := Aside0.mk hback
            have hwr : IntKind.i64.wrap ((i : Int) + 1) = ((i + 1 : Nat) : Int) := by rw [IntWalk.i64_in _ (by omega)]; omega
            clear ht hu' hr1 hr2 hokk hback hR HM HS
            go_wp2_with (go_at_call 12; refine (laws_markIntS.calls k oki v x a t.1 t.2 w0 _ HB.out HR.out HT.out).mono ?_; rintro e w1 ⟨rfl, hR1, hB1, hK1⟩; have HR1 := Aside0.mk hR1; have HB1 := Aside0.mk hB1; have HK1 := Aside0.mk hK1; clear hR1 hB1 hK1)
            go_roundg (l0.length - (i + 1))
            case measure => omega
            case rel =>
              have h3 := HBK.out _ t.2 HK1.out HR1.out
              have e3 : (ds ++ x :: ts).set i t.2 = (ds ++ [t.2]) ++ ts := by
                rw [List.set_append_right _ _ (by omega), hl1, Nat.sub_self]; simp
              rw [e3] at h3
              exact ⟨i + 1, t.1, ds ++ [t.2], ts, by omega, Nat.le_refl _, rfl, by go_num, ⟨by simp; omega, by simp at hl2 ⊢; omega⟩, ⟨h3⟩, HB1, ⟨HK.out.then_ HK1.out (fun k hk => HOK.out k hk)⟩, ⟨u', HU.out, H1.out, by rw [H2.out]; simp⟩⟩
        · have : i = l0.length := by omega
          subst this
          go_wp2
          go_ret
          obtain ⟨u, hu, hr1, hr2⟩ := HM.out
          obtain ⟨hl1, hl2⟩ := HL.out
          obtain rfl : ts = [] := List.length_eq_zero_iff.1 (by omega)
          unfold markSS at hu
          obtain rfl := Option.some.inj hu
          refine ⟨by rw [hr1]; rfl, ?_, HB.out, HK.out⟩
          rw [hr2]; exact HS.out
  · rw [if_neg hsz] at h; cases h

end Go.Proofs.Ytejchneeheeldaa.P
