/- A part of this seat's proofs: contracts of the translated functions, written by the session's own program (gp.py) out of the kit's print.py and the session's own contracts; no conditions of its own. -/
import Derived.Test.YtfpjakkjkakjoaaGreatDoorPx0
import Derived.Test.YtfpjakkjkakjoaaGreatDoorPx5
import Derived.Test.YtfpjakkjkakjoaaGreatDoorPx6
import Derived.Test.YtfpjakkjkakjoaaGreatDoorPx7
import Derived.Test.YtfpjakkjkakjoaaGreatDoorPx16
namespace Go.Proofs.YtfpjakkjkakjoaaGreatDoor.P
open Go.RowKit Go.Proofs.YtfpjakkjkakjoaaGreatDoorW.PrintWords Go.Proofs.YtfpjakkjkakjoaaGreatDoorW.PrintLast Go.Proofs.YtfpjakkjkakjoaaGreatDoorW.PrintMore
attribute [local go_sem] max2_int min2_int max_two min_two max_three min_three max_four min_four   -- for this text's walks alone
set_option linter.unusedVariables false
set_option linter.unusedSimpArgs false

/-! ### given: 72b_countClosed.tpl -/
section
open Go.Maps Go.MapKept
theorem tab_hit {es : List (Lit × DataW Unit)} {m : List (WK × Int)} (h : TabM es m) {k : WK} (hk : okWK k) {c : Int} (hat : ∀ zd, (DataW.map es).atKey (wkLit k) zd = .lit (.int .i64 c)) : (k, c) ∈ m := by
  obtain ⟨h1, h2, h3⟩ := h
  have hat0 := hat (.lit (.int .i64 (c + 1)))
  unfold DataW.atKey at hat0
  dsimp only at hat0
  cases hf : es.find? (fun p => p.1.sameKey (wkLit k)) with
  | none =>
    rw [hf] at hat0
    dsimp only at hat0
    have e := lit_inj hat0
    omega
  | some p =>
    rw [hf] at hat0
    dsimp only at hat0
    have hs := List.find?_some hf
    obtain ⟨e, he, rfl⟩ := List.mem_map.1 (h1.mem_iff.1 (List.mem_of_find?_eq_some hf))
    have hs : (wkLit e.1).sameKey (wkLit k) = true := hs
    rw [wk_same (h3 e he) hk] at hs
    have e1 : e.1 = k := of_decide_eq_true hs
    have hat0 : (DataW.lit (Lit.int .i64 e.2) : DataW Unit) = .lit (.int .i64 c) := hat0
    have e2 := lit_inj hat0
    rw [← e1, ← e2]
    exact he
def sgJ : Nat → Int
  | 0 => 70
  | 1 => 76
  | _ => 82
def exJ (g v : Int) (k : WK) : Nat → (WK → Int) → Int
  | 0, _ => 0
  | j + 1, f => exJ g v k j f + v * f (kF g (sgJ j) k)
theorem totM_three (g : Int) (l : List (WK × Int)) : totM (stF g fun _ => 1) l = 3 * totM (fun _ => 1) l := by
  induction l with
  | nil => rfl
  | cons e l ih =>
    rw [totM, totM, ih]
    show e.2 * (1 + 1 + 1) + 3 * totM (fun _ => 1) l = 3 * (e.2 * 1 + totM (fun _ => 1) l)
    omega
theorem exJ_bd (g v : Int) (k : WK) (h1 : 1 ≤ v) (h2 : v ≤ 59049) : ∀ j : Nat, j ≤ 3 → 0 ≤ exJ g v k j (fun _ => 1) ∧ exJ g v k j (fun _ => 1) ≤ 59049 * j
  | 0, _ => by rw [exJ]; omega
  | j + 1, h => by
    have := exJ_bd g v k h1 h2 j (by omega)
    rw [exJ]
    omega
theorem part_bd {g : Int} {i : Nat} {m m2 : List (WK × Int)} {left : Lit → Bool} {ex : (WK → Int) → Int} (hi : i ≤ 10) (hm : goodM g i m) (h : partM g i m left ex m2) (hx : ex (fun _ => 1) ≤ 177147) : m2.length < 1000000 ∧ ∀ k, 0 ≤ getM m2 k ∧ getM m2 k ≤ 400000 := by
  have e1 := h.1 (fun _ => 1)
  rw [totM_three] at e1
  have e2 := done_le (fun e he => (hm.2 e he).2) left
  have e : totM (fun _ => 1) m = pw3 i := by rw [hm.1, itF_one]; omega
  have h3 := pw3_10 hi
  obtain ⟨h4, h5⟩ := val_le (fun e he => (h.2 e he).2)
  refine ⟨by omega, fun k => ?_⟩
  have := h5 k
  omega
theorem wf_small {v : Int} (h1 : -9000000000000000000 ≤ v) (h2 : v ≤ 9000000000000000000) : (Lit.int .i64 v).wf = true := by
  have e0 : IntKind.i64.min = -9223372036854775808 := rfl
  have e1 : IntKind.i64.max = 9223372036854775807 := rfl
  simp only [Lit.wf, Bool.and_eq_true, decide_eq_true_eq, e0, e1]
  omega
theorem wpList_insert_own {H : Type} {P : Program} (w : World) {ops : Array Oper} {rest : List Oper} {o : Oper} {a : Act} {Q : Exit → Act → World → Prop}
    (hg : o.guard = none) (m x v : Operand) (t : TypeId) (hop : o.op = Op.insert t m x v)
    (k e : TypeId) (K : Keyed P k) (ht : P.underlying t = some (.map k e)) (R : Value → Option (DataW H × List MemPlace)) (b n : Nat) (D : DataW H)
    (hm : a.eval m = .map (some b)) (hown : w.ownsMap P k R b n D) (hn : n < maxLen) (key val : Value) (kl : Lit) (hx : a.eval x = key) (hv : a.eval v = val) (hkey : keyOf P k key = some kl)
    (d : DataW H) (ps : List MemPlace) (hval : R val = some (d, ps))
    (hK : ∀ w', w'.ownsMap P k R b (n + 1) (D.put kl d) → w.grownBy w' (some b) → wpList P ops Q rest (a.put o.dst undef) w') :
    wpList P ops Q (o :: rest) a w := by
  obtain ⟨w', hrun, r1, r2⟩ := hown.update K ht hn hkey hval
  refine wpList_plain hg fun K' hK' => ?_
  unfold Oper.wp
  simp [execOp, hop, hm, hx, hv, hrun, Result.andThen]
  exact hK' _ _ (hK w' r1 r2)
def impl_CountClosed.f (a0 : Int) (a1 : Int) : Option (Int × Bool) := (impl_isGrid.f a0).bind fun t1 => if t1 = true then ((impl_within.f a1 0 10).bind fun t2 => if t2 = true then (if (a0 = 4 ∨ a0 = 6) ∧ 0 ≤ a1 ∧ a1 ≤ 10 then some (itF a0 a1.toNat (fun z => if z = (0, 0, 0) then 1 else 0) (0, 0, 0), true) else none) else some (0, false)) else some (0, false)
/-- The table of the walkers behind i signs lies in block b. -/
def outW (w0 : World) (a0 : Int) (i b : Nat) (w : World) : Prop := ∃ m es, w0.heap.size ≤ b ∧ w.ownsMap Tryz.prog 51 (plainElem (H := Unit) Tryz.prog 3) b m.length (.map es) ∧ TabM es m ∧ goodM a0 i m ∧ Below w0.heap.size w0 w
end
section
open Go.Maps Go.MapKept
theorem wk_zero : keyOf Tryz.prog 51 (wkV 0 0 0) = some (wkL 0 0 0) := wk_key (by decide) (by decide) (by decide)
theorem wk_shape (key : Value) (kl : Lit) (h : keyOf Tryz.prog 51 key = some kl) : ∃ x : WK, key = wkV x.1 x.2.1 x.2.2 := by
  obtain ⟨x, y, d, rfl, _, _, _, _⟩ := wk_inv h
  exact ⟨(x, y, d), rfl⟩
theorem int_shape (v : Value) (y : DataW Unit × List MemPlace) (h : (plainElem (H := Unit) Tryz.prog 3) v = some y) : ∃ c : Int, v = .int .i64 c := by
  obtain ⟨c, rfl, _⟩ := plainElem_int_inv Tryz.underlying3 h
  exact ⟨c, rfl⟩
/-- An entry that a loop over the table brings: a walker in range, and how often. -/
theorem entry_told {g : Int} {i : Nat} {es : List (Lit × DataW Unit)} {m : List (WK × Int)} (hg : g = 4 ∨ g = 6) (hi : i ≤ 10) (ht : TabM es m) (hm : goodM g i m) {x : WK} {c : Int} {kl : Lit} {y : DataW Unit × List MemPlace} (hkey : keyOf Tryz.prog 51 (wkV x.1 x.2.1 x.2.2) = some kl) (hv : (plainElem (H := Unit) Tryz.prog 3) (.int .i64 c) = some y) (hat : ∀ zd, (DataW.map es).atKey kl zd = y.1) :
    kl = wkLit x ∧ (x, c) ∈ m ∧ rangeK g i x ∧ 1 ≤ c ∧ c ≤ 59049 := by
  obtain ⟨x1, x2, x3, e1, rfl, w1, w2, w3⟩ := wk_inv hkey
  unfold wkV at e1
  simp only [Value.agg.injEq, Array.mk.injEq, List.cons.injEq, Value.int.injEq, and_true, true_and] at e1
  obtain ⟨rfl, rfl, rfl⟩ := e1
  obtain ⟨c', e2, rfl, wc⟩ := plainElem_int_inv Tryz.underlying3 hv
  injection e2 with _ e2
  subst e2
  have hin := tab_hit ht (k := x) ⟨w1, w2, w3⟩ hat
  have h1 := hm.2 _ hin
  have h2 := (good_bd hi hm).2 x
  rw [find_key ht.2.1 hin] at h2
  exact ⟨rfl, hin, h1.1, h1.2, h2.2⟩
end
section
open Go.Maps Go.MapKept
/-- Under way over the table in block b: what is done lies in the table in block b2. -/
def midW (w0 : World) (a0 : Int) (i b b2 r : Nat) (es : List (Lit × DataW Unit)) (m : List (WK × Int)) (left : Lit → Bool) (cnt : Nat) (w : World) : Prop := ∃ es2 m2, w.ranges Tryz.prog 51 (plainElem (H := Unit) Tryz.prog 3) b r m.length (.map es) left cnt ∧ w.ownsMap Tryz.prog 51 (plainElem (H := Unit) Tryz.prog 3) b2 m2.length (.map es2) ∧ TabM es2 m2 ∧ partM a0 i m left (fun _ => 0) m2 ∧ Below w0.heap.size w0 w
/-- An entry's three signs: so many are done. -/
def innW (w0 : World) (a0 : Int) (i b b2 r : Nat) (es : List (Lit × DataW Unit)) (m : List (WK × Int)) (left leftN : Lit → Bool) (cnt : Nat) (x : WK) (c : Int) (g8 j : Nat) (w : World) : Prop := ∃ es2 m2, w.ranges Tryz.prog 51 (plainElem (H := Unit) Tryz.prog 3) b r m.length (.map es) leftN cnt ∧ w.ownsMap Tryz.prog 51 (plainElem (H := Unit) Tryz.prog 3) b2 m2.length (.map es2) ∧ TabM es2 m2 ∧ partM a0 i m left (exJ a0 c x j) m2 ∧ Below w0.heap.size w0 w ∧
  w.heap[g8]? = some (.cells #[.int .i64 x.1, .int .i64 x.2.1, .int .i64 x.2.2] 51 (0, 0)) ∧ w.heap[g8 + 1]? = some (.cells #[.int .u8 70, .int .u8 76, .int .u8 82] 5 (3, 4))
theorem inn_cell {W : World} {g : Nat} {t : TypeId} (h : W.heap[g]? = some (.cells #[.int .u8 70, .int .u8 76, .int .u8 82] t (3, 4))) {j : Nat} (hj : j < 3) : W.cell? ⟨g, j, none⟩ = some (.int .u8 (sgJ j)) := by
  rw [cell_of_row W g j _ _ _ h]
  have : j = 0 ∨ j = 1 ∨ j = 2 := by omega
  rcases this with rfl | rfl | rfl <;> rfl
theorem do_told {a0 x1 x2 x3 : Int} {i : Nat} (hg : a0 = 4 ∨ a0 = 6) (hi : i ≤ 10) (h : rangeK a0 i (x1, x2, x3)) (s : Int) : impl_walker_do.f x1 x2 x3 a0 s = some (kF a0 s (x1, x2, x3)) := by
  unfold impl_walker_do.f
  rw [if_pos]
  · rfl
  · unfold rangeK at h
    unfold inW
    dsimp only at h
    omega
theorem below_drewL {B : Nat} {W w6 : World} (hb : Below B W.drew w6) : Below B W w6 := ⟨hb.os, hb.tape, hb.output, hb.size, hb.block⟩
/-- 'next[at.do(grid, sign)] += n' behind the call: all that the statement's orders ask. -/
theorem do_step {W w6 : World} (hb : Below W.heap.size W w6) {b2 : Nat} {es4 : List (Lit × DataW Unit)} {m4 : List (WK × Int)} (ho : W.ownsMap Tryz.prog 51 (plainElem (H := Unit) Tryz.prog 3) b2 m4.length (.map es4)) (ht : TabM es4 m4) (hm : m4.length < 1000000) {k1 k2 k3 c cc : Int} (hk : okWK (k1, k2, k3)) (hcc : cc = getM m4 (k1, k2, k3)) (hv : (Lit.int .i64 (cc + c)).wf = true) :
    ∃ (v0 : Value) (st : Int) (W2 W3 : World) (es5 : List (Lit × DataW Unit)),
      (Instr.lookup 64 (.map (some b2)) (.agg #[.int .i64 k1, .int .i64 k2, .int .i64 k3]) false).run Tryz.prog w6 = .ok (.int .i64 cc) w6 ∧
      (Instr.lookup 64 (.map (some b2)) (.agg #[.int .i64 k1, .int .i64 k2, .int .i64 k3]) false).run Tryz.prog W2 = .ok (.int .i64 cc) W2 ∧
      (Instr.mapEntry 64 (.map (some b2)) (.agg #[.int .i64 k1, .int .i64 k2, .int .i64 k3])).run Tryz.prog w6 = .ok (.tuple #[v0, .int .i64 st]) W2 ∧
      (Instr.entryStore 64 (.map (some b2)) (.int .i64 st) (.int .i64 (cc + c))).run Tryz.prog W2 = .ok () W3 ∧
      (W3.ownsMap Tryz.prog 51 (plainElem (H := Unit) Tryz.prog 3) b2 (m4.length + 1) (.map es5) ∧ TabM es5 (putM m4 (k1, k2, k3) (cc + c)) ∧ W.grownBy W3 (some b2)) := by
  have hg := grown_of_below hb none
  subst hcc
  obtain ⟨v0, st, W2, W3, es5, hL1, hE, hL2, hS, hO3, hT3, hG3⟩ := put_step (ho.kept hg (by simp)) ht hm hk hv
  exact ⟨v0, st, W2, W3, es5, hL1, hL2, hE, hS, hO3, hT3, (hg.but (some b2)).andThen hG3 (fun j hj => .inr hj)⟩
theorem blk_ne_map {W : World} {g b n : Nat} {cs : Array Value} {t k : TypeId} {fr : Nat × Nat} {R : Value → Option (DataW Unit × List MemPlace)} {D : DataW Unit} (h1 : W.heap[g]? = some (.cells cs t fr)) (h2 : W.ownsMap Tryz.prog k R b n D) : some g ≠ some b := by
  intro he
  obtain rfl := Option.some.inj he
  obtain ⟨es, clock, hb, _⟩ := h2
  rw [h1] at hb
  have hb := Option.some.inj hb
  cases hb
theorem inn_next {w0 wr W3 : World} {a0 : Int} {i b b2 : Nat} {es es4 es5 : List (Lit × DataW Unit)} {m m4 : List (WK × Int)} {left leftN : Lit → Bool} {cnt : Nat} {x k : WK} {c s cc : Int} {g8 j : Nat} (hbb : b < b2) (hb0 : w0.heap.size ≤ b2)
    (q1 : wr.ranges Tryz.prog 51 (plainElem (H := Unit) Tryz.prog 3) b (b2 + 1) m.length (.map es) leftN cnt) (q2 : wr.ownsMap Tryz.prog 51 (plainElem (H := Unit) Tryz.prog 3) b2 m4.length (.map es4)) (q3 : TabM es4 m4) (q4 : partM a0 i m left (exJ a0 c x j) m4) (q5 : Below w0.heap.size w0 wr)
    (q6 : wr.heap[g8]? = some (.cells #[.int .i64 x.1, .int .i64 x.2.1, .int .i64 x.2.2] 51 (0, 0))) (q7 : wr.heap[g8 + 1]? = some (.cells #[.int .u8 70, .int .u8 76, .int .u8 82] 5 (3, 4)))
    (hg : a0 = 4 ∨ a0 = 6) (hx : rangeK a0 i x) (hc : 1 ≤ c) (hs : s = sgJ j) (hk : k = kF a0 s x) (hcc : cc = getM m4 k)
    (hz : W3.ownsMap Tryz.prog 51 (plainElem (H := Unit) Tryz.prog 3) b2 (m4.length + 1) (.map es5) ∧ TabM es5 (putM m4 k (cc + c)) ∧ wr.grownBy W3 (some b2)) : innW w0 a0 i b b2 (b2 + 1) es m left leftN cnt x c g8 (j + 1) W3 := by
  obtain ⟨hO3, hT3, hG3⟩ := hz
  refine ⟨es5, putM m4 k (cc + c), q1.kept hG3 (fun e => by have := Option.some.inj e; omega) (fun e => by have := Option.some.inj e; omega), own_len hO3 hT3, hT3, ?_, q5.grown hG3 q5.size (fun j hj => by cases hj; exact hb0), blk_grown q6 hG3 (blk_ne_map q6 q2), blk_grown q7 hG3 (blk_ne_map q7 q2)⟩
  subst hcc hk hs
  exact part_put hg q4 q3.2.1 hx hc (sgJ j)
set_option maxHeartbeats 8000000 in
set_option maxRecDepth 100000 in
theorem impl_CountClosed.calls (a0 : Int) (a1 : Int) (r1 : Int) (r2 : Bool) (w : World) (h : impl_CountClosed.f a0 a1 = some (r1, r2)) :
    Calls Tryz.prog 21 #[.int .i64 a0, .int .i64 a1] w fun e w' => e = .returned (.tuple #[.int .i64 r1, .bool r2]) ∧ Below w.heap.size w w' := by
  obtain ⟨t1, ht1, h⟩ := Option.bind_eq_some_iff.mp h
  have HI := Aside0.mk ht1
  clear ht1
  by_cases hc1 : t1 = true
  · subst hc1
    rw [if_pos rfl] at h
    obtain ⟨t2, ht2, h⟩ := Option.bind_eq_some_iff.mp h
    have HW := Aside0.mk ht2
    clear ht2
    by_cases hc2 : t2 = true
    · subst hc2
      rw [if_pos rfl] at h
      by_cases hs : (a0 = 4 ∨ a0 = 6) ∧ 0 ≤ a1 ∧ a1 ≤ 10
      · rw [if_pos hs] at h
        simp only [Option.some.injEq, Prod.mk.injEq] at h
        obtain ⟨hr, rfl⟩ := h
        have HR := Aside0.mk hr
        have HS := Aside0.mk hs
        clear hr hs
        have hmm := @run_makeMap Tryz.prog
        go_enter Tryz.func21, Tryz.ntmps21
        go_wp2_with (first
          | (go_at_call 39; refine (impl_isGrid.calls _ _ _ HI.out).mono ?_; rintro e w1 ⟨rfl, hb⟩; have HB1 := Aside0.mk (Drawn0.below hb); clear hb)
          | (go_at_call 28; refine (impl_within.calls _ _ _ _ _ HW.out).mono ?_; rintro e w2 ⟨rfl, hb⟩; have HB2 := Aside0.mk (below_step HB1.out (Drawn0.below hb)); clear hb)
          | (refine wpList_insert_own _ rfl _ _ _ 64 rfl 51 3 wk_law map_und (plainElem (H := Unit) Tryz.prog 3) w2.heap.size 0 (.map []) rfl (World.ownsMap_made _ _ _ _) (by unfold maxLen; omega) (wkV 0 0 0) (.int .i64 1) (wkL 0 0 0) rfl rfl wk_zero (.lit (.int .i64 1)) [] (elem_int (by decide)) ?_; intro w3 hown3 hg3; go_frame; have HO3 := Aside0.mk hown3; have HG3 := Aside0.mk hg3; clear hown3 hg3))
        have hst : outW w a0 0 w2.heap.size w3 := by
          obtain ⟨es, he, hT⟩ := tab_put tab_empty (k := ((0, 0, 0) : WK)) ⟨by decide, by decide, by decide⟩ 1
          have h1 := HO3.out
          rw [show (DataW.map ([] : List (Lit × DataW Unit))).put (wkL 0 0 0) (.lit (.int .i64 1)) = .map es from he] at h1
          refine ⟨[((0, 0, 0), 1)], es, HB2.out.size, own_len h1 hT, hT, good_start a0 HS.out.1, ?_⟩
          exact (below_alloc HB2.out _).grown HG3.out (by have := HB2.out.size; simp; omega) (fun j hj => by cases hj; exact HB2.out.size)
        have HST := Aside0.mk hst
        clear hst HO3 HG3 hmm
        go_loopw [6, 24] (fun s6 s24 wr => ∃ i b : Nat, s6 = .map (some b) ∧ s24 = .int .i64 (i : Int) ∧ (i : Int) ≤ a1 ∧ Aside0 (outW w a0 i b wr)) (fun _ s24 _ => a1.toNat - (intOf s24).toNat)
        case atStart => exact ⟨0, w2.heap.size, rfl, rfl, HS.out.2.1, HST⟩
        case round =>
          as_aux_lemma =>
          obtain ⟨i, b, rfl, rfl, hi, HO⟩ := hrel
          by_cases hlt : (i : Int) < a1
          · have c1 : decide ((i : Int) < a1) = true := decide_eq_true hlt
            obtain ⟨m, es, hbase, hown, hT, hG, hB⟩ := HO.out
            have HN1 := Aside0.mk hbase
            have HN2 := Aside0.mk hown
            have HN3 := Aside0.mk hT
            have HN4 := Aside0.mk hG
            have HN5 := Aside0.mk hB
            have HN6 := Aside0.mk (show i ≤ 10 by have := HS.out.2.2; omega)
            have hmm := @run_makeMap Tryz.prog
            have e1 : (wr.alloc (.map #[] 0)).heap.size = wr.heap.size + 1 := by simp
            clear hbase hown hT hG hB HO
            go_wp2_with (first
              | (at_range; refine wpList_range_own _ rfl _ 64 rfl 51 3 wk_law map_und (plainElem (H := Unit) Tryz.prog 3) b m.length (.map es) rfl (HN2.out.alloc _) ?_; intro w4 hrg0 hg0 hs0)
              | go_in)
            go_frame
            rw [e1] at hrg0 hs0 ⊢
            have hst4 : midW w a0 i b wr.heap.size (wr.heap.size + 1) es m (Maps.has (.map es)) (Maps.size (.map es)) w4 := by
              refine ⟨[], [], hrg0, ((World.ownsMap_made _ _ _ _).kept hg0 (by simp)), tab_empty, part_start HN3.out, ?_⟩
              exact (below_alloc HN5.out _).grown hg0 (by have := HN5.out.size; simp; omega) (fun j hj => by cases hj)
            have HNB := Aside0.mk HN5.out.size
            have HBB := Aside0.mk HN2.out.lt
            have HST4 := Aside0.mk hst4
            clear hst4 hrg0 hg0 hs0 hmm e1 HN2 HN5
            obtain ⟨b2, hb2⟩ : ∃ b2, wr.heap.size = b2 := ⟨_, rfl⟩
            rw [hb2] at HST4 HNB HBB ⊢
            clear hb2
            go_loopw [9] (fun _ wq => ∃ (left : Lit → Bool) (cnt : Nat), Aside0 (midW w a0 i b b2 (b2 + 1) es m left cnt wq)) (fun _ wq => wq.rangeLeft b (b2 + 1))
            case atStart => exact ⟨_, _, HST4⟩
            case round =>
              as_aux_lemma =>
              obtain ⟨left, cnt, HM⟩ := hrel
              obtain ⟨es2, m2, hrg, hown2, hT2, hP, hB2⟩ := HM.out
              have HP1 := Aside0.mk hrg
              have HP2 := Aside0.mk hown2
              have HP3 := Aside0.mk hT2
              have HP4 := Aside0.mk hP
              have HP5 := Aside0.mk hB2
              clear hrg hown2 hT2 hP hB2 HM HST4
              go_wp2_with (first
                | (at_next; refine wpList_next_ranges _ rfl _ rfl 51 wk_law (plainElem (H := Unit) Tryz.prog 3) (fun x : WK => wkV x.1 x.2.1 x.2.2) (fun c : Int => Value.int .i64 c) wk_shape int_shape b (b2 + 1) m.length (.map es) _ _ rfl HP1.out ?_ ?_)
                | go_in)
              · as_aux_lemma =>
                intro hc0 hl0
                have HL0 := Aside0.mk hl0
                clear hl0 hc0
                have cw : wrap64 ((i : Int) + 1) = ((i + 1 : Nat) : Int) := by have := HN6.out; unfold wrap64; omega
                go_wp2
                go_roundw
                case rel => exact ⟨i + 1, b2, rfl, congrArg (Value.int .i64) cw, by omega, ⟨m2, es2, HNB.out, HP2.out, HP3.out, part_end HN4.out HP4.out HL0.out, HP5.out⟩⟩
                case measure =>
                  rw [cw]
                  show a1.toNat - (((i + 1 : Nat) : Int)).toNat < a1.toNat - ((i : Nat) : Int).toNat
                  rw [Int.toNat_natCast, Int.toNat_natCast]
                  omega
              · as_aux_lemma =>
                intro x1 x2 x3 c kl y1 y2 w5 cnt5 hkey hlk hv hat hrg5 hlt5 hg5 hs5 hen
                obtain ⟨rfl, hin, hrk, hc1, hc2⟩ := entry_told (x := (x1, x2, x3)) (y := (y1, y2)) HS.out.1 HN6.out HN3.out HN4.out hkey hv hat
                have hen2 : (Instr.entry (.pointer (some ⟨b2 + 1, 0, none⟩))).run Tryz.prog w5 = .ok (.tuple #[.agg #[.int .i64 x1, .int .i64 x2, .int .i64 x3], .int .i64 c]) w5 := hen
                have HE1 := Aside0.mk hrg5
                have HE2 := Aside0.mk hin
                have HE3 := Aside0.mk hrk
                have HE4 := Aside0.mk (And.intro hc1 hc2)
                have HE5 := Aside0.mk hg5
                have HE6 := Aside0.mk hs5
                have HE7 := Aside0.mk hlk
                have HE8 := Aside0.mk hlt5
                clear hkey hlk hv hat hrg5 hlt5 hg5 hs5 hen hin hrk hc1 hc2
                have hcv := Go.Joins.run_convert_bytes_const_at (P := Tryz.prog) (w5.alloc (.cells #[.int .i64 x1, .int .i64 x2, .int .i64 x3] 51)) 22 5 #[.int .u8 70, .int .u8 76, .int .u8 82] 3 3 (w5.heap.size + 1) (by simp) Tryz.underlying22 Tryz.underlying5
                go_wp2
                have hin0 : innW w a0 i b b2 (b2 + 1) es m left (fun z => left z && !z.sameKey (wkLit (x1, x2, x3))) cnt5 (x1, x2, x3) c w5.heap.size 0 ((w5.alloc (.cells #[.int .i64 x1, .int .i64 x2, .int .i64 x3] 51)).alloc (.cells #[.int .u8 70, .int .u8 76, .int .u8 82] 5 (3, 4))) := by
                  refine ⟨es2, m2, (HE1.out.alloc _).alloc _, ((HP2.out.kept HE5.out (by simp)).alloc _).alloc _, HP3.out, HP4.out, ?_, ?_, ?_⟩
                  · exact below_alloc (below_alloc (HP5.out.grown HE5.out (by have := HP5.out.size; omega) (fun j hj => by cases hj; have := HNB.out; omega)) _) _
                  · exact blk_alloc (blk_new w5 _) _
                  · have h1 := blk_new (w5.alloc (.cells #[.int .i64 x1, .int .i64 x2, .int .i64 x3] 51)) (.cells #[.int .u8 70, .int .u8 76, .int .u8 82] 5 (3, 4))
                    rw [show (w5.alloc (.cells #[.int .i64 x1, .int .i64 x2, .int .i64 x3] 51)).heap.size = w5.heap.size + 1 by simp] at h1
                    exact h1
                have HN0 := Aside0.mk hin0
                clear hin0 hcv hen2
                obtain ⟨g8, hg8⟩ : ∃ g8, w5.heap.size = g8 := ⟨_, rfl⟩
                rw [hg8] at HN0 ⊢
                clear hg8
                go_loopg [11, 37] 3 (fun gg _ s37 wq => ∃ j : Nat, j ≤ 3 ∧ 3 - j ≤ gg ∧ s37 = .int .i64 (j : Int) ∧ Aside0 (innW w a0 i b b2 (b2 + 1) es m left (fun z => left z && !z.sameKey (wkLit (x1, x2, x3))) cnt5 (x1, x2, x3) c g8 j wq))
                case atStart => exact ⟨0, by omega, by omega, rfl, HN0⟩
                case round =>
                  as_aux_lemma =>
                  obtain ⟨j, hj, hgg, rfl, HJ⟩ := hrel
                  obtain ⟨es4, m4, hq1, hq2, hq3, hq4, hq5, hq6, hq7⟩ := HJ.out
                  have HQ1 := Aside0.mk hq1
                  have HQ2 := Aside0.mk hq2
                  have HQ3 := Aside0.mk hq3
                  have HQ4 := Aside0.mk hq4
                  have HQ5 := Aside0.mk hq5
                  have HQ6 := Aside0.mk hq6
                  have HQ7 := Aside0.mk hq7
                  clear hq1 hq2 hq3 hq4 hq5 hq6 hq7 HJ HN0
                  by_cases hj3 : j < 3
                  · have cj : decide ((j : Int) < 3) = true := decide_eq_true (by omega)
                    have cj2 : ((j : Int) < 3) = True := eq_true (by omega)
                    have hcell := inn_cell HQ7.out hj3
                    obtain ⟨s, hs⟩ : ∃ s, s = sgJ j := ⟨_, rfl⟩
                    rw [← hs] at hcell
                    have HSG := Aside0.mk hs
                    clear hs
                    go_wp2
                    obtain ⟨⟨k1, k2, k3⟩, hk⟩ : ∃ z : WK, z = kF a0 s (x1, x2, x3) := ⟨_, rfl⟩
                    have hdo := do_told HS.out.1 HN6.out HE3.out s
                    rw [← hk] at hdo
                    have HD := Aside0.mk hdo
                    have HKR := Aside0.mk (show rangeK a0 (i + 1) (k1, k2, k3) by rw [hk]; exact kF_range HS.out.1 HE3.out)
                    have HBD := Aside0.mk (part_bd HN6.out HN4.out HQ4.out (by have := (exJ_bd a0 c (x1, x2, x3) HE4.out.1 HE4.out.2 j (by omega)).2; omega))
                    obtain ⟨cc, hcc⟩ : ∃ cc, cc = getM m4 (k1, k2, k3) := ⟨_, rfl⟩
                    have hcb := HBD.out.2 (k1, k2, k3)
                    have hce := HE4.out
                    rw [← hcc] at hcb
                    have hw : IntKind.i64.wrap (cc + c) = cc + c := IntWalk.i64_in _ ⟨by omega, by omega⟩
                    have HVW := Aside0.mk (wf_small (v := cc + c) (by omega) (by omega))
                    have cw : wrap64 ((j : Int) + 1) = ((j + 1 : Nat) : Int) := by unfold wrap64; omega
                    have hx0 : wr.cell? ⟨g8, 0, none⟩ = some (.int .i64 x1) := cell_of_row wr g8 0 _ _ _ HQ6.out
                    have hx1 : wr.cell? ⟨g8, 1, none⟩ = some (.int .i64 x2) := cell_of_row wr g8 1 _ _ _ HQ6.out
                    have hx2 : wr.cell? ⟨g8, 2, none⟩ = some (.int .i64 x3) := cell_of_row wr g8 2 _ _ _ HQ6.out
                    have HK := Aside0.mk hk
                    have HCC := Aside0.mk hcc
                    clear hk hdo hcc hcb hce hcell
                    go_region_with (first
                      | (go_at_call 44; refine (impl_walker_do.calls x1 x2 x3 a0 s k1 k2 k3 _ HD.out).mono ?_; rintro e w6 ⟨rfl, hb⟩;
                         obtain ⟨v0, st, W2, W3, es5, hL1, hL2, hE, hS, hZ⟩ := do_step (below_drewL hb) HQ2.out HQ3.out HBD.out.1 (rangeK_ok HS.out.1 (by have := HN6.out; omega) HKR.out) HCC.out HVW.out;
                         have HZ := Aside0.mk hZ; clear hZ hb))
                    all_goals
                      clear hx0 hx1 hx2 hS hL1 hL2 hE
                      go_wp2
                      go_roundg (3 - (j + 1))
                      case measure => omega
                      case rel => exact ⟨j + 1, hj3, Nat.le_refl _, (by first | rfl | exact congrArg (Value.int .i64) cw), ⟨inn_next HBB.out HNB.out HQ1.out HQ2.out HQ3.out HQ4.out HQ5.out HQ6.out HQ7.out HS.out.1 HE3.out HE4.out.1 HSG.out HK.out HCC.out HZ.out⟩⟩
                  · obtain rfl : j = 3 := by omega
                    have cj : decide (((3 : Nat) : Int) < 3) = false := by decide
                    go_wp2
                    go_roundw
                    case rel => exact ⟨_, _, ⟨es4, m4, HQ1.out, HQ2.out, HQ3.out, part_next HN3.out.2.1 HN3.out.2.2 (HN3.out.2.2 _ HE2.out) HE7.out HE2.out HQ4.out, HQ5.out⟩⟩
                    case measure => rw [HQ1.out.left_eq, HP1.out.left_eq]; exact HE8.out
          · have c1 : decide ((i : Int) < a1) = false := decide_eq_false hlt
            obtain ⟨m, es, hbase, hown, hT, hG, hB⟩ := HO.out
            have hz0 := zero_int wr
            obtain ⟨cc, hrun, hat, _⟩ := hown.lookup_int wk_law map_und Tryz.underlying3 hz0 wk_zero
            have hrun2 : (Instr.lookup 64 (.map (some b)) (.agg #[.int .i64 0, .int .i64 0, .int .i64 0]) false).run Tryz.prog wr = .ok (.int .i64 cc) wr := hrun
            have hcc : cc = r1 := by
              have h1 := tab_get (k := ((0, 0, 0) : WK)) hT ⟨by decide, by decide, by decide⟩
              have h2 : cc = getM m (0, 0, 0) := (lit_inj (h1.symm.trans hat)).symm
              have h3 := hG.1 (fun z => if z = (0, 0, 0) then 1 else 0)
              rw [home_get hT.2.1] at h3
              have h4 : a1.toNat = i := by omega
              rw [h2, h3, ← h4]
              exact HR.out
            have HCC := Aside0.mk hcc
            have HBB := Aside0.mk hB
            clear hbase hown hT hG hB hz0 hrun hat hcc HO
            go_wp2
            go_ret2
            exact ⟨by rw [HCC.out]; rfl, HBB.out⟩
      · rw [if_neg hs] at h; cases h
    · obtain rfl : t2 = false := by simpa using hc2
      rw [if_neg hc2] at h
      simp only [Option.some.injEq, Prod.mk.injEq] at h
      obtain ⟨rfl, rfl⟩ := h
      go_enter Tryz.func21, Tryz.ntmps21
      go_wp2_with (first
        | (go_at_call 39; refine (impl_isGrid.calls _ _ _ HI.out).mono ?_; rintro e w1 ⟨rfl, hb⟩; have HB1 := Aside0.mk (Drawn0.below hb); clear hb)
        | (go_at_call 28; refine (impl_within.calls _ _ _ _ _ HW.out).mono ?_; rintro e w2 ⟨rfl, hb⟩; have HB2 := Aside0.mk (below_step HB1.out (Drawn0.below hb)); clear hb))
      go_ret2
      exact ⟨rfl, HB2.out⟩
  · obtain rfl : t1 = false := by simpa using hc1
    rw [if_neg hc1] at h
    simp only [Option.some.injEq, Prod.mk.injEq] at h
    obtain ⟨rfl, rfl⟩ := h
    go_enter Tryz.func21, Tryz.ntmps21
    go_wp2_with (first
      | (go_at_call 39; refine (impl_isGrid.calls _ _ _ HI.out).mono ?_; rintro e w1 ⟨rfl, hb⟩; have HB1 := Aside0.mk (Drawn0.below hb); clear hb))
    go_ret2
    exact ⟨rfl, HB1.out⟩
end

end Go.Proofs.YtfpjakkjkakjoaaGreatDoor.P
