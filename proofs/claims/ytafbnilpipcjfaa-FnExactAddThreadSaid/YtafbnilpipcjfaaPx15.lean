/- A part of this seat's proofs: contracts of the translated functions, written by the session's own program (gp.py) out of the kit's print.py and the session's own contracts; no conditions of its own. -/
import Derived.Test.YtafbnilpipcjfaaPx0
import Derived.Test.YtafbnilpipcjfaaPx14
namespace Go.Proofs.Ytafbnilpipcjfaa.P
open Go.RowKit Go.Proofs.YtafbnilpipcjfaaW.PrintWords Go.Proofs.YtafbnilpipcjfaaW.PrintLast Go.Proofs.YtafbnilpipcjfaaW.PrintMore
attribute [local go_sem] max2_int min2_int max_two min_two max_three min_three max_four min_four   -- for this text's walks alone
set_option linter.unusedVariables false
set_option linter.unusedSimpArgs false

/-! ### given: 39_insertT.tpl -/
theorem fm_len (l : List S38) : (l.flatMap encTH).length = l.length * 2 := by
  induction l with
  | nil => rfl
  | cons x r ih => rw [List.flatMap_cons, List.length_append, ih, List.length_cons]; simp [encTH]; omega
theorem fm_take : ∀ (l : List S38) (i : Nat), (l.flatMap encTH).take (i * 2) = (l.take i).flatMap encTH
  | [], i => by simp
  | x :: r, 0 => by simp
  | x :: r, i + 1 => by
    rw [List.flatMap_cons, List.take_succ_cons, List.flatMap_cons, ← fm_take r i, show (i + 1) * 2 = (encTH x).length + i * 2 by simp [encTH]; omega, List.take_length_add_append]
theorem fm_drop : ∀ (l : List S38) (i : Nat), (l.flatMap encTH).drop (i * 2) = (l.drop i).flatMap encTH
  | [], i => by simp
  | x :: r, 0 => by simp
  | x :: r, i + 1 => by
    rw [List.flatMap_cons, List.drop_succ_cons, ← fm_drop r i, show (i + 1) * 2 = (encTH x).length + i * 2 by simp [encTH]; omega, List.drop_length_add_append]
theorem fm_reps : ∀ (l : List S38), Reps (fun x c => c = encTH x) 2 l (l.flatMap encTH)
  | [] => ⟨rfl, fun j p hj => by simp at hj⟩
  | x :: r => by
    have h1 : Reps (fun (x : S38) c => c = encTH x) 2 [x] (encTH x) := ⟨rfl, fun j p hj => by
      match j, hj with
      | 0, hj => simp at hj; subst hj; rfl
      | j + 1, hj => simp at hj⟩
    exact Kd.reps_append h1 (fm_reps r)
theorem fm_unique {l : List S38} {cs : List Value} (h : Reps (fun x c => c = encTH x) 2 l cs) : cs = l.flatMap encTH := by
  have h1 := reps_flat (enc := encTH) (k := 2) (fun _ => rfl) h
  have h2 := reps_flat (enc := encTH) (k := 2) (fun _ => rfl) (fm_reps l)
  rw [← h2] at h1
  exact List.toArray_inj h1
theorem fm_one (l : List S38) : ∀ u ∈ l.flatMap encTH, u.oneCell' = true := by
  intro u hu
  obtain ⟨x, _, hx⟩ := List.mem_flatMap.1 hu
  simp [encTH] at hx
  rcases hx with rfl | rfl <;> rfl
theorem run_copy_cells2 {P : Program} (w : World) (dT sT ty elem : TypeId) (b o dLen dCap : Nat) (a : Addr) (sLen sCap : Nat) (cs : List Value) (m : Nat)
    (hu : P.underlying dT = some (.slice elem)) (hs : (P.info? elem).map (·.size) = some 2) (hm : m = Nat.min sLen dLen) (hn : cs.length = m * 2)
    (hsrc : ∀ j v, cs[j]? = some v → w.cell? (a.add j) = some v) (hc : ∀ j, j < cs.length → (w.cell? ⟨b, o + j, none⟩).isSome = true) (hf : ∀ j, j < cs.length → w.frozen? ⟨b, o + j, none⟩ = false) (h1 : ∀ v ∈ cs, v.oneCell' = true) :
    (Builtin.copy_ #[dT, sT] ty #[.slice (some ⟨b, o, none⟩) dLen dCap, .slice (some a) sLen sCap]).run P w = .ok (goInt m) (w.setCells b o cs) := by
  have hl := run_loadCells_list (P := P) w a cs hsrc
  have hst := run_storeCells_cells (P := P) b o cs 0 w (by simpa using hc) (by simpa using hf) h1
  cases hq : P.info? elem with
  | none => simp [hq] at hs
  | some i =>
    have hi : i.size = 2 := by simpa [hq] using hs
    simp [Builtin.copy_, run_underlying hu, Builtin.lenOf, Builtin.firstCells, sizeOf, typeInfo, hq, hi, ← hm, ← hn, hl, hst]
theorem isSome_setCells2 (b : Nat) (vs : List Value) (o : Nat) (w : World) (h : ∀ j, j < vs.length → (w.cell? ⟨b, o + j, none⟩).isSome = true) (k : Nat) (hk : (w.cell? ⟨b, k, none⟩).isSome = true) : ((w.setCells b o vs).cell? ⟨b, k, none⟩).isSome = true := by
  by_cases hin : o ≤ k ∧ k < o + vs.length
  · have := World.cell?_setCells_in b vs o w h (k - o) (by omega)
    rw [show o + (k - o) = k by omega] at this
    rw [this]; rfl
  · rw [World.cell?_setCells_out b vs o w ⟨b, k, none⟩ (fun _ _ => by show k < o ∨ o + vs.length ≤ k; omega)]
    exact hk
theorem wpList_copy_run2 {P : Program} (w : World) {ops : Array Oper} {rest : List Oper} {o : Oper} {a : Act} {Q : Exit → Act → World → Prop} (hgd : o.guard = none) (d s : Operand) (t t' : TypeId)
    (ho : o.op = .call { callee := .builtin .copy, args := #[d, s], argTypes := #[t, t'] }) (v u : Value) (hd : a.eval d = v) (hs : a.eval s = u) {v' : Value} {w' : World}
    (hr : (Builtin.copy_ #[t, t'] o.type #[v, u]).run P w = .ok v' w') (h : wpList P ops Q rest (a.put o.dst v') w') : wpList P ops Q (o :: rest) a w :=
  wpList_plain hgd fun K hK => by
    unfold Oper.wp execOp
    simp only [ho, resolve, invoke, builtin, Sem.run_bind, Sem.run_pure, Result.andThen_ok, List.map_toArray, List.map_cons, List.map_nil, hd, hs, hr]
    exact hK _ _ h
theorem step_copy_run2 {P : Program} {ops : Array Oper} {o : Oper} {a : Act} {w : World} {K : Act → World → Prop} {Q : Exit → Act → World → Prop} {E : Prop}
    (hg : o.guard = none) (d x : Operand) (dT sT : TypeId) (hop : o.op = Op.call { callee := Callee.builtin Builtin.copy, args := #[d, x], argTypes := #[dT, sT] })
    (v u : Value) (hd : a.eval d = v) (hx : a.eval x = u) {v' : Value} {w' : World} (hr : (Builtin.copy_ #[dT, sT] o.type #[v, u]).run P w = .ok v' w') (hK : K (a.put o.dst v') w') :
    if Region.wanted o (yielded ops a.tmps) = true then Oper.wp P o a w K Q else E := by
  have hw : Region.wanted o (yielded ops a.tmps) = true := by simp [Region.wanted, hg]
  rw [if_pos hw]
  unfold Oper.wp
  simp [execOp, hop, resolve, invoke, builtin, hd, hx, hr, Result.andThen]
  exact hK
set_option maxHeartbeats 4000000 in
set_option maxRecDepth 100000 in
/-- slices.Insert of one thread: there is room, not at the end: in place. -/
theorem slices_InsertT.shift (g n c i vb vc : Nat) (cs : List Value) (x0 x1 : Int) (w : World) (hi : i < n) (hroom : n + 1 ≤ c) (hc63 : c ≤ 9223372036854775807) (hvb : vb ≠ g)
    (hcl : cs.length = n * 2) (hcs : ∀ j v, cs[j]? = some v → w.cell? ⟨g, j, none⟩ = some v) (hsp : ∀ j, j < (n + 1) * 2 → (w.cell? ⟨g, j, none⟩).isSome = true) (hfz : ∀ j, w.frozen? ⟨g, j, none⟩ = false) (h1c : ∀ v ∈ cs, v.oneCell' = true)
    (hv : w.heap[vb]? = some (.cells #[.int .i64 x0, .int .i64 x1] 38 (0, 0))) (kB : Nat) (hsb : w.shape? g = some (38, kB)) (hkB : kB ≠ 0) :
    Calls Try.prog 49 #[.slice (some ⟨g, 0, none⟩) n c, .int .i64 i, .slice (some ⟨vb, 0, none⟩) 1 vc] w fun e w' => e = .returned (.slice (some ⟨g, 0, none⟩) (n + 1) c) ∧ w' = (w.drew.setCells g ((i + 1) * 2) (cs.drop (i * 2))).setCells g (i * 2) [.int .i64 x0, .int .i64 x1] := by
  have t27 := Try.underlying27
  have mixed : Try.prog.follows .mixedOrders = true := by kernel_rfl
  have hsz : (Try.prog.info? 38).map (·.size) = some 2 := by
    have h : (Try.prog.info? 38).map (fun i => (i.zero, i.size, i.bytes)) = some (some (.agg #[(.int .i64 0), (.int .i64 0)]), 2, 16) := by kernel_rfl
    obtain ⟨i0, h0, h1⟩ := Option.map_eq_some_iff.1 h
    rw [h0]; simpa using congrArg (fun x => x.2.1) h1
  have hv0 : w.cell? ⟨vb, 0, none⟩ = some (.int .i64 x0) := by simp [World.cell?, hv]
  have hv1 : w.cell? ⟨vb, 1, none⟩ = some (.int .i64 x1) := by simp [World.cell?, hv]
  have hsa : w.shape? vb = some (38, 2) := by simp [World.shape?, hv]
  have hfa : w.frozen? ⟨vb, 0, none⟩ = false := by simp [World.frozen?, hv]
  have hfe : w.frozen? ⟨vb, 2, none⟩ = false := by simp [World.frozen?, hv]
  have hz2 : ¬ ((i : Int) = (n : Int)) := by omega
  have hov : ∀ lb cb, (callFunc 67 #[.slice (some ⟨vb, 0, none⟩) 1 vc, .slice (some ⟨g, (i + 1) * 2, none⟩) lb cb]).run Try.prog w = .ok (.value (.bool false)) w := fun lb cb => by
    rw [run_callFunc_extern Try.func67 (by kernel_rfl) (by kernel_rfl) (by kernel_rfl) (e := Extern.SlicesOverlaps.overlaps #[27, 27] #[4]) (by kernel_rfl),
      Lib.run_overlaps_apart w 27 4 38 t27 2 Try.sizeOf38 ⟨vb, 0, none⟩ ⟨g, (i + 1) * 2, none⟩ 1 vc lb cb hvb 38 38 2 kB hsa hsb hkB hfa hfe]
    rfl
  have hdl : (cs.drop (i * 2)).length = (n - i) * 2 := by rw [List.length_drop, hcl]; omega
  have hw1 : IntKind.i64.wrap ((i : Int) + 1) = (i : Int) + 1 := by rw [IntKind.wrap_i64]; omega
  have hw2 : IntKind.i64.wrap ((n : Int) + 1) = (n : Int) + 1 := by rw [IntKind.wrap_i64]; omega
  have hb1 : (0 : Int) ≤ (i : Int) + 1 := by omega
  have hin : i ≤ n := by omega
  have htn : ((i : Int) + 1).toNat = i + 1 := by omega
  have htn2 : ((n : Int) + 1).toNat = n + 1 := by omega
  have hb2 : ¬ (c = i + 1) := by omega
  have hb3 : (i : Int) ≤ (n : Int) + 1 := by omega
  have hb4 : ¬ (c = i) := by omega
  have hb5 : ¬ ((n : Int) + 1 > (c : Int)) := by omega
  have hb6 : (n : Int) + 1 ≤ (c : Int) := by omega
  have hcp1 : ∀ ty dc sc, (Builtin.copy_ #[27, 27] ty #[.slice (some ⟨g, (i + 1) * 2, none⟩) (n - i) dc, .slice (some ⟨g, i * 2, none⟩) (n + 1 - i) sc]).run Try.prog w.drew = .ok (goInt ((n - i : Nat) : Int)) (w.drew.setCells g ((i + 1) * 2) (cs.drop (i * 2))) := fun ty dc sc =>
    run_copy_cells2 w.drew _ _ ty 38 g ((i + 1) * 2) (n - i) dc ⟨g, i * 2, none⟩ (n + 1 - i) sc (cs.drop (i * 2)) (n - i) t27 hsz (by simp only [Nat.min_def]; split <;> omega) hdl
      (fun j v hj => by rw [Go.Proofs.YtafbnilpipcjfaaW.PrintWords.add_at]; exact hcs (i * 2 + j) v (by rwa [List.getElem?_drop] at hj))
      (fun j hj => hsp _ (by omega)) (fun j hj => hfz _) (fun v hv => h1c v (List.mem_of_mem_drop hv))
  obtain ⟨W1, hW1⟩ : ∃ W1, W1 = w.drew.setCells g ((i + 1) * 2) (cs.drop (i * 2)) := ⟨_, rfl⟩
  have hsp1 : ∀ k, k < (n + 1) * 2 → (W1.cell? ⟨g, k, none⟩).isSome = true := fun k hk => by
    rw [hW1]
    exact isSome_setCells2 g (cs.drop (i * 2)) ((i + 1) * 2) w.drew (fun j hj => hsp _ (by omega)) _ (hsp k hk)
  have hcp2 : ∀ (W : World), (∀ x, W.cell? x = W1.cell? x) → (∀ x, W.frozen? x = W1.frozen? x) → ∀ ty dc, (Builtin.copy_ #[27, 27] ty #[.slice (some ⟨g, i * 2, none⟩) (n + 1 - i) dc, .slice (some ⟨vb, 0, none⟩) 1 vc]).run Try.prog W = .ok (goInt 1) (W.setCells g (i * 2) [.int .i64 x0, .int .i64 x1]) := fun W hWc hWf ty dc =>
    run_copy_cells2 W _ _ ty 38 g (i * 2) (n + 1 - i) dc ⟨vb, 0, none⟩ 1 vc [.int .i64 x0, .int .i64 x1] 1 t27 hsz (by simp only [Nat.min_def]; split <;> omega) rfl
      (fun j v hj => by
        rw [Go.Proofs.YtafbnilpipcjfaaW.PrintWords.add_at, hWc, hW1, World.cell?_setCells_out g _ _ _ _ (fun h _ => absurd h hvb)]
        match j, hj with
        | 0, hj => simp at hj; subst hj; exact hv0
        | 1, hj => simp at hj; subst hj; exact hv1
        | j + 2, hj => simp at hj)
      (fun j hj => by rw [hWc]; exact hsp1 _ (by simp at hj; omega)) (fun j hj => by rw [hWf, hW1, World.frozen?_setCells]; exact hfz _) (fun v hv => by simp at hv; rcases hv with rfl | rfl <;> rfl)
  rw [← hW1] at hcp1
  clear hsp hfz hcs
  go_enter Try.func49, Try.ntmps49
  go_wp2_with (simp only [hov])
  go_region_law_o (refine step_copy_run2 rfl _ _ 27 27 rfl _ _ (by simp [Act.eval, Act.put]) (by simp [Act.eval, Act.put]) (hcp1 _ _ _) ?_)
  go_wp2_with (at_builtin; refine wpList_copy_run2 _ rfl _ _ 27 27 rfl _ _ rfl rfl (hcp2 _ (fun _ => rfl) (fun _ => rfl) _ _) ?_)
  go_ret
  exact ⟨rfl, rfl⟩
set_option maxHeartbeats 4000000 in
set_option maxRecDepth 100000 in
/-- slices.Insert of one thread: there is no room, not at the end: a new row. -/
theorem slices_InsertT.grow (g n c i vb vc : Nat) (cs : List Value) (x0 x1 : Int) (w : World) (hi : i < n) (hnc : n ≤ c) (hroom : c < n + 1) (hbig : (n + 1) * 16 ≤ 140737488355328) (hgw : g < w.heap.size)
    (hcl : cs.length = n * 2) (hcs : ∀ j v, cs[j]? = some v → w.cell? ⟨g, j, none⟩ = some v) (h1c : ∀ v ∈ cs, v.oneCell' = true)
    (hv : w.heap[vb]? = some (.cells #[.int .i64 x0, .int .i64 x1] 38 (0, 0))) :
    Calls Try.prog 49 #[.slice (some ⟨g, 0, none⟩) n c, .int .i64 i, .slice (some ⟨vb, 0, none⟩) 1 vc] w fun e w' => e = .returned (.slice (some ⟨w.heap.size, 0, none⟩) (n + 1) (grownCap w (n + 1) c 38)) ∧
      w' = (((w.alloc (.cells ((cs.take (i * 2)).toArray ++ Builtin.zeroCells (Value.agg #[.int .i64 0, .int .i64 0]).cells (n + 1 - i) ++ Builtin.zeroCells (Value.agg #[.int .i64 0, .int .i64 0]).cells (grownCap w (n + 1) c 38 - (n + 1))) 38)).drew.setCells w.heap.size (i * 2) [.int .i64 x0, .int .i64 x1]).drew).setCells w.heap.size ((i + 1) * 2) (cs.drop (i * 2)) := by
  have t27 := Try.underlying27
  have mixed : Try.prog.follows .mixedOrders = true := by kernel_rfl
  obtain ⟨i0, hi0, hz0, hz1, hz2⟩ : ∃ i0 : TypeInfo, Try.prog.info? 38 = some i0 ∧ i0.zero = some (.agg #[(.int .i64 0), (.int .i64 0)]) ∧ i0.size = 2 ∧ i0.bytes = 16 := by
    have h : (Try.prog.info? 38).map (fun i => (i.zero, i.size, i.bytes)) = some (some (.agg #[(.int .i64 0), (.int .i64 0)]), 2, 16) := by kernel_rfl
    obtain ⟨i0, h0, h1⟩ := Option.map_eq_some_iff.1 h
    exact ⟨i0, h0, congrArg (fun x => x.1) h1, congrArg (fun x => x.2.1) h1, congrArg (fun x => x.2.2) h1⟩
  have hsz : (Try.prog.info? 38).map (·.size) = some 2 := by rw [hi0]; simp [hz1]
  have hv0 : w.cell? ⟨vb, 0, none⟩ = some (.int .i64 x0) := by simp [World.cell?, hv]
  have hv1 : w.cell? ⟨vb, 1, none⟩ = some (.int .i64 x1) := by simp [World.cell?, hv]
  have hvw : vb < w.heap.size := (Array.getElem?_eq_some_iff.1 hv).1
  have hq2 : ¬ ((i : Int) = (n : Int)) := by omega
  have hq3 : (c : Int) < (n : Int) + 1 := by omega
  have hkk : (n : Int) + 1 - (i : Int) = ((n + 1 - i : Nat) : Int) := by omega
  have hik : i + (n + 1 - i) = n + 1 := by omega
  have htl : (cs.take (i * 2)).length = i * 2 := by rw [List.length_take, hcl]; omega
  have hold : (Builtin.firstCells i0.size i (.slice (some ⟨g, 0, none⟩) i c)).run Try.prog w.drew = .ok (cs.take (i * 2)).toArray w.drew := by
    rw [hz1]
    exact run_firstCells_some w.drew 2 i ⟨g, 0, none⟩ i c (cs.take (i * 2)) htl (fun j v hj => by
      rw [Go.Proofs.YtafbnilpipcjfaaW.PrintWords.add_at, Nat.zero_add]
      rw [List.getElem?_take] at hj
      split at hj
      · exact hcs j v hj
      · cases hj)
  have hrz : ∀ ty, (Builtin.append_ #[27, 3] ty #[.slice (some ⟨g, 0, none⟩) i c, .int .i64 ((n : Int) + 1 - (i : Int))]).run Try.prog w =
      .ok (.slice (some ⟨w.heap.size, 0, none⟩) (n + 1) (grownCap w (n + 1) c 38)) (w.drew.alloc (.cells ((cs.take (i * 2)).toArray ++ Builtin.zeroCells (Value.agg #[.int .i64 0, .int .i64 0]).cells (n + 1 - i) ++ Builtin.zeroCells (Value.agg #[.int .i64 0, .int .i64 0]).cells (grownCap w (n + 1) c 38 - (n + 1))) 38)) := fun ty => by
    have h := Lib.run_append_grow_zeros w 27 3 ty 38 i0 _ .i64 .i64 t27 Try.underlying3 hi0 hz0 (some ⟨g, 0, none⟩) i c (cs.take (i * 2)) hold (n + 1 - i) (by omega) (by omega) (by omega) (by omega) (by rw [hz2]; omega) (by rw [hz2, hik]; exact growslice_fits hroom hbig)
    rw [hik] at h
    rw [hkk]
    exact h
  obtain ⟨G, hG⟩ : ∃ G, G = grownCap w (n + 1) c 38 := ⟨_, rfl⟩
  obtain ⟨ROW, hROW⟩ : ∃ ROW : Array Value, ROW = (cs.take (i * 2)).toArray ++ Builtin.zeroCells (Value.agg #[.int .i64 0, .int .i64 0]).cells (n + 1 - i) ++ Builtin.zeroCells (Value.agg #[.int .i64 0, .int .i64 0]).cells (G - (n + 1)) := ⟨_, rfl⟩
  rw [← hG] at hrz ⊢
  rw [← hROW] at hrz ⊢
  have hRl : (n + 1) * 2 ≤ ROW.size := by
    rw [hROW]
    simp [Builtin.zeroCells, Value.cells, htl]
    omega
  obtain ⟨W1, hW1⟩ : ∃ W1, W1 = w.drew.alloc (.cells ROW 38) := ⟨_, rfl⟩
  rw [← hW1] at hrz
  have hN : ∀ j, j < (n + 1) * 2 → (W1.cell? ⟨w.heap.size, j, none⟩).isSome = true := fun j hj => by
    rw [hW1, World.cell?_alloc_at (w := w.drew) ROW _ w.heap.size j rfl, Array.getElem?_eq_getElem (by omega)]; rfl
  have hNf : ∀ j, W1.frozen? ⟨w.heap.size, j, none⟩ = false := fun j => by rw [hW1]; exact World.frozen?_alloc_at (w := w.drew) ROW _ w.heap.size j rfl
  have hOb : ∀ j v, w.cell? ⟨g, j, none⟩ = some v → W1.cell? ⟨g, j, none⟩ = some v := fun j v h => by rw [hW1, World.cell?_alloc_past (w := w.drew) _ g j hgw]; exact h
  have hOv : ∀ j v, w.cell? ⟨vb, j, none⟩ = some v → W1.cell? ⟨vb, j, none⟩ = some v := fun j v h => by rw [hW1, World.cell?_alloc_past (w := w.drew) _ vb j hvw]; exact h
  have hcpA : ∀ (W : World), (∀ x, W.cell? x = W1.cell? x) → (∀ x, W.frozen? x = W1.frozen? x) → ∀ ty dc, (Builtin.copy_ #[27, 27] ty #[.slice (some ⟨w.heap.size, i * 2, none⟩) (n + 1 - i) dc, .slice (some ⟨vb, 0, none⟩) 1 vc]).run Try.prog W = .ok (goInt 1) (W.setCells w.heap.size (i * 2) [.int .i64 x0, .int .i64 x1]) := fun W hWc hWf ty dc =>
    run_copy_cells2 W _ _ ty 38 w.heap.size (i * 2) (n + 1 - i) dc ⟨vb, 0, none⟩ 1 vc [.int .i64 x0, .int .i64 x1] 1 t27 hsz (by simp only [Nat.min_def]; split <;> omega) rfl
      (fun j v hj => by
        rw [Go.Proofs.YtafbnilpipcjfaaW.PrintWords.add_at, hWc]
        match j, hj with
        | 0, hj => simp at hj; subst hj; exact hOv _ _ hv0
        | 1, hj => simp at hj; subst hj; exact hOv _ _ hv1
        | j + 2, hj => simp at hj)
      (fun j hj => by rw [hWc]; exact hN _ (by simp at hj; omega)) (fun j hj => by rw [hWf]; exact hNf _) (fun v hv => by simp at hv; rcases hv with rfl | rfl <;> rfl)
  have hGn : n + 1 ≤ G := by rw [hG]; exact grownCap_ge w _ _ _
  have hG63 : G ≤ 9223372036854775807 := by
    have := grownCap_le_maxLen w (n + 1) c 38 (by unfold maxLen; omega)
    rw [← hG] at this
    unfold maxLen at this
    omega
  have hGi : ¬ (G = i) := by omega
  have hGim : ¬ (G = i + 1) := by omega
  have hci : ¬ (c = i) := by omega
  have hbN : g ≠ w.heap.size := by omega
  have hdl : (cs.drop (i * 2)).length = (n - i) * 2 := by rw [List.length_drop, hcl]; omega
  have hcpB : ∀ (W : World), (∀ x, W.cell? x = (W1.setCells w.heap.size (i * 2) [.int .i64 x0, .int .i64 x1]).cell? x) → (∀ x, W.frozen? x = (W1.setCells w.heap.size (i * 2) [.int .i64 x0, .int .i64 x1]).frozen? x) → ∀ ty dc sc, (Builtin.copy_ #[27, 27] ty #[.slice (some ⟨w.heap.size, (i + 1) * 2, none⟩) (n - i) dc, .slice (some ⟨g, i * 2, none⟩) (n - i) sc]).run Try.prog W = .ok (goInt ((n - i : Nat) : Int)) (W.setCells w.heap.size ((i + 1) * 2) (cs.drop (i * 2))) := fun W hWc hWf ty dc sc =>
    run_copy_cells2 W _ _ ty 38 w.heap.size ((i + 1) * 2) (n - i) dc ⟨g, i * 2, none⟩ (n - i) sc (cs.drop (i * 2)) (n - i) t27 hsz (by simp only [Nat.min_def]; split <;> omega) hdl
      (fun j v hj => by
        rw [Go.Proofs.YtafbnilpipcjfaaW.PrintWords.add_at, hWc, World.cell?_setCells_out _ _ _ _ _ (fun h _ => absurd h hbN)]
        exact hOb _ v (hcs (i * 2 + j) v (by rwa [List.getElem?_drop] at hj)))
      (fun j hj => by rw [hWc]; exact isSome_setCells2 _ [.int .i64 x0, .int .i64 x1] (i * 2) W1 (fun t ht => hN _ (by simp at ht; omega)) _ (hN _ (by omega)))
      (fun j hj => by rw [hWf, World.frozen?_setCells]; exact hNf _) (fun v hv => h1c v (List.mem_of_mem_drop hv))
  subst hW1
  have hE1 : ∀ x, ((w.alloc (.cells ROW 38)).drew).cell? x = (w.drew.alloc (.cells ROW 38)).cell? x := fun x => rfl
  have hE2 : ∀ x, ((w.alloc (.cells ROW 38)).drew).frozen? x = (w.drew.alloc (.cells ROW 38)).frozen? x := fun x => rfl
  have hF1 : ∀ x, (((w.alloc (.cells ROW 38)).drew.setCells w.heap.size (i * 2) [.int .i64 x0, .int .i64 x1]).drew).cell? x = ((w.drew.alloc (.cells ROW 38)).setCells w.heap.size (i * 2) [.int .i64 x0, .int .i64 x1]).cell? x := fun x => rfl
  have hF2 : ∀ x, (((w.alloc (.cells ROW 38)).drew.setCells w.heap.size (i * 2) [.int .i64 x0, .int .i64 x1]).drew).frozen? x = ((w.drew.alloc (.cells ROW 38)).setCells w.heap.size (i * 2) [.int .i64 x0, .int .i64 x1]).frozen? x := fun x => rfl
  have hw1 : IntKind.i64.wrap ((i : Int) + 1) = (i : Int) + 1 := by rw [IntKind.wrap_i64]; omega
  have hb1 : (0 : Int) ≤ (i : Int) + 1 := by omega
  have hin : i ≤ n := by omega
  have htn : ((i : Int) + 1).toNat = i + 1 := by omega
  have hb3 : (i : Int) ≤ (n : Int) := by omega
  clear hkk hik hold hROW hG hRl hN hNf hOb hOv hcs
  go_enter Try.func49, Try.ntmps49
  go_wp2_with (first
    | (at_builtin; refine Lib.wpList_append_run _ rfl _ _ _ _ rfl _ _ rfl rfl _ _ (hrz _) ?_)
    | (at_builtin; refine wpList_copy_run2 _ rfl _ _ 27 27 rfl _ _ rfl rfl (hcpA _ hE1 hE2 _ _) ?_))
  go_region_law_o (refine step_copy_run2 rfl _ _ 27 27 rfl (.slice (some ⟨w.heap.size, (i + 1) * 2, none⟩) (n - i) (G - (i + 1))) (.slice (some ⟨g, i * 2, none⟩) (n - i) (c - i)) (by simp [Act.eval, Act.put]) (by simp [Act.eval, Act.put]) (hcpB _ hF1 hF2 3 (G - (i + 1)) (c - i)) ?_)
  go_wp2
  go_ret
  exact ⟨rfl, rfl⟩
set_option maxHeartbeats 4000000 in
set_option maxRecDepth 100000 in
/-- slices.Insert of one thread at the end. -/
theorem slices_InsertT.atEnd (base g cap vb vc : Nat) (l0 : List S38) (x : S38) (w : World) (hbase : base ≤ w.heap.size) (ho : Kd.R k38 38 w base (fun _ => True) (.slice (some ⟨g, 0, none⟩) l0.length cap) l0) (hsz : (l0.length + 1) * 16 ≤ 140737488355328)
    (hv : w.heap[vb]? = some (.cells #[.int .i64 x.f0, .int .i64 x.f1] 38 (0, 0))) :
    Calls Try.prog 49 #[.slice (some ⟨g, 0, none⟩) l0.length cap, .int .i64 l0.length, .slice (some ⟨vb, 0, none⟩) 1 vc] w fun e w' => ∃ v1, e = .returned v1 ∧ Kd.R k38 38 w' base (fun _ => True) v1 (l0 ++ [x]) ∧ w.grownBy w' (some g) := by
  have hv0 : w.cell? ⟨vb, 0, none⟩ = some (.int .i64 x.f0) := by simp [World.cell?, hv]
  have hv1 : w.cell? ⟨vb, 1, none⟩ = some (.int .i64 x.f1) := by simp [World.cell?, hv]
  have hC : Kd.C k38 w (some ⟨vb, 0, none⟩) 1 [x] := by
    refine ⟨rfl, by simp, fun _ => ⟨_, rfl, fun j p hj => ?_⟩⟩
    match j, hj with
    | 0, hj =>
      simp at hj; subst hj
      refine ⟨_, rfl, k38_mk w x, fun i u hu => ?_⟩
      rw [Go.Proofs.YtafbnilpipcjfaaW.PrintWords.add_at]
      match i, hu with
      | 0, hu => simp at hu; subst hu; exact hv0
      | 1, hu => simp at hu; subst hu; exact hv1
      | i + 2, hu => simp at hu
    | j + 1, hj => simp at hj
  have HB0 := Aside0.mk (Below.refl w.heap.size w)
  have HC := Aside0.mk hC
  have HO := Aside0.mk ho
  have HZ := Aside0.mk hsz
  have HBS := Aside0.mk hbase
  clear hv0 hv1 hC ho hv hsz hbase
  go_enter Try.func49, Try.ntmps49
  go_wp2_with (first | ((with_reducible refine gate_builtin (b := .append) (xs := #[.tmp 23, .tmp 24]) rfl ?_); at_builtin; refine Kd.R_append_rows k38 (Rr := k38.K w) (w0 := w) base rfl (.tmp 23) (.tmp 24) 27 38 (.agg #[(.int .i64 0), (.int .i64 0)]) 16 rfl Try.underlying27 info38 rfl (by decide) (by omega) (.slice (some ⟨g, 0, none⟩) l0.length cap) l0 [x] (some ⟨vb, 0, none⟩) 1 vc (fun _ => True) (fun _ => False) rfl rfl HO.out HC.out (fun y cs hy => by obtain rfl := k38_open hy; exact k38_mkM _ _ _ _) (fun k hk => hk.elim) (fun _ _ => trivial) (Below.refl _ _) HBS.out HZ.out ?_; intro v1 w1 ho hb hg hat; have HO1 := Aside0.mk ho; have HG1 := Aside0.mk hg; clear ho hb hg hat))
  all_goals
    go_ret
    exact ⟨_, rfl, HO1.out, HG1.out⟩
theorem fm_R {w : World} {base g cap : Nat} {l : List S38} (h : w.ownsRow base 38 2 (.slice (some ⟨g, 0, none⟩) l.length cap) l.length (l.flatMap encTH)) : Kd.R k38 38 w base (fun _ => True) (.slice (some ⟨g, 0, none⟩) l.length cap) l :=
  ⟨fun _ _ => trivial, _, h, (fm_reps l).imp_ (fun p c hp => by subst hp; exact k38_mkM _ _ _ _)⟩
/-- slices.Insert of one thread. -/
theorem slices_InsertT.own (base g cap i vb vc : Nat) (l0 : List S38) (x : S38) (w : World) (hbase : base ≤ w.heap.size) (ho : Kd.R k38 38 w base (fun _ => True) (.slice (some ⟨g, 0, none⟩) l0.length cap) l0) (hi : i ≤ l0.length) (hsz : (l0.length + 1) * 16 ≤ 140737488355328) (hne : vb ≠ g)
    (hv : w.heap[vb]? = some (.cells #[.int .i64 x.f0, .int .i64 x.f1] 38 (0, 0))) :
    Calls Try.prog 49 #[.slice (some ⟨g, 0, none⟩) l0.length cap, .int .i64 i, .slice (some ⟨vb, 0, none⟩) 1 vc] w fun e w' => ∃ v1, e = .returned v1 ∧ Kd.R k38 38 w' base (fun _ => True) v1 (l0.take i ++ x :: l0.drop i) ∧ w.grownBy w' (some g) := by
  by_cases hin : i = l0.length
  · subst hin
    have h := slices_InsertT.atEnd base g cap vb vc l0 x w hbase ho hsz hv
    rw [List.take_length, List.drop_length]
    exact h
  · have hi2 : i < l0.length := by omega
    obtain ⟨_, inner, hown, hr⟩ := ho
    change w.ownsRow base 38 2 _ _ _ at hown
    have hin2 : inner = l0.flatMap encTH := fm_unique (hr.imp_ (fun p c hp => by rw [k38_openM hp]; rfl))
    subst hin2
    have hH := own_holds hown
    obtain ⟨hx, hrest⟩ := hown
    rcases hrest with ⟨h, _⟩ | ⟨g', cap', cur, he, hb, hg, hnc, hc, hs, ht⟩
    · simp at h
    simp only [Value.slice.injEq, Option.some.injEq, Addr.mk.injEq, and_true, true_and] at he
    obtain ⟨rfl, rfl⟩ := he
    have hc63 : cap ≤ 9223372036854775807 := hc
    have hcs : ∀ j v, (l0.flatMap encTH)[j]? = some v → w.cell? ⟨g, j, none⟩ = some v := fun j v hj => by
      obtain ⟨hj1, hj2⟩ := List.getElem?_eq_some_iff.1 hj
      have := (hH j (by simpa using hj1)).1
      rw [getElem!_pos _ j (by simpa using hj1)] at this
      simp only [Nat.zero_add, List.getElem_toArray, id] at this
      rw [this, hj2]
    have hlen : (l0.take i ++ x :: l0.drop i).length = l0.length + 1 := by simp; omega
    have hfm : (l0.take i ++ x :: l0.drop i).flatMap encTH = (l0.flatMap encTH).take (i * 2) ++ [.int .i64 x.f0, .int .i64 x.f1] ++ (l0.flatMap encTH).drop (i * 2) := by
      rw [List.flatMap_append, List.flatMap_cons, fm_take, fm_drop]; simp [encTH]
    have hgw : g < w.heap.size := (Array.getElem?_eq_some_iff.1 hg).1
    have htl : ((l0.flatMap encTH).take (i * 2)).length = i * 2 := by rw [List.length_take, fm_len]; omega
    have hdl : ((l0.flatMap encTH).drop (i * 2)).length = (l0.length - i) * 2 := by rw [List.length_drop, fm_len]; omega
    by_cases hroom : l0.length + 1 ≤ cap
    · have hcur : ∀ j, j < cap * 2 → (w.cell? ⟨g, j, none⟩).isSome = true := fun j hj => by
        simp only [World.cell?, hg, Option.isSome_none, Bool.false_eq_true, if_false]
        rw [Array.getElem?_eq_getElem (by omega)]; rfl
      refine (slices_InsertT.shift g l0.length cap i vb vc (l0.flatMap encTH) x.f0 x.f1 w hi2 hroom hc63 hne (fm_len l0) hcs (fun j hj => hcur j (by omega)) (fun j => by simp [World.frozen?, hg]) (fm_one l0) hv cur.size (by simp [World.shape?, hg]) (by omega)).mono ?_
      rintro e w' ⟨rfl, rfl⟩
      obtain ⟨cur1, c1, c2, c3⟩ := Go.Proofs.YtafbnilpipcjfaaW.PrintWords.setCells_row ((l0.flatMap encTH).drop (i * 2)) ((i + 1) * 2) w.drew cur hg (by rw [hdl]; omega)
      obtain ⟨cur2, d1, d2, d3⟩ := Go.Proofs.YtafbnilpipcjfaaW.PrintWords.setCells_row [.int .i64 x.f0, .int .i64 x.f1] (i * 2) _ cur1 c1 (by simp; omega)
      refine ⟨_, rfl, ?_, ?_⟩
      · rw [← hlen]
        refine fm_R ⟨fm_len _, .inr ⟨g, cap, cur2, rfl, hb, d1, by omega, hc, by omega, ?_⟩⟩
        rw [d3, c3, hfm, hlen]
        have e1 : (cur.toList.take ((i + 1) * 2)).length = (i + 1) * 2 := by rw [List.length_take, Array.length_toList]; omega
        have e2 : (cur.toList.take ((i + 1) * 2) ++ (l0.flatMap encTH).drop (i * 2) ++ cur.toList.drop ((i + 1) * 2 + ((l0.flatMap encTH).drop (i * 2)).length)).take (i * 2) = (l0.flatMap encTH).take (i * 2) := by
          rw [List.append_assoc, List.take_append_of_le_length (by omega), List.take_take, Nat.min_eq_left (by omega), ← ht, List.take_take, Nat.min_eq_left (by omega)]
        have e3 : (cur.toList.take ((i + 1) * 2) ++ (l0.flatMap encTH).drop (i * 2) ++ cur.toList.drop ((i + 1) * 2 + ((l0.flatMap encTH).drop (i * 2)).length)).drop (i * 2 + [Value.int .i64 x.f0, Value.int .i64 x.f1].length) = (l0.flatMap encTH).drop (i * 2) ++ cur.toList.drop ((i + 1) * 2 + ((l0.flatMap encTH).drop (i * 2)).length) := by
          rw [List.append_assoc, show i * 2 + [Value.int .i64 x.f0, Value.int .i64 x.f1].length = (cur.toList.take ((i + 1) * 2)).length by rw [e1]; simp; omega, List.drop_left]
        rw [e2, e3, ← List.append_assoc]
        have e4 : ((l0.flatMap encTH).take (i * 2) ++ [Value.int .i64 x.f0, Value.int .i64 x.f1] ++ (l0.flatMap encTH).drop (i * 2)).length = (l0.length + 1) * 2 := by
          rw [List.length_append, List.length_append, htl, hdl]; simp; omega
        rw [← e4, List.take_left]
      · have e0 := Go.Proofs.YtafbnilpipcjfaaW.PrintWords.setCells_same g ((l0.flatMap encTH).drop (i * 2)) ((i + 1) * 2) w.drew
        have e1 := Go.Proofs.YtafbnilpipcjfaaW.PrintWords.setCells_same g [.int .i64 x.f0, .int .i64 x.f1] (i * 2) (w.drew.setCells g ((i + 1) * 2) ((l0.flatMap encTH).drop (i * 2)))
        refine ⟨e1.1.trans e0.1, e1.2.1.trans e0.2.1, e1.2.2.1.trans e0.2.2.1, by rw [e1.2.2.2, e0.2.2.2]; exact Nat.le_refl _, fun j hj hnj => ?_⟩
        have hj' : j ≠ g := fun h => hnj (by rw [h])
        rw [Go.Proofs.YtafbnilpipcjfaaW.PrintWords.setCells_far _ _ j hj', Go.Proofs.YtafbnilpipcjfaaW.PrintWords.setCells_far _ _ j hj']
        rfl
    · refine (slices_InsertT.grow g l0.length cap i vb vc (l0.flatMap encTH) x.f0 x.f1 w hi2 hnc (by omega) hsz hgw (fm_len l0) hcs (fm_one l0) hv).mono ?_
      rintro e w' ⟨rfl, rfl⟩
      have hGn := grownCap_ge w (l0.length + 1) cap 38
      have hGm := grownCap_le_maxLen w (l0.length + 1) cap 38 (by unfold maxLen; omega)
      generalize grownCap w (l0.length + 1) cap 38 = G at hGn hGm ⊢
      obtain ⟨ROW, hROW⟩ : ∃ ROW : Array Value, ROW = ((l0.flatMap encTH).take (i * 2)).toArray ++ Builtin.zeroCells (Value.agg #[.int .i64 0, .int .i64 0]).cells (l0.length + 1 - i) ++ Builtin.zeroCells (Value.agg #[.int .i64 0, .int .i64 0]).cells (G - (l0.length + 1)) := ⟨_, rfl⟩
      rw [← hROW]
      have hRs : ROW.size = G * 2 := by
        rw [hROW]
        simp [Builtin.zeroCells, Value.cells, htl]
        omega
      have hRt : ROW.toList.take (i * 2) = (l0.flatMap encTH).take (i * 2) := by
        rw [hROW]
        simp only [Array.toList_append, List.append_assoc]
        rw [List.take_append_of_le_length (by simp [htl])]
        exact List.take_of_length_le (by simp [htl])
      have hnew : ((w.alloc (.cells ROW 38)).drew).heap[w.heap.size]? = some (.cells ROW 38 (0, 0)) := heap_alloc_new w _
      obtain ⟨cur1, c1, c2, c3⟩ := Go.Proofs.YtafbnilpipcjfaaW.PrintWords.setCells_row [.int .i64 x.f0, .int .i64 x.f1] (i * 2) _ ROW hnew (by simp; omega)
      obtain ⟨cur2, d1, d2, d3⟩ := Go.Proofs.YtafbnilpipcjfaaW.PrintWords.setCells_row ((l0.flatMap encTH).drop (i * 2)) ((i + 1) * 2) _ cur1 (show ((((w.alloc (.cells ROW 38)).drew.setCells w.heap.size (i * 2) [.int .i64 x.f0, .int .i64 x.f1]).drew).heap[w.heap.size]? = _) from c1) (by rw [hdl]; omega)
      refine ⟨_, rfl, ?_, ?_⟩
      · rw [← hlen]
        refine fm_R ⟨fm_len _, .inr ⟨w.heap.size, G, cur2, rfl, hbase, d1, by omega, hGm, by omega, ?_⟩⟩
        rw [d3, c3, hfm, hlen, hRt]
        have e1 : ((l0.flatMap encTH).take (i * 2) ++ [Value.int .i64 x.f0, Value.int .i64 x.f1]).length = (i + 1) * 2 := by rw [List.length_append, htl]; simp; omega
        rw [List.take_append_of_le_length (Nat.le_of_eq e1.symm), List.take_of_length_le (Nat.le_of_eq e1)]
        have e4 : ((l0.flatMap encTH).take (i * 2) ++ [Value.int .i64 x.f0, Value.int .i64 x.f1] ++ (l0.flatMap encTH).drop (i * 2)).length = (l0.length + 1) * 2 := by
          rw [List.length_append, e1, hdl]; omega
        rw [← e4, List.take_left]
      · have e0 := Go.Proofs.YtafbnilpipcjfaaW.PrintWords.setCells_same w.heap.size [.int .i64 x.f0, .int .i64 x.f1] (i * 2) (w.alloc (.cells ROW 38)).drew
        have e1 := Go.Proofs.YtafbnilpipcjfaaW.PrintWords.setCells_same w.heap.size ((l0.flatMap encTH).drop (i * 2)) ((i + 1) * 2) (((w.alloc (.cells ROW 38)).drew.setCells w.heap.size (i * 2) [.int .i64 x.f0, .int .i64 x.f1]).drew)
        refine ⟨e1.1.trans e0.1, e1.2.1.trans e0.2.1, e1.2.2.1.trans e0.2.2.1, ?_, fun j hj hnj => ?_⟩
        · rw [e1.2.2.2]
          show w.heap.size ≤ ((w.alloc (.cells ROW 38)).drew.setCells w.heap.size (i * 2) [.int .i64 x.f0, .int .i64 x.f1]).heap.size
          rw [e0.2.2.2]
          simp [World.drew]
        · have hj' : j ≠ w.heap.size := by omega
          rw [Go.Proofs.YtafbnilpipcjfaaW.PrintWords.setCells_far _ _ j hj']
          show ((w.alloc (.cells ROW 38)).drew.setCells w.heap.size (i * 2) [.int .i64 x.f0, .int .i64 x.f1]).heap[j]? = _
          rw [Go.Proofs.YtafbnilpipcjfaaW.PrintWords.setCells_far _ _ j hj']
          exact (below_alloc (Below.refl w.heap.size w) (.cells ROW 38)).block j hj

end Go.Proofs.Ytafbnilpipcjfaa.P
