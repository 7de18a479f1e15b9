/- A part of this seat's proofs: contracts of the translated functions, written by the session's own program (gp.py) out of the kit's print.py and the session's own contracts; no conditions of its own. -/
import Derived.Test.YtejchneeheeldaaPx0
import Derived.Test.YtejchneeheeldaaPx38
import Derived.Test.YtejchneeheeldaaPx39
namespace Go.Proofs.Ytejchneeheeldaa.P
open Go.RowKit Go.Proofs.YtejchneeheeldaaW.PrintWords Go.Proofs.YtejchneeheeldaaW.PrintLast Go.Proofs.YtejchneeheeldaaW.PrintMore
attribute [local go_sem] max2_int min2_int max_two min_two max_three min_three max_four min_four   -- for this text's walks alone
set_option linter.unusedVariables false
set_option linter.unusedSimpArgs false

/-! ### given: 31_compactC.tpl -/
theorem run_clear_two {P : Program} (w : World) (t e ty : TypeId) (z : Value) (z0 z1 : Value) (ht : P.underlying t = some (.slice e)) (hv : ∀ w, (zeroValue e).run P w = .ok z w) (hz : z.cells = #[z0, z1]) (h0 : z0.oneCell' = true) (h1 : z1.oneCell' = true) (b o n c : Nat) (hn : 0 < n)
    (hc : ∀ j, j < n * 2 → (w.cell? ⟨b, o + j, none⟩).isSome = true) (hf : ∀ j, j < n * 2 → w.frozen? ⟨b, o + j, none⟩ = false) (zs : List Value) (hzs : zs.length = n * 2) (hze : ∀ i, i < n * 2 → zs[i]? = some (if i % 2 = 0 then z0 else z1)) :
    (Builtin.clear_ #[t] ty #[.slice (some ⟨b, o, none⟩) n c]).run P w = .ok (.tuple #[]) (w.setCells b o zs) := by
  have hzc : (Builtin.zeroCells z.cells n).toList = zs := by
    rw [hz]
    apply List.ext_getElem
    · simp [Builtin.zeroCells, hzs]
    · intro i h1 h2
      have h3 := hze i (by omega)
      rw [List.getElem?_eq_getElem h2] at h3
      rw [Option.some.inj h3]
      rcases Nat.mod_two_eq_zero_or_one i with h | h <;> simp [Builtin.zeroCells, h]
  have hst := run_storeCells_cells (P := P) b o zs 0 w (by simpa [hzs] using hc) (by simpa [hzs] using hf) (by
    intro v hv'
    obtain ⟨i, hi, rfl⟩ := List.getElem_of_mem hv'
    have h3 := hze i (by omega)
    rw [List.getElem?_eq_getElem hi] at h3
    rw [Option.some.inj h3]
    split <;> assumption)
  simp only [Nat.add_zero] at hst
  obtain ⟨m, rfl⟩ : ∃ m, n = m + 1 := ⟨n - 1, by omega⟩
  simp [Builtin.clear_, run_underlying ht, hv, hzc, hst]
instance decCho : DecidableEq S59 := fun x y => decidable_of_iff (x.f0 = y.f0 ∧ x.f1 = y.f1) ⟨fun h => by cases x; cases y; simp only at h; rw [h.1, h.2], fun h => by rw [h]; exact ⟨rfl, rfl⟩⟩
theorem eqlC (x y : S59) (w : World) : (binOp .eql 59 (.agg #[.int .i64 x.f0, .int .i64 x.f1]) (.agg #[.int .i64 y.f0, .int .i64 y.f1])).run Try.prog w = .ok (.bool (decide (x = y))) w := by
  go_simp
  obtain ⟨x0, x1⟩ := x
  obtain ⟨y0, y1⟩ := y
  by_cases h1 : x0 = y0 <;> by_cases h2 : x1 = y1 <;> simp [h1, h2]
theorem neqC (x y : S59) (w : World) : (binOp .neq 59 (.agg #[.int .i64 x.f0, .int .i64 x.f1]) (.agg #[.int .i64 y.f0, .int .i64 y.f1])).run Try.prog w = .ok (.bool (!decide (x = y))) w := by
  go_simp
  obtain ⟨x0, x1⟩ := x
  obtain ⟨y0, y1⟩ := y
  by_cases h1 : x0 = y0 <;> by_cases h2 : x1 = y1 <;> simp [h1, h2]
section
open Go.Sort Go.Lib
theorem setCells_app (b : Nat) : ∀ (vs us : List Value) (o : Nat) (w : World), w.setCells b o (vs ++ us) = (w.setCells b o vs).setCells b (o + vs.length) us
  | [], us, o, w => by simp [World.setCells]
  | v :: r, us, o, w => by
    simp only [List.cons_append, World.setCells, List.length_cons]
    rw [setCells_app b r us, show o + 1 + r.length = o + (r.length + 1) by omega]
theorem setMany_one {α : Type} [Inhabited α] (enc : α → List Value) (k : Nat) (hk : ∀ x, (enc x).length = k) (d : Array α) (i : Nat) (x : α) (hi : i < d.size) : setMany (flatK enc k d) (i * k) (enc x) = flatK enc k (d.setIfInBounds i x) := by
  refine ext_get! (by simp) fun t ht => ?_
  have ht' : t < d.size * k := by simpa using ht
  have k0 : 0 < k := by rcases Nat.eq_zero_or_pos k with h | h; · subst h; simp at ht'
                        · exact h
  have htk : t / k < d.size := Nat.div_lt_of_lt_mul (by rw [Nat.mul_comm]; exact ht')
  rw [get_setMany _ _ _ t (by simpa using ht'), get_flatK _ _ _ t ht', get_flatK _ _ _ t (by simpa using ht'), hk]
  by_cases a : t / k = i
  · rw [if_pos ((blk_iff k i t k0).2 a), a]
    rw [show (d.setIfInBounds i x)[i]! = x by simp [Array.getElem!_eq_getD, Array.getD, hi]]
    congr 1
    subst a
    rw [Nat.mod_eq_sub_div_mul]
  · rw [if_neg (fun h => a ((blk_iff k i t k0).1 h))]
    rw [show (d.setIfInBounds i x)[t / k]! = d[t / k]! by simp [Array.getElem!_eq_getD, Array.getD, Array.getElem_setIfInBounds, htk, Ne.symm a]]
theorem putRowK_one {α : Type} [Inhabited α] (enc : α → List Value) (k : Nat) (hk : ∀ x, (enc x).length = k) (w : World) (blk : Nat) (d : Array α) (i : Nat) (x : α) (hi : i < d.size) : (putRowK enc k w blk 0 d).setCells blk (i * k) (enc x) = putRowK enc k w blk 0 (d.setIfInBounds i x) := by
  unfold putRowK
  have hb : i * k + k ≤ d.size * k := by
    have := Nat.mul_le_mul_right k (show i + 1 ≤ d.size from hi); rwa [Nat.add_mul, Nat.one_mul] at this
  have h := setCells_putRow w blk 0 (enc x) (i * k) (flatK enc k d) (by rw [hk, size_flatK]; exact hb)
  rw [Nat.zero_add] at h
  rw [h, setMany_one enc k hk d i x hi]
theorem putRowK_all {α : Type} [Inhabited α] (enc : α → List Value) (k : Nat) (hk : ∀ x, (enc x).length = k) (w : World) (blk : Nat) : ∀ (xs : List α) (d : Array α) (i : Nat), i + xs.length ≤ d.size → (putRowK enc k w blk 0 d).setCells blk (i * k) (xs.flatMap enc) = putRowK enc k w blk 0 (lay d i xs)
  | [], d, i, _ => by simp [World.setCells, lay]
  | x :: r, d, i, h => by
    have hl : i + (r.length + 1) ≤ d.size := by simpa using h
    rw [List.flatMap_cons, setCells_app, putRowK_one enc k hk w blk d i x (by omega), hk, lay, ← Nat.succ_mul]
    exact putRowK_all enc k hk w blk r _ (i + 1) (by simp; omega)
theorem holdsC_two {d : Array S59} {w : World} {g i : Nat} (h : HoldsK encCL 2 w g 0 d) (hi : i < d.size) : w.cell? ⟨g, i * 2, none⟩ = some (.int .i64 d[i]!.f0) ∧ w.cell? ⟨g, i * 2 + 1, none⟩ = some (.int .i64 d[i]!.f1) ∧ w.frozen? ⟨g, i * 2, none⟩ = false ∧ w.frozen? ⟨g, i * 2 + 1, none⟩ = false := by
  obtain ⟨a1, a2⟩ := h.cell (c := 0) hi (by omega)
  obtain ⟨b1, b2⟩ := h.cell (c := 1) hi (by omega)
  simp only [Nat.zero_add, Nat.add_zero] at a1 a2 b1 b2
  exact ⟨a1, b1, a2, b2⟩
theorem flat_rep (n : Nat) (x : S59) : ((List.replicate n x).flatMap encCL).length = n * 2 ∧ ∀ i, i < n * 2 → ((List.replicate n x).flatMap encCL)[i]? = some (if i % 2 = 0 then .int .i64 x.f0 else .int .i64 x.f1) := by
  induction n with
  | zero => exact ⟨by simp, fun i hi => by omega⟩
  | succ n ih =>
    rw [List.replicate_succ, List.flatMap_cons]
    refine ⟨by rw [List.length_append, ih.1]; simp [encCL]; omega, fun i hi => ?_⟩
    match i, hi with
    | 0, _ => simp [encCL]
    | 1, _ => simp [encCL]
    | i + 2, hi =>
      have := ih.2 i (by omega)
      rw [Nat.add_mod_right]
      simpa [encCL] using this
set_option maxHeartbeats 4000000 in
set_option maxRecDepth 1000000 in
theorem slices_CompactC.own (g cap : Nat) (d : Array S59) (w : World) (hH : HoldsK encCL 2 w g 0 d) (hsz : d.size ≤ 4611686018427387903) (hcap : d.size ≤ cap) :
    Calls Try.prog 89 #[.slice (some ⟨g, 0, none⟩) d.size cap] w fun e w' => e = .returned (.slice (some ⟨g, 0, none⟩) (compactUpTo d d.size).length cap) ∧ ∃ q, w' = putRowK encCL 2 (Go.Sort.ahead w q) g 0 (compactUpTo d d.size ++ List.replicate (d.size - (compactUpTo d d.size).length) (⟨0, 0⟩ : S59)).toArray := by
  have t27 := Try.underlying38
  have same : ∀ q, (∀ j, j < d.size → keeps d j = true) → (compactUpTo d d.size).length = d.size ∧ w.drewN q = putRowK encCL 2 (Go.Sort.ahead w q) g 0 (compactUpTo d d.size ++ List.replicate (d.size - (compactUpTo d d.size).length) (⟨0, 0⟩ : S59)).toArray := by
    intro q hall
    have e : compactUpTo d d.size = d.toList := by rw [compactUpTo_all d _ hall, range_map_get]
    rw [e]
    refine ⟨by simp, ?_⟩
    simp only [Array.length_toList, Nat.sub_self, List.replicate_zero, List.append_nil, Array.toArray_toList]
    exact (putRowK_self encCL 2 (Go.Sort.ahead w q) g 0 d (holdsK_ahead encCL 2 w q g 0 d hH)).symm
  have HS := Aside0.mk same
  clear same
  have HH := Aside0.mk hH
  clear hH
  have E1 := eqlC
  have E2 := neqC
  by_cases h2 : d.size < 2
  · go_enter Try.func89, Try.ntmps89
    go_wp2
    go_ret
    obtain ⟨e1, e2⟩ := HS.out 0 (fun j hj => keeps_lt_one d j (by omega))
    exact ⟨by rw [e1]; rfl, 0, e2⟩
  · go_enter Try.func89, Try.ntmps89
    go_wp2
    go_loopg [3] d.size (fun gk s3 wr => ∃ k q : Nat, 1 ≤ k ∧ k ≤ d.size ∧ d.size - k ≤ gk ∧ s3 = .int .i64 k ∧ wr = w.drewN q ∧ Aside (∀ j, j < k → keeps d j = true))
    case atStart => exact ⟨1, 0, Nat.le_refl _, by omega, by omega, rfl, rfl, keeps_lt_one d⟩
    case round =>
      obtain ⟨k, q, hk1, hk, hg, rfl, rfl, A⟩ := hrel
      by_cases hlt : k < d.size
      · obtain ⟨c1, c1', f1, f1'⟩ := holdsC_two HH.out hlt
        obtain ⟨c0, c0', f0, f0'⟩ := holdsC_two HH.out (show k - 1 < d.size by omega)
        generalize hx : d[k]! = x at c1 c1'
        generalize hy : d[k - 1]! = y at c0 c0'
        have B : Aside (d[k]! = x ∧ d[k - 1]! = y) := ⟨hx, hy⟩
        clear hx hy
        have hwr : IntKind.i64.wrap ((k : Int) - 1) = ((k - 1 : Nat) : Int) := by rw [IntWalk.i64_in _ (by omega)]; omega
        have hwk : IntKind.i64.wrap ((k : Int) + 1) = ((k + 1 : Nat) : Int) := by rw [IntWalk.i64_in _ (by omega)]; omega
        by_cases hdup : x = y
        · subst hdup
          go_wp2
          go_region
          go_wp2
          clear c0 c1 f0 f1 c0' c1' f0' f1'
          go_loopg [3, 5] d.size (fun gk s3 s5 wr => ∃ (kk k2 q2 : Nat) (dk : Array S59), s3 = .int .i64 kk ∧ s5 = .int .i64 k2 ∧ 1 ≤ k2 ∧ k + k2 ≤ d.size ∧ d.size - (k + k2) ≤ gk ∧ Aside (wr = putRowK encCL 2 (Go.Sort.ahead w q2) g 0 dk) ∧ Aside (CompInv d (k + k2) kk dk))
          case atStart => exact ⟨k, 1, q + 1, d, rfl, rfl, Nat.le_refl _, by omega, by omega, (putRowK_self encCL 2 (Go.Sort.ahead w (q + 1)) g 0 d (holdsK_ahead encCL 2 w (q + 1) g 0 d HH.out)).symm, CompInv.start A.out (keeps_neg (by omega) (by rw [B.out.1, B.out.2]))⟩
          case round =>
            obtain ⟨kk, k2, q2, dk, rfl, rfl, h1, hle, hg2, W2, I2⟩ := hrel
            have hkk := I2.out.lt
            have hds := I2.out.size
            have hHk : HoldsK encCL 2 wr g 0 dk := by rw [W2.out]; exact holdsK_putRowK encCL 2 _ g 0 d dk (holdsK_ahead encCL 2 w q2 g 0 d HH.out) hds
            by_cases hlt2 : k + k2 < d.size
            · obtain ⟨cm, cm', fm, fm'⟩ := holdsC_two hHk (show k + k2 < dk.size by omega)
              obtain ⟨cp, cp', fp, fp'⟩ := holdsC_two hHk (show k + (k2 - 1) < dk.size by omega)
              obtain ⟨ck, ck', fk, fk'⟩ := holdsC_two hHk (show kk < dk.size by omega)
              rw [I2.out.high (k + k2) (by omega)] at cm cm'
              rw [I2.out.high (k + (k2 - 1)) (by omega)] at cp cp'
              rw [Nat.add_mul] at cm cm' fm fm' cp cp' fp fp'
              clear hHk
              generalize hu : d[k + k2]! = u at cm cm'
              generalize hv : d[k + (k2 - 1)]! = v at cp cp'
              generalize dk[kk]! = old at ck ck'
              have C : Aside (d[k + k2]! = u ∧ d[k + (k2 - 1)]! = v) := ⟨hu, hv⟩
              clear hu hv
              have hw2 : IntKind.i64.wrap ((k2 : Int) - 1) = ((k2 - 1 : Nat) : Int) := by rw [IntWalk.i64_in _ (by omega)]; omega
              have hw3 : IntKind.i64.wrap ((k2 : Int) + 1) = ((k2 + 1 : Nat) : Int) := by rw [IntWalk.i64_in _ (by omega)]; omega
              have hw4 : IntKind.i64.wrap ((kk : Int) + 1) = ((kk + 1 : Nat) : Int) := by rw [IntWalk.i64_in _ (by omega)]; omega
              by_cases huv : u = v
              · subst huv
                go_wp2
                go_region
                go_wp2
                go_roundg (d.size - (k + (k2 + 1)))
                case measure => omega
                case rel => exact ⟨kk, k2 + 1, q2 + 1, dk, rfl, by go_num, by omega, by omega, Nat.le_refl _, by rw [W2.out]; rfl, I2.out.skip (keeps_neg (by omega) (by rw [C.out.1, show k + k2 - 1 = k + (k2 - 1) by omega, C.out.2]))⟩
              · go_wp2
                go_region
                go_wp2
                go_roundg (d.size - (k + (k2 + 1)))
                case measure => omega
                case rel =>
                  refine ⟨kk + 1, k2 + 1, q2 + 1, dk.setIfInBounds kk u, by go_num, by go_num, by omega, by omega, Nat.le_refl _, ?_, ?_⟩
                  · rw [W2.out]
                    exact (congrArg World.drew (putRowK_one encCL 2 (fun _ => rfl) _ g dk kk u (by omega))).trans (putRowK_drewN encCL 2 w q2 1 g 0 _)
                  · have := I2.out.keep hlt2 (keeps_pos (by rw [C.out.1, show k + k2 - 1 = k + (k2 - 1) by omega, C.out.2]; exact huv))
                    rwa [C.out.1] at this
            · have hend : k + k2 = d.size := by omega
              have hrep := flat_rep (d.size - kk) (⟨0, 0⟩ : S59)
              have hcl : ∀ ty, (Builtin.clear_ #[38] ty #[.slice (some ⟨g, kk * 2, none⟩) (d.size - kk) (cap - kk)]).run Try.prog wr = .ok (.tuple #[]) (wr.setCells g (kk * 2) ((List.replicate (d.size - kk) (⟨0, 0⟩ : S59)).flatMap encCL)) :=
                fun ty => run_clear_two wr _ _ ty _ (.int .i64 0) (.int .i64 0) t27 Try.zeroValue59 rfl rfl rfl g (kk * 2) (d.size - kk) (cap - kk) (by omega)
                  (fun j hj => by
                    have hh := (hHk (kk * 2 + j) (by rw [size_flatK]; omega)).1
                    rw [Nat.zero_add] at hh
                    rw [hh]; rfl)
                  (fun j hj => by
                    have hh := (hHk (kk * 2 + j) (by rw [size_flatK]; omega)).2
                    rw [Nat.zero_add] at hh
                    exact hh) _ hrep.1 hrep.2
              clear hHk
              go_wp2
              go_ret
              have hI := I2.out
              rw [hend] at hI
              refine ⟨by rw [hI.len]; rfl, q2, ?_⟩
              rw [hI.len, ← hI.done (⟨0, 0⟩ : S59), ← putRowK_all encCL 2 (fun _ => rfl) _ g _ dk kk (by simp; omega), ← W2.out]
        · go_wp2
          go_region
          go_wp2
          go_roundg (d.size - (k + 1))
          case measure => omega
          case rel =>
            refine ⟨k + 1, q + 1, by omega, by omega, Nat.le_refl _, by go_num, rfl, fun j hj => ?_⟩
            by_cases e : j = k
            · subst e
              exact keeps_pos (by rw [B.out.1, B.out.2]; exact hdup)
            · exact A.out j (by omega)
      · have : k = d.size := by omega
        subst this
        go_wp2
        go_ret
        obtain ⟨e1, e2⟩ := HS.out q A.out
        exact ⟨by rw [e1]; rfl, q, e2⟩
end
set_option maxHeartbeats 4000000 in
theorem slices_CompactC.none (A : Option Addr) (c : Nat) (w : World) :
    Calls Try.prog 89 #[.slice A 0 c] w fun e w' => e = .returned (.slice A 0 c) ∧ w' = w := by
  go_enter Try.func89, Try.ntmps89
  go_wp2
  go_ret
  exact ⟨rfl, rfl⟩
theorem compact_leC (l : List S59) : (Go.Lib.compact l).length ≤ l.length := by
  unfold Go.Lib.compact Go.Lib.compactUpTo
  rw [List.length_map]
  have := List.length_filter_le (Go.Lib.keeps l.toArray) (List.range l.length)
  simpa using this
/-- Of equal ones that stand side by side the first. -/
def impl_Chord_89.f (l0 : List S59) : Option (List S59) := if l0.length < 4611686018427387904 then some (Go.Lib.compact l0) else none
theorem impl_Chord_89.calls (P0_ : Nat → Prop) (u9000_ : Value) (l0 : List S59) (r : List S59) (w0 w : World) (hB : Below w0.heap.size w0 w) (ho0 : Kd.R k59 59 w w0.heap.size P0_ u9000_ l0) (h : impl_Chord_89.f l0 = some r) :
    Calls Try.prog 89 #[u9000_] w fun e w' => ∃ v0_ : Value, e = .returned (v0_) ∧ Kd.R k59 59 w' w0.heap.size (fun k_ => (P0_ k_ ∨ w.heap.size ≤ k_)) v0_ r ∧ Below w0.heap.size w0 w' ∧ Kept w w' (fun k_ => P0_ k_) := by
  unfold impl_Chord_89.f at h
  by_cases hsz : l0.length < 4611686018427387904
  · rw [if_pos hsz] at h
    obtain rfl := Option.some.inj h
    clear h
    rcases Nat.eq_zero_or_pos l0.length with hz | hp
    · obtain ⟨A, c, rfl⟩ := Kd.R_slice ho0
      obtain rfl : l0 = [] := List.length_eq_zero_iff.1 hz
      refine (slices_CompactC.none A c w).mono ?_
      rintro e w' ⟨rfl, rfl⟩
      exact ⟨_, rfl, Kd.R_mono ho0 (fun k hk => .inl hk), hB, Kept.refl _ _⟩
    · obtain ⟨g, cap, rfl, _⟩ := Kd.R_form ho0 hp
      obtain ⟨hb, hlt⟩ := RK_block ho0
      have hm := Kd.R_reads' ho0
      have hc := slices_CompactC.own g cap l0.toArray w (RK_holds rfl (fun _ => rfl) encCL_M ho0) (by simp; omega) (by simpa using hm.2.1)
      change Calls Try.prog 89 #[.slice (some ⟨g, 0, none⟩) l0.length cap] w _ at hc
      refine hc.mono ?_
      rintro e w' ⟨rfl, n, rfl⟩
      have hle := compact_leC l0
      have hl : (Go.Lib.compact l0 ++ List.replicate (l0.length - (Go.Lib.compact l0).length) (⟨0, 0⟩ : S59)).length = l0.length := by simp; omega
      obtain ⟨h1, h2⟩ := RK_putRow rfl (fun _ => rfl) encCL_M' ho0 hl n #[]
      rw [Go.Sort.grow_empty] at h1 h2
      have h3 := Kd.R_take h1 (m := (Go.Lib.compact l0).length) (by rw [hl]; exact hle)
      rw [List.take_left] at h3
      exact ⟨_, rfl, Kd.R_mono h3 (fun k hk => .inl hk), pw_below_grown hB (some g) hB.size h2 (fun k hk => by injection hk with hk; omega), ⟨h2.size, fun i hi hn => h2.block i hi (fun he => hn (by injection he with he; rw [he]; exact ho0.1 g rfl))⟩⟩
  · rw [if_neg hsz] at h; cases h

end Go.Proofs.Ytejchneeheeldaa.P
