/- A part of this seat's proofs: contracts of the translated functions, written by the session's own program (gp.py) out of the kit's print.py and the session's own contracts; no conditions of its own. -/
import Derived.Test.YtfpjakkjkakjoaaGreatDoorPx0
import Derived.Test.YtfpjakkjkakjoaaGreatDoorPx2
import Derived.Test.YtfpjakkjkakjoaaGreatDoorPx6
import Derived.Test.YtfpjakkjkakjoaaGreatDoorPx7
namespace Go.Proofs.YtfpjakkjkakjoaaGreatDoor.P
open Go.RowKit Go.Proofs.YtfpjakkjkakjoaaGreatDoorW.PrintWords Go.Proofs.YtfpjakkjkakjoaaGreatDoorW.PrintLast Go.Proofs.YtfpjakkjkakjoaaGreatDoorW.PrintMore
attribute [local go_sem] max2_int min2_int max_two min_two max_three min_three max_four min_four   -- for this text's walks alone
set_option linter.unusedVariables false
set_option linter.unusedSimpArgs false

/-! ### given: 63_mirrored.tpl -/
theorem on_disable (w : World) : (callFunc 113 #[]).run Tryz.prog w = .ok (.value (.tuple #[])) w := run_call_mark0 Tryz.func113 (by kernel_rfl) (by kernel_rfl) (by kernel_rfl) .disable (by kernel_rfl) w
theorem on_enable (w : World) : (callFunc 115 #[]).run Tryz.prog w = .ok (.value (.tuple #[])) w := run_call_mark0 Tryz.func115 (by kernel_rfl) (by kernel_rfl) (by kernel_rfl) .enable (by kernel_rfl) w
theorem on_acquire (a : Addr) (w : World) : (callFunc 116 #[.pointer (some a)]).run Tryz.prog w = .ok (.value (.tuple #[])) w := run_call_marked Tryz.func116 (by kernel_rfl) (by kernel_rfl) (by kernel_rfl) .acquire (by kernel_rfl) a w
theorem on_release (a : Addr) (w : World) : (callFunc 118 #[.pointer (some a)]).run Tryz.prog w = .ok (.value (.tuple #[])) w := run_call_marked Tryz.func118 (by kernel_rfl) (by kernel_rfl) (by kernel_rfl) .releaseMerge (by kernel_rfl) a w
set_option maxRecDepth 100000 in
theorem once_store (a : Addr) (x : Value) (u : FrameMode) (w : World) (hc : w.cell? a = some x) (hz : w.frozen? a = false) :
    CallsD Tryz.prog 100 #[.pointer (some a), .bool true] u w fun e u' w' => u' = u ∧ (e = .returned (.tuple #[]) ∧ w' = w.drew.setCell a (.int .u32 1)) := by
  have hc' : w.drew.cell? a = some x := by go_simp
  have hz' : w.drew.frozen? a = false := by go_simp
  have hst := run_call_store (P := Tryz.prog) Tryz.func109 (by kernel_rfl) (by kernel_rfl) (by kernel_rfl) (by kernel_rfl) (k := .u32) (y := 1) hc' hz'
  go_enter_d Tryz.func100, Tryz.ntmps100
  go_wp2
  go_region_calls
  all_goals (go_end0; exact ⟨rfl, rfl⟩)
set_option maxRecDepth 100000 in
theorem once_unlock (a : Addr) (u : FrameMode) (w : World) (hc : w.cell? a = some (.int .i32 1)) (hz : w.frozen? a = false) :
    CallsD Tryz.prog 99 #[.pointer (some a)] u w fun e u' w' => u' = u ∧ (e = .returned (.tuple #[]) ∧ w' = w.setCell a (.int .i32 0)) := by
  have hd := on_disable
  have he := on_enable
  have hr := on_release
  have hadd := run_call_add (P := Tryz.prog) Tryz.func119 (by kernel_rfl) (by kernel_rfl) (by kernel_rfl) .i32 (by kernel_rfl) (y := -1) (s := 0) hc hz (by simp [go_sem]; rfl)
  have hcv := run_convert_to_unsafe (P := Tryz.prog) (src := 166) (dst := 128) Tryz.underlying166 Tryz.underlying128 (by kernel_rfl) hc
  go_enter_d Tryz.func99, Tryz.ntmps99
  go_wp2
  go_end0
  go_wp2
  go_end0
  exact ⟨rfl, rfl⟩
set_option maxRecDepth 100000 in
theorem once_lock (a : Addr) (w : World) (hc : w.cell? a = some (.int .i32 0)) (hz : w.frozen? a = false) :
    Calls Tryz.prog 98 #[.pointer (some a)] w fun e w' => e = .returned (.tuple #[]) ∧ w' = w.setCell a (.int .i32 1) := by
  have hd := on_disable
  have he := on_enable
  have ha := on_acquire
  have hcas := run_call_cas_hit (P := Tryz.prog) Tryz.func114 (by kernel_rfl) (by kernel_rfl) (by kernel_rfl) .i32 (by kernel_rfl) (y := 1) hc hz
  have hc' : (w.setCell a (.int .i32 1)).cell? a = some (.int .i32 1) := World.cell?_setCell_same w a _ hc
  have hcv := run_convert_to_unsafe (P := Tryz.prog) (src := 166) (dst := 128) Tryz.underlying166 Tryz.underlying128 (by kernel_rfl) hc'
  go_enter Tryz.func98, Tryz.ntmps98
  go_wp2
  first | go_end0 | (simp only [Exit.inBlock, Exit.then]; refine bodyPost_ret (results_none rfl _ _ _) rfl ?_) | refine bodyPost_ret (results_none rfl _ _ _) rfl ?_
  go_wp2
  go_end0
  exact ⟨rfl, rfl⟩
def mirB (c : UInt8) : UInt8 := if c = 76 then 82 else if c = 82 then 76 else c
def mirI (c : Int) : Int := if c = 76 then 82 else if c = 82 then 76 else c
theorem mirI_B (c : UInt8) : mirI (c.toNat : Int) = ((mirB c).toNat : Int) := by
  unfold mirI mirB
  by_cases h : c = 76
  · subst h; rfl
  · by_cases h2 : c = 82
    · subst h2; rfl
    · have e1 : ¬ (c.toNat : Int) = 76 := fun e => h (UInt8.toNat_inj.1 (by have : (76 : UInt8).toNat = 76 := rfl; omega))
      have e2 : ¬ (c.toNat : Int) = 82 := fun e => h2 (UInt8.toNat_inj.1 (by have : (82 : UInt8).toNat = 82 := rfl; omega))
      rw [if_neg e1, if_neg e2, if_neg h, if_neg h2]
/-- The table of the exchange. -/
def tabM : List Value := (List.range 256).map fun j : Nat => Value.int .u8 (mirI (j : Int))
theorem tabM_at (b : UInt8) : (tabM.toArray)[b.toNat]? = some (.int .u8 (mirI b.toNat)) := by
  have h : b.toNat < 256 := b.toNat_lt
  simp [tabM, h]
theorem getD_at {α : Type} (l : List α) (d : α) {k : Nat} (h : k < l.length) : l.getD k d = l[k] := by
  simp [List.getD_eq_getElem?_getD, List.getElem?_eq_getElem h]
theorem ba_ext {x y : ByteArray} (h : x.data.toList = y.data.toList) : x = y := by
  obtain ⟨⟨a⟩⟩ := x
  obtain ⟨⟨b⟩⟩ := y
  have h : a = b := h
  rw [h]
theorem bytes_free (w : World) (e : TypeId) (s : ByteArray) {j : Nat} (hj : j < s.size) : (Go.Lib.bytesWorld w e s).frozen? ⟨w.heap.size, j, none⟩ = false := by
  have h := Go.Lib.bytesWorld_at_new w e s
  have hz : s.size ≤ (Go.Lib.bytesCells w e s).size := by
    unfold Go.Lib.bytesCells
    rw [Array.size_append, Array.size_map]
    show s.data.size ≤ _
    omega
  unfold World.frozen?
  rw [h]
  simp
  omega
set_option maxHeartbeats 8000000 in
set_option maxRecDepth 100000 in
theorem byte_replace (g : Nat) (s : ByteArray) (hs : s.size ≤ 1000000) (w : World) (hT : w.heap[g]? = some (.cells tabM.toArray 141 (0, 0))) :
    Calls Tryz.prog 152 #[.pointer (some ⟨g, 0, none⟩), .string s] w fun e w' => e = .returned (.string ⟨(s.data.toList.map mirB).toArray⟩) ∧ Below w.heap.size w w' := by
  have hz : s.size = s.data.toList.length := by
    show s.data.size = _
    simp
  have hcv : ∀ w1 : World, (convert 9 22 (.string s)).run Tryz.prog w1 = .ok (.slice (some ⟨w1.heap.size, 0, none⟩) s.size (grownCap w1 s.size 0 5)) (Go.Lib.bytesWorld w1 5 s) := fun w1 => Go.Lib.run_convert_string_bytes w1 9 22 5 s Tryz.underlying9 Tryz.underlying22 Tryz.underlying5
  have HT := Aside0.mk hT
  have HZ := Aside0.mk hz
  clear hT hz
  go_enter Tryz.func152, Tryz.ntmps152
  go_wp2
  go_loopg [5, 6] s.size (fun gg s5 s6 wr => ∃ kk : Nat, kk ≤ s.size ∧ s.size - kk ≤ gg ∧ s6 = .int .i64 kk ∧ Aside0 (Below w.heap.size w wr) ∧
    ((s5 = .slice none 0 0 ∧ Aside0 (∀ j, j < kk → mirB (s.data.toList.getD j 0) = s.data.toList.getD j 0)) ∨
     (∃ B c, s5 = .slice (some ⟨B, 0, none⟩) s.size c ∧ Aside0 (w.heap.size ≤ B ∧ s.size ≤ c) ∧ Aside0 (∀ j, j < s.size → wr.cell? ⟨B, j, none⟩ = some (.int .u8 (if j < kk then (mirB (s.data.toList.getD j 0)).toNat else (s.data.toList.getD j 0).toNat)) ∧ wr.frozen? ⟨B, j, none⟩ = false))))
  case atStart => exact ⟨0, Nat.zero_le _, by omega, rfl, ⟨Below.refl _ _⟩, .inl ⟨rfl, ⟨fun j hj => absurd hj (Nat.not_lt_zero _)⟩⟩⟩
  case round =>
    obtain ⟨kk, hkk, hg, rfl, HB, hD⟩ := hrel
    by_cases hlt : kk < s.size
    · have hltz : (kk : Int) < (s.size : Int) := by omega
      have hlb : decide ((kk : Int) < (s.size : Int)) = true := decide_eq_true hltz
      obtain ⟨b, hb1⟩ : ∃ b, s[kk]'hlt = b := ⟨_, rfl⟩
      have Hb := Aside0.mk (show s.data.toList.getD kk 0 = b by
        rw [getD_at _ _ (by have := HZ.out; omega), ← hb1]; simp [ByteArray.getElem_eq_getElem_data])
      have h256 : ((b.toNat : Int) < 256) = True := eq_true (by have : b.toNat < 256 := b.toNat_lt; omega)
      have Hc := Aside0.mk (show wr.cell? ⟨g, b.toNat, none⟩ = some (.int .u8 (mirB b).toNat) by
          rw [blk_cell (blk_below HT.out HB.out), tabM_at, mirI_B])
      by_cases hm : mirB b = b
      · have hcell : wr.cell? ⟨g, b.toNat, none⟩ = some (.int .u8 b.toNat) := by
          have := Hc.out
          rw [hm] at this; exact this
        have Hm := Aside0.mk hm
        clear hm
        rcases hD with ⟨rfl, HA⟩ | ⟨B, c, rfl, HBc, HR⟩
        · go_wp2
          go_roundg (s.size - (kk + 1))
          case measure => omega
          case rel => exact ⟨kk + 1, by omega, by omega, by go_num, HB, .inl ⟨rfl, ⟨fun j hj => by
            by_cases e : j = kk
            · subst e; rw [Hb.out, Hm.out]
            · exact HA.out j (by omega)⟩⟩⟩
        · go_wp2
          go_roundg (s.size - (kk + 1))
          case measure => omega
          case rel => exact ⟨kk + 1, by omega, by omega, by go_num, HB, .inr ⟨B, c, rfl, HBc, ⟨fun j hj => by
            obtain ⟨h1, h2⟩ := HR.out j hj
            refine ⟨h1.trans ?_, h2⟩
            by_cases e : j = kk
            · subst e; rw [if_neg (by omega), if_pos (by omega), Hb.out, Hm.out]
            · by_cases e2 : j < kk
              · rw [if_pos e2, if_pos (by omega)]
              · rw [if_neg e2, if_neg (by omega)]⟩⟩⟩
      · have hcell := Hc.out
        have hne : (((mirB b).toNat : Int) != (b.toNat : Int)) = true := bne_iff_ne.2 (fun e => hm (UInt8.toNat_inj.1 (by omega)))
        clear hm
        rcases hD with ⟨rfl, HA⟩ | ⟨B, c, rfl, HBc, HR⟩
        · have hnil : (binOp .eql 22 (.slice none 0 0) (.slice none 0 0)).run Tryz.prog wr = .ok (.bool true) wr := Go.Lib.run_eql_slice_nil _ _ _ _ _ _ _ _ Tryz.underlying22
          have hc2 : (Go.Lib.bytesWorld wr 5 s).cell? ⟨g, b.toNat, none⟩ = some (.int .u8 (mirB b).toNat) := (Go.Lib.bytesWorld_old wr 5 s ⟨g, b.toNat, none⟩ (World.block_lt_of_cell? _ _ hcell)).trans hcell
          have hc3 : (Go.Lib.bytesWorld wr 5 s).cell? ⟨wr.heap.size, kk, none⟩ = some (.int .u8 (s.data.toList.getD kk 0).toNat) := Go.Lib.bytesWorld_cell wr 5 s kk hlt
          have hf3 : (Go.Lib.bytesWorld wr 5 s).frozen? ⟨wr.heap.size, kk, none⟩ = false := bytes_free wr 5 s hlt
          go_wp2
          go_roundg (s.size - (kk + 1))
          case measure => omega
          case rel =>
            refine ⟨kk + 1, by omega, by omega, by go_num, ⟨below_set (bytes_below HB.out HB.out.size _ _) HB.out.size⟩, .inr ⟨wr.heap.size, _, rfl, ⟨HB.out.size, grownCap_ge _ _ _ _⟩, ⟨fun j hj => ?_⟩⟩⟩
            by_cases e : j = kk
            · subst e
              refine ⟨(World.cell?_setCell_same _ _ _ hc3).trans ?_, by simpa using hf3⟩
              rw [if_pos (by omega), Hb.out]
            · refine ⟨(World.cell?_setCell_other _ _ _ _ (fun h => e (by injection h with _ h; omega))).trans ((Go.Lib.bytesWorld_cell wr 5 s j hj).trans ?_), by simpa using bytes_free wr 5 s hj⟩
              by_cases e2 : j < kk
              · rw [if_pos (by omega), HA.out j e2]
              · rw [if_neg (by omega)]
        · have hnil : (binOp .eql 22 (.slice (some ⟨B, 0, none⟩) s.size c) (.slice none 0 0)).run Tryz.prog wr = .ok (.bool false) wr := Go.Lib.run_eql_slice_nil _ _ _ _ _ _ _ _ Tryz.underlying22
          obtain ⟨hc3, hf3⟩ := HR.out kk hlt
          rw [if_neg (by omega)] at hc3
          have hkc : (kk : Int) < (c : Int) := by have := HBc.out.2; omega
          go_wp2
          go_roundg (s.size - (kk + 1))
          case measure => omega
          case rel =>
            refine ⟨kk + 1, by omega, by omega, by go_num, ⟨below_set HB.out HBc.out.1⟩, .inr ⟨B, c, rfl, HBc, ⟨fun j hj => ?_⟩⟩⟩
            obtain ⟨h1, h2⟩ := HR.out j hj
            by_cases e : j = kk
            · subst e
              refine ⟨(World.cell?_setCell_same _ _ _ hc3).trans ?_, by simpa using h2⟩
              rw [if_pos (by omega), Hb.out]
            · refine ⟨(World.cell?_setCell_other _ _ _ _ (fun h => e (by injection h with _ h; omega))).trans (h1.trans ?_), by simpa using h2⟩
              by_cases e2 : j < kk
              · rw [if_pos e2, if_pos (by omega)]
              · rw [if_neg e2, if_neg (by omega)]
    · have hltz : ¬ (kk : Int) < (s.size : Int) := by omega
      have hlb : decide ((kk : Int) < (s.size : Int)) = false := decide_eq_false hltz
      have HK := Aside0.mk (show kk = s.size by omega)
      rcases hD with ⟨rfl, HA⟩ | ⟨B, c, rfl, HBc, HR⟩
      · have hnil : (binOp .eql 22 (.slice none 0 0) (.slice none 0 0)).run Tryz.prog wr = .ok (.bool true) wr := Go.Lib.run_eql_slice_nil _ _ _ _ _ _ _ _ Tryz.underlying22
        go_wp2
        go_ret
        refine ⟨?_, HB.out⟩
        have e : s.data.toList.map mirB = s.data.toList := by
          conv => rhs; rw [← List.map_id s.data.toList]
          refine List.map_congr_left fun x hx => ?_
          obtain ⟨j, hj, rfl⟩ := List.getElem_of_mem hx
          have := HA.out j (by have := HZ.out; have := HK.out; omega)
          rwa [getD_at _ _ hj] at this
        rw [e]
        rfl
      · have hnil : (binOp .eql 22 (.slice (some ⟨B, 0, none⟩) s.size c) (.slice none 0 0)).run Tryz.prog wr = .ok (.bool false) wr := Go.Lib.run_eql_slice_nil _ _ _ _ _ _ _ _ Tryz.underlying22
        have hcs := run_convert_bytes_arg (P := Tryz.prog) wr 22 5 Tryz.underlying22 Tryz.underlying5 B 0 s.size c (s.data.toList.map fun x => ((mirB x).toNat : Int)) (by rw [List.length_map]; exact HZ.out.symm) (fun i hi => by
          have hil : i < s.data.toList.length := by have := HZ.out; omega
          rw [Nat.zero_add, (HR.out i hi).1, if_pos (by have := HK.out; omega), getD_at _ _ hil, getD_at _ _ (by rw [List.length_map]; exact hil), List.getElem_map]) 9 Tryz.underlying9
        go_wp2
        go_ret
        refine ⟨?_, HB.out⟩
        show Ending.returned (.string (strOfNums (s.data.toList.map fun x => ((mirB x).toNat : Int)))) = _
        congr 2
        refine ba_ext ?_
        rw [strOfNums_data]
        show (s.data.toList.map fun x => ((mirB x).toNat : Int)).map (fun n => UInt8.ofNat n.toNat) = s.data.toList.map mirB
        rw [List.map_map]
        refine List.map_congr_left fun x _ => ?_
        simp
/-- The table when k entries are laid. -/
def tabK (k : Nat) : List Value := (List.range 256).map fun j : Nat => Value.int .u8 (if j < k then (j : Int) else 0)
theorem tabK_len (k : Nat) : (tabK k).length = 256 := by simp only [tabK, List.length_map, List.length_range]
theorem tabM_len : tabM.length = 256 := by simp only [tabM, List.length_map, List.length_range]
theorem tabK_get (k i : Nat) (h : i < (tabK k).length) : (tabK k)[i] = Value.int .u8 (if i < k then (i : Int) else 0) := by
  simp only [tabK, List.getElem_map, List.getElem_range]
theorem tabM_get (i : Nat) (h : i < tabM.length) : tabM[i] = Value.int .u8 (mirI (i : Int)) := by
  simp only [tabM, List.getElem_map, List.getElem_range]
theorem tabK_succ (k : Nat) (hk : k < 256) : (tabK k).toArray.setIfInBounds k (Value.int .u8 (k : Int)) = (tabK (k + 1)).toArray := by
  rw [List.setIfInBounds_toArray]
  congr 1
  refine List.ext_getElem (by rw [List.length_set, tabK_len, tabK_len]) fun i h1 h2 => ?_
  rw [List.getElem_set, tabK_get]
  by_cases e : k = i
  · subst e
    rw [if_pos rfl, tabK_get, if_pos (by omega)]
  · rw [if_neg e, tabK_get]
    congr 1
    by_cases e2 : i < k
    · rw [if_pos e2, if_pos (by omega)]
    · rw [if_neg e2, if_neg (by omega)]
theorem tabK_all : ((tabK 256).toArray.setIfInBounds 82 (Value.int .u8 76)).setIfInBounds 76 (Value.int .u8 82) = tabM.toArray := by kernel_rfl
theorem tabK_at (k j : Nat) (hj : j < 256) : (tabK k).toArray[j]? = some (Value.int .u8 (if j < k then (j : Int) else 0)) := by
  rw [List.getElem?_toArray, List.getElem?_eq_getElem (by rw [tabK_len]; exact hj), tabK_get]
set_option maxHeartbeats 8000000 in
set_option maxRecDepth 100000 in
theorem rep_build (b o c : Nat) (w : World) (hb : w.cell? ⟨b, 4, none⟩ = some (.slice (some ⟨o, 0, none⟩) 4 c)) (h0 : w.cell? ⟨o, 0, none⟩ = some (.string ⟨#[76]⟩)) (h1 : w.cell? ⟨o, 1, none⟩ = some (.string ⟨#[82]⟩)) (h2 : w.cell? ⟨o, 2, none⟩ = some (.string ⟨#[82]⟩)) (h3 : w.cell? ⟨o, 3, none⟩ = some (.string ⟨#[76]⟩)) :
    Calls Tryz.prog 87 #[.pointer (some ⟨b, 0, none⟩)] w fun e w' => e = .returned (.iface 142 (.pointer (some ⟨w.heap.size, 0, none⟩))) ∧ w'.heap[w.heap.size]? = some (.cells tabM.toArray 141 (0, 0)) ∧ Below w.heap.size w w' := by
  have hu := Tryz.underlying114
  have hz : Tryz.zeroCells141 = (tabK 0).toArray := by kernel_rfl
  have hsc : (storeCells ⟨w.heap.size, 0, none⟩ (tabK 0) 0).run Tryz.prog (w.alloc (.cells (tabK 0).toArray 141)) = .ok () (w.alloc (.cells (tabK 0).toArray 141)) := by
    have := run_storeCells_new (P := Tryz.prog) w 141 (tabK 0).toArray (tabK 0).toArray (by kernel_rfl) rfl (by kernel_rfl)
    exact this
  go_enter Tryz.func87, Tryz.ntmps87
  go_wp2
  refine wp_loop_rounds 3 ?_
  rw [rounds_succ]
  go_wp2
  rw [rounds_succ]
  go_wp2
  rw [rounds_succ]
  go_wp2
  have S := Aside0.mk (And.intro hb (And.intro h0 (And.intro h1 (And.intro h2 h3))))
  have hlt0 : o < w.heap.size := World.block_lt_of_cell? _ _ h0
  clear hb h0 h1 h2 h3 hsc hz
  go_loopg [7, 61] 256 (fun gg _ s61 wr => ∃ kk : Nat, kk ≤ 256 ∧ 256 - kk ≤ gg ∧ s61 = .int .i64 kk ∧ Aside0 (wr.heap[w.heap.size]? = some (.cells (tabK kk).toArray 141 (0, 0))) ∧ Aside0 (Below w.heap.size w wr))
  case atStart => exact ⟨0, by omega, by omega, rfl, ⟨blk_new _ _⟩, ⟨below_alloc (Below.refl _ _) _⟩⟩
  case round =>
    obtain ⟨kk, hkk, hg, rfl, HT, HB⟩ := hrel
    by_cases hlt : kk < 256
    · have hltz : ((kk : Int) < 256) = True := eq_true (by omega)
      have hlb : decide ((kk : Int) < 256) = true := decide_eq_true (by omega)
      have hc : wr.cell? ⟨w.heap.size, kk, none⟩ = some (.int .u8 0) := by
        rw [blk_cell HT.out, tabK_at kk kk hlt, if_neg (by omega)]
      have hf : wr.frozen? ⟨w.heap.size, kk, none⟩ = false := blk_frozen HT.out kk
      go_wp2
      go_roundg (256 - (kk + 1))
      case measure => omega
      case rel => exact ⟨kk + 1, by omega, by omega, by go_num, ⟨blk_put HT.out kk _ (tabK_succ kk hlt)⟩, ⟨below_set HB.out (Nat.le_refl _)⟩⟩
    · have hltz : ((kk : Int) < 256) = False := eq_false (by omega)
      have hlb : decide ((kk : Int) < 256) = false := decide_eq_false (by omega)
      have HK : kk = 256 := by omega
      have HT1 : Aside0 (wr.heap[w.heap.size]? = some (.cells (tabK 256).toArray 141 (0, 0))) := ⟨HK ▸ HT.out⟩
      clear HK HT
      have a0 := (HB.out.cell (World.block_lt_of_cell? _ _ S.out.2.1)).trans S.out.2.1
      have a1 := (HB.out.cell (World.block_lt_of_cell? _ _ S.out.2.2.1)).trans S.out.2.2.1
      have a2 := (HB.out.cell (World.block_lt_of_cell? _ _ S.out.2.2.2.1)).trans S.out.2.2.2.1
      have a3 := (HB.out.cell (World.block_lt_of_cell? _ _ S.out.2.2.2.2)).trans S.out.2.2.2.2
      have c82 : wr.cell? ⟨w.heap.size, 82, none⟩ = some (.int .u8 82) := by
        rw [blk_cell HT1.out, tabK_at 256 82 (by decide)]; rfl
      have f82 : wr.frozen? ⟨w.heap.size, 82, none⟩ = false := blk_frozen HT1.out 82
      have c76 : wr.cell? ⟨w.heap.size, 76, none⟩ = some (.int .u8 76) := by
        rw [blk_cell HT1.out, tabK_at 256 76 (by decide)]; rfl
      have f76 : wr.frozen? ⟨w.heap.size, 76, none⟩ = false := blk_frozen HT1.out 76
      have hne : ∀ j : Nat, (⟨w.heap.size, 82, none⟩ : Addr) ≠ ⟨o, j, none⟩ := fun j h => by
        injection h with h; omega
      have b0 := (World.cell?_setCell_other wr ⟨w.heap.size, 82, none⟩ _ (.int .u8 76) (hne 0)).trans a0
      have b1 := (World.cell?_setCell_other wr ⟨w.heap.size, 82, none⟩ _ (.int .u8 76) (hne 1)).trans a1
      have d76 := (World.cell?_setCell_other wr ⟨w.heap.size, 82, none⟩ ⟨w.heap.size, 76, none⟩ (.int .u8 76) (fun h => by injection h with _ h; omega)).trans c76
      clear a0 a1 c76 hne
      have e82 : ((⟨#[82]⟩ : ByteArray)[0]'(by decide)).toNat = 82 := rfl
      have e76 : ((⟨#[76]⟩ : ByteArray)[0]'(by decide)).toNat = 76 := rfl
      go_wp2
      refine wp_loop_rounds 3 ?_
      rw [rounds_succ]
      go_wp2
      rw [rounds_succ]
      go_wp2
      rw [rounds_succ]
      go_wp2
      go_ret
      refine ⟨rfl, ?_, below_set (below_set HB.out (Nat.le_refl _)) (Nat.le_refl _)⟩
      exact blk_put (blk_set HT1.out 82 _) 76 _ tabK_all
set_option maxHeartbeats 8000000 in
set_option maxRecDepth 100000 in
theorem rep_once (w0 w : World) (b o c : Nat) (d m s : Value) (hT : w.heap[b]? = some (.cells #[d, m, s, .nilIface, .slice (some ⟨o, 0, none⟩) 4 c] 114 (0, 0)))
    (h0 : w.cell? ⟨o, 0, none⟩ = some (.string ⟨#[76]⟩)) (h1 : w.cell? ⟨o, 1, none⟩ = some (.string ⟨#[82]⟩)) (h2 : w.cell? ⟨o, 2, none⟩ = some (.string ⟨#[82]⟩)) (h3 : w.cell? ⟨o, 3, none⟩ = some (.string ⟨#[76]⟩)) (HB : Below w0.heap.size w0 w) (hb0 : w0.heap.size ≤ b) :
    Calls Tryz.prog 74 #[.pointer (some ⟨b, 0, none⟩)] w fun e w' => e = .returned (.tuple #[]) ∧ ∃ g, w'.heap[b]? = some (.cells #[d, m, s, .iface 142 (.pointer (some ⟨g, 0, none⟩)), .slice none 0 0] 114 (0, 0)) ∧ w'.heap[g]? = some (.cells tabM.toArray 141 (0, 0)) ∧ g ≠ b ∧ Below w0.heap.size w0 w' := by
  have hu := Tryz.underlying114
  have hc4 : w.cell? ⟨b, 4, none⟩ = some (.slice (some ⟨o, 0, none⟩) 4 c) := by rw [blk_cell hT]; rfl
  have hbl := blk_lt hT
  have S := Aside0.mk (And.intro hc4 (And.intro h0 (And.intro h1 (And.intro h2 h3))))
  have H := Aside0.mk (And.intro hT (And.intro HB (And.intro hb0 hbl)))
  clear hT h0 h1 h2 h3 HB hb0 hbl hc4
  go_enter Tryz.func74, Tryz.ntmps74
  go_wp2_with (go_at_call 87; refine (rep_build b o c _ S.out.1 S.out.2.1 S.out.2.2.1 S.out.2.2.2.1 S.out.2.2.2.2).mono ?_; rintro e w' ⟨rfl, hT', hB'⟩; have T' := Aside0.mk hT'; have B' := Aside0.mk hB'; have hk : w'.heap[b]? = some (.cells #[d, m, s, .nilIface, .slice (some ⟨o, 0, none⟩) 4 c] 114 (0, 0)) := blk_below H.out.1 hB'; have k3 : w'.cell? ⟨b, 3, none⟩ = some .nilIface := (by rw [blk_cell hk]; rfl); have k4 : w'.cell? ⟨b, 4, none⟩ = some (.slice (some ⟨o, 0, none⟩) 4 c) := (by rw [blk_cell hk]; rfl); have z3 : w'.frozen? ⟨b, 3, none⟩ = false := blk_frozen hk 3; have z4 : w'.frozen? ⟨b, 4, none⟩ = false := blk_frozen hk 4; have K := Aside0.mk hk; clear hT' hB' hk)
  go_end0
  have hg : w.heap.size ≠ b := by have := H.out.2.2.2; omega
  refine ⟨rfl, w.heap.size, ?_, ?_, hg, below_set (below_set (below_then H.out.2.1 H.out.2.1.size B'.out) H.out.2.2.1) H.out.2.2.1⟩
  · refine blk_put (cs := #[d, m, s, .iface 142 (.pointer (some ⟨w.heap.size, 0, none⟩)), .slice (some ⟨o, 0, none⟩) 4 c]) ?_ 4 _ rfl
    exact blk_put K.out 3 _ rfl
  · exact blk_far (blk_far T'.out hg _) hg _
set_option maxHeartbeats 8000000 in
set_option maxRecDepth 100000 in
theorem rep_slow (w0 w : World) (b o c : Nat) (s : Value) (hT : w.heap[b]? = some (.cells #[.int .u32 0, .int .i32 0, s, .nilIface, .slice (some ⟨o, 0, none⟩) 4 c] 114 (0, 0)))
    (h0 : w.cell? ⟨o, 0, none⟩ = some (.string ⟨#[76]⟩)) (h1 : w.cell? ⟨o, 1, none⟩ = some (.string ⟨#[82]⟩)) (h2 : w.cell? ⟨o, 2, none⟩ = some (.string ⟨#[82]⟩)) (h3 : w.cell? ⟨o, 3, none⟩ = some (.string ⟨#[76]⟩)) (HB : Below w0.heap.size w0 w) (hb0 : w0.heap.size ≤ b) (hbo : b ≠ o) :
    Calls Tryz.prog 86 #[.pointer (some ⟨b, 0, none⟩), .func (.func 74) #[.pointer (some ⟨b, 0, none⟩)] #[]] w fun e w' => e = .returned (.tuple #[]) ∧ ∃ g, w'.heap[b]? = some (.cells #[.int .u32 1, .int .i32 0, s, .iface 142 (.pointer (some ⟨g, 0, none⟩)), .slice none 0 0] 114 (0, 0)) ∧ w'.heap[g]? = some (.cells tabM.toArray 141 (0, 0)) ∧ Below w0.heap.size w0 w' := by
  have k0 : w.cell? ⟨b, 0, none⟩ = some (.int .u32 0) := by rw [blk_cell hT]; rfl
  have k1 : w.cell? ⟨b, 1, none⟩ = some (.int .i32 0) := by rw [blk_cell hT]; rfl
  have z1 : w.frozen? ⟨b, 1, none⟩ = false := blk_frozen hT 1
  have hl := run_call_load (P := Tryz.prog) Tryz.func97 (by kernel_rfl) (by kernel_rfl) (by kernel_rfl) .u32 (by kernel_rfl) (w := w.setCell ⟨b, 1, none⟩ (.int .i32 1)) (a := ⟨b, 0, none⟩) (x := 0) ((World.cell?_setCell_other _ ⟨b, 1, none⟩ ⟨b, 0, none⟩ _ (by simp)).trans k0)
  have hne : ∀ j : Nat, (⟨b, 1, none⟩ : Addr) ≠ ⟨o, j, none⟩ := fun j h => by
    injection h with h; exact hbo h
  have HS := Aside0.mk (rep_once w0 (w.setCell ⟨b, 1, none⟩ (.int .i32 1)) b o c (.int .u32 0) (.int .i32 1) s (blk_put hT 1 _ rfl)
    ((World.cell?_setCell_other _ _ _ _ (hne 0)).trans h0) ((World.cell?_setCell_other _ _ _ _ (hne 1)).trans h1) ((World.cell?_setCell_other _ _ _ _ (hne 2)).trans h2) ((World.cell?_setCell_other _ _ _ _ (hne 3)).trans h3) (below_set HB hb0) hb0)
  have hnot : ∀ (x : Bool) (w : World), (Op.unary .not (.bool x)).run Tryz.prog w = .ok (.bool (!x)) w := fun _ _ => rfl
  have LK := Aside0.mk (once_lock ⟨b, 1, none⟩ w k1 z1)
  have H0 := Aside0.mk hb0
  clear hT h0 h1 h2 h3 HB hb0 hbo k0 k1 z1 hne
  go_enter_defers Tryz.func86, Tryz.ntmps86
  go_wp2_with (first
    | (go_at_call 98; refine LK.out.mono ?_; rintro e w' ⟨rfl, rfl⟩)
    | (go_at_call 74; refine HS.out.mono ?_; rintro e w' ⟨rfl, g, hB, hG, hgb, HB'⟩; have T' := Aside0.mk (And.intro hB (And.intro hG (And.intro hgb HB'))); clear hB hG hgb HB')
    | (go_at_call 85; go_in))
  refine leaves_cons (f := 100) (args := #[.pointer (some ⟨b, 0, none⟩), .bool true]) (by simp) (by simp [go_sem]) ?_
  refine (once_store ⟨b, 0, none⟩ (.int .u32 0) .returning _ (by rw [blk_cell T'.out.1]; rfl) (blk_frozen T'.out.1 0)).mono ?_
  rintro e u' w'' ⟨rfl, rfl, rfl⟩
  have T2 := Aside0.mk (blk_put (cs' := #[.int .u32 1, .int .i32 1, s, .iface 142 (.pointer (some ⟨g, 0, none⟩)), .slice none 0 0]) (blk_drew T'.out.1) 0 (.int .u32 1) rfl)
  refine leaves_cons (f := 99) (args := #[.pointer (some ⟨b, 1, none⟩)]) (by simp [settle]) (by simp [go_sem]) ?_
  refine (once_unlock ⟨b, 1, none⟩ _ _ (by rw [blk_cell T2.out]; rfl) (blk_frozen T2.out 1)).mono ?_
  rintro e u' w'' ⟨rfl, rfl, rfl⟩
  have e1 := blk_put (cs' := #[.int .u32 1, .int .i32 0, s, .iface 142 (.pointer (some ⟨g, 0, none⟩)), .slice none 0 0]) T2.out 1 (.int .i32 0) rfl
  have e2 := blk_far (blk_far (blk_drew T'.out.2.1) (p := ⟨b, 0, none⟩) T'.out.2.2.1 (.int .u32 1)) (p := ⟨b, 1, none⟩) T'.out.2.2.1 (.int .i32 0)
  have e3 : Below w0.heap.size w0 ((w'.drew.setCell ⟨b, 0, none⟩ (.int .u32 1)).setCell ⟨b, 1, none⟩ (.int .i32 0)) := below_set (below_set (below_drew1 T'.out.2.2.2) H0.out) H0.out
  simp [Leaves, settle, results, Tryz.results86]
  exact ⟨g, e1, e2, e3⟩
set_option maxHeartbeats 8000000 in
set_option maxRecDepth 100000 in
theorem rep_do (w0 w : World) (b o c : Nat) (s : Value) (hT : w.heap[b]? = some (.cells #[.int .u32 0, .int .i32 0, s, .nilIface, .slice (some ⟨o, 0, none⟩) 4 c] 114 (0, 0)))
    (h0 : w.cell? ⟨o, 0, none⟩ = some (.string ⟨#[76]⟩)) (h1 : w.cell? ⟨o, 1, none⟩ = some (.string ⟨#[82]⟩)) (h2 : w.cell? ⟨o, 2, none⟩ = some (.string ⟨#[82]⟩)) (h3 : w.cell? ⟨o, 3, none⟩ = some (.string ⟨#[76]⟩)) (HB : Below w0.heap.size w0 w) (hb0 : w0.heap.size ≤ b) (hbo : b ≠ o) :
    Calls Tryz.prog 73 #[.pointer (some ⟨b, 0, none⟩), .func (.func 74) #[.pointer (some ⟨b, 0, none⟩)] #[]] w fun e w' => e = .returned (.tuple #[]) ∧ ∃ g, w'.heap[b]? = some (.cells #[.int .u32 1, .int .i32 0, s, .iface 142 (.pointer (some ⟨g, 0, none⟩)), .slice none 0 0] 114 (0, 0)) ∧ w'.heap[g]? = some (.cells tabM.toArray 141 (0, 0)) ∧ Below w0.heap.size w0 w' := by
  have HS := Aside0.mk (rep_slow w0 w b o c s hT h0 h1 h2 h3 HB hb0 hbo)
  have hl := run_call_load (P := Tryz.prog) Tryz.func97 (by kernel_rfl) (by kernel_rfl) (by kernel_rfl) .u32 (by kernel_rfl) (w := w) (a := ⟨b, 0, none⟩) (x := 0) (by rw [blk_cell hT]; rfl)
  have hnot : ∀ (x : Bool) (w : World), (Op.unary .not (.bool x)).run Tryz.prog w = .ok (.bool (!x)) w := fun _ _ => rfl
  clear hT h0 h1 h2 h3 HB hb0 hbo
  go_enter Tryz.func73, Tryz.ntmps73
  go_wp2_with (first
    | (go_at_call 86; refine HS.out.mono ?_; rintro e w' ⟨rfl, h⟩; have HE := Aside0.mk h; clear h)
    | (go_at_call 85; go_in))
  go_end0
  exact ⟨rfl, HE.out⟩
set_option maxHeartbeats 8000000 in
set_option maxRecDepth 100000 in
theorem rep_replace (w0 w : World) (b o c : Nat) (s : Value) (t : ByteArray) (ht : t.size ≤ 1000000) (hT : w.heap[b]? = some (.cells #[.int .u32 0, .int .i32 0, s, .nilIface, .slice (some ⟨o, 0, none⟩) 4 c] 114 (0, 0)))
    (h0 : w.cell? ⟨o, 0, none⟩ = some (.string ⟨#[76]⟩)) (h1 : w.cell? ⟨o, 1, none⟩ = some (.string ⟨#[82]⟩)) (h2 : w.cell? ⟨o, 2, none⟩ = some (.string ⟨#[82]⟩)) (h3 : w.cell? ⟨o, 3, none⟩ = some (.string ⟨#[76]⟩)) (HB : Below w0.heap.size w0 w) (hb0 : w0.heap.size ≤ b) (hbo : b ≠ o) :
    Calls Tryz.prog 55 #[.pointer (some ⟨b, 0, none⟩), .string t] w fun e w' => e = .returned (.string ⟨(t.data.toList.map mirB).toArray⟩) ∧ Below w0.heap.size w0 w' := by
  have hu := Tryz.underlying114
  have HS := Aside0.mk (rep_do w0 w b o c s hT h0 h1 h2 h3 HB hb0 hbo)
  have hmf : ∀ (fn : Fn) (first cap : Array Value) (w : World), (Instr.makeFunc fn first cap).run Tryz.prog w = .ok (.func fn first cap) w := fun _ _ _ _ => rfl
  clear hT h0 h1 h2 h3 HB hb0 hbo
  go_enter Tryz.func55, Tryz.ntmps55
  go_wp2_with (first
    | (go_at_call 73; refine HS.out.mono ?_; rintro e w' ⟨rfl, g, hB, hG, hW⟩; have k3 : w'.cell? ⟨b, 3, none⟩ = some (.iface 142 (.pointer (some ⟨g, 0, none⟩))) := (by rw [blk_cell hB]; rfl); have hm : ∀ w1 : World, (method 304 142 (.pointer (some ⟨g, 0, none⟩)) "Replace").run Tryz.prog w1 = .ok (152, .pointer (some ⟨g, 0, none⟩)) w1 := (fun _ => by kernel_rfl); have HG := Aside0.mk hG; have HW := Aside0.mk hW; clear hB hG hW)
    | (go_at_call 152; refine (byte_replace g t ht _ HG.out).mono ?_; rintro e w2 ⟨rfl, hb2⟩; have H2 := Aside0.mk hb2; clear hb2))
  go_ret
  exact ⟨rfl, below_then HW.out HW.out.size H2.out⟩
set_option maxHeartbeats 8000000 in
set_option maxRecDepth 100000 in
theorem new_rep (o : Nat) (w : World) (h0 : w.cell? ⟨o, 0, none⟩ = some (.string ⟨#[76]⟩)) (h1 : w.cell? ⟨o, 1, none⟩ = some (.string ⟨#[82]⟩)) (h2 : w.cell? ⟨o, 2, none⟩ = some (.string ⟨#[82]⟩)) (h3 : w.cell? ⟨o, 3, none⟩ = some (.string ⟨#[76]⟩)) :
    Calls Tryz.prog 54 #[.slice (some ⟨o, 0, none⟩) 4 4] w fun e w' => ∃ o2 c b, e = .returned (.pointer (some ⟨b, 0, none⟩)) ∧ w'.heap[b]? = some (.cells #[.int .u32 0, .int .i32 0, .int .u32 0, .nilIface, .slice (some ⟨o2, 0, none⟩) 4 c] 114 (0, 0)) ∧
      w'.cell? ⟨o2, 0, none⟩ = some (.string ⟨#[76]⟩) ∧ w'.cell? ⟨o2, 1, none⟩ = some (.string ⟨#[82]⟩) ∧ w'.cell? ⟨o2, 2, none⟩ = some (.string ⟨#[82]⟩) ∧ w'.cell? ⟨o2, 3, none⟩ = some (.string ⟨#[76]⟩) ∧ b ≠ o2 ∧ w.heap.size ≤ b ∧ Below w.heap.size w w' := by
  have hu := Tryz.underlying114
  go_enter Tryz.func54, Tryz.ntmps54
  go_wp2
  go_ret
  have e1 : ∀ (A B : Obj), ((w.alloc A).alloc B).drew.heap[w.heap.size]? = some A := fun A B => blk_drew (blk_alloc (blk_new w A) B)
  refine ⟨w.heap.size, _, w.heap.size + 1, rfl, blk_drew (heap_two w _ _), ?_, ?_, ?_, ?_, by omega, by omega, below_drew1 (below_alloc (below_alloc (Below.refl _ _) _) _)⟩
  · rw [blk_cell (e1 _ _), Array.getElem?_append_left (by simp)]; rfl
  · rw [blk_cell (e1 _ _), Array.getElem?_append_left (by simp)]; rfl
  · rw [blk_cell (e1 _ _), Array.getElem?_append_left (by simp)]; rfl
  · rw [blk_cell (e1 _ _), Array.getElem?_append_left (by simp)]; rfl
/-- L for R and R for L, in a text. -/
def impl_mirrored.f (a0 : ByteArray) : Option ByteArray := if a0.size ≤ 1000000 then some ⟨(a0.data.toList.map mirB).toArray⟩ else none
theorem impl_mirrored.calls (a0 : ByteArray) (r : ByteArray) (w : World) (h : impl_mirrored.f a0 = some r) :
    Calls Tryz.prog 35 #[.string a0] w fun e w' => e = .returned (.string r) ∧ Below w.heap.size w w' := by
  unfold impl_mirrored.f at h
  by_cases hs : a0.size ≤ 1000000
  · rw [if_pos hs] at h
    obtain rfl := Option.some.inj h
    clear h
    have hu := Tryz.underlying114
    go_enter Tryz.func35, Tryz.ntmps35
    have A := Aside0.mk (blk_new w (.cells #[.string ⟨#[76]⟩, .string ⟨#[82]⟩, .string ⟨#[82]⟩, .string ⟨#[76]⟩] 9))
    have HB0 := Aside0.mk (below_alloc (Below.refl w.heap.size w) (.cells #[.string ⟨#[76]⟩, .string ⟨#[82]⟩, .string ⟨#[82]⟩, .string ⟨#[76]⟩] 9))
    go_wp2_with (first
      | (go_at_call 54; refine (new_rep w.heap.size _ (by rw [blk_cell A.out]; rfl) (by rw [blk_cell A.out]; rfl) (by rw [blk_cell A.out]; rfl) (by rw [blk_cell A.out]; rfl)).mono ?_; rintro e w' ⟨o2, c2, b, rfl, hB, k0, k1, k2, k3, hne, hge, hW⟩; have HR := Aside0.mk (rep_replace w w' b o2 c2 _ a0 hs hB k0 k1 k2 k3 (below_then HB0.out HB0.out.size hW) (Nat.le_trans HB0.out.size hge) hne); clear hB k0 k1 k2 k3 hne hge hW)
      | (go_at_call 55; refine HR.out.mono ?_; rintro e w' ⟨rfl, hb⟩; have H2 := Aside0.mk hb; clear hb))
    go_ret
    exact ⟨rfl, H2.out⟩
  · rw [if_neg hs] at h; cases h

/-! ### impl_MirrorWord: function 13 -/
def impl_MirrorWord.f (a0 : Int) (a1 : ByteArray) : Option (ByteArray × Bool) := (impl_isWord.f a0 a1).bind fun t307 => (if t307 = true then ((impl_mirrored.f a1).bind fun t308 => (some (t308, true))) else (some ((⟨#[]⟩ : ByteArray), false)))
set_option maxHeartbeats 8000000 in
set_option maxRecDepth 100000 in
theorem impl_MirrorWord.calls (a0 : Int) (a1 : ByteArray) (r1 : ByteArray) (r2 : Bool) (w : World) (h : impl_MirrorWord.f a0 a1 = some (r1, r2)) :
  Calls Tryz.prog 13 #[.int .i64 a0, .string a1] w fun e w' => e = .returned (.tuple #[.string r1, .bool r2]) ∧ Below w.heap.size w w' := by
 have HB := Aside0.mk (Below.refl w.heap.size w)
 have H : ((impl_isWord.f a0 a1).bind fun t307 => (if t307 = true then ((impl_mirrored.f a1).bind fun t308 => (some (t308, true))) else (some ((⟨#[]⟩ : ByteArray), false)))) = some (r1, r2) := h
 clear h
 replace H := Option.bind_eq_some_iff.mp H
 obtain ⟨t307, A30, H⟩ := H
 (try dsimp only at H)
 have A3 := Aside0.mk A30
 clear A30
 by_cases c4 : t307 = true
 rotate_left
 ·replace c4 := Bool.eq_false_iff.mpr c4
  subst c4
  rw [if_neg (show ¬ (false = true) by decide)] at H
  simp only [Option.some.injEq, Prod.mk.injEq] at H
  obtain ⟨rfl, rfl⟩ := H
  go_enter Tryz.func13, Tryz.ntmps13
  go_wp2_with (first | ((with_reducible refine gate_callee (f := 27) rfl ?_); refine gl_ (some 8) Tryz.func27 #[.int .i64 a0, .string a1] ?_; (with_reducible refine (impl_isWord.calls a0 a1 false _ A3.out).mono ?_); rintro e w8 ⟨rfl, hb⟩; refine ⟨_, rfl, ?_⟩; have n0_ := Aside0.mk (bs_ hb); clear HB; have HB := n0_; clear n0_; (try clear hb)))
  go_ret2
  exact ⟨by first | rfl | (simp [errW_none, errW_some] <;> rfl) | (simp [*, errW_none, errW_some] <;> rfl), bb_⟩

 subst c4
 rw [if_pos rfl] at H
 replace H := Option.bind_eq_some_iff.mp H
 obtain ⟨t308, A50, H⟩ := H
 replace H : (some (t308, true)) = some (r1, r2) := H
 have A5 := Aside0.mk A50
 clear A50
 simp only [Option.some.injEq, Prod.mk.injEq] at H
 obtain ⟨rfl, rfl⟩ := H
 go_enter Tryz.func13, Tryz.ntmps13
 go_wp2_with (first | ((with_reducible refine gate_callee (f := 27) rfl ?_); refine gl_ (some 8) Tryz.func27 #[.int .i64 a0, .string a1] ?_; (with_reducible refine (impl_isWord.calls a0 a1 true _ A3.out).mono ?_); rintro e w6 ⟨rfl, hb⟩; refine ⟨_, rfl, ?_⟩; have n0_ := Aside0.mk (bs_ hb); clear HB; have HB := n0_; clear n0_; (try clear hb)) | ((with_reducible refine gate_callee (f := 35) rfl ?_); refine gl_ (some 11) Tryz.func35 #[.string a1] ?_; (with_reducible refine (impl_mirrored.calls a1 t308 _ A5.out).mono ?_); rintro e w7 ⟨rfl, hb⟩; refine ⟨_, rfl, ?_⟩; have n0_ := Aside0.mk (bs_ hb); clear HB; have HB := n0_; clear n0_; (try clear hb)))
 go_ret2
 exact ⟨by first | rfl | (simp [errW_none, errW_some] <;> rfl) | (simp [*, errW_none, errW_some] <;> rfl), bb_⟩
end Go.Proofs.YtfpjakkjkakjoaaGreatDoor.P
