/- A part of this seat's proofs: contracts of the translated functions, written by the session's own program (gp.py) out of the kit's print.py and the session's own contracts; no conditions of its own. -/
import Derived.Test.YtfpjakkjkakjoaaGreatDoorPx0
import Derived.Test.YtfpjakkjkakjoaaGreatDoorPx2
import Derived.Test.YtfpjakkjkakjoaaGreatDoorPx6
import Derived.Test.YtfpjakkjkakjoaaGreatDoorPx8
import Derived.Test.YtfpjakkjkakjoaaGreatDoorPx10
namespace Go.Proofs.YtfpjakkjkakjoaaGreatDoor.P
open Go.RowKit Go.Proofs.YtfpjakkjkakjoaaGreatDoorW.PrintWords Go.Proofs.YtfpjakkjkakjoaaGreatDoorW.PrintLast Go.Proofs.YtfpjakkjkakjoaaGreatDoorW.PrintMore
attribute [local go_sem] max2_int min2_int max_two min_two max_three min_three max_four min_four   -- for this text's walks alone
set_option linter.unusedVariables false
set_option linter.unusedSimpArgs false

/-! ### given: 71c_leastShiftS.tpl -/
def spec_LeastShift.f (k : Nat) (a0 : Int) (a1 : ByteArray) : Option (ByteArray × Bool) := (spec_paAsked.f k a0 a1).bind fun t => if t = true then (if (a1.data.toList.all fun c => decide (c.toNat < 128)) = true ∧ a1.size ≤ 1000000 then some (lsZ a1 a1.size 0 a1, true) else none) else some (⟨#[]⟩, false)
theorem spec_LeastShift.mono : ∀ a0 a1 k, LeO (spec_LeastShift.f k a0 a1) (spec_LeastShift.f (k + 1) a0 a1) := by
  intro a0 a1 k r h
  unfold spec_LeastShift.f at h ⊢
  obtain ⟨t, ht, h⟩ := Option.bind_eq_some_iff.mp h
  rw [spec_paAsked.mono _ _ k _ ht, Option.bind_some]
  exact h
theorem nx_ascii2 {P : Program} (w : World) (s : ByteArray) (pos : Nat) (ty : TypeId) (h : pos < s.size) (ha : (s[pos]'h).toNat < 128) :
    (Instr.next (.pointer (some ⟨w.heap.size, 0, none⟩)) true ty).run P (w.iter s pos) = .ok (.tuple #[.bool true, .int .i64 pos, .int .i32 (s[pos]'h).toNat]) (w.iter s (pos + 1)) := by
  rw [run_next_any w s pos ty h, decode_ascii s pos h ha]
theorem ascii_at {s : ByteArray} (h : (s.data.toList.all fun c => decide (c.toNat < 128)) = true) (i : Nat) (hi : i < s.size) : (s[i]'hi).toNat < 128 := by
  have hm : s[i]'hi ∈ s.data.toList := by
    show s.data[i]'hi ∈ s.data.toList
    simp
  simpa using List.all_eq_true.1 h _ hm
theorem wp_named2 {P : Program} {c : Code} {a : Act} {Q : Exit → Act → World → Prop} {W : World} {s : ByteArray} {p : Nat} (h : ∀ W0, W0 = W → Code.wp P c Q a (World.iter W0 s p)) : Code.wp P c Q a (World.iter W s p) := h W rfl
theorem it_pos0 (W : World) (s : ByteArray) (n p : Nat) : ((W.drewN n).iter s p).iterPos W.heap.size = p := World.iterPos_iter (W.drewN n) s p
theorem it_pos (W : World) (s : ByteArray) (n m p : Nat) : (((W.drewN n).iter s p).drewN m).iterPos W.heap.size = p := World.iterPos_iter (W.drewN n) s p
set_option maxHeartbeats 8000000 in
set_option maxRecDepth 100000 in
theorem spec_LeastShift.calls (k : Nat) (a0 : Int) (a1 : ByteArray) (r1 : ByteArray) (r2 : Bool) (w : World) (h : spec_LeastShift.f k a0 a1 = some (r1, r2)) :
    Calls Tryz.prog 11 #[.int .i64 a0, .string a1] w fun e w' => e = .returned (.tuple #[.string r1, .bool r2]) ∧ Below w.heap.size w w' := by
  obtain ⟨t, ht, h⟩ := Option.bind_eq_some_iff.mp h
  have HI := Aside0.mk ht
  clear ht
  by_cases hc : t = true
  · subst hc
    rw [if_pos rfl] at h
    by_cases hs : (a1.data.toList.all fun c => decide (c.toNat < 128)) = true ∧ a1.size ≤ 1000000
    · rw [if_pos hs] at h
      simp only [Option.some.injEq, Prod.mk.injEq] at h
      obtain ⟨hr, rfl⟩ := h
      have HR := Aside0.mk hr
      have HS := Aside0.mk hs
      clear hr hs
      go_enter Tryz.func11, Tryz.ntmps11
      go_wp2_with (first
        | (go_at_call 29; refine (spec_paAsked.calls _ _ _ _ _ HI.out).mono ?_; rintro e w1 ⟨rfl, hb⟩; have HB1 := Aside0.mk hb; clear hb))
      refine wp_named2 ?_
      intro W0 hW0
      have HW0 := Aside0.mk (show Below w.heap.size w W0 by rw [hW0]; first | exact HB1.out | exact Drawn0.below HB1.out)
      have HZ0 := Aside0.mk (show W0.heap.size = w1.heap.size by subst hW0; rfl)
      clear hW0
      go_loopw [6, 7, 8] (fun s6 _ _ wr => ∃ (pos n : Nat) (b : ByteArray), pos ≤ a1.size ∧ wr = (W0.drewN n).iter a1 pos ∧ s6 = .string b ∧ Aside0 (lsZ a1 (a1.size - pos) (pos : Int) b = r1)) (fun _ _ _ wr => a1.size - wr.iterPos W0.heap.size)
      case atStart => exact ⟨0, 0, a1, Nat.zero_le _, rfl, rfl, HR⟩
      case round =>
        obtain ⟨pos, n, b, hp, rfl, rfl, HL⟩ := hrel
        by_cases hlt : pos < a1.size
        · obtain ⟨ch, hnx⟩ : ∃ ch : Int, ∀ ty, (Instr.next (.pointer (some ⟨W0.heap.size, 0, none⟩)) true ty).run Tryz.prog ((W0.drewN n).iter a1 pos) = .ok (.tuple #[.bool true, .int .i64 (pos : Int), .int .i32 ch]) ((W0.drewN n).iter a1 (pos + 1)) := ⟨_, fun ty => nx_ascii2 (W0.drewN n) a1 pos ty hlt (ascii_at HS.out.1 pos hlt)⟩
          rw [HZ0.out] at hnx
          obtain ⟨ix, hix⟩ : ∃ ix : Int, ix = (pos : Int) := ⟨_, rfl⟩
          rw [← hix] at hnx
          have c2 : decide (0 ≤ ix) = true := decide_eq_true (by omega)
          have c3 : decide (ix ≤ (a1.size : Int)) = true := decide_eq_true (by omega)
          have c2b : (0 ≤ ix) = True := eq_true (by omega)
          have c3b : (ix ≤ (a1.size : Int)) = True := eq_true (by omega)
          have hz := rotZ_size a1 (i := ix) (by omega)
          have hs := HS.out.2
          have c4 : decide ((a1.extract (ix : Int).toNat a1.size).size + (a1.extract 0 (ix : Int).toNat).size ≤ 9223372036854775807) = true := decide_eq_true (by omega)
          have c5 : (9223372036854775807 < (a1.extract (ix : Int).toNat a1.size).size + (a1.extract 0 (ix : Int).toNat).size) = False := eq_false (by omega)
          have c6 : (9223372036854775807 < a1.size - ix.toNat + min ix.toNat a1.size) = False := eq_false (by omega)
          have c7 : (9223372036854775807 < a1.size) = False := eq_false (by omega)
          have HX := Aside0.mk hix
          have HP := Aside0.mk hlt
          have HL2 := Aside0.mk (show lsZ a1 (a1.size - (pos + 1)) ((pos + 1 : Nat) : Int) (if Go.Op.bytesLess (rotZ a1 ix).data.toList b.data.toList = true then rotZ a1 ix else b) = r1 by
            have h1 := HL.out
            rw [show a1.size - pos = (a1.size - (pos + 1)) + 1 by omega, lsZ, ← hix] at h1
            rw [show ((pos + 1 : Nat) : Int) = ix + 1 by omega]
            exact h1)
          clear hix hz hs hlt hp HL
          by_cases hb : Go.Op.bytesLess (rotZ a1 ix).data.toList b.data.toList = true
          · have HL3 := Aside0.mk (show lsZ a1 (a1.size - (pos + 1)) ((pos + 1 : Nat) : Int) (rotZ a1 ix) = r1 by have h1 := HL2.out; rw [if_pos hb] at h1; exact h1)
            clear HL2
            have hb1 : Go.Op.bytesLess (a1.extract (ix : Int).toNat a1.size ++ a1.extract 0 (ix : Int).toNat).toList b.toList = true := by rw [Go.Lib.toList_data, Go.Lib.toList_data]; exact hb
            clear hb
            go_wp2
            go_quiet (fail)
            go_wp2
            go_roundw
            case rel => exact ⟨pos + 1, n + nq, rotZ a1 ix, HP.out, (show ((W0.drewN n).drewN nq).iter a1 (pos + 1) = _ by rw [World.drewN_drewN]), rfl, HL3⟩
            case measure => rw [it_pos, it_pos0]; have := HP.out; omega
          · have HL3 := Aside0.mk (show lsZ a1 (a1.size - (pos + 1)) ((pos + 1 : Nat) : Int) b = r1 by have h1 := HL2.out; rw [if_neg hb] at h1; exact h1)
            clear HL2
            have hb1 : Go.Op.bytesLess (a1.extract (ix : Int).toNat a1.size ++ a1.extract 0 (ix : Int).toNat).toList b.toList = false := by rw [Go.Lib.toList_data, Go.Lib.toList_data]; exact Bool.eq_false_iff.mpr hb
            clear hb
            go_wp2
            go_quiet (fail)
            go_wp2
            go_roundw
            case rel => exact ⟨pos + 1, n + nq, b, HP.out, (show ((W0.drewN n).drewN nq).iter a1 (pos + 1) = _ by rw [World.drewN_drewN]), rfl, HL3⟩
            case measure => rw [it_pos, it_pos0]; have := HP.out; omega
        · obtain rfl : pos = a1.size := by omega
          have HE := Aside0.mk (show b = r1 by have h1 := HL.out; rw [Nat.sub_self] at h1; exact h1)
          have hnx : ∀ ty, (Instr.next (.pointer (some ⟨W0.heap.size, 0, none⟩)) true ty).run Tryz.prog ((W0.drewN n).iter a1 a1.size) = .ok (.tuple #[.bool false]) ((W0.drewN n).iter a1 a1.size) := fun ty => run_next_end (W0.drewN n) a1 a1.size ty (by omega)
          rw [HZ0.out] at hnx
          clear HL hlt hp
          go_wp2
          go_ret2
          exact ⟨by rw [HE.out]; rfl, below_alloc (pw_below_drewN HW0.out n) _⟩
    · rw [if_neg hs] at h; cases h
  · obtain rfl : t = false := by simpa using hc
    rw [if_neg hc] at h
    simp only [Option.some.injEq, Prod.mk.injEq] at h
    obtain ⟨rfl, rfl⟩ := h
    go_enter Tryz.func11, Tryz.ntmps11
    go_wp2_with (first
      | (go_at_call 29; refine (spec_paAsked.calls _ _ _ _ _ HI.out).mono ?_; rintro e w1 ⟨rfl, hb⟩; have HB1 := Aside0.mk hb; clear hb))
    go_ret2
    exact ⟨rfl, by first | exact HB1.out | exact Drawn0.below HB1.out⟩

/-! ### impl_IsClosed: function 12 -/
def impl_IsClosed.f (k : Nat) (a0 : Int) (a1 : ByteArray) : Option (Bool × Bool) := (impl_isWord.f a0 a1).bind fun t305 => (if t305 = true then ((impl_isClosed.f k a0 a1).bind fun t306 => (some (t306, true))) else (some (false, false)))
theorem impl_IsClosed.mono : ∀ a0 a1 k, LeO (impl_IsClosed.f k a0 a1) (impl_IsClosed.f (k + 1) a0 a1) := by
 intro a0 a1 k
 unfold impl_IsClosed.f
 repeat' with_reducible first | apply impl_isClosed.mono | exact LeO.refl _ | exact LeO.none _ | refine LeO.ite ?_ ?_ | refine LeO.bind ?_ (fun _ => ?_)
set_option maxHeartbeats 8000000 in
set_option maxRecDepth 100000 in
theorem impl_IsClosed.calls (k : Nat) (a0 : Int) (a1 : ByteArray) (r1 : Bool) (r2 : Bool) (w : World) (h : impl_IsClosed.f k a0 a1 = some (r1, r2)) :
  Calls Tryz.prog 12 #[.int .i64 a0, .string a1] w fun e w' => e = .returned (.tuple #[.bool r1, .bool r2]) ∧ Below w.heap.size w w' := by
 have HB := Aside0.mk (Below.refl w.heap.size w)
 have H : ((impl_isWord.f a0 a1).bind fun t305 => (if t305 = true then ((impl_isClosed.f k a0 a1).bind fun t306 => (some (t306, true))) else (some (false, false)))) = some (r1, r2) := h
 clear h
 replace H := Option.bind_eq_some_iff.mp H
 obtain ⟨t305, A30, H⟩ := H
 (try dsimp only at H)
 have A3 := Aside0.mk A30
 clear A30
 by_cases c4 : t305 = true
 rotate_left
 ·replace c4 := Bool.eq_false_iff.mpr c4
  subst c4
  rw [if_neg (show ¬ (false = true) by decide)] at H
  simp only [Option.some.injEq, Prod.mk.injEq] at H
  obtain ⟨rfl, rfl⟩ := H
  go_enter Tryz.func12, Tryz.ntmps12
  go_wp2_with (first | ((with_reducible refine gate_callee (f := 27) rfl ?_); refine gl_ (some 8) Tryz.func27 #[.int .i64 a0, .string a1] ?_; (with_reducible refine (impl_isWord.calls a0 a1 false _ A3.out).mono ?_); rintro e w8 ⟨rfl, hb⟩; refine ⟨_, rfl, ?_⟩; have n0_ := Aside0.mk (bs_ hb); clear HB; have HB := n0_; clear n0_; (try clear hb)))
  go_ret2
  exact ⟨by first | rfl | (simp [errW_none, errW_some] <;> rfl) | (simp [*, errW_none, errW_some] <;> rfl), bb_⟩

 subst c4
 rw [if_pos rfl] at H
 replace H := Option.bind_eq_some_iff.mp H
 obtain ⟨t306, A50, H⟩ := H
 replace H : (some (t306, true)) = some (r1, r2) := H
 have A5 := Aside0.mk A50
 clear A50
 simp only [Option.some.injEq, Prod.mk.injEq] at H
 obtain ⟨rfl, rfl⟩ := H
 go_enter Tryz.func12, Tryz.ntmps12
 go_wp2_with (first | ((with_reducible refine gate_callee (f := 27) rfl ?_); refine gl_ (some 8) Tryz.func27 #[.int .i64 a0, .string a1] ?_; (with_reducible refine (impl_isWord.calls a0 a1 true _ A3.out).mono ?_); rintro e w6 ⟨rfl, hb⟩; refine ⟨_, rfl, ?_⟩; have n0_ := Aside0.mk (bs_ hb); clear HB; have HB := n0_; clear n0_; (try clear hb)) | ((with_reducible refine gate_callee (f := 31) rfl ?_); refine gl_ (some 12) Tryz.func31 #[.int .i64 a0, .string a1] ?_; (with_reducible refine (impl_isClosed.calls k a0 a1 t306 _ A5.out).mono ?_); rintro e w7 ⟨rfl, hb⟩; refine ⟨_, rfl, ?_⟩; have n0_ := Aside0.mk (bs_ hb); clear HB; have HB := n0_; clear n0_; (try clear hb)))
 go_ret2
 exact ⟨by first | rfl | (simp [errW_none, errW_some] <;> rfl) | (simp [*, errW_none, errW_some] <;> rfl), bb_⟩
-- NOT PRINTED: function 54 (strings_NewReplacer)

-- NOT PRINTED: function 97 (atomic_LoadUint32)

-- NOT PRINTED: function 85 (atomic_Bool_Load)

-- NOT PRINTED: function 113 (race_Disable)

-- NOT PRINTED: function 114 (atomic_CompareAndSwapInt32)

-- NOT PRINTED: function 115 (race_Enable)

-- NOT PRINTED: function 116 (race_Acquire)

-- NOT PRINTED: function 119 (atomic_AddInt32)

-- NOT PRINTED: function 122 (sync_runtime_canSpin)

-- NOT PRINTED: function 123 (sync_runtime_doSpin)

-- NOT PRINTED: function 124 (sync_throw)

-- NOT PRINTED: function 125 (sync_runtime_nanotime)

-- NOT PRINTED: function 126 (sync_runtime_SemacquireMutex)

-- NOT PRINTED: function 117 (sync_Mutex_lockSlow)

-- NOT PRINTED: function 107 (sync_Mutex_Lock_107)

-- NOT PRINTED: function 98 (sync_Mutex_Lock_98)

-- NOT PRINTED: function 118 (race_ReleaseMerge)

-- NOT PRINTED: function 127 (sync_fatal)

-- NOT PRINTED: function 128 (sync_runtime_Semrelease)

-- NOT PRINTED: function 120 (sync_Mutex_unlockSlow)

-- NOT PRINTED: function 108 (sync_Mutex_Unlock_108)

-- NOT PRINTED: function 99 (sync_Mutex_Unlock_99)

-- NOT PRINTED: function 109 (atomic_StoreUint32)

/-! ### atomic_b32: function 110 -/
def atomic_b32.f (a0 : Bool) : Option (Int) := if a0 = true then (some 1) else (some 0)
set_option maxHeartbeats 8000000 in
set_option maxRecDepth 100000 in
theorem atomic_b32.calls (a0 : Bool) (r : Int) (w : World) (h : atomic_b32.f a0 = some r) :
  Calls Tryz.prog 110 #[.bool a0] w fun e w' => e = .returned (.int .u32 r) ∧ Drawn0 w w' := by
 have H : (if a0 = true then (some 1) else (some 0)) = some r := h
 clear h
 by_cases c2 : a0 = true
 ·subst c2
  rw [if_pos rfl] at H
  obtain rfl := Option.some.inj H
  go_enter Tryz.func110, Tryz.ntmps110
  go_wp2
  go_ret
  exact ⟨by first | rfl | (simp; done) | (simp [*]; done), by repeat (first | exact Drawn0.refl _ | apply Drawn0.step)⟩
 replace c2 := Bool.eq_false_iff.mpr c2
 subst c2
 rw [if_neg (show ¬ (false = true) by decide)] at H
 obtain rfl := Option.some.inj H
 go_enter Tryz.func110, Tryz.ntmps110
 go_wp2
 go_ret
 exact ⟨by first | rfl | (simp; done) | (simp [*]; done), by repeat (first | exact Drawn0.refl _ | apply Drawn0.step)⟩

-- NOT PRINTED: function 100 (atomic_Bool_Store)

-- NOT PRINTED: function 86 (sync_Once_doSlow)

-- NOT PRINTED: function 73 (sync_Once_Do)

-- NOT PRINTED: function 77 (stringslite_HasPrefix)

-- NOT PRINTED: function 57 (strings_HasPrefix)

/-! ### strings_longestCommonSuffix: function 121 -/
mutual
def strings_longestCommonSuffix.l0 : Nat → ByteArray → ByteArray → Int → Option (Int)
 | 0, _, _, _ => none
 | k + 1, x0, x1, x4 => if x4 < (x0.size : Int) then (strings_longestCommonSuffix.j1 k x0 x1 x4 (decide (x4 < (x1.size : Int)))) else (strings_longestCommonSuffix.j1 k x0 x1 x4 false)
def strings_longestCommonSuffix.j1 : Nat → ByteArray → ByteArray → Int → Bool → Option (Int)
 | 0, _, _, _, _ => none
 | k + 1, x0, x1, x4, x14 => if x14 = true then (if 0 ≤ (wrap64 ((wrap64 ((x0.size : Int) - 1)) - x4)) then (if (wrap64 ((wrap64 ((x0.size : Int) - 1)) - x4)) < (x0.size : Int) then (if 0 ≤ (wrap64 ((wrap64 ((x1.size : Int) - 1)) - x4)) then (if (wrap64 ((wrap64 ((x1.size : Int) - 1)) - x4)) < (x1.size : Int) then (if (bt x0 (wrap64 ((wrap64 ((x0.size : Int) - 1)) - x4))) = (bt x1 (wrap64 ((wrap64 ((x1.size : Int) - 1)) - x4))) then (strings_longestCommonSuffix.l0 k x0 x1 (wrap64 (x4 + 1))) else (some x4)) else (none)) else (none)) else (none)) else (none)) else (some x4)
end
def strings_longestCommonSuffix.f (k : Nat) (a0 : ByteArray) (a1 : ByteArray) : Option (Int) := strings_longestCommonSuffix.l0 k a0 a1 0
theorem strings_longestCommonSuffix.mono_l : ∀ k, (∀ y0 y1 y2, LeO (strings_longestCommonSuffix.l0 k y0 y1 y2) (strings_longestCommonSuffix.l0 (k + 1) y0 y1 y2)) ∧ (∀ y0 y1 y2 y3, LeO (strings_longestCommonSuffix.j1 k y0 y1 y2 y3) (strings_longestCommonSuffix.j1 (k + 1) y0 y1 y2 y3))
 | 0 => ⟨fun _ _ _ r h => by simp [strings_longestCommonSuffix.l0] at h, fun _ _ _ _ r h => by simp [strings_longestCommonSuffix.j1] at h⟩
 | k + 1 => by
  obtain ⟨ih0, ih1⟩ := strings_longestCommonSuffix.mono_l k
  refine ⟨?_, ?_⟩
  all_goals (intros; first | unfold strings_longestCommonSuffix.l0 | unfold strings_longestCommonSuffix.j1)
  all_goals repeat' with_reducible first | apply ih0 | apply ih1 | exact LeO.refl _ | exact LeO.none _ | refine LeO.ite ?_ ?_ | refine LeO.bind ?_ (fun _ => ?_)
theorem strings_longestCommonSuffix.mono : ∀ a0 a1 k, LeO (strings_longestCommonSuffix.f k a0 a1) (strings_longestCommonSuffix.f (k + 1) a0 a1) := by
 intro a0 a1 k
 obtain ⟨ih0, ih1⟩ := strings_longestCommonSuffix.mono_l k
 unfold strings_longestCommonSuffix.f
 repeat' with_reducible first | apply ih0 | apply ih1 | exact LeO.refl _ | exact LeO.none _ | refine LeO.ite ?_ ?_ | refine LeO.bind ?_ (fun _ => ?_)
set_option maxHeartbeats 8000000 in
set_option maxRecDepth 100000 in
theorem strings_longestCommonSuffix.calls (k : Nat) (a0 : ByteArray) (a1 : ByteArray) (r : Int) (w : World) (h : strings_longestCommonSuffix.f k a0 a1 = some r) :
  Calls Tryz.prog 121 #[.string a0, .string a1] w fun e w' => e = .returned (.int .i64 r) ∧ Drawn0 w w' := by
 have H : (strings_longestCommonSuffix.l0 k a0 a1 0) = some r := h
 clear h
 have H' := Aside0.mk H
 clear H
 go_enter Tryz.func121, Tryz.ntmps121
 go_wp2
 repeat (go_quiet (fail); try go_wp2)
 go_loopg [4] k (fun kq v4 w' => ∃ (x4_1 : Int), v4 = .int .i64 x4_1 ∧ Aside0 (strings_longestCommonSuffix.l0 kq a0 a1 x4_1 = some r) ∧ Aside0 (kq ≤ k) ∧ Drawn0 w w')
 case atStart => exact ⟨(0), (by first | rfl | (simp; done) | (simp [*]; done)), H', ⟨Nat.le_refl _⟩, by repeat (first | exact Drawn0.refl _ | apply Drawn0.step)⟩
 case round =>
  clear H'
  (try clear c1); (try clear p2)
  obtain ⟨x4_1, rfl, HA, HK1, ⟨m1, rfl⟩⟩ := hrel
  cases gk with
  | zero => exact absurd HA.out (by simp [strings_longestCommonSuffix.l0])
  | succ k1 =>
   have H := HA.out
   clear HA
   simp only [strings_longestCommonSuffix.l0] at H
   have HC3 := Aside0.mk H
   clear H
   go_upto_region 1 with (fail)
   repeat (go_quiet (fail); go_upto_region 1 with (fail))
   go_cut [14] (fun v14 wc => ∃ (kq : Nat) (x14_2 : Bool), v14 = .bool x14_2 ∧ Aside0 (strings_longestCommonSuffix.j1 kq a0 a1 x4_1 x14_2 = some r) ∧ Aside0 (kq ≤ k1) ∧ Drawn0 w wc)
   case first =>
    have H := HC3.out
    clear HC3
    by_cases c4 : x4_1 < (a0.size : Int)
    ·rw [if_pos c4] at H
     have c4b0 : decide (x4_1 < (a0.size : Int)) = true := decide_eq_true c4
     clear c4
     (first | rw [c4b0] | (simp only [i64_w, i32_w]; rw [c4b0]) | skip)
     have H' := Aside0.mk H
     clear H
     go_wp2
     repeat (go_quiet (fail); try go_wp2)
     go_meet
     case rel => exact ⟨_, (decide (x4_1 < (a1.size : Int))), (by first | rfl | (simp; done) | (simp [*]; done)), H', ⟨by have := HK1.out; first | omega | exact Nat.le_refl _⟩, by repeat (first | exact Drawn0.refl _ | apply Drawn0.step)⟩
    ·rw [if_neg c4] at H
     have c4b0 : decide (x4_1 < (a0.size : Int)) = false := decide_eq_false c4
     clear c4
     (first | rw [c4b0] | (simp only [i64_w, i32_w]; rw [c4b0]) | skip)
     have H' := Aside0.mk H
     clear H
     go_wp2
     repeat (go_quiet (fail); try go_wp2)
     go_meet
     case rel => exact ⟨_, (false), (by first | rfl | (simp; done) | (simp [*]; done)), H', ⟨by have := HK1.out; first | omega | exact Nat.le_refl _⟩, by repeat (first | exact Drawn0.refl _ | apply Drawn0.step)⟩
   case rest =>
    clear HC3
    (try clear c1); (try clear p2); (try clear c4); (try clear c4b0); (try clear p2)
    obtain ⟨kq, x14_2, rfl, HA, HJ2, ⟨mc2, rfl⟩⟩ := hcut
    cases kq with
    | zero => exact absurd HA.out (by simp [strings_longestCommonSuffix.j1])
    | succ kj2 =>
     have H := HA.out
     clear HA
     simp only [strings_longestCommonSuffix.j1] at H
     by_cases c5 : x14_2 = true
     rotate_left
     ·replace c5 := Bool.eq_false_iff.mpr c5
      subst c5
      rw [if_neg (show ¬ (false = true) by decide)] at H
      obtain rfl := Option.some.inj H
      go_wp2
      repeat (go_quiet (fail); try go_wp2)
      go_ret
      exact ⟨by first | rfl | (simp; done) | (simp [*]; done), by repeat (first | exact Drawn0.refl _ | apply Drawn0.step)⟩

     subst c5
     rw [if_pos rfl] at H
     obtain ⟨ji6, hji6⟩ : ∃ j_ : Int, (wrap64 ((wrap64 ((a0.size : Int) - 1)) - x4_1)) = j_ := ⟨_, rfl⟩
     replace H : (if 0 ≤ (ji6) then (if (ji6) < (a0.size : Int) then (if 0 ≤ (wrap64 ((wrap64 ((a1.size : Int) - 1)) - x4_1)) then (if (wrap64 ((wrap64 ((a1.size : Int) - 1)) - x4_1)) < (a1.size : Int) then (if (bt a0 (ji6)) = (bt a1 (wrap64 ((wrap64 ((a1.size : Int) - 1)) - x4_1))) then (strings_longestCommonSuffix.l0 kj2 a0 a1 (wrap64 (x4_1 + 1))) else (some x4_1)) else (none)) else (none)) else (none)) else (none)) = some r := by first | (rw [hji6] at H; exact H) | (simp only [hji6] at H ⊢; exact H)
     have hji6w : (IntKind.i64.wrap ((wrap64 ((a0.size : Int) - 1)) - x4_1)) = ji6 := (i64_w _).trans hji6
     by_cases c7 : 0 ≤ (ji6)
     rotate_left
     ·rw [if_neg c7] at H
      exact absurd H (by simp)
     rw [if_pos c7] at H
     have c7b0 : decide (0 ≤ (ji6)) = true := decide_eq_true c7
     clear c7
     by_cases c8 : (ji6) < (a0.size : Int)
     rotate_left
     ·rw [if_neg c8] at H
      exact absurd H (by simp)
     rw [if_pos c8] at H
     have c8b0 : decide ((ji6) < (a0.size : Int)) = true := decide_eq_true c8
     clear c8
     obtain ⟨ji10, hji10⟩ : ∃ j_ : Int, (wrap64 ((wrap64 ((a1.size : Int) - 1)) - x4_1)) = j_ := ⟨_, rfl⟩
     replace H : (if 0 ≤ (ji10) then (if (ji10) < (a1.size : Int) then (if (bt a0 (ji6)) = (bt a1 (ji10)) then (strings_longestCommonSuffix.l0 kj2 a0 a1 (wrap64 (x4_1 + 1))) else (some x4_1)) else (none)) else (none)) = some r := by first | (rw [hji10] at H; exact H) | (simp only [hji10] at H ⊢; exact H)
     have hji10w : (IntKind.i64.wrap ((wrap64 ((a1.size : Int) - 1)) - x4_1)) = ji10 := (i64_w _).trans hji10
     by_cases c11 : 0 ≤ (ji10)
     rotate_left
     ·rw [if_neg c11] at H
      exact absurd H (by simp)
     rw [if_pos c11] at H
     have c11b0 : decide (0 ≤ (ji10)) = true := decide_eq_true c11
     clear c11
     by_cases c12 : (ji10) < (a1.size : Int)
     rotate_left
     ·rw [if_neg c12] at H
      exact absurd H (by simp)
     rw [if_pos c12] at H
     have c12b0 : decide ((ji10) < (a1.size : Int)) = true := decide_eq_true c12
     clear c12
     by_cases c14 : (bt a0 (ji6)) = (bt a1 (ji10))
     rotate_left
     ·rw [if_neg c14] at H
      have c14b0 : ((bt a0 (ji6)) == (bt a1 (ji10))) = false := beq_eq_false_iff_ne.mpr c14
      have c14b1 : ((bt a0 (ji6)) != (bt a1 (ji10))) = true := bne_iff_ne.mpr c14
      obtain rfl := Option.some.inj H
      have p9 : 0 ≤ ((ji6) : Int) := of_decide_eq_true (by assumption)
      have q9 : (ji6) < (a0.size : Int) := of_decide_eq_true (by assumption)
      have hx9 := bt_at a0 (ji6)
      replace p9 := eq_true p9
      replace q9 := eq_true q9
      have p13 : 0 ≤ ((ji10) : Int) := of_decide_eq_true (by assumption)
      have q13 : (ji10) < (a1.size : Int) := of_decide_eq_true (by assumption)
      have hx13 := bt_at a1 (ji10)
      replace p13 := eq_true p13
      replace q13 := eq_true q13
      go_wp2
      repeat (go_quiet (fail); try go_wp2)
      go_ret
      exact ⟨by first | rfl | (simp; done) | (simp only [← hji6, ← hji10] <;> (first | rfl | simp)) | (simp [*]; done), by repeat (first | exact Drawn0.refl _ | apply Drawn0.step)⟩
     rw [if_pos c14] at H
     have c14b0 : ((bt a0 (ji6)) == (bt a1 (ji10))) = true := beq_iff_eq.mpr c14
     have c14b1 : ((bt a0 (ji6)) != (bt a1 (ji10))) = false := bne_eq_false_iff_eq.mpr c14
     clear c14
     have H' := Aside0.mk H
     clear H
     have p9 : 0 ≤ ((ji6) : Int) := of_decide_eq_true (by assumption)
     have q9 : (ji6) < (a0.size : Int) := of_decide_eq_true (by assumption)
     have hx9 := bt_at a0 (ji6)
     replace p9 := eq_true p9
     replace q9 := eq_true q9
     have p13 : 0 ≤ ((ji10) : Int) := of_decide_eq_true (by assumption)
     have q13 : (ji10) < (a1.size : Int) := of_decide_eq_true (by assumption)
     have hx13 := bt_at a1 (ji10)
     replace p13 := eq_true p13
     replace q13 := eq_true q13
     go_wp2
     repeat (go_quiet (fail); try go_wp2)
     go_roundg kj2
     case measure => have := HK1.out; have := HJ2.out; omega
     case rel => exact ⟨(wrap64 (x4_1 + 1)), (by first | rfl | (simp; done) | (simp [*]; done)), H', ⟨by have := HK1.out; have := HJ2.out; omega⟩, by repeat (first | exact Drawn0.refl _ | apply Drawn0.step)⟩
-- NOT PRINTED: function 111 (strings_makeStringFinder)

-- NOT PRINTED: function 101 (strings_makeSingleStringReplacer)

-- NOT PRINTED: function 112 (strings_trieNode_add)

-- NOT PRINTED: function 102 (strings_makeGenericReplacer)

-- NOT PRINTED: function 87 (strings_Replacer_build)

-- NOT PRINTED: function 74 (strings_Replacer_buildOnce)

-- NOT PRINTED: function 55 (strings_Replacer_Replace)

end Go.Proofs.YtfpjakkjkakjoaaGreatDoor.P
