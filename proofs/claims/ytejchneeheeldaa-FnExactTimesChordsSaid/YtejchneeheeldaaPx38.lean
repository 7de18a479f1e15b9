/- A part of this seat's proofs: contracts of the translated functions, written by the session's own program (gp.py) out of the kit's print.py and the session's own contracts; no conditions of its own. -/
import Derived.Test.YtejchneeheeldaaPx0
import Derived.Test.YtejchneeheeldaaPx2
import Derived.Test.YtejchneeheeldaaPx22
import Derived.Test.YtejchneeheeldaaPx23
import Derived.Test.YtejchneeheeldaaPx35
import Derived.Test.YtejchneeheeldaaPx36
namespace Go.Proofs.Ytejchneeheeldaa.P
open Go.RowKit Go.Proofs.YtejchneeheeldaaW.PrintWords Go.Proofs.YtejchneeheeldaaW.PrintLast Go.Proofs.YtejchneeheeldaaW.PrintMore
attribute [local go_sem] max2_int min2_int max_two min_two max_three min_three max_four min_four   -- for this text's walks alone
set_option linter.unusedVariables false
set_option linter.unusedSimpArgs false

-- NOT PRINTED: function 100 (impl_Chord_100)

-- NOT PRINTED: function 108 (impl_Chord_108)

-- NOT PRINTED: function 101 (impl_Chord_101)

-- NOT PRINTED: function 102 (impl_Chord_102)

-- NOT PRINTED: function 111 (impl_Chord_111)

-- NOT PRINTED: function 110 (impl_Chord_110)

-- NOT PRINTED: function 109 (impl_Chord_109)

-- NOT PRINTED: function 103 (impl_Chord_103)

-- NOT PRINTED: function 104 (impl_Chord_104)

-- NOT PRINTED: function 105 (impl_Chord_105)

-- NOT PRINTED: function 106 (impl_Chord_106)

-- NOT PRINTED: function 107 (impl_Chord_107)

-- NOT PRINTED: function 96 (impl_Chord_96)

/-! ### given: 29_cmpC.tpl -/
/-- A world that has come of another by draws and new blocks alone. -/
def GrewC (w w' : World) : Prop := ∃ q os, w' = Go.Sort.grow (w.drewN q) os
theorem GrewC.refl (w : World) : GrewC w w := ⟨0, #[], by rw [Go.Sort.grow_empty]; rfl⟩
theorem GrewC.alloc {w w' : World} (h : GrewC w w') (o : Obj) : GrewC w (w'.alloc o) := by
  obtain ⟨q, os, rfl⟩ := h
  exact ⟨q, os ++ #[o], by rw [Go.Sort.alloc_eq_grow, Go.Sort.grow_grow]⟩
theorem GrewC.drewN {w w' : World} (h : GrewC w w') (n : Nat) : GrewC w (w'.drewN n) := by
  obtain ⟨q, os, rfl⟩ := h
  refine ⟨q + n, os, ?_⟩
  show Go.Sort.grow ((w.drewN q).drewN n) os = _
  rw [World.drewN_drewN]
theorem GrewC.drew {w w' : World} (h : GrewC w w') : GrewC w w'.drew := h.drewN 1
/-- Which of two chords is the first. -/
def cmpC (x y : S59) : Int := if x.f0 < y.f0 then -1 else if y.f0 < x.f0 then 1 else if x.f1 < y.f1 then -1 else if y.f1 < x.f1 then 1 else 0
theorem C_twoC (W : World) (T : Nat) (x y : Int) : Kd.C (Kd.int .i64) (W.alloc (.cells #[.int .i64 x, .int .i64 y] T)) (some ⟨W.heap.size, 0, none⟩) [x, y].length [x, y] := by
  refine ⟨rfl, by simp, fun _ => ⟨_, rfl, fun j p hj => ?_⟩⟩
  have hj2 : (j = 0 ∧ p = x) ∨ (j = 1 ∧ p = y) := by
    match j, hj with
    | 0, hj => simp at hj; exact .inl ⟨rfl, hj.symm⟩
    | 1, hj => simp at hj; exact .inr ⟨rfl, hj.symm⟩
    | j + 2, hj => simp at hj
  rcases hj2 with ⟨rfl, rfl⟩ | ⟨rfl, rfl⟩
  all_goals
    refine ⟨[.int .i64 p], rfl, rfl, fun i u hu => ?_⟩
    obtain ⟨rfl, rfl⟩ : i = 0 ∧ (Value.int .i64 p) = u := by
      cases i with
      | zero => exact ⟨rfl, by simpa using hu⟩
      | succ i => simp at hu
    simp [Addr.add, Kd.int, Kd.scalar]
theorem cmpI_toldC (a b : Int) : cmp_Compare_int.f a b = some (if a < b then -1 else if b < a then 1 else 0) := by
  unfold cmp_Compare_int.f cmp_isNaN_int.f
  simp only [Option.bind_some, bne_self_eq_false]
  rw [if_neg (by decide), if_neg (by decide)]
  repeat' split
  all_goals rfl
theorem cmpOr_toldC (a b : Int) : cmp_Or_int.f 3 [a, b] = some (if a = 0 then b else a) := by
  have w1 : wrap64 (0 + 1) = 0 + 1 := by unfold wrap64; omega
  have w2 : wrap64 (0 + 1 + 1) = 0 + 1 + 1 := by unfold wrap64; omega
  unfold cmp_Or_int.f
  rw [cmp_Or_int.l0, if_pos (by simp), if_pos (by omega), if_pos (by simp), w1]
  have e0 : rd [a, b] 0 = a := rfl
  rw [e0]
  by_cases h : a = 0
  · rw [if_pos h, if_pos h, cmp_Or_int.l0, if_pos (by simp), if_pos (by omega), if_pos (by simp), w2]
    have e1 : rd [a, b] (0 + 1) = b := rfl
    rw [e1]
    by_cases h2 : b = 0
    · rw [if_pos h2, cmp_Or_int.l0, if_neg (by simp), h2]
    · rw [if_neg h2]
  · rw [if_neg h, if_neg h]
set_option maxHeartbeats 4000000 in
theorem impl_compareChords.lays (x y : S59) (W : World) :
    Calls Try.prog 88 #[.agg #[.int .i64 x.f0, .int .i64 x.f1], .agg #[.int .i64 y.f0, .int .i64 y.f1]] W fun e w' => e = .returned (.int .i64 (cmpC x y)) ∧ GrewC W w' := by
  have HX := Aside0.mk (cmpI_toldC x.f0 y.f0)
  have HY := Aside0.mk (cmpI_toldC x.f1 y.f1)
  have HE := Aside0.mk (show (if (if x.f0 < y.f0 then (-1 : Int) else if y.f0 < x.f0 then 1 else 0) = 0 then (if x.f1 < y.f1 then (-1 : Int) else if y.f1 < x.f1 then 1 else 0) else (if x.f0 < y.f0 then (-1 : Int) else if y.f0 < x.f0 then 1 else 0)) = cmpC x y by unfold cmpC; repeat' split <;> first | rfl | omega)
  generalize (if x.f0 < y.f0 then (-1 : Int) else if y.f0 < x.f0 then 1 else 0) = a at HX HE
  generalize (if x.f1 < y.f1 then (-1 : Int) else if y.f1 < x.f1 then 1 else 0) = b at HY HE
  have HO := Aside0.mk (cmpOr_toldC a b)
  generalize (if a = 0 then b else a) = r at HO HE
  have g1 : ((W.alloc (.cells #[.int .i64 x.f0, .int .i64 x.f1] 59)).alloc (.cells #[.int .i64 y.f0, .int .i64 y.f1] 59)).cell? ⟨W.heap.size, 0, none⟩ = some (.int .i64 x.f0) := by simp
  have g2 : ((W.alloc (.cells #[.int .i64 x.f0, .int .i64 x.f1] 59)).alloc (.cells #[.int .i64 y.f0, .int .i64 y.f1] 59)).cell? ⟨W.heap.size, 1, none⟩ = some (.int .i64 x.f1) := by simp
  have g3 : ((W.alloc (.cells #[.int .i64 x.f0, .int .i64 x.f1] 59)).alloc (.cells #[.int .i64 y.f0, .int .i64 y.f1] 59)).cell? ⟨W.heap.size + 1, 0, none⟩ = some (.int .i64 y.f0) := by simp
  have g4 : ((W.alloc (.cells #[.int .i64 x.f0, .int .i64 x.f1] 59)).alloc (.cells #[.int .i64 y.f0, .int .i64 y.f1] 59)).cell? ⟨W.heap.size + 1, 1, none⟩ = some (.int .i64 y.f1) := by simp
  have g5 : GrewC W ((W.alloc (.cells #[.int .i64 x.f0, .int .i64 x.f1] 59)).alloc (.cells #[.int .i64 y.f0, .int .i64 y.f1] 59)) := ((GrewC.refl W).alloc _).alloc _
  go_enter Try.func88, Try.ntmps88
  go_wp2
  generalize (W.alloc (.cells #[.int .i64 x.f0, .int .i64 x.f1] 59)).alloc (.cells #[.int .i64 y.f0, .int .i64 y.f1] 59) = W0 at g1 g2 g3 g4 g5 ⊢
  have G5 := Aside0.mk g5
  have HC := Aside0.mk (fun W1 : World => C_twoC W1 3 a b)
  clear g5
  go_region_held3 (fun w' => w'.cell? ⟨W.heap.size, 0, none⟩ = some (.int .i64 x.f0) ∧ w'.cell? ⟨W.heap.size, 1, none⟩ = some (.int .i64 x.f1) ∧ w'.cell? ⟨W.heap.size + 1, 0, none⟩ = some (.int .i64 y.f0) ∧ w'.cell? ⟨W.heap.size + 1, 1, none⟩ = some (.int .i64 y.f1))
    (first
      | (refine ⟨?_, ?_, ?_, ?_⟩; assumption; assumption; assumption; assumption)
      | (refine ⟨?_, ?_, ?_, ?_⟩ <;> (repeat (first | assumption | refine cell_drawn _ ?_ | refine cell_later _ ?_))))
    (first
      | (go_at_call 98; (with_reducible refine (cmp_Compare_int.calls x.f0 y.f0 a _ HX.out).mono ?_); rintro e w' ⟨rfl, ⟨nd, rfl⟩⟩)
      | (go_at_call 98; (with_reducible refine (cmp_Compare_int.calls x.f1 y.f1 b _ HY.out).mono ?_); rintro e w' ⟨rfl, ⟨nd, rfl⟩⟩)
      | (go_at_call 97; refine (cmp_Or_int.calls 3 _ 2 [a, b] _ _ (HC.out _) (Nat.le_refl _) HO.out).mono ?_; rintro e w' ⟨rfl, ⟨nd, rfl⟩⟩))
  all_goals
    go_wp2
    go_ret
    exact ⟨by rw [← HE.out]; rfl, by repeat (first | exact G5.out | apply GrewC.drewN | apply GrewC.drew | apply GrewC.alloc)⟩

/-! ### given: 25_rowsK.tpl -/
/-! rows of structs of the call's own, laid anew by a contract of the shelf ('putRowK') -/
section
open Go.Sort
variable {α : Type} [Inhabited α] {enc : α → List Value} {k : Nat}
theorem reps_flat (hk : ∀ x, (enc x).length = k) {xs : List α} {cs : List Value} (h : Reps (fun x c => c = enc x) k xs cs) : cs.toArray = flatK enc k xs.toArray := by
  apply Array.ext
  · rw [size_flatK]; simp [h.1]
  · intro t h1 h2
    have ht : t < xs.length * k := by rw [size_flatK] at h2; simpa using h2
    have k0 : 0 < k := by rcases Nat.eq_zero_or_pos k with e | e; · subst e; simp at ht
                          · exact e
    have hj : t / k < xs.length := Nat.div_lt_of_lt_mul (by rw [Nat.mul_comm]; exact ht)
    have hr := h.2 (t / k) _ (List.getElem?_eq_getElem hj)
    have hm := Nat.mod_lt t k0
    have e1 := get_flatK enc k xs.toArray t (by simpa using ht)
    rw [getElem!_pos _ t h2] at e1
    rw [e1]
    rw [getElem!_pos xs.toArray (t / k) (by simpa using hj)]
    simp only [List.getElem_toArray]
    rw [← hr]
    have hl : t % k < ((cs.drop (t / k * k)).take k).length := by rw [hr, hk]; exact hm
    rw [getElem!_pos _ (t % k) hl, List.getElem_take, List.getElem_drop]
    congr 1
    have := Nat.div_add_mod t k
    rw [Nat.mul_comm] at this
    exact this.symm
theorem flat_reps (hk : ∀ x, (enc x).length = k) (xs : List α) : Reps (fun x c => c = enc x) k xs (flatK enc k xs.toArray).toList := by
  refine ⟨by simp, fun j p hj => ?_⟩
  obtain ⟨hjl, rfl⟩ := List.getElem?_eq_some_iff.1 hj
  have hle : j * k + k ≤ xs.length * k := by rw [← Nat.succ_mul]; exact Nat.mul_le_mul_right k hjl
  apply List.ext_getElem
  · simp [hk]; omega
  · intro i h1 h2
    have hi : i < k := by rw [hk] at h2; exact h2
    rw [List.getElem_take, List.getElem_drop, Array.getElem_toList]
    have e1 := get_flatK enc k xs.toArray (j * k + i) (by simp; omega)
    rw [getElem!_pos _ (j * k + i) (by rw [size_flatK]; simp; omega)] at e1
    rw [e1]
    have d1 : (j * k + i) / k = j := by rw [Nat.mul_comm, Nat.mul_add_div (by omega), Nat.div_eq_of_lt hi, Nat.add_zero]
    have d2 : (j * k + i) % k = i := by rw [Nat.mul_comm, Nat.mul_add_mod, Nat.mod_eq_of_lt hi]
    rw [d1, d2, getElem!_pos xs.toArray j (by simpa using hjl)]
    simp only [List.getElem_toArray]
    rw [getElem!_pos _ i h2]
variable {d : Kd α} {e base g cap : Nat} {ok : Nat → Prop} {w : World} {xs ys : List α}
theorem RK_holds (hs : d.sz = k) (hk : ∀ x, (enc x).length = k) (hM : ∀ w base ok x cs, d.M w base ok x cs → cs = enc x) (h : d.R e w base ok (.slice (some ⟨g, 0, none⟩) xs.length cap) xs) : HoldsK enc k w g 0 xs.toArray := by
  obtain ⟨_, inner, ho, hr⟩ := h
  rw [hs] at ho hr
  have h1 := own_holds ho
  rw [reps_flat hk (hr.imp_ (fun _ _ hp => hM _ _ _ _ _ hp))] at h1
  exact h1
theorem RK_putRow (hs : d.sz = k) (hk : ∀ x, (enc x).length = k) (hM : ∀ w base ok x cs, cs = enc x → d.M w base ok x cs) (h : d.R e w base ok (.slice (some ⟨g, 0, none⟩) xs.length cap) xs) (hl : ys.length = xs.length) (m : Nat) (os : Array Obj) :
    d.R e (grow (putRowK enc k (Go.Sort.ahead w m) g 0 ys.toArray) os) base ok (.slice (some ⟨g, 0, none⟩) ys.length cap) ys ∧ w.grownBy (grow (putRowK enc k (Go.Sort.ahead w m) g 0 ys.toArray) os) (some g) := by
  obtain ⟨h0, inner, ho, hr⟩ := h
  rw [hs] at ho hr
  have hlen : (flatK enc k ys.toArray).toList.length = inner.length := by
    rw [hr.1]; simp [hl]
  obtain ⟨h1, h2⟩ := own_putRow (ys := (flatK enc k ys.toArray).toList) ho hlen m os
  rw [Array.toArray_toList] at h1 h2
  refine ⟨⟨h0, (flatK enc k ys.toArray).toList, ?_, ?_⟩, h2⟩
  · rw [hs, hl]; exact h1
  · rw [hs]; exact (flat_reps hk ys).imp_ (fun _ _ hp => hM _ _ _ _ _ hp)
theorem RK_block {β : Type} {d : Kd β} {e base g cap : Nat} {ok : Nat → Prop} {w : World} {xs : List β} (h : d.R e w base ok (.slice (some ⟨g, 0, none⟩) xs.length cap) xs) : base ≤ g ∧ g < w.heap.size := by
  obtain ⟨_, inner, ho, _⟩ := h
  exact ⟨own_base ho g rfl, own_lt ho g rfl⟩
end

end Go.Proofs.Ytejchneeheeldaa.P
