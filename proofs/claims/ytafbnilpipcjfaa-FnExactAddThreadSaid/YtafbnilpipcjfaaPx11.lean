/- A part of this seat's proofs: contracts of the translated functions, written by the session's own program (gp.py) out of the kit's print.py and the session's own contracts; no conditions of its own. -/
import Derived.Test.YtafbnilpipcjfaaPx0
import Derived.Test.YtafbnilpipcjfaaPx8
namespace Go.Proofs.Ytafbnilpipcjfaa.P
open Go.RowKit Go.Proofs.YtafbnilpipcjfaaW.PrintWords Go.Proofs.YtafbnilpipcjfaaW.PrintLast Go.Proofs.YtafbnilpipcjfaaW.PrintMore
attribute [local go_sem] max2_int min2_int max_two min_two max_three min_three max_four min_four   -- for this text's walks alone
set_option linter.unusedVariables false
set_option linter.unusedSimpArgs false

-- NOT PRINTED: function 40 (impl_Thread_40)

/-! ### given: 00_words.tpl -/
/-- What a function value is asked: at every x of D, in every later world, it tells p x; it may make memory. -/
def Asks {α : Type} (P : Program) (g : Nat) (lb : Array Value) (enc : α → Value) (p : α → Bool) (D : α → Prop) (w : World) : Prop :=
  ∀ (W : World) (x : α), Below w.heap.size w W → D x → Calls P g (#[enc x] ++ lb) W fun e w' => e = .returned (.bool (p x)) ∧ Below W.heap.size W w'

/-- The place of the first element at which p holds, or -1. -/
def idxP {α : Type} (p : α → Bool) : List α → Int
  | [] => -1
  | x :: r => if p x then 0 else (if idxP p r < 0 then -1 else idxP p r + 1)
theorem idxP_lo {α : Type} (p : α → Bool) (l : List α) : -1 ≤ idxP p l := by
  induction l with
  | nil => simp [idxP]
  | cons x r ih => simp only [idxP]; repeat' split
                   all_goals omega
theorem idxP_miss {α : Type} (p : α → Bool) (l : List α) (h : ∀ x ∈ l, p x = false) : idxP p l = -1 := by
  induction l with
  | nil => rfl
  | cons x r ih => simp [idxP, h x, ih (fun y hy => h y (List.mem_cons_of_mem _ hy))]
theorem idxP_hit {α : Type} (p : α → Bool) (l : List α) (k : Nat) (d : α) (hk : k < l.length) (h : p (l.getD k d) = true) (hn : ∀ j, j < k → p (l.getD j d) = false) : idxP p l = k := by
  induction l generalizing k with
  | nil => simp at hk
  | cons x r ih =>
    cases k with
    | zero => simp at h; simp [idxP, h]
    | succ k =>
      have h0 := hn 0 (by omega)
      simp at h0 h hk
      have := ih k (by omega) (by simpa using h) (fun j hj => by simpa using hn (j + 1) (by omega))
      simp only [idxP, h0, this]
      simp
      omega
theorem idxP_any {α : Type} (p : α → Bool) (l : List α) : decide (0 ≤ idxP p l) = l.any p := by
  induction l with
  | nil => rfl
  | cons x r ih =>
    have lo := idxP_lo p r
    rcases Bool.eq_false_or_eq_true (p x) with h | h
    · simp [idxP, h]
    · have : idxP p (x :: r) = if idxP p r < 0 then -1 else idxP p r + 1 := by simp [idxP, h]
      rw [this, List.any_cons, h, Bool.false_or, ← ih]
      split
      · rw [decide_eq_false (by omega), decide_eq_false (by omega)]
      · rw [decide_eq_true (by omega), decide_eq_true (by omega)]

theorem read_at {w : World} {A : Option Addr} {l : List Int} (h : Kd.C (Kd.int .i64) w A l.length l) (k : Nat) (hk : k < l.length) :
    ∃ ad y, A = some ad ∧ w.cell? (ad.add k) = some (.int .i64 y) ∧ Aside0 (y = l.getD k 0) ∧ y ∈ l := by
  obtain ⟨ad, e, hc⟩ := Kd.at_int h (k : Int) (by omega) (by omega)
  refine ⟨ad, rd l k, e, by simpa using hc, ⟨by simp [rd]⟩, ?_⟩
  have : rd l k = l[k] := by simp [rd, List.getD_eq_getElem?_getD, List.getElem?_eq_getElem hk]
  rw [this]; exact List.getElem_mem hk

/-- A number is in a range. -/
def inR (n lo hi : Int) : Bool := decide (lo ≤ n ∧ n ≤ hi)
theorem inR_true {n lo hi : Int} : inR n lo hi = true ↔ lo ≤ n ∧ n ≤ hi := by simp [inR]
theorem inR_false {n lo hi : Int} : inR n lo hi = false ↔ ¬ (lo ≤ n ∧ n ≤ hi) := by simp only [inR, decide_eq_false_iff_not]
theorem cell_new {W : World} {v : Value} {T B : Nat} (hB : B = W.heap.size) : (W.alloc (.cells #[v] T)).cell? ⟨B, 0, none⟩ = some v := by subst hB; simp
theorem cell_later {W : World} {a : Addr} {v : Value} (o : Obj) (h : W.cell? a = some v) : (W.alloc o).cell? a = some v := pw_cell_below (below_alloc (Below.refl _ _) o) h
theorem cell_drawn {W : World} {a : Addr} {v : Value} (n : Nat) (h : W.cell? a = some v) : (W.drewN n).cell? a = some v := pw_cell_below (pw_below_drewN (Below.refl _ _) n) h
/-! short names, for the printed texts' size -/
theorem sa_ {α : Type} (l : List α) (i : Nat) (a : α) : l.toArray.setIfInBounds i a = (l.set i a).toArray := List.setIfInBounds_toArray ..
theorem sb_ {α : Type} (a b : α) (l : List α) : (a :: l).set 0 b = b :: l := rfl
theorem sc_ {α : Type} (a b : α) (l : List α) (n : Nat) : (a :: l).set (n + 1) b = a :: l.set n b := rfl
/-- The lowest n bits of m. -/
def bl0_ : Nat → Nat → List Bool
  | 0, _ => []
  | n + 1, m => (m % 2 == 1) :: bl0_ n (m / 2)
def bl_ (n m : Nat) : Array Bool := (bl0_ n m).toArray

/-! ### given: 13_askT.tpl -/
/-- A thread as a value. -/
def encT (x : S38) : Value := .agg #[.int .i64 x.f0, .int .i64 x.f1]
theorem read_atT {w : World} {A : Option Addr} {l : List S38} (h : Kd.C k38 w A l.length l) (k : Nat) (hk : k < l.length) :
    ∃ ad y, A = some ad ∧ w.cell? (ad.add (k * 2)) = some (.int .i64 y.f0) ∧ w.cell? ⟨(ad.add (k * 2)).block, (ad.add (k * 2)).off + 1, none⟩ = some (.int .i64 y.f1) ∧ Aside0 (y = l.getD k z38) ∧ y ∈ l := by
  obtain ⟨ad, e, hc0, hc1⟩ := at_T38 h (k : Int) (by omega) (by omega)
  refine ⟨ad, rd_T38 l k, e, by simpa using hc0, by simpa using hc1, ⟨by simp [rd_T38]⟩, ?_⟩
  have : rd_T38 l k = l[k] := by simp [rd_T38, List.getD_eq_getElem?_getD, List.getElem?_eq_getElem hk]
  rw [this]; exact List.getElem_mem hk
set_option maxHeartbeats 1000000 in
set_option maxRecDepth 100000 in
theorem slices_IndexFuncT.ask (A : Option Addr) (c : Nat) (l : List S38) (g : Nat) (lb : Array Value) (p : S38 → Bool) (D : S38 → Prop) (w : World)
    (eg : ∀ args w, (callFunc g args).run Try.prog w = .ok (.enter g args) w)
    (hr : Kd.C k38 w A l.length l) (hp : Asks Try.prog g lb encT p D w) (hD : ∀ x ∈ l, D x) :
    Calls Try.prog 92 #[.slice A l.length c, .func (.func g) #[] lb] w fun e w' => e = .returned (.int .i64 (idxP p l)) ∧ Below w.heap.size w w' := by
  have hbig := Kd.C_max hr
  have hu26 := Try.underlying38
  have HR := Aside0.mk hr
  have HP := Aside0.mk hp
  have HD := Aside0.mk hD
  clear hr hp hD
  go_enter Try.func92, Try.ntmps92
  go_wp2
  go_loopg [5, 8] l.length (fun gg _ s8 wr => ∃ kk : Nat, kk ≤ l.length ∧ l.length - kk ≤ gg ∧ s8 = .int .i64 kk ∧ Aside0 (Below w.heap.size w wr) ∧ Aside0 (∀ j, j < kk → p (l.getD j z38) = false))
  case atStart => exact ⟨0, Nat.zero_le _, by omega, rfl, ⟨Below.refl _ _⟩, ⟨fun j hj => absurd hj (Nat.not_lt_zero _)⟩⟩
  case round =>
    obtain ⟨kk, hkk, hg, rfl, HB, HA⟩ := hrel
    by_cases hlt : kk < l.length
    · have hltz : (kk : Int) < (l.length : Int) := by omega
      obtain ⟨ad, y, rfl, hcell, hcell1, HY, hm⟩ := read_atT (Kd.C_below HR.out HB.out) kk hlt
      have hcall := HP.out wr y HB.out (HD.out _ hm)
      clear hm
      unfold encT at hcall
      rcases Bool.eq_false_or_eq_true (p y) with hq | hq
      · have HC := Aside0.mk (hq ▸ hcall)
        have HQ := Aside0.mk hq
        clear hq hcall
        go_wp2_with (fail)
        refine HC.out.mono ?_
        rintro e w' ⟨rfl, hb⟩
        have HB2 := Aside0.mk hb
        clear hb
        clear HC HD HP
        go_wp2_with (fail)
        go_ret
        refine ⟨?_, below_then HB.out HB.out.size HB2.out⟩
        show Ending.returned (.int .i64 (kk : Int)) = _
        rw [idxP_hit p l kk z38 hlt (by rw [← HY.out]; exact HQ.out) HA.out]
      · have HC := Aside0.mk (hq ▸ hcall)
        have HQ := Aside0.mk hq
        clear hq hcall
        go_wp2_with (fail)
        refine HC.out.mono ?_
        rintro e w' ⟨rfl, hb⟩
        have HB2 := Aside0.mk hb
        clear hb
        clear HC HD HP
        go_wp2_with (fail)
        go_roundg (l.length - (kk + 1))
        case measure => omega
        case rel =>
          refine ⟨kk + 1, by omega, by omega, by go_num, ⟨below_then HB.out HB.out.size HB2.out⟩, ⟨fun j hj => ?_⟩⟩
          by_cases e : j = kk
          · subst e
            rw [← HY.out]; exact HQ.out
          · exact HA.out j (by omega)
    · have hltz : ¬ (kk : Int) < (l.length : Int) := by omega
      have hk' : kk = l.length := by omega
      subst hk'
      go_wp2
      go_ret
      refine ⟨?_, HB.out⟩
      show Ending.returned (.int .i64 (-1)) = _
      rw [idxP_miss p l (fun x hx => by
        obtain ⟨j, hj, rfl⟩ := List.getElem_of_mem hx
        have := HA.out j hj
        rwa [List.getD_eq_getElem?_getD, List.getElem?_eq_getElem hj] at this)]

set_option maxHeartbeats 1000000 in
theorem slices_ContainsFuncT.ask (A : Option Addr) (c : Nat) (l : List S38) (g : Nat) (lb : Array Value) (p : S38 → Bool) (D : S38 → Prop) (w : World)
    (eg : ∀ args w, (callFunc g args).run Try.prog w = .ok (.enter g args) w)
    (hr : Kd.C k38 w A l.length l) (hp : Asks Try.prog g lb encT p D w) (hD : ∀ x ∈ l, D x) :
    Calls Try.prog 74 #[.slice A l.length c, .func (.func g) #[] lb] w fun e w' => e = .returned (.bool (l.any p)) ∧ Below w.heap.size w w' := by
  have HC := Aside0.mk (slices_IndexFuncT.ask A c l g lb p D w eg hr hp hD)
  have HA := Aside0.mk (idxP_any p l)
  clear eg hr hp hD
  go_enter Try.func74, Try.ntmps74
  go_wp2_with (go_at_call 92; refine HC.out.mono ?_; rintro e w' ⟨rfl, hb⟩; have HB := Aside0.mk hb; clear hb)
  go_ret
  exact ⟨by rw [← HA.out]; rfl, HB.out⟩

/-! ### given: 24_cmpT.tpl -/
/-- A world that has come of another by draws and new blocks alone. -/
def Grew (w w' : World) : Prop := ∃ q os, w' = Go.Sort.grow (w.drewN q) os
theorem Grew.refl (w : World) : Grew w w := ⟨0, #[], by rw [Go.Sort.grow_empty]; rfl⟩
theorem Grew.alloc {w w' : World} (h : Grew w w') (o : Obj) : Grew w (w'.alloc o) := by
  obtain ⟨q, os, rfl⟩ := h
  exact ⟨q, os ++ #[o], by rw [Go.Sort.alloc_eq_grow, Go.Sort.grow_grow]⟩
theorem Grew.drewN {w w' : World} (h : Grew w w') (n : Nat) : Grew w (w'.drewN n) := by
  obtain ⟨q, os, rfl⟩ := h
  refine ⟨q + n, os, ?_⟩
  show Go.Sort.grow ((w.drewN q).drewN n) os = _
  rw [World.drewN_drewN]
theorem Grew.drew {w w' : World} (h : Grew w w') : Grew w w'.drew := h.drewN 1
/-- Which of two threads is the first. -/
def cmpT (x y : S38) : Int := if x.f0 < y.f0 then -1 else if y.f0 < x.f0 then 1 else if x.f1 < y.f1 then -1 else if y.f1 < x.f1 then 1 else 0
theorem C_two (W : World) (T : Nat) (x y : Int) : Kd.C (Kd.int .i64) (W.alloc (.cells #[.int .i64 x, .int .i64 y] T)) (some ⟨W.heap.size, 0, none⟩) [x, y].length [x, y] := by
  refine ⟨rfl, by simp, fun _ => ⟨_, rfl, fun j p hj => ?_⟩⟩
  have hj2 : (j = 0 ∧ p = x) ∨ (j = 1 ∧ p = y) := by
    match j, hj with
    | 0, hj => simp at hj; exact .inl ⟨rfl, hj.symm⟩
    | 1, hj => simp at hj; exact .inr ⟨rfl, hj.symm⟩
    | j + 2, hj => simp at hj
  rcases hj2 with ⟨rfl, rfl⟩ | ⟨rfl, rfl⟩
  all_goals
    refine ⟨[.int .i64 p], rfl, rfl, fun i u hu => ?_⟩
    obtain ⟨rfl, rfl⟩ : i = 0 ∧ (Value.int .i64 p) = u := by
      cases i with
      | zero => exact ⟨rfl, by simpa using hu⟩
      | succ i => simp at hu
    simp [Addr.add, Kd.int, Kd.scalar]
theorem cmpI_told (a b : Int) : cmp_Compare_int.f a b = some (if a < b then -1 else if b < a then 1 else 0) := by
  unfold cmp_Compare_int.f cmp_isNaN_int.f
  simp only [Option.bind_some, bne_self_eq_false]
  rw [if_neg (by decide), if_neg (by decide)]
  repeat' split
  all_goals rfl
theorem cmpOr_told (a b : Int) : cmp_Or_int.f 3 [a, b] = some (if a = 0 then b else a) := by
  have w1 : wrap64 (0 + 1) = 0 + 1 := by unfold wrap64; omega
  have w2 : wrap64 (0 + 1 + 1) = 0 + 1 + 1 := by unfold wrap64; omega
  unfold cmp_Or_int.f
  rw [cmp_Or_int.l0, if_pos (by simp), if_pos (by omega), if_pos (by simp), w1]
  have e0 : rd [a, b] 0 = a := rfl
  rw [e0]
  by_cases h : a = 0
  · rw [if_pos h, if_pos h, cmp_Or_int.l0, if_pos (by simp), if_pos (by omega), if_pos (by simp), w2]
    have e1 : rd [a, b] (0 + 1) = b := rfl
    rw [e1]
    by_cases h2 : b = 0
    · rw [if_pos h2, cmp_Or_int.l0, if_neg (by simp), h2]
    · rw [if_neg h2]
  · rw [if_neg h, if_neg h]
set_option maxHeartbeats 4000000 in
theorem impl_compareThreads.lays (x y : S38) (W : World) :
    Calls Try.prog 47 #[.agg #[.int .i64 x.f0, .int .i64 x.f1], .agg #[.int .i64 y.f0, .int .i64 y.f1]] W fun e w' => e = .returned (.int .i64 (cmpT x y)) ∧ Grew W w' := by
  have HX := Aside0.mk (cmpI_told x.f0 y.f0)
  have HY := Aside0.mk (cmpI_told x.f1 y.f1)
  have HE := Aside0.mk (show (if (if x.f0 < y.f0 then (-1 : Int) else if y.f0 < x.f0 then 1 else 0) = 0 then (if x.f1 < y.f1 then (-1 : Int) else if y.f1 < x.f1 then 1 else 0) else (if x.f0 < y.f0 then (-1 : Int) else if y.f0 < x.f0 then 1 else 0)) = cmpT x y by unfold cmpT; repeat' split <;> first | rfl | omega)
  generalize (if x.f0 < y.f0 then (-1 : Int) else if y.f0 < x.f0 then 1 else 0) = a at HX HE
  generalize (if x.f1 < y.f1 then (-1 : Int) else if y.f1 < x.f1 then 1 else 0) = b at HY HE
  have HO := Aside0.mk (cmpOr_told a b)
  generalize (if a = 0 then b else a) = r at HO HE
  have g1 : ((W.alloc (.cells #[.int .i64 x.f0, .int .i64 x.f1] 38)).alloc (.cells #[.int .i64 y.f0, .int .i64 y.f1] 38)).cell? ⟨W.heap.size, 0, none⟩ = some (.int .i64 x.f0) := by simp
  have g2 : ((W.alloc (.cells #[.int .i64 x.f0, .int .i64 x.f1] 38)).alloc (.cells #[.int .i64 y.f0, .int .i64 y.f1] 38)).cell? ⟨W.heap.size, 1, none⟩ = some (.int .i64 x.f1) := by simp
  have g3 : ((W.alloc (.cells #[.int .i64 x.f0, .int .i64 x.f1] 38)).alloc (.cells #[.int .i64 y.f0, .int .i64 y.f1] 38)).cell? ⟨W.heap.size + 1, 0, none⟩ = some (.int .i64 y.f0) := by simp
  have g4 : ((W.alloc (.cells #[.int .i64 x.f0, .int .i64 x.f1] 38)).alloc (.cells #[.int .i64 y.f0, .int .i64 y.f1] 38)).cell? ⟨W.heap.size + 1, 1, none⟩ = some (.int .i64 y.f1) := by simp
  have g5 : Grew W ((W.alloc (.cells #[.int .i64 x.f0, .int .i64 x.f1] 38)).alloc (.cells #[.int .i64 y.f0, .int .i64 y.f1] 38)) := ((Grew.refl W).alloc _).alloc _
  go_enter Try.func47, Try.ntmps47
  go_wp2
  generalize (W.alloc (.cells #[.int .i64 x.f0, .int .i64 x.f1] 38)).alloc (.cells #[.int .i64 y.f0, .int .i64 y.f1] 38) = W0 at g1 g2 g3 g4 g5 ⊢
  have G5 := Aside0.mk g5
  have HC := Aside0.mk (fun W1 : World => C_two W1 3 a b)
  clear g5
  go_region_held3 (fun w' => w'.cell? ⟨W.heap.size, 0, none⟩ = some (.int .i64 x.f0) ∧ w'.cell? ⟨W.heap.size, 1, none⟩ = some (.int .i64 x.f1) ∧ w'.cell? ⟨W.heap.size + 1, 0, none⟩ = some (.int .i64 y.f0) ∧ w'.cell? ⟨W.heap.size + 1, 1, none⟩ = some (.int .i64 y.f1))
    (first
      | (refine ⟨?_, ?_, ?_, ?_⟩; assumption; assumption; assumption; assumption)
      | (refine ⟨?_, ?_, ?_, ?_⟩ <;> (repeat (first | assumption | refine cell_drawn _ ?_ | refine cell_later _ ?_))))
    (first
      | (go_at_call 66; (with_reducible refine (cmp_Compare_int.calls x.f0 y.f0 a _ HX.out).mono ?_); rintro e w' ⟨rfl, ⟨nd, rfl⟩⟩)
      | (go_at_call 66; (with_reducible refine (cmp_Compare_int.calls x.f1 y.f1 b _ HY.out).mono ?_); rintro e w' ⟨rfl, ⟨nd, rfl⟩⟩)
      | (go_at_call 65; refine (cmp_Or_int.calls 3 _ 2 [a, b] _ _ (HC.out _) (Nat.le_refl _) HO.out).mono ?_; rintro e w' ⟨rfl, ⟨nd, rfl⟩⟩))
  all_goals
    go_wp2
    go_ret
    exact ⟨by rw [← HE.out]; rfl, by repeat (first | exact G5.out | apply Grew.drewN | apply Grew.drew | apply Grew.alloc)⟩

end Go.Proofs.Ytafbnilpipcjfaa.P
