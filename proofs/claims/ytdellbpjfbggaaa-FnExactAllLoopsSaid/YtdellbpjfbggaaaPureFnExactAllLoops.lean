/- What is proved: the pure statement of the law FnExactAllLoops, about numbers and lists alone; no condition. -/
import Derived.Test.YtdellbpjfbggaaaPx8
namespace Go.Proofs.Ytdellbpjfbggaaa.Pure
open Go.RowKit Go.Proofs.Ytdellbpjfbggaaa.P Go.Proofs.YtdellbpjfbggaaaW.PrintWords Go.Proofs.YtdellbpjfbggaaaW.PrintLast
set_option linter.unusedVariables false
set_option linter.unusedSimpArgs false

theorem wrap_id {x : Int} (h : -9000000000000000000 ≤ x) (h2 : x ≤ 9000000000000000000) : wrap64 x = x := by unfold wrap64; omega
theorem up {α : Type} {f : Nat → Option α} (hm : ∀ k, LeO (f k) (f (k + 1))) {k0 : Nat} {r : α} (h : f k0 = some r) : ∀ k, k0 ≤ k → f k = some r := by
  intro k hk
  obtain ⟨d, rfl⟩ : ∃ d, k = k0 + d := ⟨k - k0, by omega⟩
  clear hk
  induction d with
  | zero => exact h
  | succ d ih => exact hm (k0 + d) _ ih
/-- Letters as a text. -/
def lb (l : List Nat) : ByteArray := ⟨(l.map fun j => UInt8.ofNat (97 + j)).toArray⟩
theorem lb_size (l : List Nat) : (lb l).size = l.length := by simp [lb, ByteArray.size]
theorem lb_app (a b : List Nat) : lb a ++ lb b = lb (a ++ b) := by
  apply ByteArray.ext
  rw [ByteArray.data_append]
  simp [lb]
theorem lb_extract (a : List Nat) (i j : Nat) : (lb a).extract i j = lb ((a.take j).drop i) := by
  apply ByteArray.ext
  rw [ByteArray.data_extract]
  simp [lb, List.drop_take]
/-- In how many ways a text goes on. -/
def Wn : Nat → Nat → Nat → Int
  | 0, _, _ => 0
  | k + 1, o, l => if o = 0 ∧ l = 0 then 1 else (if 0 < o then (o : Int) * Wn k (o - 1) l else 0) + (if 0 < l then Wn k (o + 1) (l - 1) else 0)
def W (o l : Nat) : Int := Wn (o + 2 * l + 1) o l
theorem W_rec {o l : Nat} (h : ¬ (o = 0 ∧ l = 0)) : W o l = (o : Int) * W (o - 1) l + (if 0 < l then W (o + 1) (l - 1) else 0) := by
  unfold W
  rw [Wn, if_neg h]
  congr 1
  · rcases Nat.eq_zero_or_pos o with e | e
    · subst e; simp
    · rw [if_pos e, show o - 1 + 2 * l + 1 = o + 2 * l by omega]
  · by_cases hl : 0 < l
    · rw [if_pos hl, if_pos hl, show o + 1 + 2 * (l - 1) + 1 = o + 2 * l by omega]
    · rw [if_neg hl, if_neg hl]
def W_chk : Bool := (List.range 9).all fun o => (List.range (9 - o)).all fun l => decide (0 ≤ W o l) && decide (W o l ≤ 10000000)
theorem W_ok : W_chk = true := by kernel_rfl
theorem W_bd {o l : Nat} (h : o + l ≤ 8) : 0 ≤ W o l ∧ W o l ≤ 10000000 := by
  have h1 := List.all_eq_true.1 W_ok o (List.mem_range.2 (by omega))
  have h2 := List.all_eq_true.1 h1 l (List.mem_range.2 (by omega))
  simp only [Bool.and_eq_true, decide_eq_true_eq] at h2
  exact h2
theorem W_zero : W 0 0 = 1 := by unfold W; rw [Wn, if_pos ⟨rfl, rfl⟩]
theorem W_nz {o l : Nat} (h : o + l ≤ 8) : wrap64 ((o : Int) * W (o - 1) l) = (o : Int) * W (o - 1) l ∧ 0 ≤ (o : Int) * W (o - 1) l ∧ (o : Int) * W (o - 1) l ≤ 80000000 := by
  have hb := W_bd (o := o - 1) (l := l) (by omega)
  have h1 : 0 ≤ (o : Int) * W (o - 1) l := Int.mul_nonneg (by omega) hb.1
  have h2 : (o : Int) * W (o - 1) l ≤ 8 * 10000000 := Int.mul_le_mul (by omega) hb.2 hb.1 (by omega)
  exact ⟨wrap_id (by omega) (by omega), h1, by omega⟩
theorem co_neg (k : Nat) (l : Int) : impl_countOn.f (k + 2) (-1) l = some 0 := by
  rw [impl_countOn.f, if_pos (by decide), impl_countOn.j0, if_pos rfl]
theorem co_neg2 (k : Nat) (o : Nat) : impl_countOn.f (k + 2) (o : Int) (-1) = some 0 := by
  rw [impl_countOn.f, if_neg (by omega), impl_countOn.j0, if_pos (by decide)]
theorem co_told (s : Nat) : ∀ (o l k : Nat), o + 2 * l ≤ s → o + l ≤ 8 → 3 * s + 6 ≤ k → impl_countOn.f k (o : Int) (l : Int) = some (W o l) := by
  induction s with
  | zero =>
    intro o l k h h8 hk
    obtain ⟨k, rfl⟩ : ∃ q, k = q + 3 := ⟨k - 3, by omega⟩
    obtain rfl : o = 0 := by omega
    obtain rfl : l = 0 := by omega
    rw [impl_countOn.f, if_neg (by decide), impl_countOn.j0, if_neg (by decide), if_pos (by decide), impl_countOn.j1, if_pos (by decide), W_zero]
  | succ s ih =>
    intro o l k h h8 hk
    obtain ⟨k, rfl⟩ : ∃ q, k = q + 3 := ⟨k - 3, by omega⟩
    by_cases hz : o = 0 ∧ l = 0
    · obtain ⟨rfl, rfl⟩ := hz
      rw [impl_countOn.f, if_neg (by decide), impl_countOn.j0, if_neg (by decide), if_pos (by decide), impl_countOn.j1, if_pos (by decide), W_zero]
    · obtain ⟨e1, e2, e3⟩ := W_nz h8
      have hj : impl_countOn.f (k + 3) (o : Int) (l : Int) = impl_countOn.j1 (k + 1) (o : Int) (l : Int) false := by
        rw [impl_countOn.f, if_neg (by omega), impl_countOn.j0, if_neg (by rw [decide_eq_true_eq]; omega)]
        by_cases ho : o = 0
        · rw [if_pos (by omega), show ((l : Int) == 0) = false by rw [beq_eq_false_iff_ne]; omega]
        · rw [if_neg (by omega)]
      have ha : impl_countOn.f k (wrap64 ((o : Int) - 1)) (l : Int) = some (if o = 0 then 0 else W (o - 1) l) := by
        by_cases ho : o = 0
        · subst ho
          obtain ⟨k, rfl⟩ : ∃ q, k = q + 2 := ⟨k - 2, by omega⟩
          rw [if_pos rfl, show wrap64 (((0 : Nat) : Int) - 1) = -1 by decide +kernel, co_neg]
        · rw [if_neg ho, show wrap64 ((o : Int) - 1) = ((o - 1 : Nat) : Int) by rw [wrap_id (by omega) (by omega)]; omega]
          exact ih (o - 1) l k (by omega) (by omega) (by omega)
      have hb : impl_countOn.f k (wrap64 ((o : Int) + 1)) (wrap64 ((l : Int) - 1)) = some (if 0 < l then W (o + 1) (l - 1) else 0) := by
        rw [show wrap64 ((o : Int) + 1) = ((o + 1 : Nat) : Int) by rw [wrap_id (by omega) (by omega)]; omega]
        by_cases hl : 0 < l
        · rw [if_pos hl, show wrap64 ((l : Int) - 1) = ((l - 1 : Nat) : Int) by rw [wrap_id (by omega) (by omega)]; omega]
          exact ih (o + 1) (l - 1) k (by omega) (by omega) (by omega)
        · obtain rfl : l = 0 := by omega
          obtain ⟨k, rfl⟩ : ∃ q, k = q + 2 := ⟨k - 2, by omega⟩
          rw [if_neg hl, show wrap64 (((0 : Nat) : Int) - 1) = -1 by decide +kernel, co_neg2]
      have hw : (if 0 < l then W (o + 1) (l - 1) else 0) ≤ 10000000 ∧ 0 ≤ (if 0 < l then W (o + 1) (l - 1) else 0) := by
        by_cases hl : 0 < l
        · rw [if_pos hl]
          have := W_bd (o := o + 1) (l := l - 1) (by omega)
          omega
        · rw [if_neg hl]; omega
      have hm : wrap64 ((o : Int) * (if o = 0 then 0 else W (o - 1) l)) = (o : Int) * W (o - 1) l := by
        by_cases ho : o = 0
        · subst ho; simp [wrap64]
        · rw [if_neg ho, e1]
      rw [hj, impl_countOn.j1, if_neg (by decide), ha, Option.bind_some, hb, Option.bind_some, hm, wrap_id (x := (o : Int) * W (o - 1) l + _) (by omega) (by omega), W_rec hz]
theorem lw_told (s : Nat) : ∀ (o l k : Nat), o + 2 * l ≤ s → o + l ≤ 8 → 3 * s + 6 ≤ k → spec_loWays.f k (o : Int) (l : Int) = some (W o l) := by
  induction s with
  | zero =>
    intro o l k h h8 hk
    obtain ⟨k, rfl⟩ : ∃ q, k = q + 2 := ⟨k - 2, by omega⟩
    obtain rfl : o = 0 := by omega
    obtain rfl : l = 0 := by omega
    rw [spec_loWays.f, if_pos (by decide), spec_loWays.j0, if_pos (by decide), W_zero]
  | succ s ih =>
    intro o l k h h8 hk
    obtain ⟨k, rfl⟩ : ∃ q, k = q + 2 := ⟨k - 2, by omega⟩
    by_cases hz : o = 0 ∧ l = 0
    · obtain ⟨rfl, rfl⟩ := hz
      rw [spec_loWays.f, if_pos (by decide), spec_loWays.j0, if_pos (by decide), W_zero]
    · obtain ⟨e1, e2, e3⟩ := W_nz h8
      have hj : spec_loWays.f (k + 2) (o : Int) (l : Int) = spec_loWays.j0 (k + 1) (o : Int) (l : Int) false := by
        rw [spec_loWays.f]
        by_cases ho : o = 0
        · rw [if_pos (by omega), show ((l : Int) == 0) = false by rw [beq_eq_false_iff_ne]; omega]
        · rw [if_neg (by omega)]
      have hb : 0 < l → spec_loWays.f k (wrap64 ((o : Int) + 1)) (wrap64 ((l : Int) - 1)) = some (W (o + 1) (l - 1)) := fun hl => by
        rw [show wrap64 ((o : Int) + 1) = ((o + 1 : Nat) : Int) by rw [wrap_id (by omega) (by omega)]; omega, show wrap64 ((l : Int) - 1) = ((l - 1 : Nat) : Int) by rw [wrap_id (by omega) (by omega)]; omega]
        exact ih (o + 1) (l - 1) k (by omega) (by omega) (by omega)
      have hw : 0 < l → W (o + 1) (l - 1) ≤ 10000000 ∧ 0 ≤ W (o + 1) (l - 1) := fun hl => by
        have := W_bd (o := o + 1) (l := l - 1) (by omega)
        omega
      rw [hj, spec_loWays.j0, if_neg (by decide), W_rec hz]
      by_cases ho : o = 0
      · subst ho
        have hl : 0 < l := by omega
        have := hw hl
        rw [if_neg (by decide), if_pos (by omega), hb hl, Option.bind_some, if_pos hl, Int.zero_add, wrap_id (by omega) (by omega)]
        simp
      · rw [if_pos (by omega), show wrap64 ((o : Int) - 1) = ((o - 1 : Nat) : Int) by rw [wrap_id (by omega) (by omega)]; omega, ih (o - 1) l k (by omega) (by omega) (by omega), Option.bind_some, e1, Int.zero_add, e1]
        by_cases hl : 0 < l
        · have := hw hl
          rw [if_pos (by omega), hb hl, Option.bind_some, if_pos hl, wrap_id (x := (o : Int) * W (o - 1) l + _) (by omega) (by omega)]
        · rw [if_neg (by omega), if_neg hl, Int.add_zero]
theorem W_told {o l : Nat} (h : o + l ≤ 8) : (∀ K, 60 ≤ K → impl_countOn.f K o l = some (W o l)) ∧ (∀ K, 60 ≤ K → spec_loWays.f K o l = some (W o l)) ∧ 0 ≤ W o l ∧ W o l ≤ 100000000 := by
  have := W_bd h
  exact ⟨fun K hK => co_told (o + 2 * l) o l K (Nat.le_refl _) h (by omega), fun K hK => lw_told (o + 2 * l) o l K (Nat.le_refl _) h (by omega), this.1, by omega⟩
/-- Which of o letters is taken, each for w ranks, and the rank that is left. -/
def pk (w : Int) : Nat → Int → Nat × Int
  | 0, r => (0, r)
  | o + 1, r => if r < w then (0, r) else ((pk w o (r - w)).1 + 1, (pk w o (r - w)).2)
theorem pk_told (w : Int) (hw : 0 ≤ w) : ∀ (o : Nat) (r : Int), 0 ≤ r → (pk w o r).1 ≤ o ∧ 0 ≤ (pk w o r).2 ∧ (pk w o r).2 ≤ r ∧ ((pk w o r).1 < o → (pk w o r).2 < w) ∧ ((pk w o r).1 = o → (pk w o r).2 = r - o * w)
  | 0, r, h => by simp [pk, h]
  | o + 1, r, h => by
    unfold pk
    by_cases hr : r < w
    · rw [if_pos hr]
      exact ⟨by simp, h, by simp, fun _ => hr, fun e => by simp at e⟩
    · rw [if_neg hr]
      obtain ⟨h1, h2, h3, h4, h5⟩ := pk_told w hw o (r - w) (by omega)
      refine ⟨by simp only; omega, h2, by simp only; omega, fun e => h4 (by simp only at e; omega), fun e => ?_⟩
      simp only at e ⊢
      rw [h5 (by omega)]
      have : ((o + 1 : Nat) : Int) * w = (o : Int) * w + w := by rw [Int.natCast_add, Int.add_mul]; simp
      omega
/-- A beginning of a loop: what has come, what is open, and which letter is the next new one. -/
structure Beg (n : Nat) (out op : List Nat) (nx : Nat) : Prop where
  n8 : n ≤ 8
  nxn : nx ≤ n
  asc : op.Pairwise (· < ·)
  lt : ∀ x ∈ op, x < nx
  cnt : ∀ j, out.count j = if j < nx then (if j ∈ op then 1 else 2) else 0
  size : out.length + op.length = 2 * nx
theorem Beg.nodup {n nx : Nat} {out op : List Nat} (B : Beg n out op nx) : op.Nodup := B.asc.imp (fun h => by omega)
theorem Beg.len {n nx : Nat} {out op : List Nat} (B : Beg n out op nx) : op.length ≤ nx := by
  have := B.nodup.length_le_of_subset (l₂ := List.range nx) (fun x hx => List.mem_range.2 (B.lt x hx))
  simpa using this
theorem Beg.take {n nx : Nat} {out op : List Nat} (B : Beg n out op nx) {i : Nat} (hi : i < op.length) : Beg n (out ++ [op[i]]) (op.eraseIdx i) nx := by
  have hs : (op.eraseIdx i).Sublist op := List.eraseIdx_sublist _ _
  have hl : (op.eraseIdx i).length = op.length - 1 := by rw [List.length_eraseIdx, if_pos hi]
  have hm : ∀ x, x ∈ op.eraseIdx i ↔ x ∈ op ∧ x ≠ op[i] := fun x => by
    rw [List.mem_eraseIdx_iff_getElem]
    constructor
    · rintro ⟨j, hj, hne, rfl⟩
      exact ⟨List.getElem_mem _, fun e => hne ((List.getElem_inj B.nodup).1 e)⟩
    · rintro ⟨hx, hne⟩
      obtain ⟨j, hj, rfl⟩ := List.getElem_of_mem hx
      exact ⟨j, hj, fun e => hne (by subst e; rfl), rfl⟩
  refine ⟨B.n8, B.nxn, B.asc.sublist hs, fun x hx => B.lt x (hs.subset hx), fun j => ?_, by rw [List.length_append, hl, List.length_singleton]; have := B.size; omega⟩
  rw [List.count_append, B.cnt j, List.count_singleton]
  have ht := B.lt op[i] (List.getElem_mem _)
  by_cases e : op[i] = j
  · subst e
    rw [if_pos ht, if_pos (List.getElem_mem _), if_pos ht, if_neg (fun h => ((hm _).1 h).2 rfl)]
    simp
  · have : (op[i] == j) = false := by simpa using e
    rw [this]
    by_cases hj : j < nx
    · rw [if_pos hj, if_pos hj]
      by_cases hjo : j ∈ op
      · rw [if_pos hjo, if_pos ((hm j).2 ⟨hjo, fun h => e h.symm⟩)]; simp
      · rw [if_neg hjo, if_neg (fun h => hjo ((hm j).1 h).1)]; simp
    · rw [if_neg hj, if_neg hj]; simp
theorem Beg.new {n nx : Nat} {out op : List Nat} (B : Beg n out op nx) (h : nx < n) : Beg n (out ++ [nx]) (op ++ [nx]) (nx + 1) := by
  refine ⟨B.n8, h, List.pairwise_append.2 ⟨B.asc, by simp, fun a ha b hb => by simp at hb; subst hb; exact B.lt a ha⟩, fun x hx => ?_, fun j => ?_, by simp only [List.length_append, List.length_singleton]; have := B.size; omega⟩
  · rcases List.mem_append.1 hx with hx | hx
    · have := B.lt x hx; omega
    · have := List.mem_singleton.1 hx; omega
  · rw [List.count_append, B.cnt j, List.count_singleton]
    by_cases e : nx = j
    · subst e
      rw [if_neg (Nat.lt_irrefl nx), if_pos (show (nx == nx) = true by simp), if_pos (show nx < nx + 1 by omega), if_pos (show nx ∈ op ++ [nx] by simp)]
    · have he : (nx == j) = false := by simpa using e
      have hm : j ∈ op ++ [nx] ↔ j ∈ op := by
        rw [List.mem_append, List.mem_singleton]
        exact ⟨fun h => h.elim id (fun h => absurd h.symm e), .inl⟩
      rw [he]
      by_cases hj : j < nx
      · rw [if_pos hj, if_pos (show j < nx + 1 by omega)]
        by_cases hjo : j ∈ op
        · rw [if_pos hjo, if_pos (hm.2 hjo)]; simp
        · rw [if_neg hjo, if_neg (fun h => hjo (hm.1 h))]; simp
      · rw [if_neg hj, if_neg (show ¬ j < nx + 1 by omega)]; simp
/-! the reference -/
theorem ab16 {j : Nat} (h : j < 16) : (⟨#[97, 98, 99, 100, 101, 102, 103, 104, 105, 106, 107, 108, 109, 110, 111, 112]⟩ : ByteArray).extract j (j + 1) = lb [j] := by
  have : ∀ j : Fin 16, ((⟨#[97, 98, 99, 100, 101, 102, 103, 104, 105, 106, 107, 108, 109, 110, 111, 112]⟩ : ByteArray).extract j.val (j.val + 1)).data = (lb [j.val]).data := by decide +kernel
  exact ByteArray.ext (this ⟨j, h⟩)
theorem sp_done (K : Nat) (n r : Int) (out op : ByteArray) (nx j : Int) : spec_loRanked.l1 (K + 2) n r out op nx true j = spec_loRanked.l0 K n r out op nx := by
  rw [spec_loRanked.l1]
  by_cases h : j < (op.size : Int)
  · rw [if_pos h, spec_loRanked.j2, if_neg (by decide), if_pos rfl]
  · rw [if_neg h, spec_loRanked.j2, if_neg (by decide), if_pos rfl]
theorem sp_newG (K : Nat) (n nx : Nat) (r : Int) (out op : ByteArray) (j : Int) (hj : ¬ j < (op.size : Int)) (h : nx < 8) (ho : out.size ≤ 16) (hp : op.size ≤ 16) : spec_loRanked.l1 (K + 2) n r out op nx false j = spec_loRanked.l0 K n r (out ++ lb [nx]) (op ++ lb [nx]) ((nx + 1 : Nat) : Int) := by
  have e1 : wrap64 ((nx : Int) + 1) = ((nx + 1 : Nat) : Int) := by rw [wrap_id (by omega) (by omega)]; omega
  have e2 := ab16 (j := nx) (by omega)
  have e3 : (lb [nx]).size = 1 := lb_size _
  rw [spec_loRanked.l1, if_neg hj, spec_loRanked.j2, if_neg (by decide), if_neg (by decide), e1, if_pos (by omega), if_pos (by omega), if_pos (by omega), Int.toNat_natCast, Int.toNat_natCast, e2, e3, if_pos (by omega), if_pos (by omega)]
theorem sp_takeG (K : Nat) (n nx j : Nat) (r w : Int) (out op : ByteArray) (hj : j < op.size) (ho : out.size ≤ 16) (hp : op.size ≤ 16) (hw : spec_loWays.f (K + 2) (wrap64 ((op.size : Int) - 1)) (wrap64 ((n : Int) - (nx : Int))) = some w) (hr : r < w) :
    spec_loRanked.l1 (K + 2 + 2) n r out op nx false (j : Int) = spec_loRanked.l0 K n r (out ++ op.extract j (j + 1)) (op.extract 0 j ++ op.extract (j + 1) op.size) nx := by
  have e3 : wrap64 ((j : Int) + 1) = ((j + 1 : Nat) : Int) := by rw [wrap_id (by omega) (by omega)]; omega
  rw [spec_loRanked.l1, if_pos (by omega), spec_loRanked.j2, if_pos (by decide), hw, Option.bind_some, e3, if_pos hr, if_pos (by omega), if_pos (by omega), if_pos (by omega), Int.toNat_natCast, Int.toNat_natCast, if_pos (by rw [ByteArray.size_extract]; omega), if_pos (by omega), if_pos (by omega), if_pos (by rw [ByteArray.size_extract, ByteArray.size_extract]; omega), sp_done]
theorem sp_pastG (K : Nat) (n nx j : Nat) (r w : Int) (out op : ByteArray) (hj : j < op.size) (hp : op.size ≤ 16) (hw : spec_loWays.f K (wrap64 ((op.size : Int) - 1)) (wrap64 ((n : Int) - (nx : Int))) = some w) (hr : ¬ r < w) (h1 : 0 ≤ r - w) (h2 : r - w ≤ 100000000) :
    spec_loRanked.l1 (K + 2) n r out op nx false (j : Int) = spec_loRanked.l1 K n (r - w) out op nx false ((j + 1 : Nat) : Int) := by
  have e3 : wrap64 ((j : Int) + 1) = ((j + 1 : Nat) : Int) := by rw [wrap_id (by omega) (by omega)]; omega
  rw [spec_loRanked.l1, if_pos (by omega), spec_loRanked.j2, if_pos (by decide), hw, Option.bind_some, e3, if_neg hr, wrap_id (x := r - w) (by omega) (by omega)]
theorem sp_pick {n nx : Nat} {out op : List Nat} (B : Beg n out op nx) (m : Nat) : ∀ (j : Nat) (r : Int) (K : Nat), j + m = op.length → 2 * m + 70 ≤ K → 0 ≤ r → r ≤ 100000000 →
    ∃ K', K ≤ K' + 2 * m + 6 ∧ ((pk (W (op.length - 1) (n - nx)) m r).1 < m → spec_loRanked.l1 K n r (lb out) (lb op) nx false (j : Int) = spec_loRanked.l0 K' n (pk (W (op.length - 1) (n - nx)) m r).2 (lb (out ++ [op.getD (j + (pk (W (op.length - 1) (n - nx)) m r).1) 0])) (lb (op.eraseIdx (j + (pk (W (op.length - 1) (n - nx)) m r).1))) nx) ∧
      ((pk (W (op.length - 1) (n - nx)) m r).1 = m → nx < n → spec_loRanked.l1 K n r (lb out) (lb op) nx false (j : Int) = spec_loRanked.l0 K' n (pk (W (op.length - 1) (n - nx)) m r).2 (lb (out ++ [nx])) (lb (op ++ [nx])) ((nx + 1 : Nat) : Int)) := by
  have hlen := B.len
  have hn8 := B.n8
  have hnx := B.nxn
  have hsz := B.size
  obtain ⟨_, hway, hw0, hw1⟩ := W_told (o := op.length - 1) (l := n - nx) (by omega)
  have so := lb_size out
  have sp := lb_size op
  induction m with
  | zero =>
    intro j r K hj hK h0 h1
    obtain ⟨K, rfl⟩ : ∃ q, K = q + 2 := ⟨K - 2, by omega⟩
    obtain rfl : j = op.length := by omega
    refine ⟨K, by omega, fun h => absurd h (Nat.not_lt_zero _), fun _ hlt => ?_⟩
    rw [sp_newG K n nx r _ _ _ (by omega) (by omega) (by omega) (by omega), lb_app, lb_app]
    rfl
  | succ m ih =>
    intro j r K hj hK h0 h1
    obtain ⟨K, rfl⟩ : ∃ q, K = q + 2 := ⟨K - 2, by omega⟩
    have e1 : wrap64 (((lb op).size : Int) - 1) = ((op.length - 1 : Nat) : Int) := by rw [sp, wrap_id (by omega) (by omega)]; omega
    have e2 : wrap64 ((n : Int) - (nx : Int)) = ((n - nx : Nat) : Int) := by rw [wrap_id (by omega) (by omega)]; omega
    have hgd : ∀ t, (ht : t < op.length) → op.getD t 0 = op[t] := fun t ht => by simp [List.getD_eq_getElem?_getD, List.getElem?_eq_getElem ht]
    have hK2 := hway K (by omega)
    rw [← e1, ← e2] at hK2
    have hpk : pk (W (op.length - 1) (n - nx)) (m + 1) r = if r < W (op.length - 1) (n - nx) then (0, r) else ((pk (W (op.length - 1) (n - nx)) m (r - W (op.length - 1) (n - nx))).1 + 1, (pk (W (op.length - 1) (n - nx)) m (r - W (op.length - 1) (n - nx))).2) := rfl
    rw [hpk]
    by_cases hr : r < W (op.length - 1) (n - nx)
    · have x1 : (lb op).extract j (j + 1) = lb [op.getD j 0] := by
        rw [lb_extract, hgd j (by omega)]
        congr 1
        rw [List.drop_take, show j + 1 - j = 1 by omega, List.drop_eq_getElem_cons (by omega)]
        rfl
      have x2 : (lb op).extract 0 j ++ (lb op).extract (j + 1) (lb op).size = lb (op.eraseIdx j) := by
        rw [lb_extract, lb_extract, lb_app, sp, List.eraseIdx_eq_take_drop_succ, List.drop_zero, List.take_length]
      obtain ⟨K, rfl⟩ : ∃ q, K = q + 2 := ⟨K - 2, by omega⟩
      rw [if_pos hr]
      refine ⟨K, by omega, fun _ => ?_, fun e => by simp at e⟩
      rw [sp_takeG K n nx j r _ _ _ (by omega) (by omega) (by omega) hK2 hr, x1, x2, lb_app]
      rfl
    · rw [if_neg hr]
      obtain ⟨K', h2, h3, h4⟩ := ih (j + 1) (r - W (op.length - 1) (n - nx)) K (by omega) (by omega) (by omega) (by omega)
      rw [sp_pastG K n nx j r _ _ _ (by omega) (by omega) hK2 hr (by omega) (by omega)]
      refine ⟨K', by omega, fun h => ?_, fun h hlt => ?_⟩
      · simp only at h ⊢
        rw [h3 (by omega), show j + 1 + (pk (W (op.length - 1) (n - nx)) m (r - W (op.length - 1) (n - nx))).1 = j + ((pk (W (op.length - 1) (n - nx)) m (r - W (op.length - 1) (n - nx))).1 + 1) by omega]
      · simp only at h ⊢
        exact h4 (by omega) hlt
/-! the program -/
theorem ab8 {j : Nat} (h : j < 8) : (⟨#[97, 98, 99, 100, 101, 102, 103, 104]⟩ : ByteArray).extract j (j + 1) = lb [j] := by
  have : ∀ j : Fin 8, ((⟨#[97, 98, 99, 100, 101, 102, 103, 104]⟩ : ByteArray).extract j.val (j.val + 1)).data = (lb [j.val]).data := by decide +kernel
  exact ByteArray.ext (this ⟨j, h⟩)
def bt_chk : Bool := (List.range 9).all fun n => (List.range 8).all fun j => decide (n ≤ j) || (bt ((⟨#[97, 98, 99, 100, 101, 102, 103, 104]⟩ : ByteArray).extract 0 n) (j : Int) == 97 + (j : Int))
theorem bt_ok : bt_chk = true := by kernel_rfl
theorem bt8 {n j : Nat} (h : j < n) (hn : n ≤ 8) : bt ((⟨#[97, 98, 99, 100, 101, 102, 103, 104]⟩ : ByteArray).extract 0 n) (j : Int) = 97 + (j : Int) := by
  have h1 := List.all_eq_true.1 bt_ok n (List.mem_range.2 (by omega))
  have h2 := List.all_eq_true.1 h1 j (List.mem_range.2 (by omega))
  rw [decide_eq_false (show ¬ n ≤ j by omega)] at h2
  simpa using h2
theorem enc8 {j : Nat} (h : j < 8) : Utf8.encode (wrap32 (97 + (j : Int))) = lb [j] := by
  have : ∀ j : Fin 8, (Utf8.encode (wrap32 (97 + (j.val : Int)))).data = (lb [j.val]).data := by decide +kernel
  exact ByteArray.ext (this ⟨j, h⟩)
theorem let_inj : ∀ x j : Fin 16, (UInt8.ofNat (97 + x.val) == UInt8.ofNat (97 + j.val)) = (x.val == j.val) := by decide +kernel
theorem cnt_lb {j : Nat} (hj : j < 16) : ∀ (l : List Nat), (∀ x ∈ l, x < 16) → (lb l).data.toList.count (UInt8.ofNat (97 + j)) = l.count j
  | [], _ => rfl
  | x :: r, h => by
    have ih := cnt_lb hj r (fun y hy => h y (by simp [hy]))
    have hx := let_inj ⟨x, h x (by simp)⟩ ⟨j, hj⟩
    simp only [lb, List.map_cons] at ih ⊢
    simp only [List.count_cons, hx]
    rw [ih]
theorem idx_lb {c : UInt8} : ∀ (l : List UInt8), (0 ≤ Go.Lib.indexByte l c) ↔ 0 < l.count c
  | [] => by simp [Go.Lib.indexByte]
  | b :: l => by
    have ih := idx_lb (c := c) l
    have hg := Go.Lib.indexByte_ge l c
    unfold Go.Lib.indexByte
    rw [List.count_cons]
    by_cases h : (b == c) = true
    · rw [if_pos h, if_pos h]; simp
    · rw [if_neg h, if_neg h]
      by_cases h2 : (Go.Lib.indexByte l c == -1) = true
      · rw [if_pos h2]
        have : Go.Lib.indexByte l c = -1 := by simpa using h2
        rw [this] at ih
        constructor
        · intro h; omega
        · intro h; exact absurd (ih.2 (by omega)) (by decide)
      · rw [if_neg h2]
        have : ¬ Go.Lib.indexByte l c = -1 := by simpa using h2
        rw [Nat.add_zero, ← ih]
        omega
theorem has8 {out : List Nat} (ho : ∀ x ∈ out, x < 16) {j : Nat} (hj : j < 8) : strings_Contains.f (lb out) (lb [j]) = some (decide (0 < out.count j)) := by
  unfold strings_Contains.f
  rw [if_pos (show (lb [j]).size = 1 from lb_size [j])]
  congr 1
  rw [decide_eq_decide, show (lb [j]).data[0]! = UInt8.ofNat (97 + j) from rfl]
  exact (idx_lb _).trans (by rw [cnt_lb (by omega) out ho])
theorem times8 {out : List Nat} (ho : ∀ x ∈ out, x < 16) {j : Nat} (hj : j < 8) : strings_Count.f (lb out) (lb [j]) = some (out.count j : Int) := by
  unfold strings_Count.f
  rw [if_pos (show (lb [j]).size = 1 from lb_size [j]), show (lb [j]).data[0]! = UInt8.ofNat (97 + j) from rfl]
  unfold Go.Lib.countByte
  rw [cnt_lb (by omega) out ho]
theorem Beg.out16 {n nx : Nat} {out op : List Nat} (B : Beg n out op nx) : ∀ x ∈ out, x < 16 := fun x hx => by
  have h := List.count_pos_iff.2 hx
  rw [B.cnt x] at h
  have := B.n8
  have := B.nxn
  by_cases e : x < nx
  · omega
  · rw [if_neg e] at h; omega
/-- Letters as numbers. -/
def lts (l : List Nat) : List Int := l.map fun (j : Nat) => 97 + (j : Int)
theorem filt_succ {op : List Nat} (h : op.Pairwise (· < ·)) (j : Nat) : op.filter (fun x => decide (x < j + 1)) = op.filter (fun x => decide (x < j)) ++ (if j ∈ op then [j] else []) := by
  induction op with
  | nil => simp
  | cons x r ih =>
    obtain ⟨h1, h2⟩ := List.pairwise_cons.1 h
    have ih := ih h2
    rw [List.filter_cons, List.filter_cons]
    by_cases e1 : x < j
    · rw [if_pos (show decide (x < j + 1) = true from decide_eq_true (by omega)), if_pos (decide_eq_true e1), ih]
      by_cases e2 : j ∈ r
      · rw [if_pos e2, if_pos (by simp [e2])]; rfl
      · rw [if_neg e2, if_neg (by simp [e2]; omega)]; simp
    · by_cases e2 : x = j
      · subst e2
        have e3 : r.filter (fun y => decide (y < x)) = [] := by
          rw [List.filter_eq_nil_iff]
          intro y hy
          have := h1 y hy
          simp; omega
        have e4 : r.filter (fun y => decide (y < x + 1)) = [] := by
          rw [List.filter_eq_nil_iff]
          intro y hy
          have := h1 y hy
          simp; omega
        rw [if_pos (show decide (x < x + 1) = true from decide_eq_true (by omega)), if_neg (by simp), e3, e4]
        simp
      · rw [if_neg (by simp; omega), if_neg (by simp; omega), ih]
        by_cases e3 : j ∈ r
        · have := h1 j e3
          exact absurd this (by omega)
        · rw [if_neg e3, if_neg (by simp [e3]; omega)]
theorem filt_all {op : List Nat} {nx : Nat} (h : ∀ x ∈ op, x < nx) : op.filter (fun x => decide (x < nx)) = op := List.filter_eq_self.2 (fun x hx => decide_eq_true (h x hx))
theorem on_l0 {n nx : Nat} {out op : List Nat} (B : Beg n out op nx) (m : Nat) : ∀ (j K : Nat), j + m = nx → m + 2 ≤ K → ∃ K', K ≤ K' + m + 1 ∧ impl_onward.l0 K n (lb out) (j : Int) = impl_onward.j1 K' n (lb out) (nx : Int) := by
  have hn8 := B.n8
  have hnx := B.nxn
  have step : ∀ (j K : Nat), j < n → impl_onward.l0 (K + 1) n (lb out) (j : Int) = if 0 < out.count j then impl_onward.l0 K n (lb out) ((j + 1 : Nat) : Int) else impl_onward.j1 K n (lb out) (j : Int) := fun j K hj => by
    have e1 : wrap64 ((j : Int) + 1) = ((j + 1 : Nat) : Int) := by rw [wrap_id (by omega) (by omega)]; omega
    have e2 := ab8 (j := j) (by omega)
    rw [impl_onward.l0, if_pos (by omega), if_pos (by omega), e1, if_pos (by omega), if_pos (by omega), Int.toNat_natCast, Int.toNat_natCast, e2, has8 B.out16 (by omega), Option.bind_some]
    by_cases h : 0 < out.count j
    · rw [if_pos h, if_pos (decide_eq_true h)]
    · rw [if_neg h, if_neg (by simpa using h)]
  induction m with
  | zero =>
    intro j K hj hK
    obtain ⟨K, rfl⟩ : ∃ q, K = q + 1 := ⟨K - 1, by omega⟩
    obtain rfl : j = nx := by omega
    refine ⟨K, by omega, ?_⟩
    by_cases h : j < n
    · rw [step j K h, if_neg (by rw [B.cnt j, if_neg (Nat.lt_irrefl _)]; omega)]
    · rw [impl_onward.l0, if_neg (by omega)]
  | succ m ih =>
    intro j K hj hK
    obtain ⟨K, rfl⟩ : ∃ q, K = q + 1 := ⟨K - 1, by omega⟩
    obtain ⟨K', h1, h2⟩ := ih (j + 1) K (by omega) (by omega)
    refine ⟨K', by omega, ?_⟩
    rw [step j K (by omega), if_pos (by rw [B.cnt j, if_pos (show j < nx by omega)]; split <;> omega), h2]
/-- The letters that may come next, and in how many ways each. -/
def nl (n nx : Nat) (op : List Nat) : List Int := lts (op ++ if nx < n then [nx] else [])
def nc (n nx : Nat) (op : List Nat) : List Int := List.replicate op.length (W (op.length - 1) (n - nx)) ++ if nx < n then [W (op.length + 1) (n - nx - 1)] else []
theorem on_inG (K : Nat) (x0 x7 w : Int) (x1 S e : ByteArray) (nx j c : Nat) (x8 x9 : List Int) (hj : j < nx) (hn : nx ≤ 8) (hS : (S.size : Int) = nx) (hb : bt S (j : Int) = 97 + (j : Int)) (he : Utf8.encode (wrap32 (97 + (j : Int))) = e) (hc : strings_Count.f x1 e = some (c : Int)) (h8 : x8.length < 100) (h9 : x9.length < 100)
    (hw : c = 1 → impl_countOn.f K (wrap64 (x7 - 1)) (wrap64 (x0 - (nx : Int))) = some w) :
    impl_onward.l1 (K + 1) x0 x1 (nx : Int) x7 x8 x9 S (nx : Int) (j : Int) = if c = 1 then impl_onward.l1 K x0 x1 (nx : Int) x7 (x8 ++ [97 + (j : Int)]) (x9 ++ [w]) S (nx : Int) ((j + 1 : Nat) : Int) else impl_onward.l1 K x0 x1 (nx : Int) x7 x8 x9 S (nx : Int) ((j + 1 : Nat) : Int) := by
  have e3 : wrap64 ((j : Int) + 1) = ((j + 1 : Nat) : Int) := by rw [wrap_id (by omega) (by omega)]; omega
  rw [impl_onward.l1, if_pos (by omega), if_pos (by omega), if_pos (by omega), hb, he, hc, Option.bind_some, e3]
  by_cases h : c = 1
  · rw [if_pos h, if_pos (by omega), if_pos (by omega), hw h, Option.bind_some, if_pos (by omega)]
  · rw [if_neg h, if_neg (by omega)]
theorem on_l1 {n nx : Nat} {out op : List Nat} (B : Beg n out op nx) {S : ByteArray} (hsz : (S.size : Int) = (nx : Int)) (hbt : ∀ j, j < nx → bt S (j : Int) = 97 + (j : Int)) (m : Nat) : ∀ (j K : Nat), j + m = nx → m + 70 ≤ K →
    impl_onward.l1 K n (lb out) (nx : Int) (op.length : Int) (lts (op.filter fun x => decide (x < j))) (List.replicate (op.filter fun x => decide (x < j)).length (W (op.length - 1) (n - nx))) S (nx : Int) (j : Int) = some (nl n nx op, nc n nx op) := by
  have hn8 := B.n8
  have hnx := B.nxn
  have hlen := B.len
  have hf : ∀ j, (op.filter fun x => decide (x < j)).length ≤ 8 := fun j => by
    have := List.length_filter_le (fun x => decide (x < j)) op
    omega
  induction m with
  | zero =>
    intro j K hj hK
    obtain ⟨K, rfl⟩ : ∃ q, K = q + 1 := ⟨K - 1, by omega⟩
    obtain rfl : j = nx := by omega
    have h8 := hf j
    rw [impl_onward.l1, if_neg (by omega), filt_all B.lt]
    unfold nl nc
    by_cases h : j < n
    · have e1 : wrap64 ((op.length : Int) + 1) = ((op.length + 1 : Nat) : Int) := by rw [wrap_id (by omega) (by omega)]; omega
      have e2 : wrap64 (wrap64 ((n : Int) - (j : Int)) - 1) = ((n - j - 1 : Nat) : Int) := by rw [wrap_id (x := (n : Int) - (j : Int)) (by omega) (by omega), wrap_id (by omega) (by omega)]; omega
      have e3 : (97 + ((j : Int) % 256)) % 256 = 97 + (j : Int) := by omega
      have hs : op.length + 1 + (n - j - 1) ≤ 8 := by omega
      rw [if_pos (by omega), if_pos (by rw [lts, List.length_map]; omega), e1, e2, (W_told hs).1 K (by omega), Option.bind_some, if_pos (by rw [List.length_replicate]; omega), if_pos h, if_pos h, e3]
      unfold lts
      rw [List.map_append]
      rfl
    · rw [if_neg (by omega), if_neg h, if_neg h, List.append_nil, List.append_nil]
  | succ m ih =>
    intro j K hj hK
    obtain ⟨K, rfl⟩ : ∃ q, K = q + 1 := ⟨K - 1, by omega⟩
    have hb := hbt j (by omega)
    have h8 := hf j
    have e2 : wrap64 ((n : Int) - (nx : Int)) = ((n - nx : Nat) : Int) := by rw [wrap_id (by omega) (by omega)]; omega
    have ih2 := ih (j + 1) K (by omega) (by omega)
    rw [filt_succ B.asc j] at ih2
    have hc := B.cnt j
    rw [if_pos (show j < nx by omega)] at hc
    rw [on_inG K n (op.length : Int) (W (op.length - 1) (n - nx)) (lb out) S (lb [j]) nx j (out.count j) _ _ (by omega) (by omega) hsz hb (enc8 (by omega)) (times8 B.out16 (by omega)) (by rw [lts, List.length_map]; omega) (by rw [List.length_replicate]; omega) (fun h1 => by
      have hjo : j ∈ op := by
        by_cases h : j ∈ op
        · exact h
        · rw [if_neg h] at hc; omega
      have hp : 0 < op.length := List.length_pos_of_mem hjo
      rw [wrap_id (x := (op.length : Int) - 1) (by omega) (by omega), e2, show ((op.length : Int) - 1) = ((op.length - 1 : Nat) : Int) by omega]
      exact (W_told (o := op.length - 1) (l := n - nx) (by omega)).1 K (by omega))]
    by_cases hjo : j ∈ op
    · rw [if_pos hjo] at ih2 hc
      rw [if_pos hc]
      rw [List.length_append, List.length_singleton, List.replicate_succ'] at ih2
      have e5 : lts ((op.filter fun x => decide (x < j)) ++ [j]) = lts (op.filter fun x => decide (x < j)) ++ [97 + (j : Int)] := by simp [lts]
      rw [e5] at ih2
      exact ih2
    · rw [if_neg hjo] at ih2 hc
      rw [List.append_nil] at ih2
      rw [if_neg (by omega)]
      exact ih2
theorem on_told {n nx : Nat} {out op : List Nat} (B : Beg n out op nx) {K : Nat} (hK : 100 ≤ K) : impl_onward.f K n (lb out) = some (nl n nx op, nc n nx op) := by
  have hn8 := B.n8
  have hnx := B.nxn
  have hlen := B.len
  have hs := B.size
  unfold impl_onward.f
  obtain ⟨K', h1, h2⟩ := on_l0 B nx 0 K (by omega) (by omega)
  have h2 : impl_onward.l0 K n (lb out) 0 = impl_onward.j1 K' n (lb out) (nx : Int) := h2
  rw [h2]
  obtain ⟨K', rfl⟩ : ∃ q, K' = q + 1 := ⟨K' - 1, by omega⟩
  have e1 : wrap64 (wrap64 (2 * (nx : Int)) - ((lb out).size : Int)) = (op.length : Int) := by rw [lb_size, wrap_id (x := 2 * (nx : Int)) (by omega) (by omega), wrap_id (by omega) (by omega)]; omega
  have hsz : (((⟨#[97, 98, 99, 100, 101, 102, 103, 104]⟩ : ByteArray).extract 0 nx).size : Int) = (nx : Int) := by
    rw [ByteArray.size_extract]
    have : (⟨#[97, 98, 99, 100, 101, 102, 103, 104]⟩ : ByteArray).size = 8 := rfl
    omega
  have h3 := on_l1 B hsz (fun j hj => bt8 hj (by omega)) nx 0 K' (by omega) (by omega)
  have e2 : (op.filter fun x => decide (x < 0)) = [] := by rw [List.filter_eq_nil_iff]; intro y _; simp
  have h3 : impl_onward.l1 K' n (lb out) (nx : Int) (op.length : Int) [] [] ((⟨#[97, 98, 99, 100, 101, 102, 103, 104]⟩ : ByteArray).extract 0 nx) (nx : Int) 0 = some (nl n nx op, nc n nx op) := by rw [e2] at h3; exact h3
  rw [impl_onward.j1, if_pos (by omega), if_pos (by omega), e1, Int.toNat_natCast, hsz]
  exact h3
theorem wrap_enc {l : List Nat} {j : Nat} (hj : j < l.length) (h8 : ∀ x ∈ l, x < 8) : Utf8.encode (wrap32 (rd (lts l) (j : Int))) = lb [l.getD j 0] := by
  have e : rd (lts l) (j : Int) = 97 + ((l.getD j 0 : Nat) : Int) := by
    unfold rd lts
    simp [List.getD_eq_getElem?_getD, List.getElem?_eq_getElem hj]
  have hm : l.getD j 0 ∈ l := by rw [List.getD_eq_getElem?_getD, List.getElem?_eq_getElem hj]; exact List.getElem_mem _
  rw [e, enc8 (h8 _ hm)]
theorem im_takeG (K : Nat) (n r : Int) (x5 : ByteArray) (L C : List Int) (j : Nat) (w : Int) (hC : j < C.length) (hL : j < L.length) (hw : rd C (j : Int) = w) (hr : r < w) {e : ByteArray} (he : Utf8.encode (wrap32 (rd L (j : Int))) = e) (hs : x5.size + e.size ≤ 9223372036854775807) : impl_loopOfRank.l1 (K + 1) n r x5 L C (j : Int) = impl_loopOfRank.l0 K n r (x5 ++ e) := by
  rw [impl_loopOfRank.l1, if_pos (by omega), if_pos (by omega), hw, if_neg (by omega), if_pos (by omega), he, if_pos hs]
theorem im_pastG (K : Nat) (n r : Int) (x5 : ByteArray) (L C : List Int) (j : Nat) (w : Int) (hC : j < C.length) (hj : j < 100) (hw : rd C (j : Int) = w) (hr : ¬ r < w) (h1 : 0 ≤ r - w) (h2 : r - w ≤ 100000000) : impl_loopOfRank.l1 (K + 1) n r x5 L C (j : Int) = impl_loopOfRank.l1 K n (r - w) x5 L C ((j + 1 : Nat) : Int) := by
  have e3 : wrap64 ((j : Int) + 1) = ((j + 1 : Nat) : Int) := by rw [wrap_id (by omega) (by omega)]; omega
  rw [impl_loopOfRank.l1, if_pos (by omega), if_pos (by omega), hw, if_pos (by omega), e3, wrap_id (x := r - w) (by omega) (by omega)]
theorem im_pick {n nx : Nat} {out op : List Nat} (B : Beg n out op nx) (m : Nat) : ∀ (j : Nat) (r : Int) (K : Nat), j + m = op.length → m + 2 ≤ K → 0 ≤ r → r ≤ 100000000 →
    ∃ K', K ≤ K' + m + 1 ∧ ((pk (W (op.length - 1) (n - nx)) m r).1 < m → impl_loopOfRank.l1 K n r (lb out) (nl n nx op) (nc n nx op) (j : Int) = impl_loopOfRank.l0 K' n (pk (W (op.length - 1) (n - nx)) m r).2 (lb (out ++ [op.getD (j + (pk (W (op.length - 1) (n - nx)) m r).1) 0]))) ∧
      ((pk (W (op.length - 1) (n - nx)) m r).1 = m → nx < n → (pk (W (op.length - 1) (n - nx)) m r).2 < W (op.length + 1) (n - nx - 1) → impl_loopOfRank.l1 K n r (lb out) (nl n nx op) (nc n nx op) (j : Int) = impl_loopOfRank.l0 K' n (pk (W (op.length - 1) (n - nx)) m r).2 (lb (out ++ [nx]))) := by
  have hlen := B.len
  have hn8 := B.n8
  have hnx := B.nxn
  have hsz := B.size
  have so := lb_size out
  obtain ⟨_, _, hw0, hw1⟩ := W_told (o := op.length - 1) (l := n - nx) (by omega)
  have hop8 : ∀ x ∈ op, x < 8 := fun x hx => by have := B.lt x hx; omega
  have one : ∀ x : Nat, (lb [x]).size = 1 := fun x => lb_size [x]
  induction m with
  | zero =>
    intro j r K hj hK h0 h1
    obtain ⟨K, rfl⟩ : ∃ q, K = q + 1 := ⟨K - 1, by omega⟩
    obtain rfl : j = op.length := by omega
    refine ⟨K, by omega, fun h => absurd h (Nat.not_lt_zero _), fun _ hlt hr => ?_⟩
    have hr : r < W (op.length + 1) (n - nx - 1) := hr
    have en : nl n nx op = lts (op ++ [nx]) := by unfold nl; rw [if_pos hlt]
    have ec : nc n nx op = List.replicate op.length (W (op.length - 1) (n - nx)) ++ [W (op.length + 1) (n - nx - 1)] := by unfold nc; rw [if_pos hlt]
    have hw : rd (nc n nx op) (op.length : Int) = W (op.length + 1) (n - nx - 1) := by rw [ec]; simp [rd]
    have he : Utf8.encode (wrap32 (rd (nl n nx op) (op.length : Int))) = lb [nx] := by
      rw [en, wrap_enc (by simp) (fun x hx => by rcases List.mem_append.1 hx with h | h; exact hop8 x h; have := List.mem_singleton.1 h; omega)]
      simp
    rw [im_takeG K n r (lb out) _ _ op.length _ (by rw [ec]; simp) (by rw [en]; simp [lts]) hw hr he (by rw [so, one]; omega), lb_app]
    rfl
  | succ m ih =>
    intro j r K hj hK h0 h1
    obtain ⟨K, rfl⟩ : ∃ q, K = q + 1 := ⟨K - 1, by omega⟩
    have hjo : j < op.length := by omega
    have hw : rd (nc n nx op) (j : Int) = W (op.length - 1) (n - nx) := by
      unfold nc rd
      simp [List.getD_eq_getElem?_getD, List.getElem?_append_left, List.getElem?_replicate, hjo]
    have hcl : j < (nc n nx op).length := by unfold nc; rw [List.length_append, List.length_replicate]; omega
    have hll : j < (nl n nx op).length := by unfold nl lts; rw [List.length_map, List.length_append]; omega
    have hpk : pk (W (op.length - 1) (n - nx)) (m + 1) r = if r < W (op.length - 1) (n - nx) then (0, r) else ((pk (W (op.length - 1) (n - nx)) m (r - W (op.length - 1) (n - nx))).1 + 1, (pk (W (op.length - 1) (n - nx)) m (r - W (op.length - 1) (n - nx))).2) := rfl
    rw [hpk]
    by_cases hr : r < W (op.length - 1) (n - nx)
    · have he : Utf8.encode (wrap32 (rd (nl n nx op) (j : Int))) = lb [op.getD j 0] := by
        unfold nl
        rw [wrap_enc (by rw [List.length_append]; omega) (fun x hx => by
          rcases List.mem_append.1 hx with h | h
          · exact hop8 x h
          · by_cases hlt : nx < n
            · rw [if_pos hlt] at h
              have := List.mem_singleton.1 h; omega
            · rw [if_neg hlt] at h; simp at h)]
        rw [List.getD_eq_getElem?_getD, List.getD_eq_getElem?_getD, List.getElem?_append_left hjo]
      rw [if_pos hr]
      refine ⟨K, by omega, fun _ => ?_, fun e => by simp at e⟩
      rw [im_takeG K n r (lb out) _ _ j _ hcl hll hw hr he (by rw [so, one]; omega), lb_app]
      rfl
    · rw [if_neg hr]
      obtain ⟨K', h2, h3, h4⟩ := ih (j + 1) (r - W (op.length - 1) (n - nx)) K (by omega) (by omega) (by omega) (by omega)
      rw [im_pastG K n r (lb out) _ _ j _ hcl (by omega) hw hr (by omega) (by omega)]
      refine ⟨K', by omega, fun h => ?_, fun h hlt hrr => ?_⟩
      · simp only at h ⊢
        rw [h3 (by omega), show j + 1 + (pk (W (op.length - 1) (n - nx)) m (r - W (op.length - 1) (n - nx))).1 = j + ((pk (W (op.length - 1) (n - nx)) m (r - W (op.length - 1) (n - nx))).1 + 1) by omega]
      · simp only at h hrr ⊢
        exact h4 (by omega) hlt hrr
/-- Both go on alike. -/
theorem both_run {n : Nat} (d : Nat) : ∀ (out op : List Nat) (nx : Nat) (r : Int), Beg n out op nx → out.length + d = 2 * n → 0 ≤ r → r < W op.length (n - nx) →
    ∃ res, ∀ K, 200 * (d + 1) ≤ K → spec_loRanked.l0 K n r (lb out) (lb op) nx = some res ∧ impl_loopOfRank.l0 K n r (lb out) = some res := by
  induction d with
  | zero =>
    intro out op nx r B hd h0 h1
    have hn8 := B.n8
    refine ⟨lb out, fun K hK => ?_⟩
    obtain ⟨K, rfl⟩ : ∃ q, K = q + 1 := ⟨K - 1, by omega⟩
    have e1 : wrap64 (2 * (n : Int)) = 2 * (n : Int) := wrap_id (by omega) (by omega)
    rw [spec_loRanked.l0, impl_loopOfRank.l0, lb_size, e1, if_neg (by omega), if_neg (by omega)]
    exact ⟨rfl, rfl⟩
  | succ d ih =>
    intro out op nx r B hd h0 h1
    have hlen := B.len
    have hn8 := B.n8
    have hnx := B.nxn
    have hsz := B.size
    obtain ⟨_, _, _, hW⟩ := W_told (o := op.length) (l := n - nx) (by omega)
    obtain ⟨_, _, hw0, hw1⟩ := W_told (o := op.length - 1) (l := n - nx) (by omega)
    have hrec := W_rec (o := op.length) (l := n - nx) (by omega)
    obtain ⟨p1, p2, p3, p4, p5⟩ := pk_told (W (op.length - 1) (n - nx)) hw0 op.length r h0
    have e1 : wrap64 (2 * (n : Int)) = 2 * (n : Int) := wrap_id (by omega) (by omega)
    have st : ∀ K, spec_loRanked.l0 (K + 1) n r (lb out) (lb op) nx = spec_loRanked.l1 K n r (lb out) (lb op) nx false ((0 : Nat) : Int) := fun K => by
      rw [spec_loRanked.l0, lb_size, e1, if_pos (by omega)]; rfl
    have it : ∀ K, 100 ≤ K → impl_loopOfRank.l0 (K + 1) n r (lb out) = impl_loopOfRank.l1 K n r (lb out) (nl n nx op) (nc n nx op) ((0 : Nat) : Int) := fun K hK => by
      rw [impl_loopOfRank.l0, lb_size, e1, if_pos (by omega), on_told B hK, Option.bind_some]; rfl
    rcases Nat.lt_or_ge (pk (W (op.length - 1) (n - nx)) op.length r).1 op.length with hp | hp
    · have hg : op.getD (0 + (pk (W (op.length - 1) (n - nx)) op.length r).1) 0 = op[(pk (W (op.length - 1) (n - nx)) op.length r).1] := by rw [Nat.zero_add]; simp [List.getD_eq_getElem?_getD, List.getElem?_eq_getElem hp]
      obtain ⟨res, hres⟩ := ih _ _ nx (pk (W (op.length - 1) (n - nx)) op.length r).2 (B.take hp) (by rw [List.length_append, List.length_singleton]; omega) p2 (by rw [List.length_eraseIdx, if_pos hp]; exact p4 hp)
      refine ⟨res, fun K hK => ?_⟩
      obtain ⟨K, rfl⟩ : ∃ q, K = q + 1 := ⟨K - 1, by omega⟩
      obtain ⟨K1, a1, a2, _⟩ := sp_pick B op.length 0 r K (by omega) (by omega) h0 (by omega)
      obtain ⟨K2, b1, b2, _⟩ := im_pick B op.length 0 r K (by omega) (by omega) h0 (by omega)
      have a2 := a2 hp
      have b2 := b2 hp
      rw [hg] at a2 b2
      rw [Nat.zero_add] at a2
      rw [st K, it K (by omega), a2, b2]
      exact ⟨(hres K1 (by omega)).1, (hres K2 (by omega)).2⟩
    · have hpe : (pk (W (op.length - 1) (n - nx)) op.length r).1 = op.length := by omega
      have hr := p5 hpe
      have hlt : nx < n := by
        rcases Nat.lt_or_ge nx n with h | h
        · exact h
        · rw [if_neg (by omega)] at hrec; omega
      rw [if_pos (by omega)] at hrec
      have hr2 : (pk (W (op.length - 1) (n - nx)) op.length r).2 < W (op.length + 1) (n - nx - 1) := by omega
      obtain ⟨res, hres⟩ := ih _ _ (nx + 1) (pk (W (op.length - 1) (n - nx)) op.length r).2 (B.new hlt) (by rw [List.length_append, List.length_singleton]; omega) p2 (by rw [List.length_append, List.length_singleton, show n - (nx + 1) = n - nx - 1 by omega]; exact hr2)
      refine ⟨res, fun K hK => ?_⟩
      obtain ⟨K, rfl⟩ : ∃ q, K = q + 1 := ⟨K - 1, by omega⟩
      obtain ⟨K1, a1, _, a2⟩ := sp_pick B op.length 0 r K (by omega) (by omega) h0 (by omega)
      obtain ⟨K2, b1, _, b2⟩ := im_pick B op.length 0 r K (by omega) (by omega) h0 (by omega)
      rw [st K, it K (by omega), a2 hpe hlt, b2 hpe hlt hr2]
      exact ⟨(hres K1 (by omega)).1, (hres K2 (by omega)).2⟩
theorem loc_0 : spec_loCount.f 30 0 = some 1 := by decide +kernel
theorem locw_0 : W 0 0 = 1 := by decide +kernel
theorem loc_1 : spec_loCount.f 30 1 = some 1 := by decide +kernel
theorem locw_1 : W 0 1 = 1 := by decide +kernel
theorem loc_2 : spec_loCount.f 30 2 = some 3 := by decide +kernel
theorem locw_2 : W 0 2 = 3 := by decide +kernel
theorem loc_3 : spec_loCount.f 30 3 = some 15 := by decide +kernel
theorem locw_3 : W 0 3 = 15 := by decide +kernel
theorem loc_4 : spec_loCount.f 30 4 = some 105 := by decide +kernel
theorem locw_4 : W 0 4 = 105 := by decide +kernel
theorem loc_5 : spec_loCount.f 30 5 = some 945 := by decide +kernel
theorem locw_5 : W 0 5 = 945 := by decide +kernel
theorem loc_6 : spec_loCount.f 30 6 = some 10395 := by decide +kernel
theorem locw_6 : W 0 6 = 10395 := by decide +kernel
theorem loc_7 : spec_loCount.f 30 7 = some 135135 := by decide +kernel
theorem locw_7 : W 0 7 = 135135 := by decide +kernel
theorem loc_8 : spec_loCount.f 30 8 = some 2027025 := by decide +kernel
theorem locw_8 : W 0 8 = 2027025 := by decide +kernel
theorem loc_told {n : Nat} (h : n ≤ 8) : (∀ K, 30 ≤ K → spec_loCount.f K (n : Int) = some (W 0 n)) ∧ 1 ≤ W 0 n := by
  have key : spec_loCount.f 30 (n : Int) = some (W 0 n) ∧ 1 ≤ W 0 n := by
    have h9 : n = 0 ∨ n = 1 ∨ n = 2 ∨ n = 3 ∨ n = 4 ∨ n = 5 ∨ n = 6 ∨ n = 7 ∨ n = 8 := by omega
    rcases h9 with rfl | rfl | rfl | rfl | rfl | rfl | rfl | rfl | rfl
    · rw [locw_0]; exact ⟨loc_0, by decide⟩
    · rw [locw_1]; exact ⟨loc_1, by decide⟩
    · rw [locw_2]; exact ⟨loc_2, by decide⟩
    · rw [locw_3]; exact ⟨loc_3, by decide⟩
    · rw [locw_4]; exact ⟨loc_4, by decide⟩
    · rw [locw_5]; exact ⟨loc_5, by decide⟩
    · rw [locw_6]; exact ⟨loc_6, by decide⟩
    · rw [locw_7]; exact ⟨loc_7, by decide⟩
    · rw [locw_8]; exact ⟨loc_8, by decide⟩
  exact ⟨up (f := fun k => spec_loCount.f k (n : Int)) (fun k => spec_loCount.mono _ k) key.1, key.2⟩
theorem ranked_both {n : Nat} (h : n ≤ 8) {r : Int} (h0 : 0 ≤ r) (h1 : r < W 0 n) : ∃ res, ∀ K, 4000 ≤ K → spec_loRanked.f K n r = some res ∧ impl_loopOfRank.f K n r = some res := by
  have B : Beg n [] [] 0 := ⟨h, Nat.zero_le _, List.Pairwise.nil, fun x hx => by simp at hx, fun j => by simp, rfl⟩
  obtain ⟨res, hres⟩ := both_run (2 * n) [] [] 0 r B (by simp) h0 h1
  exact ⟨res, fun K hK => hres K (by omega)⟩
theorem eqStringS_l0 (l : List ByteArray) (hl : (l.length : Int) ≤ 1000000000000) (d : Nat) : ∀ (k : Nat) (i : Int), 0 ≤ i → i + d = l.length → d < k → laws_eqStringS.l0 k l l i = some true := by
  induction d with
  | zero =>
    intro k i h0 hi hk
    obtain ⟨k, rfl⟩ : ∃ m, k = m + 1 := ⟨k - 1, by omega⟩
    rw [laws_eqStringS.l0, if_neg (by omega)]
  | succ d ih =>
    intro k i h0 hi hk
    obtain ⟨k, rfl⟩ : ∃ m, k = m + 1 := ⟨k - 1, by omega⟩
    rw [laws_eqStringS.l0, if_pos (by omega), if_pos h0, if_pos (by omega), if_pos rfl, wrap_id (by omega) (by omega)]
    exact ih k (i + 1) (by omega) (by omega) (by omega)
theorem eqStringS_self {l : List ByteArray} (hl : (l.length : Int) ≤ 1000000000000) {k : Nat} (hk : l.length < k) : laws_eqStringS.f k l l = some true := by
  unfold laws_eqStringS.f
  rw [if_pos rfl]
  exact eqStringS_l0 l hl l.length k 0 (by omega) (by omega) hk
theorem strOne (x : Int) : (strOfNums [x]).size = 1 := by
  simp [strOfNums, ByteArray.size]
theorem markText_l0 (d : Nat) : ∀ (k : Nat) (x : Int) (t : ByteArray), 0 ≤ x → x < 10 ^ d → x ≤ 1000000000 → t.size + d ≤ 100 → d < k → ∃ r, laws_markText.l0 k x t = some r := by
  induction d with
  | zero =>
    intro k x t h0 h1 _ ht hk
    obtain ⟨k, rfl⟩ : ∃ m, k = m + 1 := ⟨k - 1, by omega⟩
    rw [laws_markText.l0, if_neg (by omega), if_pos (by omega)]
    exact ⟨_, rfl⟩
  | succ d ih =>
    intro k x t h0 h1 h9 ht hk
    obtain ⟨k, rfl⟩ : ∃ m, k = m + 1 := ⟨k - 1, by omega⟩
    rw [laws_markText.l0]
    by_cases hx : x > 0
    · have hsz := strOne ((wrap64 (48 + Int.tmod x 10)) % 256)
      have h2 : Int.tdiv x 10 = x / 10 := Int.tdiv_eq_ediv_of_nonneg h0
      have hp : x / 10 < 10 ^ d := by rw [Int.pow_succ] at h1; omega
      rw [if_pos hx, Option.bind_some, if_pos (by omega), h2, wrap_id (x := x / 10) (by omega) (by omega)]
      exact ih k (x / 10) _ (by omega) hp (by omega) (by rw [ByteArray.size_append, hsz]; omega) (by omega)
    · rw [if_neg hx, if_pos (by omega)]
      exact ⟨_, rfl⟩
/-- The text that stands for a number. -/
def mtx (a : Int) : ByteArray := (laws_markText.f 20 a).getD ByteArray.empty
theorem markText_f {a : Int} (h0 : 0 ≤ a) (h1 : a < 1000000000) {k : Nat} (hk : 20 ≤ k) : laws_markText.f k a = some (mtx a) := by
  have h : ∃ r, laws_markText.f 20 a = some r := by
    unfold laws_markText.f
    by_cases h : a ≤ 0
    · rw [if_pos h]; exact ⟨_, rfl⟩
    · rw [if_neg h]
      exact markText_l0 10 20 a _ h0 (by omega) (by omega) (by decide) (by omega)
  obtain ⟨r, hr⟩ := h
  have e : mtx a = r := by unfold mtx; rw [hr]; rfl
  rw [e]
  exact up (f := fun k => laws_markText.f k a) (fun k => laws_markText.mono _ k) hr k hk
theorem markStringS_l0 (a0 : Int) (h0 : 0 ≤ a0) (h1 : a0 ≤ 1000) (d : Nat) : ∀ (k : Nat) (l : List ByteArray) (i : Nat), i + d = l.length → 30 + d < k → (l.length : Int) ≤ 100000000 → (∀ j, j < i → l.getD j ByteArray.empty = mtx (a0 + j)) →
    ∃ r, laws_markStringS.l0 k l (a0 + i) i = some (a0 + l.length, r) ∧ r.length = l.length ∧ ∀ j, j < l.length → r.getD j ByteArray.empty = mtx (a0 + j) := by
  induction d with
  | zero =>
    intro k l i hi hk hl hm
    obtain ⟨k, rfl⟩ : ∃ m, k = m + 1 := ⟨k - 1, by omega⟩
    obtain rfl : i = l.length := by omega
    rw [laws_markStringS.l0, if_neg (by omega)]
    exact ⟨l, rfl, rfl, hm⟩
  | succ d ih =>
    intro k l i hi hk hl hm
    obtain ⟨k, rfl⟩ : ∃ m, k = m + 1 := ⟨k - 1, by omega⟩
    rw [laws_markStringS.l0, if_pos (by omega), markText_f (by omega) (by omega) (by omega), Option.bind_some, if_pos (by omega), wrap_id (x := a0 + (i : Int) + 1) (by omega) (by omega), wrap_id (x := (i : Int) + 1) (by omega) (by omega), Int.toNat_natCast]
    obtain ⟨r, e, e1, e2⟩ := ih k (l.set i (mtx (a0 + i))) (i + 1) (by rw [List.length_set]; omega) (by omega) (by rw [List.length_set]; omega) (fun j hj => by
      rw [List.getD_eq_getElem?_getD, List.getElem?_set]
      by_cases h : i = j
      · subst h; rw [if_pos rfl, if_pos (by omega)]; rfl
      · rw [if_neg h, ← List.getD_eq_getElem?_getD]; exact hm j (by omega))
    rw [List.length_set] at e e1 e2
    exact ⟨r, by rw [← e]; congr 1 <;> omega, e1, e2⟩
theorem heldStringS_l0 (a0 : Int) (h0 : 0 ≤ a0) (h1 : a0 ≤ 1000) (l : List ByteArray) (hl : (l.length : Int) ≤ 100000000) (hm : ∀ j, j < l.length → l.getD j ByteArray.empty = mtx (a0 + j)) (d : Nat) : ∀ (k i : Nat), i + d = l.length → 30 + d < k → laws_heldStringS.l0 k l (a0 + i) i = some (a0 + l.length) := by
  induction d with
  | zero =>
    intro k i hi hk
    obtain ⟨k, rfl⟩ : ∃ m, k = m + 1 := ⟨k - 1, by omega⟩
    rw [laws_heldStringS.l0, if_neg (by omega), show i = l.length by omega]
  | succ d ih =>
    intro k i hi hk
    obtain ⟨k, rfl⟩ : ∃ m, k = m + 1 := ⟨k - 1, by omega⟩
    have e : rdOf ByteArray.empty l (i : Int) = mtx (a0 + i) := by unfold rdOf; rw [Int.toNat_natCast]; exact hm i (by omega)
    rw [laws_heldStringS.l0, if_pos (by omega), if_pos (by omega), markText_f (by omega) (by omega) (by omega), Option.bind_some, e, if_pos rfl, wrap_id (x := a0 + (i : Int) + 1) (by omega) (by omega), wrap_id (x := (i : Int) + 1) (by omega) (by omega)]
    have := ih k (i + 1) (by omega) (by omega)
    rw [← this]; congr 1 <;> omega
theorem marksS {l : List ByteArray} (hl : (l.length : Int) ≤ 100000000) {k : Nat} (hk : 30 + l.length < k) : ∃ r, laws_markStringS.f k l 1 = some (1 + (l.length : Int), r) ∧ laws_heldStringS.f k r 1 = some (1 + (l.length : Int)) := by
  obtain ⟨r, e, e1, e2⟩ := markStringS_l0 1 (by omega) (by omega) l.length k l 0 (by omega) (by omega) hl (fun j hj => absurd hj (Nat.not_lt_zero _))
  have h := heldStringS_l0 1 (by omega) (by omega) r (by rw [e1]; exact hl) (fun j hj => e2 j (by omega)) r.length k 0 (by omega) (by omega)
  refine ⟨r, e, ?_⟩
  rw [e1] at h
  exact h
theorem all_l0 {n : Nat} (h : n ≤ 8) (d : Nat) : ∀ (i : Nat) (out : List ByteArray), (i : Int) + d = W 0 n → (out.length : Int) ≤ i →
    ∃ res, (res.length : Int) ≤ W 0 n ∧ ∀ K, 5000 + d ≤ K → spec_AllLoops.l0 K n out i = some (res, true) ∧ impl_allLoops.l0 K n out (W 0 n) i = some res := by
  have hW := (W_bd (o := 0) (l := n) (by omega)).2
  obtain ⟨c1, _⟩ := loc_told h
  induction d with
  | zero =>
    intro i out hi ho
    refine ⟨out, by omega, fun K hK => ?_⟩
    obtain ⟨K, rfl⟩ : ∃ m, K = m + 1 := ⟨K - 1, by omega⟩
    rw [spec_AllLoops.l0, c1 K (by omega), Option.bind_some, if_neg (by omega), impl_allLoops.l0, if_neg (by omega)]
    exact ⟨rfl, rfl⟩
  | succ d ih =>
    intro i out hi ho
    obtain ⟨t, ht⟩ := ranked_both h (r := (i : Int)) (by omega) (by omega)
    obtain ⟨res, hr, hres⟩ := ih (i + 1) (out ++ [t]) (by omega) (by rw [List.length_append, List.length_singleton]; omega)
    refine ⟨res, hr, fun K hK => ?_⟩
    obtain ⟨K, rfl⟩ : ∃ m, K = m + 1 := ⟨K - 1, by omega⟩
    have e := hres K (by omega)
    have e1 : wrap64 ((i : Int) + 1) = ((i + 1 : Nat) : Int) := by rw [wrap_id (by omega) (by omega)]; omega
    rw [spec_AllLoops.l0, c1 K (by omega), Option.bind_some, if_pos (by omega), (ht K (by omega)).1, Option.bind_some, if_pos (by omega), e1, impl_allLoops.l0, if_pos (by omega), (ht K (by omega)).2, Option.bind_some, if_pos (by omega), e1]
    exact e
theorem FnExactAllLoops : laws_FnExactAllLoops.Pure := by
  intro a _
  have key : ∃ (r : List ByteArray × Bool), (r.1.length : Int) ≤ 10000000 ∧ ∀ K, 20000000 ≤ K → spec_AllLoops.f K a = some r ∧ impl_AllLoops.f K a = some r := by
    unfold spec_AllLoops.f impl_AllLoops.f impl_allLoops.f spec_l1In.f impl_within.f
    by_cases ha : 0 ≤ a ∧ a ≤ 4
    · obtain ⟨n, rfl⟩ : ∃ n : Nat, a = n := ⟨a.toNat, by omega⟩
      have hn : n ≤ 8 := by omega
      have hW := W_bd (o := 0) (l := n) (by omega)
      obtain ⟨w1, _, _, _⟩ := W_told (o := 0) (l := n) (by omega)
      obtain ⟨res, hr, hres⟩ := all_l0 hn (W 0 n).toNat 0 [] (by omega) (by simp)
      refine ⟨(res, true), by simp only; omega, fun K hK => ?_⟩
      have w1 : impl_countOn.f K 0 (n : Int) = some (W 0 n) := w1 K (by omega)
      have e := hres K (by omega)
      have e : spec_AllLoops.l0 K n [] 0 = some (res, true) ∧ impl_allLoops.l0 K n [] (W 0 n) 0 = some res := e
      rw [if_pos (show (n : Int) ≥ 0 by omega), decide_eq_true (show (n : Int) ≤ 4 by omega)]
      simp only [Option.bind_some, if_true]
      rw [w1, Option.bind_some, e.1, e.2]
      exact ⟨rfl, rfl⟩
    · refine ⟨([], false), by simp, fun K _ => ?_⟩
      by_cases h0 : a ≥ 0
      · rw [if_pos h0, decide_eq_false (show ¬ a ≤ 4 by omega)]
        exact ⟨rfl, rfl⟩
      · rw [if_neg h0]
        exact ⟨rfl, rfl⟩
  obtain ⟨r, hr, hb⟩ := key
  obtain ⟨K, hK⟩ : ∃ K : Nat, 20000000 ≤ K := ⟨20000000, Nat.le_refl _⟩
  refine ⟨K, ?_⟩
  obtain ⟨b1, b2⟩ := hb K hK
  obtain ⟨m, m1, m2⟩ := marksS (l := r.1) (by omega) (k := K) (by omega)
  unfold laws_FnExactAllLoops.f
  rw [b1, b2]
  simp only [Option.bind_some]
  rw [eqStringS_self (by omega) (by omega)]
  simp only [Option.bind_some, if_true, bne_self_eq_false, Bool.false_eq_true, if_false]
  rw [m1]
  simp only [Option.bind_some]
  rw [m2]
  simp only [Option.bind_some, if_true]
  repeat rw [if_neg (by omega)]

end Go.Proofs.Ytdellbpjfbggaaa.Pure
