/- A part of this seat's proofs: contracts of the translated functions, written by the session's own program (gp.py) out of the kit's print.py and the session's own contracts; no conditions of its own. -/
import Derived.Test.YtheijdpplihigaaPx0
namespace Go.Proofs.Ytheijdpplihigaa.P
open Go.RowKit Go.Proofs.YtheijdpplihigaaW.PrintWords Go.Proofs.YtheijdpplihigaaW.PrintLast Go.Proofs.YtheijdpplihigaaW.PrintMore
attribute [local go_sem] max2_int min2_int max_two min_two max_three min_three max_four min_four   -- for this text's walks alone
set_option linter.unusedVariables false
set_option linter.unusedSimpArgs false

/-! ### given: 46a_stable.tpl -/
/-- Two places exchanged. -/
def sw1 (f : Nat → Int) (i j : Nat) : Nat → Int := fun t => if t = j then f i else if t = i then f j else f t
/-- Two rows of places exchanged. -/
def swR (f : Nat → Int) (a b n : Nat) : Nat → Int := fun t => if a ≤ t ∧ t < a + n then f (t - a + b) else if b ≤ t ∧ t < b + n then f (t - b + a) else f t
/-- Two blocks that lie beside each other exchanged. -/
def rotF (f : Nat → Int) (a m b : Nat) : Nat → Int := fun t => if a ≤ t ∧ t < a + (b - m) then f (t - a + m) else if a + (b - m) ≤ t ∧ t < b then f (t - (b - m)) else f t
theorem swR_zero (f : Nat → Int) (a b : Nat) : swR f a b 0 = f := by
  funext t; unfold swR; rw [if_neg (by omega), if_neg (by omega)]
theorem swR_succ (f : Nat → Int) (a b i : Nat) (h : a + i < b) : sw1 (swR f a b i) (a + i) (b + i) = swR f a b (i + 1) := by
  funext t
  simp only [sw1, swR]
  repeat' split
  all_goals first | (congr 1; omega) | (exfalso; omega) | rfl
theorem rot_big (f : Nat → Int) (m i j : Nat) (hm : i ≤ m) (h : j < i) (h0 : 0 < j) : rotF (swR f (m - i) m j) (m - (i - j)) m (m + j) = rotF f (m - i) m (m + j) := by
  funext t
  simp only [rotF, swR]
  repeat' split
  all_goals first | (congr 1; omega) | (exfalso; omega) | rfl
theorem rot_small (f : Nat → Int) (m i j : Nat) (hm : i ≤ m) (h : i < j) (h0 : 0 < i) : rotF (swR f (m - i) (m + j - i) i) (m - i) m (m + (j - i)) = rotF f (m - i) m (m + j) := by
  funext t
  simp only [rotF, swR]
  repeat' split
  all_goals first | (congr 1; omega) | (exfalso; omega) | rfl
theorem rot_same (f : Nat → Int) (m i : Nat) (hm : i ≤ m) : swR f (m - i) m i = rotF f (m - i) m (m + i) := by
  funext t
  simp only [rotF, swR]
  repeat' split
  all_goals first | (congr 1; omega) | (exfalso; omega) | rfl
theorem rot_none (f : Nat → Int) (a m b : Nat) (h : a = m ∨ m = b) (hb : m ≤ b) : rotF f a m b = f := by
  funext t
  unfold rotF
  rcases h with rfl | rfl
  · by_cases h1 : a ≤ t ∧ t < a + (b - a)
    · rw [if_pos h1]; congr 1; omega
    · rw [if_neg h1, if_neg (by omega)]
  · by_cases h1 : a ≤ t ∧ t < m
    · rw [if_neg (by omega), if_pos (by omega)]; congr 1; omega
    · rw [if_neg (by omega), if_neg (by omega)]
/-- The head goes on by one place. -/
theorem rot_head (f : Nat → Int) (a k : Nat) (h : a ≤ k) : sw1 (rotF f a (a + 1) (k + 1)) k (k + 1) = rotF f a (a + 1) (k + 2) := by
  funext t
  simp only [rotF, sw1]
  repeat' split
  all_goals first | (congr 1; omega) | (exfalso; omega) | rfl
/-- The last one goes back by one place. -/
theorem rot_last (f : Nat → Int) (k m : Nat) (h : k < m) : sw1 (rotF f (k + 1) m (m + 1)) (k + 1) k = rotF f k m (m + 1) := by
  funext t
  simp only [rotF, sw1]
  repeat' split
  all_goals first | (congr 1; omega) | (exfalso; omega) | rfl

/-- The order of two numbers: by a comparison first, by size then. -/
def lt2 (c : Int → Int → Int) (x y : Int) : Prop := c x y < 0 ∨ c x y = 0 ∧ x < y
def SdF (c : Int → Int → Int) (f : Nat → Int) (a b : Nat) : Prop := ∀ s t, a ≤ s → s < t → t < b → lt2 c (f s) (f t)
/-- The numbers of one place are less than those of another one. -/
def UpF (f : Nat → Int) (a m b : Nat) : Prop := ∀ s t, a ≤ s → s < m → m ≤ t → t < b → f s < f t
def SameF (f f' : Nat → Int) (a b : Nat) : Prop := (∀ t, ¬ (a ≤ t ∧ t < b) → f' t = f t) ∧ (∀ t, a ≤ t → t < b → ∃ s, a ≤ s ∧ s < b ∧ f' t = f s) ∧ (∀ t, a ≤ t → t < b → ∃ s, a ≤ s ∧ s < b ∧ f t = f' s)
theorem SameF.refl (f : Nat → Int) (a b : Nat) : SameF f f a b := ⟨fun _ _ => rfl, fun t h1 h2 => ⟨t, h1, h2, rfl⟩, fun t h1 h2 => ⟨t, h1, h2, rfl⟩⟩
theorem SameF.trans {f g h : Nat → Int} {a b : Nat} (h1 : SameF f g a b) (h2 : SameF g h a b) : SameF f h a b := by
  refine ⟨fun t ht => (h2.1 t ht).trans (h1.1 t ht), fun t p q => ?_, fun t p q => ?_⟩
  · obtain ⟨s, p1, q1, e1⟩ := h2.2.1 t p q
    obtain ⟨s2, p2, q2, e2⟩ := h1.2.1 s p1 q1
    exact ⟨s2, p2, q2, e1.trans e2⟩
  · obtain ⟨s, p1, q1, e1⟩ := h1.2.2 t p q
    obtain ⟨s2, p2, q2, e2⟩ := h2.2.2 s p1 q1
    exact ⟨s2, p2, q2, e1.trans e2⟩
theorem SameF.wide {f g : Nat → Int} {a b a' b' : Nat} (h : SameF f g a b) (ha : a' ≤ a) (hb : b ≤ b') : SameF f g a' b' := by
  refine ⟨fun t ht => h.1 t (by omega), fun t p q => ?_, fun t p q => ?_⟩
  · by_cases hc : a ≤ t ∧ t < b
    · obtain ⟨s, p1, q1, e1⟩ := h.2.1 t hc.1 hc.2
      exact ⟨s, by omega, by omega, e1⟩
    · exact ⟨t, p, q, h.1 t hc⟩
  · by_cases hc : a ≤ t ∧ t < b
    · obtain ⟨s, p1, q1, e1⟩ := h.2.2 t hc.1 hc.2
      exact ⟨s, by omega, by omega, e1⟩
    · exact ⟨t, p, q, (h.1 t hc).symm⟩
theorem rot_Same (f : Nat → Int) (a m b : Nat) (h1 : a ≤ m) (h2 : m ≤ b) : SameF f (rotF f a m b) a b := by
  refine ⟨fun t ht => ?_, fun t p q => ?_, fun t p q => ?_⟩
  · unfold rotF; rw [if_neg (by omega), if_neg (by omega)]
  · by_cases hc : t < a + (b - m)
    · exact ⟨t - a + m, by omega, by omega, by unfold rotF; rw [if_pos (by omega)]⟩
    · exact ⟨t - (b - m), by omega, by omega, by unfold rotF; rw [if_neg (by omega), if_pos (by omega)]⟩
  · by_cases hc : t < m
    · refine ⟨t + (b - m), by omega, by omega, ?_⟩
      unfold rotF; rw [if_neg (by omega), if_pos (by omega)]; congr 1; omega
    · refine ⟨t - m + a, by omega, by omega, ?_⟩
      unfold rotF; rw [if_pos (by omega)]; congr 1; omega
/-- What a comparison has to be on the numbers that lie there. -/
structure OrdF (c : Int → Int → Int) (G : Int → Prop) : Prop where
  anti : ∀ x y, G x → G y → (c x y < 0 ↔ 0 < c y x)
  trans : ∀ x y z, G x → G y → G z → c x y ≤ 0 → c y z ≤ 0 → c x z ≤ 0 ∧ (c x y < 0 ∨ c y z < 0 → c x z < 0)
theorem lt2_trans {c : Int → Int → Int} {G : Int → Prop} (O : OrdF c G) {x y z : Int} (gx : G x) (gy : G y) (gz : G z) (h1 : lt2 c x y) (h2 : lt2 c y z) : lt2 c x z := by
  have h := O.trans x y z gx gy gz (by rcases h1 with h | h <;> omega) (by rcases h2 with h | h <;> omega)
  rcases h1 with h1 | h1
  · exact .inl (h.2 (.inl h1))
  · rcases h2 with h2 | h2
    · exact .inl (h.2 (.inr h2))
    · have := O.anti x z gx gz
      have h3 := h.1
      by_cases h4 : c x z < 0
      · exact .inl h4
      · exact .inr ⟨by omega, by omega⟩
/-- A later number goes before an earlier one only by the comparison. -/
theorem lt2_back {c : Int → Int → Int} {x y : Int} (h : y < x) : c x y < 0 ↔ lt2 c x y := by
  constructor
  · exact .inl
  · rintro (h1 | h1)
    · exact h1
    · omega
theorem lt2_else {c : Int → Int → Int} {G : Int → Prop} (O : OrdF c G) {x y : Int} (gx : G x) (gy : G y) (h : y < x) (hn : ¬ c x y < 0) : lt2 c y x := by
  by_cases h1 : c y x < 0
  · exact .inl h1
  · have e1 := O.anti x y gx gy
    have e2 := O.anti y x gy gx
    exact .inr ⟨by omega, h⟩
theorem lt2_irrefl {c : Int → Int → Int} {G : Int → Prop} (O : OrdF c G) {x : Int} (gx : G x) : ¬ lt2 c x x := by
  have := O.anti x x gx gx
  rintro (h | h) <;> omega
theorem Sd_join {c : Int → Int → Int} {G : Int → Prop} (O : OrdF c G) {f : Nat → Int} {a m b : Nat} (hG : ∀ t, a ≤ t → t < b → G (f t)) (h1 : SdF c f a m) (h2 : SdF c f m b) (h3 : a < m → m < b → lt2 c (f (m - 1)) (f m)) : SdF c f a b := by
  intro s t hs hst ht
  by_cases e1 : t < m
  · exact h1 s t hs hst e1
  · by_cases e2 : m ≤ s
    · exact h2 s t e2 hst ht
    · have k1 : lt2 c (f s) (f m) := by
        by_cases e3 : s = m - 1
        · subst e3; exact h3 (by omega) (by omega)
        · exact lt2_trans O (hG _ (by omega) (by omega)) (hG _ (by omega) (by omega)) (hG _ (by omega) (by omega)) (h1 s (m - 1) hs (by omega) (by omega)) (h3 (by omega) (by omega))
      by_cases e4 : t = m
      · subst e4; exact k1
      · exact lt2_trans O (hG _ (by omega) (by omega)) (hG _ (by omega) (by omega)) (hG _ (by omega) (by omega)) k1 (h2 m t (Nat.le_refl _) (by omega) ht)
/-- Behind a rotation at the right places the first numbers all come before the last ones. -/
theorem rot_cross {c : Int → Int → Int} {G : Int → Prop} (O : OrdF c G) {f : Nat → Int} {a m b st en : Nat} (hG : ∀ t, a ≤ t → t < b → G (f t)) (h1 : SdF c f a m) (h2 : SdF c f m b) (ha : a ≤ st) (hst : st ≤ m) (hen : m ≤ en) (heb : en ≤ b)
    (hx : a < st → en < b → lt2 c (f (st - 1)) (f en)) (hy : m < en → st < m → lt2 c (f (en - 1)) (f st)) :
    ∀ s t, a ≤ s → s < st + (en - m) → st + (en - m) ≤ t → t < b → lt2 c (rotF f st m en s) (rotF f st m en t) := by
  have g : ∀ {s t}, a ≤ s → s < b → a ≤ t → t < b → G (f s) ∧ G (f t) := fun p q r u => ⟨hG _ p q, hG _ r u⟩
  intro s t hs1 hs2 ht1 ht2
  have es : rotF f st m en s = if s < st then f s else f (s - st + m) := by
    unfold rotF
    by_cases h : s < st
    · rw [if_neg (by omega), if_neg (by omega), if_pos h]
    · rw [if_pos (by omega), if_neg h]
  have et : rotF f st m en t = if t < en then f (t - (en - m)) else f t := by
    unfold rotF
    by_cases h : t < en
    · rw [if_neg (by omega), if_pos (by omega), if_pos h]
    · rw [if_neg (by omega), if_neg (by omega), if_neg h]
  rw [es, et]
  by_cases k1 : s < st
  · rw [if_pos k1]
    by_cases k2 : t < en
    · rw [if_pos k2]; exact h1 _ _ hs1 (by omega) (by omega)
    · rw [if_neg k2]
      have q := hx (by omega) (by omega)
      have q1 : lt2 c (f s) (f en) := by
        by_cases e : s = st - 1
        · subst e; exact q
        · exact lt2_trans O (hG _ (by omega) (by omega)) (hG _ (by omega) (by omega)) (hG _ (by omega) (by omega)) (h1 s (st - 1) hs1 (by omega) (by omega)) q
      by_cases e : t = en
      · subst e; exact q1
      · exact lt2_trans O (hG _ (by omega) (by omega)) (hG _ (by omega) (by omega)) (hG _ (by omega) (by omega)) q1 (h2 en t hen (by omega) ht2)
  · rw [if_neg k1]
    by_cases k2 : t < en
    · rw [if_pos k2]
      have q := hy (by omega) (by omega)
      have q1 : lt2 c (f (s - st + m)) (f st) := by
        by_cases e : s - st + m = en - 1
        · rw [e]; exact q
        · exact lt2_trans O (hG _ (by omega) (by omega)) (hG _ (by omega) (by omega)) (hG _ (by omega) (by omega)) (h2 (s - st + m) (en - 1) (by omega) (by omega) (by omega)) q
      by_cases e : t - (en - m) = st
      · rw [e]; exact q1
      · exact lt2_trans O (hG _ (by omega) (by omega)) (hG _ (by omega) (by omega)) (hG _ (by omega) (by omega)) q1 (h1 st (t - (en - m)) (by omega) (by omega) (by omega))
    · rw [if_neg k2]; exact h2 _ _ (by omega) (by omega) ht2
theorem rot_parts {c : Int → Int → Int} {f : Nat → Int} {a m b st en : Nat} (h1 : SdF c f a m) (h2 : SdF c f m b) (h3 : UpF f a m b) (ha : a ≤ st) (hst : st ≤ m) (hen : m ≤ en) (heb : en ≤ b) :
    SdF c (rotF f st m en) a st ∧ SdF c (rotF f st m en) st (st + (en - m)) ∧ SdF c (rotF f st m en) (st + (en - m)) en ∧ SdF c (rotF f st m en) en b ∧ UpF (rotF f st m en) a st (st + (en - m)) ∧ UpF (rotF f st m en) (st + (en - m)) en b := by
  have e1 : ∀ t, t < st → rotF f st m en t = f t := fun t h => by unfold rotF; rw [if_neg (by omega), if_neg (by omega)]
  have e2 : ∀ t, st ≤ t → t < st + (en - m) → rotF f st m en t = f (t - st + m) := fun t h h' => by unfold rotF; rw [if_pos (by omega)]
  have e3 : ∀ t, st + (en - m) ≤ t → t < en → rotF f st m en t = f (t - (en - m)) := fun t h h' => by unfold rotF; rw [if_neg (by omega), if_pos (by omega)]
  have e4 : ∀ t, en ≤ t → rotF f st m en t = f t := fun t h => by unfold rotF; rw [if_neg (by omega), if_neg (by omega)]
  refine ⟨fun s t p q r => ?_, fun s t p q r => ?_, fun s t p q r => ?_, fun s t p q r => ?_, fun s t p q r u => ?_, fun s t p q r u => ?_⟩
  · rw [e1 s (by omega), e1 t (by omega)]; exact h1 _ _ p q (by omega)
  · rw [e2 s (by omega) (by omega), e2 t (by omega) (by omega)]; exact h2 _ _ (by omega) (by omega) (by omega)
  · rw [e3 s (by omega) (by omega), e3 t (by omega) (by omega)]; exact h1 _ _ (by omega) (by omega) (by omega)
  · rw [e4 s (by omega), e4 t (by omega)]; exact h2 _ _ (by omega) (by omega) (by omega)
  · rw [e1 s (by omega), e2 t (by omega) (by omega)]; exact h3 _ _ (by omega) (by omega) (by omega) (by omega)
  · rw [e3 s (by omega) (by omega), e4 t (by omega)]; exact h3 _ _ (by omega) (by omega) (by omega) (by omega)
/-- Two rows beside each other in order, and all of the first before all of the second. -/
theorem Sd_two {c : Int → Int → Int} {f : Nat → Int} {a m b : Nat} (h1 : SdF c f a m) (h2 : SdF c f m b) (h3 : ∀ s t, a ≤ s → s < m → m ≤ t → t < b → lt2 c (f s) (f t)) : SdF c f a b := by
  intro s t hs hst ht
  by_cases e1 : t < m
  · exact h1 s t hs hst e1
  · by_cases e2 : m ≤ s
    · exact h2 s t e2 hst ht
    · exact h3 s t hs (by omega) (by omega) ht
/-- One number more, put in where it belongs. -/
theorem put_last {c : Int → Int → Int} {G : Int → Prop} (O : OrdF c G) {f : Nat → Int} {a i j : Nat} (hG : ∀ t, a ≤ t → t < i + 1 → G (f t)) (h1 : SdF c f a i) (ha : a ≤ j) (hj : j ≤ i) (hx : a < j → lt2 c (f (j - 1)) (f i)) (hy : j < i → lt2 c (f i) (f j)) : SdF c (rotF f j i (i + 1)) a (i + 1) := by
  have e1 : ∀ t, t < j → rotF f j i (i + 1) t = f t := fun t h => by unfold rotF; rw [if_neg (by omega), if_neg (by omega)]
  have e2 : rotF f j i (i + 1) j = f i := by unfold rotF; rw [if_pos (by omega)]; congr 1; omega
  have e3 : ∀ t, j + 1 ≤ t → t < i + 1 → rotF f j i (i + 1) t = f (t - 1) := fun t h h' => by unfold rotF; rw [if_neg (by omega), if_pos (by omega)]; congr 1; omega
  have hG' : ∀ t, a ≤ t → t < i + 1 → G (rotF f j i (i + 1) t) := fun t p q => by
    obtain ⟨s, p1, q1, e⟩ := (rot_Same f j i (i + 1) hj (by omega)).wide (a' := a) (b' := i + 1) ha (Nat.le_refl _) |>.2.1 t p q
    rw [e]; exact hG s p1 q1
  refine Sd_join O hG' (m := j) (fun s t p q r => by rw [e1 s (by omega), e1 t (by omega)]; exact h1 _ _ p q (by omega)) ?_ (fun k1 k2 => by rw [e1 _ (by omega), e2]; exact hx k1)
  refine Sd_join O (fun t p q => hG' t (by omega) q) (m := j + 1) (fun s t p q r => by omega) (fun s t p q r => by rw [e3 s (by omega) (by omega), e3 t (by omega) (by omega)]; exact h1 _ _ (by omega) (by omega) (by omega)) (fun k1 k2 => ?_)
  rw [show j + 1 - 1 = j by omega, e2, e3 (j + 1) (by omega) (by omega), show j + 1 - 1 = j by omega]
  exact hy (by omega)
/-- One number ahead of others, put in where it belongs. -/
theorem put_head {c : Int → Int → Int} {G : Int → Prop} (O : OrdF c G) {f : Nat → Int} {a b i : Nat} (hG : ∀ t, a ≤ t → t < b → G (f t)) (h2 : SdF c f (a + 1) b) (ha : a + 1 ≤ i) (hi : i ≤ b) (hx : a + 1 < i → lt2 c (f (i - 1)) (f a)) (hy : i < b → lt2 c (f a) (f i)) : SdF c (rotF f a (a + 1) i) a b := by
  have e1 : ∀ t, a ≤ t → t < i - 1 → rotF f a (a + 1) i t = f (t + 1) := fun t h h' => by unfold rotF; rw [if_pos (by omega)]; congr 1; omega
  have e2 : rotF f a (a + 1) i (i - 1) = f a := by unfold rotF; rw [if_neg (by omega), if_pos (by omega)]; congr 1; omega
  have e3 : ∀ t, i ≤ t → rotF f a (a + 1) i t = f t := fun t h => by unfold rotF; rw [if_neg (by omega), if_neg (by omega)]
  have hG' : ∀ t, a ≤ t → t < b → G (rotF f a (a + 1) i t) := fun t p q => by
    obtain ⟨s, p1, q1, e⟩ := (rot_Same f a (a + 1) i (by omega) (by omega)).wide (a' := a) (b' := b) (Nat.le_refl _) hi |>.2.1 t p q
    rw [e]; exact hG s p1 q1
  refine Sd_join O hG' (m := i) ?_ (fun s t p q r => by rw [e3 s (by omega), e3 t (by omega)]; exact h2 _ _ (by omega) q r) (fun k1 k2 => by rw [e2, e3 i (by omega)]; exact hy k2)
  refine Sd_join O (fun t p q => hG' t p (by omega)) (m := i - 1) (fun s t p q r => by rw [e1 s (by omega) (by omega), e1 t (by omega) (by omega)]; exact h2 _ _ (by omega) (by omega) (by omega)) (fun s t p q r => by omega) (fun k1 k2 => ?_)
  rw [e1 _ (by omega) (by omega), e2, show i - 1 - 1 + 1 = i - 1 by omega]
  exact hx (by omega)
/-- Two rows in order beside each other, the numbers of the first all less than those of the second. -/
structure MgF (c : Int → Int → Int) (G : Int → Prop) (f : Nat → Int) (a m b : Nat) : Prop where
  am : a < m
  mb : m < b
  hG : ∀ t, a ≤ t → t < b → G (f t)
  s1 : SdF c f a m
  s2 : SdF c f m b
  up : UpF f a m b
def DoneF (c : Int → Int → Int) (f f' : Nat → Int) (a b : Nat) : Prop := SdF c f' a b ∧ SameF f f' a b
theorem MgF.head {c : Int → Int → Int} {G : Int → Prop} (O : OrdF c G) {f : Nat → Int} {a b i : Nat} (M : MgF c G f a (a + 1) b) (ha : a + 1 ≤ i) (hi : i ≤ b) (hx : a + 1 < i → c (f (i - 1)) (f a) < 0) (hy : i < b → ¬ c (f i) (f a) < 0) : DoneF c f (rotF f a (a + 1) i) a b :=
  ⟨put_head O M.hG M.s2 ha hi (fun h => .inl (hx h)) (fun h => lt2_else O (M.hG _ (by omega) (by omega)) (M.hG _ (by omega) (by omega)) (M.up a i (by omega) (by omega) (by omega) h) (hy h)),
    (rot_Same f a (a + 1) i (by omega) ha).wide (Nat.le_refl _) hi⟩
theorem MgF.last {c : Int → Int → Int} {G : Int → Prop} (O : OrdF c G) {f : Nat → Int} {a m i : Nat} (M : MgF c G f a m (m + 1)) (ha : a ≤ i) (hi : i ≤ m) (hx : a < i → ¬ c (f m) (f (i - 1)) < 0) (hy : i < m → c (f m) (f i) < 0) : DoneF c f (rotF f i m (m + 1)) a (m + 1) :=
  ⟨put_last O M.hG M.s1 ha hi (fun h => lt2_else O (M.hG _ (by omega) (by omega)) (M.hG _ (by omega) (by omega)) (M.up (i - 1) m (by omega) (by omega) (by omega) (by omega)) (hx h)) (fun h => .inl (hy h)),
    (rot_Same f i m (m + 1) hi (by omega)).wide ha (Nat.le_refl _)⟩
/-- The places between which a merge cuts. -/
structure CutsF (c : Int → Int → Int) (f : Nat → Int) (a m b st en : Nat) : Prop where
  ha : a ≤ st
  hst : st ≤ m
  hen : m ≤ en
  heb : en ≤ b
  hx : a < st → en < b → ¬ c (f en) (f (st - 1)) < 0
  hy : m < en → st < m → c (f (en - 1)) (f st) < 0
theorem MgF.left {c : Int → Int → Int} {G : Int → Prop} {f : Nat → Int} {a m b st en : Nat} (M : MgF c G f a m b) (C : CutsF c f a m b st en) (h1 : a < st) (h2 : st < st + (en - m)) : MgF c G (rotF f st m en) a st (st + (en - m)) := by
  obtain ⟨p1, p2, p3, p4, p5, p6⟩ := rot_parts M.s1 M.s2 M.up C.ha C.hst C.hen C.heb
  refine ⟨h1, h2, fun t p q => ?_, p1, p2, p5⟩
  have := C.heb
  have := C.hst
  obtain ⟨s, q1, q2, e⟩ := ((rot_Same f st m en C.hst C.hen).wide C.ha C.heb).2.1 t p (by omega)
  rw [e]; exact M.hG s q1 q2
theorem MgF.right {c : Int → Int → Int} {G : Int → Prop} {f h : Nat → Int} {a m b st en : Nat} (M : MgF c G f a m b) (C : CutsF c f a m b st en) (S : SameF (rotF f st m en) h a (st + (en - m))) (h1 : st + (en - m) < en) (h2 : en < b) : MgF c G h (st + (en - m)) en b := by
  obtain ⟨p1, p2, p3, p4, p5, p6⟩ := rot_parts M.s1 M.s2 M.up C.ha C.hst C.hen C.heb
  have hh : ∀ t, st + (en - m) ≤ t → h t = rotF f st m en t := fun t ht => S.1 t (by omega)
  refine ⟨h1, h2, fun t p q => ?_, fun s t p q r => by rw [hh s p, hh t (by omega)]; exact p3 s t p q r, fun s t p q r => by rw [hh s (by omega), hh t (by omega)]; exact p4 s t p q r, fun s t p q r u => by rw [hh s (by omega), hh t (by omega)]; exact p6 s t p q r u⟩
  rw [hh t p]
  have := C.ha
  obtain ⟨s, q1, q2, e⟩ := ((rot_Same f st m en C.hst C.hen).wide C.ha C.heb).2.1 t (by omega) q
  rw [e]; exact M.hG s q1 q2
theorem MgF.done {c : Int → Int → Int} {G : Int → Prop} (O : OrdF c G) {f h k : Nat → Int} {a m b st en : Nat} (M : MgF c G f a m b) (C : CutsF c f a m b st en)
    (L : (a < st ∧ st < st + (en - m) ∧ DoneF c (rotF f st m en) h a (st + (en - m))) ∨ (¬ (a < st ∧ st < st + (en - m)) ∧ h = rotF f st m en))
    (R : (st + (en - m) < en ∧ en < b ∧ DoneF c h k (st + (en - m)) b) ∨ (¬ (st + (en - m) < en ∧ en < b) ∧ k = h)) : DoneF c f k a b := by
  have c1 := C.ha; have c2 := C.hst; have c3 := C.hen; have c4 := C.heb
  obtain ⟨p1, p2, p3, p4, p5, p6⟩ := rot_parts M.s1 M.s2 M.up C.ha C.hst C.hen C.heb
  have cr := rot_cross O M.hG M.s1 M.s2 C.ha C.hst C.hen C.heb
    (fun q1 q2 => lt2_else O (M.hG _ (by omega) (by omega)) (M.hG _ (by omega) (by omega)) (M.up (st - 1) en (by omega) (by omega) (by omega) (by omega)) (C.hx q1 q2))
    (fun q1 q2 => .inl (C.hy q1 q2))
  have rs := (rot_Same f st m en C.hst C.hen).wide C.ha C.heb
  have l : SdF c h a (st + (en - m)) ∧ SameF (rotF f st m en) h a (st + (en - m)) := by
    rcases L with ⟨_, _, d⟩ | ⟨n, rfl⟩
    · exact d
    · refine ⟨?_, SameF.refl _ _ _⟩
      by_cases e : a = st
      · subst e; exact p2
      · rw [show st + (en - m) = st by omega]; exact p1
  have hh : ∀ t, st + (en - m) ≤ t → h t = rotF f st m en t := fun t ht => l.2.1 t (by omega)
  have r : SdF c k (st + (en - m)) b ∧ SameF h k (st + (en - m)) b := by
    rcases R with ⟨_, _, d⟩ | ⟨n, rfl⟩
    · exact d
    · refine ⟨?_, SameF.refl _ _ _⟩
      by_cases e : en = b
      · subst e; intro s t p q r; rw [hh s p, hh t (by omega)]; exact p3 s t p q r
      · rw [show st + (en - m) = en by omega] at hh ⊢; intro s t p q r; rw [hh s (by omega), hh t (by omega)]; exact p4 s t p q r
  have kk : ∀ t, t < st + (en - m) → k t = h t := fun t ht => r.2.1 t (by omega)
  refine ⟨Sd_two (m := st + (en - m)) (fun s t p q u => by rw [kk s (by omega), kk t u]; exact l.1 s t p q u) r.1 (fun s t q1 q2 q3 q4 => ?_), rs.trans ((l.2.wide (Nat.le_refl _) (by omega)).trans (r.2.wide (by omega) (Nat.le_refl _)))⟩
  obtain ⟨s', u1, u2, e1⟩ := l.2.2.1 s q1 q2
  obtain ⟨t', v1, v2, e2⟩ := r.2.2.1 t q3 q4
  rw [kk s q2, e1, e2, hh t' v1]
  exact cr s' t' u1 u2 v1 v2
/-- A row that rises, put in order by putting in one number after the other: where it stands. -/
structure InsF (c : Int → Int → Int) (G : Int → Prop) (f f' : Nat → Int) (a i b : Nat) : Prop where
  ai : a ≤ i
  ib : i ≤ b
  hG : ∀ t, a ≤ t → t < b → G (f t)
  rise : ∀ s t, a ≤ s → s < t → t < b → f s < f t
  sd : SdF c f' a i
  same : SameF f f' a i
theorem InsF.mg {c : Int → Int → Int} {G : Int → Prop} {f f' : Nat → Int} {a i b : Nat} (I : InsF c G f f' a i b) (h : i < b) (h2 : a < i) : MgF c G f' a i (i + 1) := by
  have h1 : f' i = f i := I.same.1 i (by omega)
  refine ⟨h2, by omega, fun t p q => ?_, I.sd, fun s t p q r => by omega, fun s t p q r u => ?_⟩
  · by_cases e : t = i
    · subst e; rw [h1]; exact I.hG _ p h
    · obtain ⟨s, q1, q2, e⟩ := I.same.2.1 t p (by omega)
      rw [e]; exact I.hG s q1 (by omega)
  · obtain rfl : t = i := by omega
    obtain ⟨s', q1, q2, e⟩ := I.same.2.1 s p q
    rw [e, h1]; exact I.rise s' t q1 q2 h
theorem InsF.step {c : Int → Int → Int} {G : Int → Prop} {f f' g : Nat → Int} {a i b : Nat} (I : InsF c G f f' a i b) (h : i < b) (D : DoneF c f' g a (i + 1)) : InsF c G f g a (i + 1) b :=
  ⟨by have := I.ai; omega, h, I.hG, I.rise, D.1, (I.same.wide (Nat.le_refl _) (by omega)).trans D.2⟩
theorem Sd_same {c : Int → Int → Int} {f f' : Nat → Int} {a b : Nat} (h : SdF c f a b) (e : ∀ t, a ≤ t → t < b → f' t = f t) : SdF c f' a b := fun s t p q r => by rw [e s p (by omega), e t (by omega) r]; exact h s t p q r
/-- Two rows of numbers that are put in order one after the other can be merged. -/
theorem mg_two {c : Int → Int → Int} {G : Int → Prop} {f g h : Nat → Int} {a m b : Nat} (am : a < m) (mb : m < b) (hG : ∀ t, a ≤ t → t < b → G (f t)) (rise : ∀ s t, a ≤ s → s < t → t < b → f s < f t) (D1 : DoneF c f g a m) (D2 : DoneF c g h m b) : MgF c G h a m b := by
  have e1 : ∀ t, t < m → h t = g t := fun t ht => D2.2.1 t (by omega)
  have e2 : ∀ t, m ≤ t → g t = f t := fun t ht => D1.2.1 t (by omega)
  refine ⟨am, mb, fun t p q => ?_, Sd_same D1.1 (fun t _ q => e1 t q), D2.1, fun s t p q r u => ?_⟩
  · by_cases k : t < m
    · obtain ⟨s, q1, q2, e⟩ := D1.2.2.1 t p k
      rw [e1 t k, e]; exact hG s q1 (by omega)
    · obtain ⟨s, q1, q2, e⟩ := D2.2.2.1 t (by omega) q
      rw [e, e2 s q1]; exact hG s (by omega) q2
  · obtain ⟨s', q1, q2, k1⟩ := D1.2.2.1 s p q
    obtain ⟨t', q3, q4, k2⟩ := D2.2.2.1 t r u
    rw [e1 s q, k1, k2, e2 t' q3]
    exact rise s' t' q1 (by omega) q4
/-- A row of whole numbers, told by its places. -/
def tabF (n : Nat) (f : Nat → Int) : List Int := (List.range n).map f
theorem tabF_len (n : Nat) (f : Nat → Int) : (tabF n f).length = n := by simp [tabF]
theorem tabF_rd (n : Nat) (f : Nat → Int) (i : Nat) (h : i < n) : rdOf 0 (tabF n f) (i : Int) = f i := by
  unfold rdOf
  simp [tabF, h]
theorem tabF_sw (n : Nat) (f : Nat → Int) (i j : Nat) : ((tabF n f).set i (f j)).set j (f i) = tabF n (sw1 f i j) := by
  apply List.ext_getElem
  · simp [tabF]
  · intro t h1 h2
    have ht : t < n := by simpa [tabF] using h2
    rw [List.getElem_set, List.getElem_set]
    simp only [tabF, List.getElem_map, List.getElem_range, sw1]
    by_cases e1 : t = j
    · subst e1; simp
    · by_cases e2 : t = i
      · subst e2; simp [e1, Ne.symm e1]
      · rw [if_neg e1, if_neg e2, if_neg (fun h => e1 h.symm), if_neg (fun h => e2 h.symm)]
theorem gb_refl (w : World) (r : Option Nat) : w.grownBy w r := ⟨rfl, rfl, rfl, Nat.le_refl _, fun _ _ _ => rfl⟩
theorem gb_trans {a b c : World} {r : Option Nat} (h : a.grownBy b r) (k : b.grownBy c r) : a.grownBy c r :=
  ⟨k.os.trans h.os, k.tape.trans h.tape, k.output.trans h.output, Nat.le_trans h.size k.size, fun i hi hn => (k.block i (Nat.lt_of_lt_of_le hi h.size) hn).trans (h.block i hi hn)⟩
theorem gb_below {a b : World} {r : Option Nat} (h : Below a.heap.size a b) : a.grownBy b r := ⟨h.os, h.tape, h.output, h.size, fun i hi _ => h.block i hi⟩
/-- A world in which the row in block g holds what f tells, and all else that was there is as it was. -/
structure SR (w0 : World) (g cap n : Nat) (f : Nat → Int) (W : World) : Prop where
  gr : w0.grownBy W (some g)
  row : (Kd.int .i64).R 3 W 0 (fun _ => True) (.slice (some ⟨g, 0, none⟩) (tabF n f).length cap) (tabF n f)
  lt : g < W.heap.size
section
variable {w0 W : World} {g cap n : Nat} {f : Nat → Int}
theorem SR.cell (h : SR w0 g cap n f W) (i : Nat) (hi : i < n) : W.cell? ⟨g, i, none⟩ = some (.int .i64 (f i)) ∧ W.frozen? ⟨g, i, none⟩ = false := by
  have := Kd.R_cell (0 : Int) h.row (i : Int) (by omega) (by rw [tabF_len]; omega)
  rw [tabF_rd n f i hi] at this
  exact this
theorem SR.below (h : SR w0 g cap n f W) {W' : World} (hb : Below W.heap.size W W') : SR w0 g cap n f W' :=
  ⟨gb_trans h.gr (gb_below hb), Kd.R_below h.row hb, Nat.lt_of_lt_of_le h.lt hb.size⟩
theorem SR.drew (h : SR w0 g cap n f W) : SR w0 g cap n f W.drew := h.below (below_drew (Below.refl _ _))
theorem SR.drewN (h : SR w0 g cap n f W) (m : Nat) : SR w0 g cap n f (W.drewN m) := h.below (pw_below_drewN (Below.refl _ _) m)
theorem SR.swap (h : SR w0 g cap n f W) (i j : Nat) : SR w0 g cap n (sw1 f i j) ((W.setCell ⟨g, i, none⟩ (.int .i64 (f j))).setCell ⟨g, j, none⟩ (.int .i64 (f i))).drew := by
  refine SR.drew ?_
  obtain ⟨h1, h2⟩ := Kd.R_put h.row (i : Int) (f j)
  have hl : (tabF n f).length = ((tabF n f).set i (f j)).length := by simp
  rw [Int.toNat_natCast] at h1 h2
  rw [hl] at h1
  obtain ⟨h3, h4⟩ := Kd.R_put h1 (j : Int) (f i)
  rw [Int.toNat_natCast, tabF_sw] at h3
  rw [Int.toNat_natCast] at h4
  refine ⟨gb_trans (gb_trans h.gr h2) h4, ?_, Nat.lt_of_lt_of_le h.lt (Nat.le_trans h2.size h4.size)⟩
  have e : ((tabF n f).set i (f j)).length = (tabF n (sw1 f i j)).length := by simp [tabF]
  rw [e] at h3
  exact h3
/-- Behind the first store the second place still holds something. -/
theorem SR.c2 (h : SR w0 g cap n f W) (i j : Nat) (hi : i < n) (hj : j < n) (v : Value) : ∃ u, (W.setCell ⟨g, i, none⟩ v).cell? ⟨g, j, none⟩ = some u := by
  by_cases e : i = j
  · subst e; exact ⟨v, World.cell?_setCell_same _ _ _ (h.cell i hi).1⟩
  · exact ⟨_, (World.cell?_setCell_other _ _ _ _ (by intro e'; simp only [Addr.mk.injEq] at e'; omega)).trans (h.cell j hj).1⟩
end
set_option maxHeartbeats 8000000 in
set_option maxRecDepth 100000 in
theorem slices_swapRange.own (hmix : Try.prog.follows .mixedOrders = true) (g cap n : Nat) (f : Nat → Int) (a b m : Nat) (fv : Value) (w0 w : World) (S : SR w0 g cap n f w) (h1 : a + m ≤ b) (h2 : b + m ≤ n) (hn : n < 1000000) :
    Calls Try.prog 74 #[.slice (some ⟨g, 0, none⟩) n cap, .int .i64 a, .int .i64 b, .int .i64 m, fv] w fun e w' => e = .returned (.tuple #[]) ∧ SR w0 g cap n (swR f a b m) w' := by
  have HS := Aside0.mk S
  clear S
  have HE := Aside0.mk (swR_zero f a b)
  go_enter Try.func74, Try.ntmps74
  go_wp2_with fail
  go_loopg [10] m (fun gg vi wr => ∃ i : Nat, vi = .int .i64 i ∧ i ≤ m ∧ m - i ≤ gg ∧ Aside0 (SR w0 g cap n (swR f a b i) wr))
  case atStart => exact ⟨0, rfl, by omega, by omega, ⟨by rw [HE.out]; exact HS.out⟩⟩
  case round =>
    clear HS HE
    obtain ⟨i, rfl, hi, hg, HS⟩ := hrel
    by_cases hlt : i < m
    · have HN := Aside0.mk (swR_succ f a b i (by omega))
      have hz : (i : Int) < (m : Int) := by omega
      obtain ⟨p, hp⟩ : ∃ p, p = a + i := ⟨_, rfl⟩
      obtain ⟨q, hq⟩ : ∃ q, q = b + i := ⟨_, rfl⟩
      have ep : IntKind.i64.wrap ((a : Int) + (i : Int)) = (p : Int) := by rw [IntWalk.i64_in _ (by omega)]; omega
      have eq : IntKind.i64.wrap ((b : Int) + (i : Int)) = (q : Int) := by rw [IntWalk.i64_in _ (by omega)]; omega
      have bp : (p : Int) < (n : Int) := by omega
      have bq : (q : Int) < (n : Int) := by omega
      have ei : IntKind.i64.wrap ((i : Int) + 1) = ((i + 1 : Nat) : Int) := by rw [IntWalk.i64_in _ (by omega)]; omega
      rw [← hp, ← hq] at HN
      have HS2 := Aside0.mk (HS.out.swap p q)
      rw [HN.out] at HS2
      obtain ⟨x, hx⟩ : ∃ x, x = swR f a b i p := ⟨_, rfl⟩
      obtain ⟨y, hy⟩ : ∃ y, y = swR f a b i q := ⟨_, rfl⟩
      have c1 := (HS.out.cell p (by omega)).1
      have c2 := (HS.out.cell q (by omega)).1
      have f1 := (HS.out.cell p (by omega)).2
      have f2 := (HS.out.cell q (by omega)).2
      obtain ⟨u, c3⟩ := HS.out.c2 p q (by omega) (by omega) (.int .i64 (swR f a b i q))
      rw [← hx] at c1
      rw [← hy] at c2 c3
      rw [← hx, ← hy] at HS2
      clear hx hy hp hq HN HS
      go_wp2_with fail
      go_big_region_o
      clear c1 c2 c3 f1 f2
      generalize ((wr.setCell ⟨g, p, none⟩ (Value.int .i64 y)).setCell ⟨g, q, none⟩ (Value.int .i64 x)).drew = w3 at HS2 ⊢
      go_wp2
      go_roundg (m - (i + 1))
      case measure => omega
      case rel => exact ⟨i + 1, by first | rfl | go_num | (congr 1; omega), by omega, by omega, HS2⟩
    · have hz : ¬ (i : Int) < (m : Int) := by omega
      obtain rfl : i = m := by omega
      go_wp2
      go_end0
      exact ⟨rfl, HS.out⟩
set_option maxHeartbeats 8000000 in
set_option maxRecDepth 100000 in
theorem slices_rotate.own (hmix : Try.prog.follows .mixedOrders = true) (g cap n : Nat) (f : Nat → Int) (a m b : Nat) (fv : Value) (w0 w : World) (S : SR w0 g cap n f w) (h1 : a < m) (h2 : m < b) (h3 : b ≤ n) (hn : n < 1000000) :
    Calls Try.prog 73 #[.slice (some ⟨g, 0, none⟩) n cap, .int .i64 a, .int .i64 m, .int .i64 b, fv] w fun e w' => e = .returned (.tuple #[]) ∧ SR w0 g cap n (rotF f a m b) w' := by
  have HS := Aside0.mk S
  have HMX := Aside0.mk hmix
  clear S hmix
  have e1 : IntKind.i64.wrap ((m : Int) - (a : Int)) = ((m - a : Nat) : Int) := by rw [IntWalk.i64_in _ (by omega)]; omega
  have e2 : IntKind.i64.wrap ((b : Int) - (m : Int)) = ((b - m : Nat) : Int) := by rw [IntWalk.i64_in _ (by omega)]; omega
  have HI := Aside0.mk (show rotF f (m - (m - a)) m (m + (b - m)) = rotF f a m b by rw [show m - (m - a) = a by omega, show m + (b - m) = b by omega])
  go_enter Try.func73, Try.ntmps73
  go_wp2_with fail
  go_loopg [10, 11] (b - a) (fun gg vi vj wr => ∃ (i j : Nat) (F : Nat → Int), vi = .int .i64 i ∧ vj = .int .i64 j ∧ 0 < i ∧ 0 < j ∧ i ≤ m ∧ m + j ≤ n ∧ i + j ≤ gg ∧ Aside0 (rotF F (m - i) m (m + j) = rotF f a m b) ∧ Aside0 (SR w0 g cap n F wr))
  case atStart => exact ⟨m - a, b - m, f, rfl, rfl, by omega, by omega, by omega, by omega, by omega, HI, HS⟩
  case round =>
    clear HS HI e1 e2
    obtain ⟨i, j, F, rfl, rfl, hi, hj, hm, hmj, hg, HI, HS⟩ := hrel
    by_cases hne : i = j
    · subst hne
      have e3 : IntKind.i64.wrap ((m : Int) - (i : Int)) = ((m - i : Nat) : Int) := by rw [IntWalk.i64_in _ (by omega)]; omega
      have hc := slices_swapRange.own HMX.out g cap n F (m - i) m i fv w0 wr HS.out (by omega) (by omega) hn
      rw [rot_same F m i hm, HI.out] at hc
      have HC := Aside0.mk hc
      clear hc HS HI
      go_wp2_with (first | (go_at_call 74; refine HC.out.mono ?_; rintro e w1 ⟨rfl, hs⟩; have HS := Aside0.mk hs; clear hs) | fail)
      go_end0
      exact ⟨rfl, HS.out⟩
    · have hnz : (((i : Int) == (j : Int))) = false := by rw [beq_eq_false_iff_ne]; omega
      have hnz2 : ¬ (i : Int) = (j : Int) := by omega
      by_cases hlt : j < i
      · have hz : (j : Int) < (i : Int) := by omega
        have e3 : IntKind.i64.wrap ((m : Int) - (i : Int)) = ((m - i : Nat) : Int) := by rw [IntWalk.i64_in _ (by omega)]; omega
        have hc := slices_swapRange.own HMX.out g cap n F (m - i) m j fv w0 wr HS.out (by omega) (by omega) hn
        have HC := Aside0.mk hc
        have HI2 := Aside0.mk ((rot_big F m i j hm hlt hj).trans HI.out)
        have e4 : IntKind.i64.wrap ((i : Int) - (j : Int)) = ((i - j : Nat) : Int) := by rw [IntWalk.i64_in _ (by omega)]; omega
        clear hc HS HI
        go_wp2_with (first | (go_at_call 74; refine HC.out.mono ?_; rintro e w1 ⟨rfl, hs⟩; have HS := Aside0.mk hs; clear hs) | fail)
        go_roundg (i - j + j)
        case measure => omega
        case rel => exact ⟨i - j, j, _, rfl, rfl, by omega, hj, by omega, hmj, by omega, HI2, HS⟩
      · have hz : ¬ (j : Int) < (i : Int) := by omega
        obtain ⟨p, hp⟩ : ∃ p, p = m - i := ⟨_, rfl⟩
        obtain ⟨q, hq⟩ : ∃ q, q = m + j - i := ⟨_, rfl⟩
        obtain ⟨s, hs⟩ : ∃ s, s = m + j := ⟨_, rfl⟩
        obtain ⟨d, hd⟩ : ∃ d, d = j - i := ⟨_, rfl⟩
        have hc := slices_swapRange.own HMX.out g cap n F (m - i) (m + j - i) i fv w0 wr HS.out (by omega) (by omega) hn
        have hi2 := (rot_small F m i j hm (by omega) hi).trans HI.out
        rw [← hp, ← hq] at hc hi2
        rw [← hd] at hi2
        have HC := Aside0.mk hc
        have HI2 := Aside0.mk hi2
        have e3 : IntKind.i64.wrap ((m : Int) - (i : Int)) = (p : Int) := by rw [IntWalk.i64_in _ (by omega)]; omega
        have e4 : IntKind.i64.wrap ((j : Int) - (i : Int)) = (d : Int) := by rw [IntWalk.i64_in _ (by omega)]; omega
        have e5 : IntKind.i64.wrap ((m : Int) + (j : Int)) = (s : Int) := by rw [IntWalk.i64_in _ (by omega)]; omega
        have e6 : IntKind.i64.wrap ((s : Int) - (i : Int)) = (q : Int) := by rw [IntWalk.i64_in _ (by omega)]; omega
        have HP := Aside0.mk hp
        have HD := Aside0.mk hd
        clear hc hi2 HS HI hp hq hs hd
        go_wp2_with (first | (go_at_call 74; refine HC.out.mono ?_; rintro e w1 ⟨rfl, hs⟩; have HS := Aside0.mk hs; clear hs) | fail)
        go_roundg (i + d)
        case measure => have := HD.out; omega
        case rel => exact ⟨i, d, _, rfl, rfl, hi, by have := HD.out; omega, hm, by have := HD.out; omega, Nat.le_refl _, by rw [← HP.out]; exact HI2, HS⟩
/-- What is asked of the comparison: in each world in which only the row's block may have turned. -/
def CmpsF (gf : Nat) (cb : Array Value) (c : Int → Int → Int) (G : Int → Prop) (w0 : World) (g : Nat) : Prop :=
  ∀ (W : World) (x y : Int), w0.grownBy W (some g) → g < W.heap.size → G x → G y → Calls Try.prog gf (#[.int .i64 x, .int .i64 y] ++ cb) W fun e w' => e = .returned (.int .i64 (c x y)) ∧ Below W.heap.size W w'
theorem gb_drewN {a b : World} {r : Option Nat} (h : a.grownBy b r) (m : Nat) : a.grownBy (b.drewN m) r := gb_trans h (gb_below (pw_below_drewN (Below.refl _ _) m))
theorem rotL_at {F : Nat → Int} {j i : Nat} (h : j ≤ i) : rotF F j i (i + 1) j = F i := by unfold rotF; rw [if_pos (by omega)]; congr 1; omega
theorem rotL_lo {F : Nat → Int} {j i t : Nat} (h : t < j) : rotF F j i (i + 1) t = F t := by unfold rotF; rw [if_neg (by omega), if_neg (by omega)]
theorem InsF.start {c : Int → Int → Int} {G : Int → Prop} {f : Nat → Int} {a b : Nat} (h : a + 1 ≤ b) (hG : ∀ t, a ≤ t → t < b → G (f t)) (rise : ∀ s t, a ≤ s → s < t → t < b → f s < f t) : InsF c G f f a (a + 1) b :=
  ⟨by omega, h, hG, rise, fun s t p q r => by omega, SameF.refl _ _ _⟩
theorem DoneF.none {c : Int → Int → Int} {f : Nat → Int} {a b : Nat} (h : b ≤ a + 1) : DoneF c f f a b := ⟨fun s t p q r => by omega, SameF.refl _ _ _⟩
/-- Where the putting in stands. -/
def InsAt (c : Int → Int → Int) (G : Int → Prop) (f F : Nat → Int) (a i b : Nat) : Prop := (i ≤ b ∧ InsF c G f F a i b) ∨ (b < i ∧ F = f ∧ b ≤ a)
set_option maxHeartbeats 8000000 in
set_option maxRecDepth 100000 in
theorem slices_insertion.own (hmix : Try.prog.follows .mixedOrders = true) (g cap n : Nat) (f : Nat → Int) (a b : Nat) (gf : Nat) (cb : Array Value) (c : Int → Int → Int) (G : Int → Prop) (O : OrdF c G) (w0 w : World) (S : SR w0 g cap n f w)
    (eg : ∀ args w, (callFunc gf args).run Try.prog w = .ok (.enter gf args) w) (hcmp : CmpsF gf cb c G w0 g) (hb : b ≤ n) (ha : a ≤ n) (hn : n < 1000000) (hG : ∀ t, a ≤ t → t < b → G (f t)) (rise : ∀ s t, a ≤ s → s < t → t < b → f s < f t) :
    Calls Try.prog 70 #[.slice (some ⟨g, 0, none⟩) n cap, .int .i64 a, .int .i64 b, .func (.func gf) #[] cb] w fun e w' => e = .returned (.tuple #[]) ∧ ∃ F, DoneF c f F a b ∧ SR w0 g cap n F w' := by
  have HS := Aside0.mk S
  have HC := Aside0.mk hcmp
  have hst : InsAt c G f f a (a + 1) b := by
    by_cases h : a + 1 ≤ b
    · exact .inl ⟨h, InsF.start h hG rise⟩
    · exact .inr ⟨by omega, rfl, by omega⟩
  have HT := Aside0.mk hst
  clear S hcmp hst hG rise
  by_cases hab : a < 1000000
  · have e1 : IntKind.i64.wrap ((a : Int) + 1) = ((a + 1 : Nat) : Int) := by rw [IntWalk.i64_in _ (by omega)]; omega
    go_enter Try.func70, Try.ntmps70
    go_wp2_with fail
    go_loopg [8] (b - a) (fun gg vi wr => ∃ (i : Nat) (F : Nat → Int), vi = .int .i64 i ∧ a < i ∧ i < 1000002 ∧ b + 1 - i ≤ gg + 1 ∧ Aside0 (InsAt c G f F a i b) ∧ Aside0 (SR w0 g cap n F wr))
    case atStart => exact ⟨a + 1, f, by first | rfl | go_num, by omega, by omega, by omega, HT, HS⟩
    case round =>
      clear HS HT e1
      obtain ⟨i, F, rfl, hai, hi2, hg1, HT, HS⟩ := hrel
      by_cases hlt : i < b
      · have hltz : (i : Int) < (b : Int) := by omega
        have HI := Aside0.mk (show InsF c G f F a i b by rcases HT.out with ⟨_, h⟩ | ⟨h, _, _⟩; exact h; omega)
        have hr0 : rotF F i i (i + 1) = F := rot_none F i i (i + 1) (.inl rfl) (by omega)
        have HS1 := Aside0.mk (show SR w0 g cap n (rotF F i i (i + 1)) wr by rw [hr0]; exact HS.out)
        clear HT HS hr0
        go_wp2
        go_loopg [9] i (fun g2 vj wr2 => ∃ j : Nat, vj = .int .i64 j ∧ a ≤ j ∧ j ≤ i ∧ j ≤ g2 ∧ Aside0 (j < i → c (F i) (F j) < 0) ∧ Aside0 (SR w0 g cap n (rotF F j i (i + 1)) wr2))
        case atStart => exact ⟨i, rfl, by omega, Nat.le_refl _, Nat.le_refl _, ⟨fun h => by omega⟩, HS1⟩
        case round =>
          clear HS1
          obtain ⟨j, rfl, haj, hji, hg2, HY, HS⟩ := hrel
          have e2 : IntKind.i64.wrap ((i : Int) + 1) = ((i + 1 : Nat) : Int) := by rw [IntWalk.i64_in _ (by omega)]; omega
          by_cases hja : a < j
          · obtain ⟨p, hp⟩ : ∃ p, j = p + 1 := ⟨j - 1, by omega⟩
            have e3 : IntKind.i64.wrap ((j : Int) - 1) = (p : Int) := by rw [IntWalk.i64_in _ (by omega)]; omega
            have gx : G (F i) := by have := HI.out; rw [this.same.1 i (by omega)]; exact this.hG i (by omega) hlt
            have gy : G (F p) := by obtain ⟨s, p1, q1, e⟩ := HI.out.same.2.1 p (by omega) (by omega); rw [e]; exact HI.out.hG s p1 (by omega)
            have hzq : (a : Int) < (j : Int) := by omega
            have bq : (j : Int) < (n : Int) := by omega
            have bp : (p : Int) < (n : Int) := by omega
            have ea : rotF F j i (i + 1) j = F i := rotL_at hji
            have eb : rotF F j i (i + 1) p = F p := rotL_lo (by omega)
            have esw := rot_last F p i (by omega)
            rw [← hp] at esw
            have HP := Aside0.mk hp
            obtain ⟨T, hT⟩ : ∃ T, T = rotF F j i (i + 1) := ⟨_, rfl⟩
            rw [← hT] at HS ea eb esw
            obtain ⟨x, hx⟩ : ∃ x, x = F i := ⟨_, rfl⟩
            obtain ⟨y, hy⟩ : ∃ y, y = F p := ⟨_, rfl⟩
            rw [← hx] at ea gx
            rw [← hy] at eb gy
            have c1 := (HS.out.cell j (by omega)).1
            have c2 := (HS.out.cell p (by omega)).1
            rw [ea] at c1
            rw [eb] at c2
            have HA := Aside0.mk ea
            have HB := Aside0.mk eb
            have HW := Aside0.mk esw
            have HK := Aside0.mk (fun W (h : SR w0 g cap n T W) => HC.out W x y h.gr h.lt gx gy)
            have HXY := Aside0.mk (show c x y = c (F i) (F p) by rw [hx, hy])
            have HTT := Aside0.mk hT
            clear ea eb esw gx gy hp hT hx hy
            go_wp2_with fail
            by_cases hv : c x y < 0
            · have hd : decide (c x y < 0) = true := decide_eq_true hv
              go_region_held3 (fun w' => w'.cell? ⟨g, j, none⟩ = some (.int .i64 x) ∧ w'.cell? ⟨g, p, none⟩ = some (.int .i64 y))
                (first
                  | (refine ⟨?_, ?_⟩ <;> assumption))
                (first
                  | (go_at_fn gf; refine (HK.out _ (SR.drewN HS.out _)).mono ?_; rintro e w1 ⟨rfl, hb1⟩; have HS1 := Aside0.mk ((SR.drewN HS.out _).below hb1); have y1 := (HS1.out.cell j (by omega)).1; have y2 := (HS1.out.cell p (by omega)).1; rw [HA.out] at y1; rw [HB.out] at y2; clear hb1))
              have HX := Aside0.mk (HS1.out.swap j p)
              have f1 := (HS1.out.cell j (by omega)).2
              have f2 := (HS1.out.cell p (by omega)).2
              obtain ⟨u, c3⟩ := HS1.out.c2 j p (by omega) (by omega) (.int .i64 y)
              have HV := Aside0.mk hv
              rw [HA.out, HB.out, HTT.out] at HX
              have esw : sw1 (rotF F j i (i + 1)) j p = rotF F p i (i + 1) := by rw [← HTT.out]; exact HW.out
              rw [esw] at HX
              clear c1 c2 HS1 HS HK hv hd esw
              go_wp2_with fail
              go_big_region_o
              clear y1 y2 f1 f2 c3
              generalize ((w1.setCell ⟨g, j, none⟩ (Value.int .i64 y)).setCell ⟨g, p, none⟩ (Value.int .i64 x)).drew = w3 at HX ⊢
              go_wp2
              go_roundg (j - 1)
              case measure => omega
              case rel => exact ⟨p, rfl, by have := HP.out; omega, by have := HP.out; omega, by have := HP.out; omega, ⟨fun _ => by rw [← HXY.out]; exact HV.out⟩, HX⟩
            · have hd : decide (c x y < 0) = false := decide_eq_false hv
              go_region_held3 (fun w' => w'.cell? ⟨g, j, none⟩ = some (.int .i64 x) ∧ w'.cell? ⟨g, p, none⟩ = some (.int .i64 y))
                (first
                  | (refine ⟨?_, ?_⟩ <;> assumption))
                (first
                  | (go_at_fn gf; refine (HK.out _ (SR.drewN HS.out _)).mono ?_; rintro e w1 ⟨rfl, hb1⟩; have HS1 := Aside0.mk ((SR.drewN HS.out _).below hb1); have y1 := (HS1.out.cell j (by omega)).1; have y2 := (HS1.out.cell p (by omega)).1; rw [HA.out] at y1; rw [HB.out] at y2; clear hb1))
              rw [HTT.out] at HS1
              have hj1 : j - 1 = p := by have := HP.out; omega
              have HD := Aside0.mk (HI.out.step hlt (MgF.last O (HI.out.mg hlt hai) haj hji (fun _ => by rw [hj1, ← HXY.out]; omega) HY.out))
              clear y1 y2 c1 c2 HS HK hv hd hj1
              go_wp2
              go_roundg (b - (i + 1))
              case measure => omega
              case rel => exact ⟨i + 1, _, by first | rfl | go_num, by omega, by omega, by omega, ⟨.inl ⟨hlt, HD.out⟩⟩, HS1⟩
          · have hja2 : ¬ (a : Int) < (j : Int) := by omega
            have hjad : decide ((j : Int) > (a : Int)) = false := decide_eq_false (by omega)
            go_wp2_with fail
            go_big_region_o
            have HS1 := Aside0.mk HS.out.drew
            have HD := Aside0.mk (HI.out.step hlt (MgF.last O (HI.out.mg hlt hai) haj hji (fun h => absurd h hja) HY.out))
            clear HS
            generalize wr.drew = w2 at HS1 ⊢
            go_wp2
            go_roundg (b - (i + 1))
            case measure => omega
            case rel => exact ⟨i + 1, _, by first | rfl | go_num, by omega, by omega, by omega, ⟨.inl ⟨hlt, HD.out⟩⟩, HS1⟩
      · have hltz : ¬ (i : Int) < (b : Int) := by omega
        have HD := Aside0.mk (show DoneF c f F a b by
          rcases HT.out with ⟨h, I⟩ | ⟨_, rfl, h⟩
          · obtain rfl : i = b := by omega
            exact ⟨I.sd, I.same⟩
          · exact DoneF.none (by omega))
        go_wp2
        go_end0
        exact ⟨rfl, F, HD.out, HS.out⟩
  · exact absurd (show a < 1000000 by omega) hab
set_option maxHeartbeats 8000000 in
set_option maxRecDepth 100000 in
theorem slices_symMerge.head (hmix : Try.prog.follows .mixedOrders = true) (g cap n : Nat) (gf : Nat) (cb : Array Value) (c : Int → Int → Int) (G : Int → Prop) (O : OrdF c G) (w0 : World) (eg : ∀ args w, (callFunc gf args).run Try.prog w = .ok (.enter gf args) w) (hcmp : CmpsF gf cb c G w0 g) (hn : n < 1000000)
    (f : Nat → Int) (a b : Nat) (w : World) (S : SR w0 g cap n f w) (M : MgF c G f a (a + 1) b) (hb : b ≤ n) :
    Calls Try.prog 71 #[.slice (some ⟨g, 0, none⟩) n cap, .int .i64 a, .int .i64 (a + 1 : Nat), .int .i64 b, .func (.func gf) #[] cb] w fun e w' => e = .returned (.tuple #[]) ∧ ∃ F, DoneF c f F a b ∧ SR w0 g cap n F w' := by
  have HS := Aside0.mk S
  have HC := Aside0.mk hcmp
  have HM := Aside0.mk M
  have hab := M.mb
  obtain ⟨m, hm⟩ : ∃ m, m = a + 1 := ⟨_, rfl⟩
  rw [← hm]
  have e0 : IntKind.i64.wrap ((m : Int) - (a : Int)) = 1 := by rw [IntWalk.i64_in _ (by omega)]; omega
  have HMA := Aside0.mk hm
  have hmb : m < b := by omega
  clear S hcmp M hab hm
  go_enter Try.func71, Try.ntmps71
  go_wp2_with fail
  go_loopg [10, 11] (b - m) (fun gg vi vj wr => ∃ (i j : Nat), vi = .int .i64 i ∧ vj = .int .i64 j ∧ m ≤ i ∧ i ≤ j ∧ j ≤ b ∧ j - i ≤ gg ∧ Aside0 (m < i → c (f (i - 1)) (f a) < 0) ∧ Aside0 (j < b → ¬ c (f j) (f a) < 0) ∧ Aside0 (SR w0 g cap n f wr))
  case atStart => exact ⟨m, b, rfl, rfl, by omega, by omega, by omega, by omega, ⟨fun h => by omega⟩, ⟨fun h => by omega⟩, HS⟩
  case round =>
    clear HS e0
    obtain ⟨i, j, rfl, rfl, hi, hij, hj, hg, HX, HY, HS⟩ := hrel
    by_cases hlt : i < j
    · have hz : (i : Int) < (j : Int) := by omega
      have e1 : IntKind.i64.wrap ((i : Int) + (j : Int)) = ((i + j : Nat) : Int) := by rw [IntWalk.i64_in _ (by omega)]; omega
      obtain ⟨h, hh⟩ : ∃ h, h = (i + j) / 2 := ⟨_, rfl⟩
      have hih : i ≤ h := by omega
      have hhj : h < j := by omega
      have e2 : ((i : Int) + (j : Int)) / 2 = (h : Int) := by omega
      have e3 : IntKind.i64.wrap ((h : Int) + 1) = ((h + 1 : Nat) : Int) := by rw [IntWalk.i64_in _ (by omega)]; omega
      have bh : (h : Int) < (n : Int) := by omega
      have ba : (a : Int) < (n : Int) := by have := HMA.out; omega
      clear hh
      obtain ⟨x, hx⟩ : ∃ x, x = f h := ⟨_, rfl⟩
      obtain ⟨y, hy⟩ : ∃ y, y = f a := ⟨_, rfl⟩
      have HAM := HMA.out
      have gx : G x := by rw [hx]; exact HM.out.hG h (by omega) (by omega)
      have gy : G y := by rw [hy]; exact HM.out.hG a (by omega) (by omega)
      clear HAM
      have c1 := (HS.out.cell h (by omega)).1
      have c2 := (HS.out.cell a (by omega)).1
      rw [← hx] at c1
      rw [← hy] at c2
      have HA := Aside0.mk hx
      have HB := Aside0.mk hy
      have HK := Aside0.mk (fun W (s : SR w0 g cap n f W) => HC.out W x y s.gr s.lt gx gy)
      clear gx gy hx hy
      go_upto_region 5 with fail
      by_cases hv : c x y < 0
      · have hd : decide (c x y < 0) = true := decide_eq_true hv
        go_region_held3 (fun w' => w'.cell? ⟨g, h, none⟩ = some (.int .i64 x) ∧ w'.cell? ⟨g, a, none⟩ = some (.int .i64 y))
          (first
            | (refine ⟨?_, ?_⟩ <;> assumption))
          (first
            | (go_at_fn gf; refine (HK.out _ (SR.drewN HS.out _)).mono ?_; rintro e w1 ⟨rfl, hb1⟩; have HS1 := Aside0.mk ((SR.drewN HS.out _).below hb1); have y1 := (HS1.out.cell h (by omega)).1; have y2 := (HS1.out.cell a (by omega)).1; rw [← HA.out] at y1; rw [← HB.out] at y2; clear hb1))
        have HX2 := Aside0.mk (show m < h + 1 → c (f (h + 1 - 1)) (f a) < 0 from fun _ => by rw [Nat.add_sub_cancel, ← HA.out, ← HB.out]; exact hv)
        clear c1 c2 y1 y2 HS HK hv hd HA HB
        go_wp2
        go_roundg (j - (h + 1))
        case measure => omega
        case rel => exact ⟨h + 1, j, by first | rfl | go_num, rfl, by omega, by omega, by omega, Nat.le_refl _, HX2, HY, HS1⟩
      · have hd : decide (c x y < 0) = false := decide_eq_false hv
        have HV := Aside0.mk hv
        go_region_held3 (fun w' => w'.cell? ⟨g, h, none⟩ = some (.int .i64 x) ∧ w'.cell? ⟨g, a, none⟩ = some (.int .i64 y))
          (first
            | (refine ⟨?_, ?_⟩ <;> assumption))
          (first
            | (go_at_fn gf; refine (HK.out _ (SR.drewN HS.out _)).mono ?_; rintro e w1 ⟨rfl, hb1⟩; have HS1 := Aside0.mk ((SR.drewN HS.out _).below hb1); have y1 := (HS1.out.cell h (by omega)).1; have y2 := (HS1.out.cell a (by omega)).1; rw [← HA.out] at y1; rw [← HB.out] at y2; clear hb1))
        have HY2 := Aside0.mk (show h < b → ¬ c (f h) (f a) < 0 from fun _ => by rw [← HA.out, ← HB.out]; have := HV.out; omega)
        clear c1 c2 y1 y2 HS HK hv hd HA HB HV
        go_wp2
        go_roundg (h - i)
        case measure => omega
        case rel => exact ⟨i, h, rfl, by first | rfl | go_num, by omega, by omega, by omega, Nat.le_refl _, HX, HY2, HS1⟩
    · have hz : ¬ (i : Int) < (j : Int) := by omega
      obtain rfl : i = j := by omega
      have HD := Aside0.mk (show DoneF c f (rotF f a (a + 1) i) a b from HM.out.head O (by have := HMA.out; omega) hj (fun h => HX.out (by have := HMA.out; omega)) HY.out)
      obtain ⟨z, hz1⟩ : ∃ z, i = z + 1 := ⟨i - 1, by have := HMA.out; omega⟩
      have HZ := Aside0.mk hz1
      have HS1 := Aside0.mk (show SR w0 g cap n (rotF f a (a + 1) (a + 1)) wr by rw [rot_none f a (a + 1) (a + 1) (.inr rfl) (by omega)]; exact HS.out)
      have e4 : IntKind.i64.wrap ((i : Int) - 1) = (z : Int) := by rw [IntWalk.i64_in _ (by omega)]; omega
      clear HX HY HS hz1
      go_wp2_with fail
      go_loopg [13] (z - a) (fun gg vk wr => ∃ k : Nat, vk = .int .i64 k ∧ a ≤ k ∧ k ≤ z ∧ z - k ≤ gg ∧ Aside0 (SR w0 g cap n (rotF f a (a + 1) (k + 1)) wr))
      case atStart => exact ⟨a, rfl, Nat.le_refl _, by have := HZ.out; have := HMA.out; omega, Nat.le_refl _, HS1⟩
      case round =>
        clear HS1
        obtain ⟨k, rfl, hak, hkz, hg2, HS⟩ := hrel
        by_cases hlt2 : k < z
        · have hz2 : (k : Int) < (z : Int) := by omega
          obtain ⟨q, hq⟩ : ∃ q, q = k + 1 := ⟨_, rfl⟩
          have hzb := HZ.out
          have e5 : IntKind.i64.wrap ((k : Int) + 1) = (q : Int) := by rw [IntWalk.i64_in _ (by omega)]; omega
          have HQ := Aside0.mk hq
          have bk : (k : Int) < (n : Int) := by omega
          have bq : (q : Int) < (n : Int) := by omega
          have hx := HS.out.swap k q
          have esw := rot_head f a k hak
          rw [← hq] at esw hx
          rw [esw] at hx
          rw [← hq] at HS
          obtain ⟨T, hT⟩ : ∃ T, T = rotF f a (a + 1) q := ⟨_, rfl⟩
          rw [← hT] at HS hx
          have HX := Aside0.mk hx
          have c1 := (HS.out.cell k (by omega)).1
          have c2 := (HS.out.cell q (by omega)).1
          have f1 := (HS.out.cell k (by omega)).2
          have f2 := (HS.out.cell q (by omega)).2
          obtain ⟨u, c3⟩ := HS.out.c2 k q (by omega) (by omega) (.int .i64 (T q))
          obtain ⟨x, hx1⟩ : ∃ x, x = T k := ⟨_, rfl⟩
          obtain ⟨y, hy1⟩ : ∃ y, y = T q := ⟨_, rfl⟩
          rw [← hx1] at c1 HX
          rw [← hy1] at c2 c3 HX
          clear hq hx esw hT HS hx1 hy1 hzb
          go_wp2_with fail
          go_big_region_o
          clear c1 c2 f1 f2 c3
          generalize ((wr.setCell ⟨g, k, none⟩ (Value.int .i64 y)).setCell ⟨g, q, none⟩ (Value.int .i64 x)).drew = w3 at HX ⊢
          go_wp2
          go_roundg (z - q)
          case measure => have := HQ.out; omega
          case rel => exact ⟨q, rfl, by have := HQ.out; omega, by have := HQ.out; omega, by have := HQ.out; omega, ⟨by have := HX.out; rw [HQ.out]; exact this⟩⟩
        · have hz2 : ¬ (k : Int) < (z : Int) := by omega
          obtain rfl : k = z := by omega
          have HS1 := Aside0.mk (show SR w0 g cap n (rotF f a (a + 1) i) wr by rw [HZ.out]; exact HS.out)
          clear HS
          go_wp2
          (try simp only [Exit.inBlock, Exit.then])
          refine bodyPost_ret (results_none rfl _ _ _) rfl ?_
          exact ⟨rfl, _, HD.out, HS1.out⟩
set_option maxHeartbeats 8000000 in
set_option maxRecDepth 100000 in
theorem slices_symMerge.last (hmix : Try.prog.follows .mixedOrders = true) (g cap n : Nat) (gf : Nat) (cb : Array Value) (c : Int → Int → Int) (G : Int → Prop) (O : OrdF c G) (w0 : World) (eg : ∀ args w, (callFunc gf args).run Try.prog w = .ok (.enter gf args) w) (hcmp : CmpsF gf cb c G w0 g) (hn : n < 1000000)
    (f : Nat → Int) (a m : Nat) (w : World) (S : SR w0 g cap n f w) (M : MgF c G f a m (m + 1)) (hb : m + 1 ≤ n) (ham : a + 1 < m) :
    Calls Try.prog 71 #[.slice (some ⟨g, 0, none⟩) n cap, .int .i64 a, .int .i64 m, .int .i64 (m + 1 : Nat), .func (.func gf) #[] cb] w fun e w' => e = .returned (.tuple #[]) ∧ ∃ F, DoneF c f F a (m + 1) ∧ SR w0 g cap n F w' := by
  have HS := Aside0.mk S
  have HC := Aside0.mk hcmp
  have HM := Aside0.mk M
  obtain ⟨b, hm⟩ : ∃ b, b = m + 1 := ⟨_, rfl⟩
  rw [← hm]
  have e0 : IntKind.i64.wrap ((b : Int) - (m : Int)) = 1 := by rw [IntWalk.i64_in _ (by omega)]; omega
  obtain ⟨d, hd0⟩ : ∃ d, d = m - a := ⟨_, rfl⟩
  have e00 : IntKind.i64.wrap ((m : Int) - (a : Int)) = (d : Int) := by rw [IntWalk.i64_in _ (by omega)]; omega
  have ed : ((d : Int) == 1) = false := by rw [beq_eq_false_iff_ne]; omega
  have HMB := Aside0.mk hm
  have bm : (m : Int) < (n : Int) := by omega
  have ham' : a ≤ m := by omega
  clear S hcmp M hm ham hb hd0
  go_enter Try.func71, Try.ntmps71
  go_wp2_with fail
  go_loopg [14, 15] (m - a) (fun gg vi vj wr => ∃ (i j : Nat), vi = .int .i64 i ∧ vj = .int .i64 j ∧ a ≤ i ∧ i ≤ j ∧ j ≤ m ∧ j - i ≤ gg ∧ Aside0 (a < i → ¬ c (f m) (f (i - 1)) < 0) ∧ Aside0 (j < m → c (f m) (f j) < 0) ∧ Aside0 (SR w0 g cap n f wr))
  case atStart => exact ⟨a, m, rfl, rfl, by omega, by omega, by omega, by omega, ⟨fun h => by omega⟩, ⟨fun h => by omega⟩, HS⟩
  case round =>
    clear HS e0 e00 ed
    obtain ⟨i, j, rfl, rfl, hi, hij, hj, hg, HX, HY, HS⟩ := hrel
    by_cases hlt : i < j
    · have hz : (i : Int) < (j : Int) := by omega
      have e1 : IntKind.i64.wrap ((i : Int) + (j : Int)) = ((i + j : Nat) : Int) := by rw [IntWalk.i64_in _ (by omega)]; omega
      obtain ⟨h, hh⟩ : ∃ h, h = (i + j) / 2 := ⟨_, rfl⟩
      have hih : i ≤ h := by omega
      have hhj : h < j := by omega
      have e2 : ((i : Int) + (j : Int)) / 2 = (h : Int) := by omega
      have e3 : IntKind.i64.wrap ((h : Int) + 1) = ((h + 1 : Nat) : Int) := by rw [IntWalk.i64_in _ (by omega)]; omega
      have bh : (h : Int) < (n : Int) := by omega
      clear hh
      obtain ⟨x, hx⟩ : ∃ x, x = f m := ⟨_, rfl⟩
      obtain ⟨y, hy⟩ : ∃ y, y = f h := ⟨_, rfl⟩
      have gx : G x := by rw [hx]; exact HM.out.hG m (by omega) (by omega)
      have gy : G y := by rw [hy]; exact HM.out.hG h (by omega) (by omega)
      have c1 := (HS.out.cell m (by omega)).1
      have c2 := (HS.out.cell h (by omega)).1
      rw [← hx] at c1
      rw [← hy] at c2
      have HA := Aside0.mk hx
      have HB := Aside0.mk hy
      have HK := Aside0.mk (fun W (s : SR w0 g cap n f W) => HC.out W x y s.gr s.lt gx gy)
      clear gx gy hx hy
      go_upto_region 17 with fail
      by_cases hv : c x y < 0
      · have hd : decide (c x y < 0) = true := decide_eq_true hv
        go_region_held3 (fun w' => w'.cell? ⟨g, m, none⟩ = some (.int .i64 x) ∧ w'.cell? ⟨g, h, none⟩ = some (.int .i64 y))
          (first
            | (refine ⟨?_, ?_⟩ <;> assumption))
          (first
            | (go_at_fn gf; refine (HK.out _ (SR.drewN HS.out _)).mono ?_; rintro e w1 ⟨rfl, hb1⟩; have HS1 := Aside0.mk ((SR.drewN HS.out _).below hb1); have y1 := (HS1.out.cell m (by omega)).1; have y2 := (HS1.out.cell h (by omega)).1; rw [← HA.out] at y1; rw [← HB.out] at y2; clear hb1))
        have HY2 := Aside0.mk (show h < m → c (f m) (f h) < 0 from fun _ => by rw [← HA.out, ← HB.out]; exact hv)
        clear c1 c2 y1 y2 HS HK hv hd HA HB
        go_wp2
        go_roundg (h - i)
        case measure => omega
        case rel => exact ⟨i, h, rfl, by first | rfl | go_num, by omega, by omega, by omega, Nat.le_refl _, HX, HY2, HS1⟩
      · have hd : decide (c x y < 0) = false := decide_eq_false hv
        have HV := Aside0.mk hv
        go_region_held3 (fun w' => w'.cell? ⟨g, m, none⟩ = some (.int .i64 x) ∧ w'.cell? ⟨g, h, none⟩ = some (.int .i64 y))
          (first
            | (refine ⟨?_, ?_⟩ <;> assumption))
          (first
            | (go_at_fn gf; refine (HK.out _ (SR.drewN HS.out _)).mono ?_; rintro e w1 ⟨rfl, hb1⟩; have HS1 := Aside0.mk ((SR.drewN HS.out _).below hb1); have y1 := (HS1.out.cell m (by omega)).1; have y2 := (HS1.out.cell h (by omega)).1; rw [← HA.out] at y1; rw [← HB.out] at y2; clear hb1))
        have HX2 := Aside0.mk (show a < h + 1 → ¬ c (f m) (f (h + 1 - 1)) < 0 from fun _ => by rw [Nat.add_sub_cancel, ← HA.out, ← HB.out]; have := HV.out; omega)
        clear c1 c2 y1 y2 HS HK hv hd HA HB HV
        go_wp2
        go_roundg (j - (h + 1))
        case measure => omega
        case rel => exact ⟨h + 1, j, by first | rfl | go_num, rfl, by omega, by omega, by omega, Nat.le_refl _, HX2, HY, HS1⟩
    · have hz : ¬ (i : Int) < (j : Int) := by omega
      obtain rfl : i = j := by omega
      have HD := Aside0.mk (show DoneF c f (rotF f i m (m + 1)) a (m + 1) from HM.out.last O hi hj HX.out HY.out)
      have HS1 := Aside0.mk (show SR w0 g cap n (rotF f m m (m + 1)) wr by rw [rot_none f m m (m + 1) (.inl rfl) (by omega)]; exact HS.out)
      clear HX HY HS
      go_wp2_with fail
      go_loopg [17] (m - i) (fun gg vk wr => ∃ k : Nat, vk = .int .i64 k ∧ i ≤ k ∧ k ≤ m ∧ k - i ≤ gg ∧ Aside0 (SR w0 g cap n (rotF f k m (m + 1)) wr))
      case atStart => exact ⟨m, rfl, by omega, Nat.le_refl _, Nat.le_refl _, HS1⟩
      case round =>
        clear HS1
        obtain ⟨k, rfl, hik, hkm, hg2, HS⟩ := hrel
        by_cases hlt2 : i < k
        · have hz2 : (i : Int) < (k : Int) := by omega
          obtain ⟨q, hq⟩ : ∃ q, k = q + 1 := ⟨k - 1, by omega⟩
          have e5 : IntKind.i64.wrap ((k : Int) - 1) = (q : Int) := by rw [IntWalk.i64_in _ (by omega)]; omega
          have HQ := Aside0.mk hq
          have bk : (k : Int) < (n : Int) := by omega
          have bq : (q : Int) < (n : Int) := by omega
          have hx := HS.out.swap k q
          have esw := rot_last f q m (by omega)
          rw [← hq] at esw
          rw [esw] at hx
          obtain ⟨T, hT⟩ : ∃ T, T = rotF f k m (m + 1) := ⟨_, rfl⟩
          rw [← hT] at HS hx
          have HX := Aside0.mk hx
          have c1 := (HS.out.cell k (by omega)).1
          have c2 := (HS.out.cell q (by omega)).1
          have f1 := (HS.out.cell k (by omega)).2
          have f2 := (HS.out.cell q (by omega)).2
          obtain ⟨u, c3⟩ := HS.out.c2 k q (by omega) (by omega) (.int .i64 (T q))
          obtain ⟨x, hx1⟩ : ∃ x, x = T k := ⟨_, rfl⟩
          obtain ⟨y, hy1⟩ : ∃ y, y = T q := ⟨_, rfl⟩
          rw [← hx1] at c1 HX
          rw [← hy1] at c2 c3 HX
          clear hq hx esw hT HS hx1 hy1
          go_wp2_with fail
          go_big_region_o
          clear c1 c2 f1 f2 c3
          generalize ((wr.setCell ⟨g, k, none⟩ (Value.int .i64 y)).setCell ⟨g, q, none⟩ (Value.int .i64 x)).drew = w3 at HX ⊢
          go_wp2
          go_roundg (q - i)
          case measure => have := HQ.out; omega
          case rel => exact ⟨q, rfl, by have := HQ.out; omega, by have := HQ.out; omega, Nat.le_refl _, HX⟩
        · have hz2 : ¬ (i : Int) < (k : Int) := by omega
          obtain rfl : k = i := by omega
          have HD2 := Aside0.mk (show DoneF c f (rotF f k m (m + 1)) a b by rw [HMB.out]; exact HD.out)
          clear HD
          go_wp2
          (try simp only [Exit.inBlock, Exit.then])
          refine bodyPost_ret (results_none rfl _ _ _) rfl ?_
          exact ⟨rfl, _, HD2.out, HS.out⟩
/-- What a merge is to do. -/
def MergesF (gf : Nat) (cb : Array Value) (c : Int → Int → Int) (G : Int → Prop) (w0 : World) (g cap n d : Nat) : Prop :=
  ∀ (f : Nat → Int) (a m b : Nat) (w : World), b - a ≤ d → SR w0 g cap n f w → MgF c G f a m b → b ≤ n →
    Calls Try.prog 71 #[.slice (some ⟨g, 0, none⟩) n cap, .int .i64 a, .int .i64 m, .int .i64 b, .func (.func gf) #[] cb] w fun e w' => e = .returned (.tuple #[]) ∧ ∃ F, DoneF c f F a b ∧ SR w0 g cap n F w'
/-- What is known of the places between which a merge searches. -/
structure SrchF (c : Int → Int → Int) (f : Nat → Int) (a m b mid s0 r0 : Nat) : Prop where
  hm : mid = (a + b) / 2
  sel : (mid < m ∧ s0 + b = mid + m ∧ r0 = mid) ∨ (m ≤ mid ∧ s0 = a ∧ r0 = m)
  am : a < m
  mb : m < b
theorem SrchF.bd {c : Int → Int → Int} {f : Nat → Int} {a m b mid s0 r0 : Nat} (h : SrchF c f a m b mid s0 r0) : a ≤ s0 ∧ s0 ≤ r0 ∧ r0 ≤ m ∧ r0 ≤ mid ∧ mid < b ∧ a ≤ mid ∧ mid + m ≤ s0 + b := by
  obtain ⟨h1, h2, h3, h4⟩ := h
  rcases h2 with ⟨p, q, r⟩ | ⟨p, q, r⟩ <;> omega
theorem SrchF.cuts {c : Int → Int → Int} {f : Nat → Int} {a m b mid s0 r0 st en : Nat} (h : SrchF c f a m b mid s0 r0) (hs : s0 ≤ st) (hr : st ≤ r0) (he : st + en = mid + m)
    (hx : s0 < st → ¬ c (f (mid + m - 1 - (st - 1))) (f (st - 1)) < 0) (hy : st < r0 → c (f (mid + m - 1 - st)) (f st) < 0) : CutsF c f a m b st en ∧ mid = st + (en - m) := by
  have hb := h.bd
  obtain ⟨h1, h2, h3, h4⟩ := h
  have hen : m ≤ en := by omega
  refine ⟨⟨by omega, by omega, hen, by omega, fun p q => ?_, fun p q => ?_⟩, by omega⟩
  · have e : mid + m - 1 - (st - 1) = en := by omega
    rw [← e]
    refine hx ?_
    rcases h2 with ⟨p, q, r⟩ | ⟨p, q, r⟩ <;> omega
  · have e : mid + m - 1 - st = en - 1 := by omega
    rw [← e]
    refine hy ?_
    rcases h2 with ⟨p, q, r⟩ | ⟨p, q, r⟩ <;> omega
theorem or3_ {p q r s : Prop} (h : p ∨ q ∨ r) (A : p → s) (B : q → s) (C : r → s) : s := h.elim A (fun k => k.elim B C)
set_option maxHeartbeats 20000000 in
set_option maxRecDepth 100000 in
theorem slices_symMerge.many (hmix : Try.prog.follows .mixedOrders = true) (g cap n : Nat) (gf : Nat) (cb : Array Value) (c : Int → Int → Int) (G : Int → Prop) (O : OrdF c G) (w0 : World) (eg : ∀ args w, (callFunc gf args).run Try.prog w = .ok (.enter gf args) w) (hcmp : CmpsF gf cb c G w0 g) (hn : n < 1000000)
    (d : Nat) (ih : MergesF gf cb c G w0 g cap n d) (f : Nat → Int) (a m b : Nat) (w : World) (hd : b - a ≤ d + 1) (S : SR w0 g cap n f w) (M : MgF c G f a m b) (hb : b ≤ n) (ham : a + 1 < m) (hmb : m + 1 < b) :
    Calls Try.prog 71 #[.slice (some ⟨g, 0, none⟩) n cap, .int .i64 a, .int .i64 m, .int .i64 b, .func (.func gf) #[] cb] w fun e w' => e = .returned (.tuple #[]) ∧ ∃ F, DoneF c f F a b ∧ SR w0 g cap n F w' := by
  have HS := Aside0.mk S
  have HC := Aside0.mk hcmp
  have HM := Aside0.mk M
  have HI := Aside0.mk ih
  have HMX := Aside0.mk hmix
  obtain ⟨d1, hd1⟩ : ∃ d, d = m - a := ⟨_, rfl⟩
  have e1 : IntKind.i64.wrap ((m : Int) - (a : Int)) = (d1 : Int) := by rw [IntWalk.i64_in _ (by omega)]; omega
  have ed1 : ((d1 : Int) == 1) = false := by rw [beq_eq_false_iff_ne]; omega
  obtain ⟨d2, hd2⟩ : ∃ d, d = b - m := ⟨_, rfl⟩
  have e2 : IntKind.i64.wrap ((b : Int) - (m : Int)) = (d2 : Int) := by rw [IntWalk.i64_in _ (by omega)]; omega
  have ed2 : ((d2 : Int) == 1) = false := by rw [beq_eq_false_iff_ne]; omega
  obtain ⟨mid, hmid⟩ : ∃ q, q = (a + b) / 2 := ⟨_, rfl⟩
  have e3 : IntKind.i64.wrap ((a : Int) + (b : Int)) = (a : Int) + (b : Int) := IntWalk.i64_in _ (by omega)
  have e4 : ((a : Int) + (b : Int)) / 2 = (mid : Int) := by omega
  obtain ⟨nn, hnn⟩ : ∃ q, q = mid + m := ⟨_, rfl⟩
  have e5 : IntKind.i64.wrap ((mid : Int) + (m : Int)) = (nn : Int) := by rw [IntWalk.i64_in _ (by omega)]; omega
  obtain ⟨p, hp⟩ : ∃ q, q = nn - 1 := ⟨_, rfl⟩
  have e6 : IntKind.i64.wrap ((nn : Int) - 1) = (p : Int) := by rw [IntWalk.i64_in _ (by omega)]; omega
  obtain ⟨s0, r0, hsr⟩ : ∃ s0 r0, (mid < m ∧ s0 + b = mid + m ∧ r0 = mid) ∨ (m ≤ mid ∧ s0 = a ∧ r0 = m) := by
    by_cases h : mid < m
    · exact ⟨mid + m - b, mid, .inl ⟨h, by omega, rfl⟩⟩
    · exact ⟨a, m, .inr ⟨by omega, rfl, rfl⟩⟩
  have HR := Aside0.mk (show SrchF c f a m b mid s0 r0 from ⟨hmid, hsr, M.am, M.mb⟩)
  have HP := Aside0.mk (show p + 1 = mid + m by omega)
  have HN := Aside0.mk hnn
  have HB := Aside0.mk HR.out.bd
  have HD := Aside0.mk hd
  clear S hcmp M ih hd1 hd2 hmid hnn hp hd hmix
  go_enter Try.func71, Try.ntmps71
  rcases hsr with ⟨h1, h2, h3⟩ | ⟨h1, h2, h3⟩
  case' inl =>
    have hz : (mid : Int) < (m : Int) := by omega
    have e7 : IntKind.i64.wrap ((nn : Int) - (b : Int)) = (s0 : Int) := by have := HN.out; rw [IntWalk.i64_in _ (by omega)]; omega
    have HE1 : Aside0 (mid = r0) := ⟨h3.symm⟩
    have HE2 : Aside0 (mid = r0) := ⟨h3.symm⟩
  case' inr =>
    have hz : ¬ (mid : Int) < (m : Int) := by omega
    have e7 : True := trivial
    have HE1 : Aside0 (a = s0) := ⟨h2.symm⟩
    have HE2 : Aside0 (m = r0) := ⟨h3.symm⟩
  all_goals
    clear h1 h2 h3
    go_wp2_with fail
    clear hz e7 e1 e2 ed1 ed2 e3 e4 e5 e6
    go_loopg [20, 21] (r0 - s0) (fun gg v20 v21 wr => ∃ (s r : Nat), v20 = .int .i64 s ∧ v21 = .int .i64 r ∧ s0 ≤ s ∧ s ≤ r ∧ r ≤ r0 ∧ r - s ≤ gg ∧ Aside0 (s0 < s → ¬ c (f (mid + m - 1 - (s - 1))) (f (s - 1)) < 0) ∧ Aside0 (r < r0 → c (f (mid + m - 1 - r)) (f r) < 0) ∧ Aside0 (SR w0 g cap n f wr))
    case atStart => exact ⟨s0, r0, by first | rfl | (rw [HE1.out]), by first | rfl | (rw [HE2.out]), Nat.le_refl _, HB.out.2.1, Nat.le_refl _, Nat.le_refl _, ⟨fun h => absurd h (Nat.lt_irrefl _)⟩, ⟨fun h => absurd h (Nat.lt_irrefl _)⟩, HS⟩
    case round =>
      clear HS HE1 HE2
      obtain ⟨i, j, rfl, rfl, hi, hij, hj, hg, HX, HY, HS⟩ := hrel
      by_cases hlt : i < j
      · have hz : (i : Int) < (j : Int) := by omega
        have hB := HB.out
        have hP := HP.out
        obtain ⟨h, hh⟩ : ∃ h, h = (i + j) / 2 := ⟨_, rfl⟩
        have hih : i ≤ h := by omega
        have hhj : h < j := by omega
        have e1 : IntKind.i64.wrap ((i : Int) + (j : Int)) = ((i + j : Nat) : Int) := by rw [IntWalk.i64_in _ (by omega)]; omega
        have e2 : ((i : Int) + (j : Int)) / 2 = (h : Int) := by omega
        have e3 : IntKind.i64.wrap ((h : Int) + 1) = ((h + 1 : Nat) : Int) := by rw [IntWalk.i64_in _ (by omega)]; omega
        obtain ⟨q, hq⟩ : ∃ q, q = mid + m - 1 - h := ⟨_, rfl⟩
        have e4 : IntKind.i64.wrap ((p : Int) - (h : Int)) = (q : Int) := by rw [IntWalk.i64_in _ (by omega)]; omega
        have bh : (h : Int) < (n : Int) := by omega
        have bq : (q : Int) < (n : Int) := by omega
        obtain ⟨x, hx⟩ : ∃ x, x = f q := ⟨_, rfl⟩
        obtain ⟨y, hy⟩ : ∃ y, y = f h := ⟨_, rfl⟩
        have gx : G x := by rw [hx]; exact HM.out.hG q (by omega) (by omega)
        have gy : G y := by rw [hy]; exact HM.out.hG h (by omega) (by omega)
        have c1 := (HS.out.cell q (by omega)).1
        have c2 := (HS.out.cell h (by omega)).1
        rw [← hx] at c1
        rw [← hy] at c2
        have HA := Aside0.mk hx
        have HA2 := Aside0.mk hy
        have HQ := Aside0.mk hq
        have HK := Aside0.mk (fun W (s : SR w0 g cap n f W) => HC.out W x y s.gr s.lt gx gy)
        have HF := Aside0.mk (fun W (s : SR w0 g cap n f W) => (⟨(s.cell q (by omega)).1, (s.cell h (by omega)).1⟩ : _ ∧ _))
        clear gx gy hx hy hh hB hP hq
        go_upto_region 35 with fail
        by_cases hv : c x y < 0
        · have hd : decide (c x y < 0) = true := decide_eq_true hv
          go_region_held3 (fun w' => w'.cell? ⟨g, q, none⟩ = some (.int .i64 x) ∧ w'.cell? ⟨g, h, none⟩ = some (.int .i64 y))
            (first
              | (refine ⟨?_, ?_⟩ <;> assumption))
            (first
              | (go_at_fn gf; refine (HK.out _ (SR.drewN HS.out _)).mono ?_; rintro e w1 ⟨rfl, hb1⟩; have HS1 := Aside0.mk ((SR.drewN HS.out _).below hb1); have y1 := (HF.out _ HS1.out).1; have y2 := (HF.out _ HS1.out).2; rw [← HA.out] at y1; rw [← HA2.out] at y2; clear hb1))
          have HY2 := Aside0.mk (show h < r0 → c (f (mid + m - 1 - h)) (f h) < 0 from fun _ => by rw [← HQ.out, ← HA.out, ← HA2.out]; exact hv)
          clear c1 c2 y1 y2 HS HK HF hv hd HA HA2 HQ
          go_wp2
          go_roundg (h - i)
          case measure => omega
          case rel => exact ⟨i, h, rfl, by first | rfl | go_num, by omega, by omega, by omega, Nat.le_refl _, HX, HY2, HS1⟩
        · have hd : decide (c x y < 0) = false := decide_eq_false hv
          have HV := Aside0.mk hv
          go_region_held3 (fun w' => w'.cell? ⟨g, q, none⟩ = some (.int .i64 x) ∧ w'.cell? ⟨g, h, none⟩ = some (.int .i64 y))
            (first
              | (refine ⟨?_, ?_⟩ <;> assumption))
            (first
              | (go_at_fn gf; refine (HK.out _ (SR.drewN HS.out _)).mono ?_; rintro e w1 ⟨rfl, hb1⟩; have HS1 := Aside0.mk ((SR.drewN HS.out _).below hb1); have y1 := (HF.out _ HS1.out).1; have y2 := (HF.out _ HS1.out).2; rw [← HA.out] at y1; rw [← HA2.out] at y2; clear hb1))
          have HX2 := Aside0.mk (show s0 < h + 1 → ¬ c (f (mid + m - 1 - (h + 1 - 1))) (f (h + 1 - 1)) < 0 from fun _ => by rw [Nat.add_sub_cancel, ← HQ.out, ← HA.out, ← HA2.out]; have := HV.out; omega)
          clear c1 c2 y1 y2 HS HK HF hv hd HA HA2 HQ HV
          go_wp2
          go_roundg (j - (h + 1))
          case measure => omega
          case rel => exact ⟨h + 1, j, by first | rfl | go_num, rfl, by omega, by omega, by omega, Nat.le_refl _, HX2, HY, HS1⟩
      · have hz : ¬ (i : Int) < (j : Int) := by omega
        obtain rfl : i = j := by omega
        have hB := HB.out
        obtain ⟨en, hen⟩ : ∃ q, q = nn - i := ⟨_, rfl⟩
        have hN := HN.out
        have e1 : IntKind.i64.wrap ((nn : Int) - (i : Int)) = (en : Int) := by rw [IntWalk.i64_in _ (by omega)]; omega
        obtain ⟨hC, hmd⟩ := HR.out.cuts hi hj (show i + en = mid + m by omega) HX.out HY.out
        have HCU := Aside0.mk hC
        have HMD := Aside0.mk hmd
        have h1 : i ≤ m := hC.hst
        have h2 : m ≤ en := hC.hen
        have h3 : en ≤ b := hC.heb
        have h4 : a ≤ i := hC.ha
        have hmb2 : mid < b := hB.2.2.2.2.1
        have hma : a < mid := by have := HR.out.hm; omega
        clear hB hN hen hC hmd HX HY HC
        refine or3_ (show (i < m ∧ m < en) ∨ (i < m ∧ ¬ m < en) ∨ ¬ i < m by omega) ?_ ?_ ?_
        all_goals first
          | (rintro ⟨q1, q2⟩; have z1 : (i : Int) < (m : Int) := Int.ofNat_lt.2 q1; have z2 : (m : Int) < (en : Int) := Int.ofNat_lt.2 q2; have HC1 := Aside0.mk (slices_rotate.own HMX.out g cap n f i m en (.func (.func gf) #[] cb) w0 wr HS.out q1 q2 (by omega) hn); clear HS; go_upto_region 41 with (first | (go_at_call 73; refine HC1.out.mono ?_; rintro e w1 ⟨rfl, hs⟩; have HS := Aside0.mk hs; clear hs) | fail); clear HC1 z1 z2 q1 q2)
          | (rintro ⟨q1, q2⟩; have z1 : (i : Int) < (m : Int) := Int.ofNat_lt.2 q1; have z2 : ¬ (m : Int) < (en : Int) := fun k => q2 (Int.ofNat_lt.1 k); have HS1 := Aside0.mk (show SR w0 g cap n (rotF f i m en) wr by rw [rot_none f i m en (.inr (by omega)) h2]; exact HS.out); clear HS; have HS := HS1; clear HS1; go_upto_region 41 with fail; clear z1 z2 q1 q2)
          | (intro q1; have z1 : ¬ (i : Int) < (m : Int) := fun k => q1 (Int.ofNat_lt.1 k); have HS1 := Aside0.mk (show SR w0 g cap n (rotF f i m en) wr by rw [rot_none f i m en (.inl (by omega)) h2]; exact HS.out); clear HS; have HS := HS1; clear HS1; go_upto_region 41 with fail; clear z1 q1)
        all_goals
          refine or3_ (show (a < i ∧ i < mid) ∨ (a < i ∧ ¬ i < mid) ∨ ¬ a < i by omega) ?_ ?_ ?_
          all_goals first
            | (rintro ⟨q1, q2⟩; have z1 : (a : Int) < (i : Int) := Int.ofNat_lt.2 q1; have z2 : (i : Int) < (mid : Int) := Int.ofNat_lt.2 q2; have hml := HM.out.left HCU.out q1 (by rw [← HMD.out]; exact q2); have hc := HI.out (rotF f i m en) a i mid _ (by have := HD.out; omega) HS.out (by rw [← HMD.out] at hml; exact hml) (by omega); have HC1 := Aside0.mk hc; have HQ := Aside0.mk (show a < i ∧ i < i + (en - m) from ⟨q1, by rw [← HMD.out]; exact q2⟩); clear HS hml hc; go_upto_region 43 with (first | (go_at_call 71; refine HC1.out.mono ?_; rintro e w2 ⟨rfl, h, hd, hs⟩; have HS := Aside0.mk hs; have HL := Aside0.mk (show (a < i ∧ i < i + (en - m) ∧ DoneF c (rotF f i m en) h a (i + (en - m))) ∨ (¬ (a < i ∧ i < i + (en - m)) ∧ h = rotF f i m en) from .inl ⟨HQ.out.1, HQ.out.2, by rw [← HMD.out]; exact hd⟩); clear hs hd) | fail); clear HC1 z1 z2 q1 q2 HQ)
            | (rintro ⟨q1, q2⟩; have z1 : (a : Int) < (i : Int) := Int.ofNat_lt.2 q1; have z2 : ¬ (i : Int) < (mid : Int) := fun k => q2 (Int.ofNat_lt.1 k); obtain ⟨h, hh⟩ : ∃ h, h = rotF f i m en := ⟨_, rfl⟩; have HL := Aside0.mk (show (a < i ∧ i < i + (en - m) ∧ DoneF c (rotF f i m en) h a (i + (en - m))) ∨ (¬ (a < i ∧ i < i + (en - m)) ∧ h = rotF f i m en) from .inr ⟨by rw [← HMD.out]; omega, hh⟩); rw [← hh] at HS; clear hh; go_upto_region 43 with fail; clear z1 z2 q1 q2)
            | (intro q1; have z1 : ¬ (a : Int) < (i : Int) := fun k => q1 (Int.ofNat_lt.1 k); obtain ⟨h, hh⟩ : ∃ h, h = rotF f i m en := ⟨_, rfl⟩; have HL := Aside0.mk (show (a < i ∧ i < i + (en - m) ∧ DoneF c (rotF f i m en) h a (i + (en - m))) ∨ (¬ (a < i ∧ i < i + (en - m)) ∧ h = rotF f i m en) from .inr ⟨by omega, hh⟩); rw [← hh] at HS; clear hh; go_upto_region 43 with fail; clear z1 q1)
          all_goals
            rcases (show (mid < en ∧ en < b) ∨ (mid < en ∧ ¬ en < b) ∨ ¬ mid < en by omega) with ⟨q1, q2⟩ | ⟨q1, q2⟩ | q1
            · have z1 : (mid : Int) < (en : Int) := by omega
              have z2 : (en : Int) < (b : Int) := by omega
              have hsm : SameF (rotF f i m en) h a (i + (en - m)) := by
                rcases HL.out with ⟨_, _, D⟩ | ⟨_, rfl⟩
                · exact D.2
                · exact SameF.refl _ _ _
              have hml := HM.out.right HCU.out hsm (by rw [← HMD.out]; exact q1) q2
              have hc := HI.out h mid en b _ (by have := HD.out; omega) HS.out (by rw [← HMD.out] at hml; exact hml) hb
              have HC1 := Aside0.mk hc
              have HQ := Aside0.mk (show i + (en - m) < en ∧ en < b from ⟨by rw [← HMD.out]; exact q1, q2⟩)
              clear HS hml hc hsm
              go_wp2_with (first | (go_at_call 71; refine HC1.out.mono ?_; rintro e w3 ⟨rfl, k, hd, hs⟩; have HS := Aside0.mk hs; have HD2 := Aside0.mk (HM.out.done O HCU.out HL.out (.inl ⟨HQ.out.1, HQ.out.2, by rw [← HMD.out]; exact hd⟩)); clear hs hd) | fail)
              go_end0
              exact ⟨rfl, _, HD2.out, HS.out⟩
            · have z1 : (mid : Int) < (en : Int) := by omega
              have z2 : ¬ (en : Int) < (b : Int) := by omega
              have HD2 := Aside0.mk (HM.out.done O HCU.out HL.out (.inr ⟨by omega, rfl⟩))
              go_wp2
              go_end0
              exact ⟨rfl, _, HD2.out, HS.out⟩
            · have z1 : ¬ (mid : Int) < (en : Int) := by omega
              have HD2 := Aside0.mk (HM.out.done O HCU.out HL.out (.inr ⟨by rw [← HMD.out]; omega, rfl⟩))
              go_wp2
              go_end0
              exact ⟨rfl, _, HD2.out, HS.out⟩
theorem slices_symMerge.own (hmix : Try.prog.follows .mixedOrders = true) (g cap n : Nat) (gf : Nat) (cb : Array Value) (c : Int → Int → Int) (G : Int → Prop) (O : OrdF c G) (w0 : World) (eg : ∀ args w, (callFunc gf args).run Try.prog w = .ok (.enter gf args) w) (hcmp : CmpsF gf cb c G w0 g) (hn : n < 1000000) : ∀ d, MergesF gf cb c G w0 g cap n d
  | 0 => fun f a m b w hd S M hb => by have := M.am; have := M.mb; omega
  | d + 1 => fun f a m b w hd S M hb => by
    have ih := slices_symMerge.own hmix g cap n gf cb c G O w0 eg hcmp hn d
    by_cases h1 : m = a + 1
    · subst h1
      exact slices_symMerge.head hmix g cap n gf cb c G O w0 eg hcmp hn f a b w S M hb
    · by_cases h2 : b = m + 1
      · subst h2
        exact slices_symMerge.last hmix g cap n gf cb c G O w0 eg hcmp hn f a m w S M hb (by have := M.am; omega)
      · exact slices_symMerge.many hmix g cap n gf cb c G O w0 eg hcmp hn d ih f a m b w hd S M hb (by have := M.am; omega) (by have := M.mb; omega)
theorem DoneF.two {c : Int → Int → Int} {f F1 F2 F3 : Nat → Int} {m n : Nat} (D1 : DoneF c f F1 0 m) (D2 : DoneF c F1 F2 m n) (D3 : DoneF c F2 F3 0 n) (h : m ≤ n) : DoneF c f F3 0 n :=
  ⟨D3.1, (D1.2.wide (Nat.le_refl _) h).trans ((D2.2.wide (Nat.zero_le _) (Nat.le_refl _)).trans D3.2)⟩
set_option maxHeartbeats 8000000 in
set_option maxRecDepth 100000 in
theorem slices_stable.low (hmix : Try.prog.follows .mixedOrders = true) (g cap n : Nat) (gf : Nat) (cb : Array Value) (c : Int → Int → Int) (G : Int → Prop) (O : OrdF c G) (w0 : World) (eg : ∀ args w, (callFunc gf args).run Try.prog w = .ok (.enter gf args) w) (hcmp : CmpsF gf cb c G w0 g) (hn : n < 20)
    (f : Nat → Int) (w : World) (S : SR w0 g cap n f w) (hG : ∀ t, t < n → G (f t)) (rise : ∀ s t, s < t → t < n → f s < f t) :
    Calls Try.prog 61 #[.slice (some ⟨g, 0, none⟩) n cap, .int .i64 n, .func (.func gf) #[] cb] w fun e w' => e = .returned (.tuple #[]) ∧ ∃ F, DoneF c f F 0 n ∧ SR w0 g cap n F w' := by
  have HC1 := Aside0.mk (slices_insertion.own hmix g cap n f 0 n gf cb c G O w0 w S eg hcmp (Nat.le_refl _) (Nat.zero_le _) (by omega) (fun t _ h => hG t h) (fun s t _ h1 h2 => rise s t h1 h2))
  have z1 : ¬ (20 : Int) ≤ (n : Int) := by omega
  have z2 : ¬ (20 : Int) < (n : Int) := by omega
  clear S hcmp hG rise hmix
  go_enter Try.func61, Try.ntmps61
  go_wp2_with fail
  refine wp_loop_rounds 1 ?_
  rw [rounds_succ]
  go_wp2_with (first | (go_at_call 70; refine HC1.out.mono ?_; rintro e w1 ⟨rfl, F, hd, hs⟩; have HS := Aside0.mk hs; have HD := Aside0.mk hd; clear hs hd) | fail)
  refine wp_loop_rounds 1 ?_
  rw [rounds_succ]
  go_wp2
  go_end0
  exact ⟨rfl, F, HD.out, HS.out⟩
set_option maxHeartbeats 8000000 in
set_option maxRecDepth 100000 in
theorem slices_stable.high (hmix : Try.prog.follows .mixedOrders = true) (g cap n : Nat) (gf : Nat) (cb : Array Value) (c : Int → Int → Int) (G : Int → Prop) (O : OrdF c G) (w0 : World) (eg : ∀ args w, (callFunc gf args).run Try.prog w = .ok (.enter gf args) w) (hcmp : CmpsF gf cb c G w0 g) (hn : 20 ≤ n) (hn2 : n < 40)
    (f : Nat → Int) (w : World) (S : SR w0 g cap n f w) (hG : ∀ t, t < n → G (f t)) (rise : ∀ s t, s < t → t < n → f s < f t) :
    Calls Try.prog 61 #[.slice (some ⟨g, 0, none⟩) n cap, .int .i64 n, .func (.func gf) #[] cb] w fun e w' => e = .returned (.tuple #[]) ∧ ∃ F, DoneF c f F 0 n ∧ SR w0 g cap n F w' := by
  have HC1 := Aside0.mk (slices_insertion.own hmix g cap n f 0 20 gf cb c G O w0 w S eg hcmp hn (Nat.zero_le _) (by omega) (fun t _ h => hG t (by omega)) (fun s t _ h1 h2 => rise s t h1 (by omega)))
  have HC2 := Aside0.mk (fun (F1 : Nat → Int) (W : World) (D1 : DoneF c f F1 0 20) (S1 : SR w0 g cap n F1 W) => slices_insertion.own hmix g cap n F1 20 n gf cb c G O w0 W S1 eg hcmp (Nat.le_refl _) hn (by omega) (fun t h1 h2 => by rw [D1.2.1 t (by omega)]; exact hG t h2) (fun s t h0 h1 h2 => by rw [D1.2.1 t (by omega), D1.2.1 s (by omega)]; exact rise s t h1 h2))
  have HC3 := Aside0.mk (fun (F1 F2 : Nat → Int) (W : World) (h20 : 20 < n) (D1 : DoneF c f F1 0 20) (D2 : DoneF c F1 F2 20 n) (S2 : SR w0 g cap n F2 W) => slices_symMerge.own hmix g cap n gf cb c G O w0 eg hcmp (by omega) n F2 0 20 n W (by omega) S2 (mg_two (by omega) h20 (fun t _ h => hG t h) (fun s t _ h1 h2 => rise s t h1 h2) D1 D2) (Nat.le_refl _))
  have z1 : (20 : Int) ≤ (n : Int) := by omega
  have z3 : ¬ (40 : Int) ≤ (n : Int) := by omega
  have z4 : ¬ (40 : Int) < (n : Int) := by omega
  have HN := Aside0.mk hn
  clear S hcmp hG rise hmix
  go_enter Try.func61, Try.ntmps61
  go_wp2_with fail
  refine wp_loop_rounds 2 ?_
  rw [rounds_succ]
  go_wp2_with (first | (go_at_call 70; refine HC1.out.mono ?_; rintro e w1 ⟨rfl, F1, hd, hs⟩; have HS := Aside0.mk hs; have HD := Aside0.mk hd; have HC4 := Aside0.mk (HC2.out F1 w1 hd hs); clear hs hd HC1) | fail)
  rw [rounds_succ]
  go_wp2_with (first | (go_at_call 70; refine HC4.out.mono ?_; rintro e w2 ⟨rfl, F2, hd, hs⟩; have HS2 := Aside0.mk hs; have HD2 := Aside0.mk hd; clear hs hd HS HC4) | fail)
  by_cases h20 : 20 < n
  · have z2 : (20 : Int) < (n : Int) := by omega
    have HC5 := Aside0.mk (HC3.out F1 F2 w2 h20 HD.out HD2.out HS2.out)
    clear HC3 HC2 h20
    refine wp_loop_rounds 2 ?_
    rw [rounds_succ]
    go_wp2_with fail
    refine wp_loop_rounds 1 ?_
    rw [rounds_succ]
    go_wp2_with (first | (go_at_call 71; refine HC5.out.mono ?_; rintro e w3 ⟨rfl, F3, hd, hs⟩; have HS3 := Aside0.mk hs; have HD3 := Aside0.mk hd; clear hs hd) | fail)
    rw [rounds_succ]
    go_wp2
    go_end0
    exact ⟨rfl, F3, DoneF.two HD.out HD2.out HD3.out HN.out, HS3.out⟩
  · have z2 : ¬ (20 : Int) < (n : Int) := by omega
    have e20 : n = 20 := by omega
    have HE := Aside0.mk e20
    have HD3 := Aside0.mk (show DoneF c f F2 0 n from ⟨fun s t _ p q => by rw [HD2.out.2.1 t (by omega), HD2.out.2.1 s (by omega)]; exact HD.out.1 s t (Nat.zero_le _) p (by omega), (HD.out.2.wide (Nat.le_refl _) HN.out).trans (HD2.out.2.wide (Nat.zero_le _) (Nat.le_refl _))⟩)
    clear HC3 HC2 h20 e20
    refine wp_loop_rounds 1 ?_
    rw [rounds_succ]
    go_wp2
    go_end0
    exact ⟨rfl, F2, HD3.out, HS2.out⟩
set_option maxHeartbeats 8000000 in
set_option maxRecDepth 100000 in
theorem slices_SortStable.own (hmix : Try.prog.follows .mixedOrders = true) (g cap n : Nat) (gf : Nat) (cb : Array Value) (c : Int → Int → Int) (G : Int → Prop) (O : OrdF c G) (w0 : World) (eg : ∀ args w, (callFunc gf args).run Try.prog w = .ok (.enter gf args) w) (hcmp : CmpsF gf cb c G w0 g) (hn : n < 40)
    (f : Nat → Int) (w : World) (S : SR w0 g cap n f w) (hG : ∀ t, t < n → G (f t)) (rise : ∀ s t, s < t → t < n → f s < f t) :
    Calls Try.prog 44 #[.slice (some ⟨g, 0, none⟩) n cap, .func (.func gf) #[] cb] w fun e w' => e = .returned (.tuple #[]) ∧ ∃ F, DoneF c f F 0 n ∧ SR w0 g cap n F w' := by
  have HC1 := Aside0.mk (show Calls Try.prog 61 #[.slice (some ⟨g, 0, none⟩) n cap, .int .i64 n, .func (.func gf) #[] cb] w fun e w' => e = .returned (.tuple #[]) ∧ ∃ F, DoneF c f F 0 n ∧ SR w0 g cap n F w' by
    by_cases h : n < 20
    · exact slices_stable.low hmix g cap n gf cb c G O w0 eg hcmp h f w S hG rise
    · exact slices_stable.high hmix g cap n gf cb c G O w0 eg hcmp (by omega) hn f w S hG rise)
  clear S hcmp hG rise hmix
  go_enter Try.func44, Try.ntmps44
  go_wp2_with (first | (go_at_call 61; refine HC1.out.mono ?_; rintro e w1 ⟨rfl, F, hd, hs⟩; have HS := Aside0.mk hs; have HD := Aside0.mk hd; clear hs hd) | fail)
  go_end0
  exact ⟨rfl, F, HD.out, HS.out⟩

end Go.Proofs.Ytheijdpplihigaa.P
