/- A part of this seat's proofs: contracts of the translated functions, written by the session's own program (gp.py) out of the kit's print.py and the session's own contracts; no conditions of its own. -/
import Derived.Test.YtheijdpplihigaaPx0
import Derived.Test.YtheijdpplihigaaPx2
import Derived.Test.YtheijdpplihigaaPx3
import Derived.Test.YtheijdpplihigaaPx7
import Derived.Test.YtheijdpplihigaaPx8
import Derived.Test.YtheijdpplihigaaPx9
import Derived.Test.YtheijdpplihigaaPx10
import Derived.Test.YtheijdpplihigaaPx11
namespace Go.Proofs.Ytheijdpplihigaa.P
open Go.RowKit Go.Proofs.YtheijdpplihigaaW.PrintWords Go.Proofs.YtheijdpplihigaaW.PrintLast Go.Proofs.YtheijdpplihigaaW.PrintMore
attribute [local go_sem] max2_int min2_int max_two min_two max_three min_three max_four min_four   -- for this text's walks alone
set_option linter.unusedVariables false
set_option linter.unusedSimpArgs false

/-! ### given: 46_meetingsOn.tpl -/
/-- Where two threads of a list meet, and whether that is told in numbers that can be compared. -/
def mtgL (l0 : List S25) (k x : Int) : Option (List Int) := impl_meeting.f ((rd_T25 l0 k).f0) ((rd_T25 l0 k).f1) ((rd_T25 l0 x).f0) ((rd_T25 l0 x).f1)
def mtgOk (l0 : List S25) (k x : Int) : Bool := match mtgL l0 k x with
  | some r => decide (r.length = 4 ∧ 0 < rd r 1 ∧ rd r 1 ≤ 1000000000 ∧ -1000000000 ≤ rd r 0 ∧ rd r 0 ≤ 1000000000)
  | none => false
def mtgG (l0 : List S25) (k x : Int) : Prop := 0 ≤ x ∧ x < (l0.length : Int) ∧ mtgOk l0 k x = true
/-- The comparison of two meetings on one thread. -/
def mtgC (l0 : List S25) (k x y : Int) : Int := ((mtgL l0 k x).bind fun p => (mtgL l0 k y).bind fun q => impl_compareMeetings.f p q).getD 0
theorem mtgOk_told {l0 : List S25} {k x : Int} (h : mtgOk l0 k x = true) : ∃ r, mtgL l0 k x = some r ∧ r.length = 4 ∧ 0 < rd r 1 ∧ rd r 1 ≤ 1000000000 ∧ -1000000000 ≤ rd r 0 ∧ rd r 0 ≤ 1000000000 := by
  unfold mtgOk at h
  cases hr : mtgL l0 k x with
  | none => rw [hr] at h; cases h
  | some r => rw [hr] at h; exact ⟨r, rfl, of_decide_eq_true h⟩
theorem cmpI_told_ (a b : Int) : cmp_Compare_int.f a b = some (if a < b then -1 else if a > b then 1 else 0) := by
  unfold cmp_Compare_int.f cmp_isNaN_int.f
  simp only [Option.bind_some, bne_self_eq_false]
  rw [if_neg (by decide), if_neg (by decide)]
  repeat' split
  all_goals rfl
theorem cmpM_told {p q : List Int} (hp : p.length = 4) (hq : q.length = 4) : impl_compareMeetings.f p q = some (if wrap64 ((rd p 0) * (rd q 1)) < wrap64 ((rd q 0) * (rd p 1)) then -1 else if wrap64 ((rd p 0) * (rd q 1)) > wrap64 ((rd q 0) * (rd p 1)) then 1 else 0) := by
  unfold impl_compareMeetings.f
  rw [hp, hq]
  rw [if_pos (by decide), if_pos (by decide), if_pos (by decide), if_pos (by decide), cmpI_told_]
  rfl
theorem mtgC_told {l0 : List S25} {k x y : Int} {p q : List Int} (hx : mtgL l0 k x = some p) (hy : mtgL l0 k y = some q) (hp : p.length = 4) (hq : q.length = 4) : impl_compareMeetings.f p q = some (mtgC l0 k x y) := by
  unfold mtgC
  rw [hx, hy, Option.bind_some, Option.bind_some, cmpM_told hp hq]
  rfl
theorem mtg_prod {a b : Int} (h1 : -1000000000 ≤ a) (h2 : a ≤ 1000000000) (h3 : 0 < b) (h4 : b ≤ 1000000000) : wrap64 (a * b) = a * b := by
  have k1 : a * b ≤ 1000000000 * 1000000000 := Int.le_trans (Int.mul_le_mul_of_nonneg_right h2 (by omega)) (Int.mul_le_mul_of_nonneg_left h4 (by omega))
  have k2 : -1000000000 * b ≤ a * b := Int.mul_le_mul_of_nonneg_right h1 (by omega)
  unfold wrap64
  omega
theorem mtgC_ord (l0 : List S25) (k : Int) : OrdF (mtgC l0 k) (mtgG l0 k) := by
  have key : ∀ x y, mtgG l0 k x → mtgG l0 k y → ∃ p q : List Int, mtgL l0 k x = some p ∧ mtgL l0 k y = some q ∧ 0 < rd p 1 ∧ 0 < rd q 1 ∧ mtgC l0 k x y = if (rd p 0) * (rd q 1) < (rd q 0) * (rd p 1) then -1 else if (rd p 0) * (rd q 1) > (rd q 0) * (rd p 1) then 1 else 0 := by
    rintro x y ⟨_, _, gx⟩ ⟨_, _, gy⟩
    obtain ⟨p, hp, l1, a1, a2, a3, a4⟩ := mtgOk_told gx
    obtain ⟨q, hq, l2, b1, b2, b3, b4⟩ := mtgOk_told gy
    have h := mtgC_told hp hq l1 l2
    rw [cmpM_told l1 l2, mtg_prod a3 a4 b1 b2, mtg_prod b3 b4 a1 a2] at h
    exact ⟨p, q, hp, hq, a1, b1, (Option.some.inj h).symm⟩
  refine ⟨fun x y gx gy => ?_, fun x y z gx gy gz => ?_⟩
  · obtain ⟨p, q, hp, hq, _, _, e1⟩ := key x y gx gy
    obtain ⟨q', p', hq', hp', _, _, e2⟩ := key y x gy gx
    rw [hp] at hp'; rw [hq] at hq'
    obtain rfl := Option.some.inj hp'
    obtain rfl := Option.some.inj hq'
    rw [e1, e2]
    generalize rd p 0 * rd q 1 = u
    generalize rd q 0 * rd p 1 = v
    repeat' split
    all_goals omega
  · obtain ⟨p, q, hp, hq, d1, d2, e1⟩ := key x y gx gy
    obtain ⟨q', r, hq', hr, _, d3, e2⟩ := key y z gy gz
    obtain ⟨p', r', hp', hr', _, _, e3⟩ := key x z gx gz
    rw [hp] at hp'; rw [hq] at hq'; rw [hr] at hr'
    obtain rfl := Option.some.inj hp'
    obtain rfl := Option.some.inj hq'
    obtain rfl := Option.some.inj hr'
    generalize rd p 0 = a at *
    generalize rd q 0 = b at *
    generalize rd r 0 = c at *
    generalize rd p 1 = u at *
    generalize rd q 1 = v at *
    generalize rd r 1 = t at *
    intro h1 h2
    have n1 : a * v ≤ b * u := by rw [e1] at h1; repeat' split at h1 <;> omega
    have n2 : b * t ≤ c * v := by rw [e2] at h2; repeat' split at h2 <;> omega
    have m1 : a * v * t ≤ b * u * t := Int.mul_le_mul_of_nonneg_right n1 (by omega)
    have m2 : b * t * u ≤ c * v * u := Int.mul_le_mul_of_nonneg_right n2 (by omega)
    have s1 : a * v * t = v * (a * t) := by rw [Int.mul_comm a v, Int.mul_assoc]
    have s2 : c * v * u = v * (c * u) := by rw [Int.mul_comm c v, Int.mul_assoc]
    have s3 : b * u * t = b * t * u := by rw [Int.mul_assoc, Int.mul_assoc, Int.mul_comm u t]
    have m3 : v * (a * t) ≤ v * (c * u) := by omega
    have m4 : a * t ≤ c * u := Int.le_of_mul_le_mul_left m3 d2
    refine ⟨by rw [e3]; repeat' split <;> omega, fun hs => ?_⟩
    have m5 : v * (a * t) < v * (c * u) := by
      rcases hs with hs | hs
      · have n3 : a * v < b * u := by rw [e1] at hs; repeat' split at hs <;> omega
        have := Int.mul_lt_mul_of_pos_right n3 d3
        omega
      · have n3 : b * t < c * v := by rw [e2] at hs; repeat' split at hs <;> omega
        have := Int.mul_lt_mul_of_pos_right n3 d1
        omega
    have m6 : a * t < c * u := Int.lt_of_mul_lt_mul_left m5 (by omega)
    rw [e3, if_pos m6]
    omega
theorem meetT_some (a b c d : Int) : ∃ v, impl_doThreadsMeet.f a b c d = some v := by
  unfold impl_doThreadsMeet.f
  repeat' split
  all_goals exact ⟨_, rfl⟩
set_option maxHeartbeats 4000000 in
theorem impl_MeetingsOnThread_1.asks (A0 : Option Addr) (c0 : Nat) (l0 : List S25) (kk : Int) (B C : Nat) (w : World) (hr0 : Kd.C k25 w A0 l0.length l0) (h0 : 0 ≤ kk) (h1 : kk < (l0.length : Int))
    (hb : w.cell? ⟨B, 0, none⟩ = some (.slice A0 l0.length c0)) (hc : w.cell? ⟨C, 0, none⟩ = some (.int .i64 kk)) :
    Asks Try.prog 43 #[.pointer (some ⟨B, 0, none⟩), .pointer (some ⟨C, 0, none⟩)] (Value.int .i64) (fun x => impl_doThreadsMeet.f ((rd_T25 l0 kk).f0) ((rd_T25 l0 kk).f1) ((rd_T25 l0 x).f0) ((rd_T25 l0 x).f1) == some true) (fun x => 0 ≤ x ∧ x ≤ (l0.length : Int) - 1) w := by
  intro W x hW hx
  have hb' : W.cell? ⟨B, 0, none⟩ = some (.slice A0 l0.length c0) := (hW.cell (p := ⟨B, 0, none⟩) (World.block_lt_of_cell? w _ hb)).trans hb
  have hc' : W.cell? ⟨C, 0, none⟩ = some (.int .i64 kk) := (hW.cell (p := ⟨C, 0, none⟩) (World.block_lt_of_cell? w _ hc)).trans hc
  have hR := Kd.C_below hr0 hW
  obtain ⟨ad, e1, x1, x2⟩ := at_T25 hR kk h0 h1
  cases e1
  obtain ⟨ad', e2, x3, x4⟩ := at_T25 hR x hx.1 (by omega)
  obtain rfl : ad = ad' := by injection e2
  obtain ⟨v, hv⟩ := meetT_some ((rd_T25 l0 kk).f0) ((rd_T25 l0 kk).f1) ((rd_T25 l0 x).f0) ((rd_T25 l0 x).f1)
  have HV := Aside0.mk hv
  have HE := Aside0.mk (show v = (impl_doThreadsMeet.f ((rd_T25 l0 kk).f0) ((rd_T25 l0 kk).f1) ((rd_T25 l0 x).f0) ((rd_T25 l0 x).f1) == some true) by rw [hv]; cases v <;> rfl)
  have HF := Aside0.mk (fun (W' : World) (h : Below W.heap.size W W') => (⟨(h.cell (World.block_lt_of_cell? W _ hb')).trans hb', (h.cell (World.block_lt_of_cell? W _ hc')).trans hc', (h.cell (World.block_lt_of_cell? W _ x1)).trans x1, (h.cell (World.block_lt_of_cell? W _ x2)).trans x2, (h.cell (World.block_lt_of_cell? W _ x3)).trans x3, (h.cell (World.block_lt_of_cell? W _ x4)).trans x4⟩ : W'.cell? ⟨B, 0, none⟩ = some (.slice (some ad) l0.length c0) ∧ W'.cell? ⟨C, 0, none⟩ = some (.int .i64 kk) ∧ W'.cell? (ad.add ((kk).toNat * 2)) = some (.int .i64 ((rd_T25 l0 kk).f0)) ∧ W'.cell? ⟨(ad.add ((kk).toNat * 2)).block, (ad.add ((kk).toNat * 2)).off + 1, none⟩ = some (.int .i64 ((rd_T25 l0 kk).f1)) ∧ W'.cell? (ad.add ((x).toNat * 2)) = some (.int .i64 ((rd_T25 l0 x).f0)) ∧ W'.cell? ⟨(ad.add ((x).toNat * 2)).block, (ad.add ((x).toNat * 2)).off + 1, none⟩ = some (.int .i64 ((rd_T25 l0 x).f1))))
  have HB := Aside0.mk (Below.refl W.heap.size W)
  have p1 := eq_true h0
  have p2 := eq_true h1
  have p3 := eq_true hx.1
  have p4 := eq_true (show x < (l0.length : Int) by omega)
  have hu := Try.underlying25
  clear hr0 hR hv hx h0 h1 hb hc hW
  go_enter Try.func43, Try.ntmps43
  go_wp2
  go_region_held3 (fun w' => w'.cell? ⟨B, 0, none⟩ = some (.slice (some ad) l0.length c0) ∧ w'.cell? ⟨C, 0, none⟩ = some (.int .i64 kk) ∧ w'.cell? (ad.add ((kk).toNat * 2)) = some (.int .i64 ((rd_T25 l0 kk).f0)) ∧ w'.cell? ⟨(ad.add ((kk).toNat * 2)).block, (ad.add ((kk).toNat * 2)).off + 1, none⟩ = some (.int .i64 ((rd_T25 l0 kk).f1)) ∧ w'.cell? (ad.add ((x).toNat * 2)) = some (.int .i64 ((rd_T25 l0 x).f0)) ∧ w'.cell? ⟨(ad.add ((x).toNat * 2)).block, (ad.add ((x).toNat * 2)).off + 1, none⟩ = some (.int .i64 ((rd_T25 l0 x).f1)))
    (first
      | (refine ⟨?_, ?_, ?_, ?_, ?_, ?_⟩ <;> assumption))
    (first
      | (go_at_call 38; (with_reducible refine (impl_doThreadsMeet.calls ((rd_T25 l0 kk).f0) ((rd_T25 l0 kk).f1) ((rd_T25 l0 x).f0) ((rd_T25 l0 x).f1) v _ HV.out).mono ?_); rintro e w1 ⟨rfl, hb1⟩; have HB1 := Aside0.mk (below_step (by repeat (first | (with_reducible first | apply below_alloc | apply pw_below_drewN | apply below_drew1) | exact HB.out)) hb1); obtain ⟨y1, y2, y3, y4, y5, y6⟩ := HF.out w1 HB1.out; clear hb1))
  all_goals
    go_wp2
    go_ret
    exact ⟨by rw [← HE.out]; rfl, HB1.out⟩
set_option maxHeartbeats 4000000 in
theorem impl_MeetingsOnThread_2.cmps (A0 : Option Addr) (c0 : Nat) (l0 : List S25) (kk : Int) (B C g : Nat) (u w : World) (hu0 : Below u.heap.size u w) (hg : u.heap.size ≤ g) (hr0 : Kd.C k25 u A0 l0.length l0) (h0 : 0 ≤ kk) (h1 : kk < (l0.length : Int))
    (hb : u.cell? ⟨B, 0, none⟩ = some (.slice A0 l0.length c0)) (hc : u.cell? ⟨C, 0, none⟩ = some (.int .i64 kk)) :
    CmpsF 45 #[.pointer (some ⟨B, 0, none⟩), .pointer (some ⟨C, 0, none⟩)] (mtgC l0 kk) (mtgG l0 kk) w g := by
  rintro W x y hgr hlt ⟨g1, g2, g3⟩ ⟨g4, g5, g6⟩
  obtain ⟨r1, m1, k1, _⟩ := mtgOk_told g3
  obtain ⟨r2, m2, k2, _⟩ := mtgOk_told g6
  have hm := mtgC_told m1 m2 k1 k2
  have hW : Below u.heap.size u W := hu0.grown hgr hu0.size (fun k hk => by injection hk with hk; omega)
  have hb' : W.cell? ⟨B, 0, none⟩ = some (.slice A0 l0.length c0) := (hW.cell (p := ⟨B, 0, none⟩) (World.block_lt_of_cell? u _ hb)).trans hb
  have hc' : W.cell? ⟨C, 0, none⟩ = some (.int .i64 kk) := (hW.cell (p := ⟨C, 0, none⟩) (World.block_lt_of_cell? u _ hc)).trans hc
  have hR := Kd.C_below hr0 hW
  obtain ⟨ad, e1, x1, x2⟩ := at_T25 hR kk h0 h1
  cases e1
  obtain ⟨ad', e2, x3, x4⟩ := at_T25 hR x g1 g2
  obtain rfl : ad = ad' := by injection e2
  obtain ⟨ad', e3, x5, x6⟩ := at_T25 hR y g4 g5
  obtain rfl : ad = ad' := by injection e3
  have HF := Aside0.mk (fun (W' : World) (h : Below W.heap.size W W') => (⟨(h.cell (World.block_lt_of_cell? W _ hb')).trans hb', (h.cell (World.block_lt_of_cell? W _ hc')).trans hc', (h.cell (World.block_lt_of_cell? W _ x1)).trans x1, (h.cell (World.block_lt_of_cell? W _ x2)).trans x2, (h.cell (World.block_lt_of_cell? W _ x3)).trans x3, (h.cell (World.block_lt_of_cell? W _ x4)).trans x4, (h.cell (World.block_lt_of_cell? W _ x5)).trans x5, (h.cell (World.block_lt_of_cell? W _ x6)).trans x6⟩ : W'.cell? ⟨B, 0, none⟩ = some (.slice (some ad) l0.length c0) ∧ W'.cell? ⟨C, 0, none⟩ = some (.int .i64 kk) ∧ W'.cell? (ad.add ((kk).toNat * 2)) = some (.int .i64 ((rd_T25 l0 kk).f0)) ∧ W'.cell? ⟨(ad.add ((kk).toNat * 2)).block, (ad.add ((kk).toNat * 2)).off + 1, none⟩ = some (.int .i64 ((rd_T25 l0 kk).f1)) ∧ W'.cell? (ad.add ((x).toNat * 2)) = some (.int .i64 ((rd_T25 l0 x).f0)) ∧ W'.cell? ⟨(ad.add ((x).toNat * 2)).block, (ad.add ((x).toNat * 2)).off + 1, none⟩ = some (.int .i64 ((rd_T25 l0 x).f1)) ∧ W'.cell? (ad.add ((y).toNat * 2)) = some (.int .i64 ((rd_T25 l0 y).f0)) ∧ W'.cell? ⟨(ad.add ((y).toNat * 2)).block, (ad.add ((y).toNat * 2)).off + 1, none⟩ = some (.int .i64 ((rd_T25 l0 y).f1))))
  have HB := Aside0.mk (Below.refl W.heap.size W)
  have HM1 := Aside0.mk (show impl_meeting.f ((rd_T25 l0 kk).f0) ((rd_T25 l0 kk).f1) ((rd_T25 l0 x).f0) ((rd_T25 l0 x).f1) = some r1 from m1)
  have HM2 := Aside0.mk (show impl_meeting.f ((rd_T25 l0 kk).f0) ((rd_T25 l0 kk).f1) ((rd_T25 l0 y).f0) ((rd_T25 l0 y).f1) = some r2 from m2)
  have HM := Aside0.mk hm
  have p1 := eq_true h0
  have p2 := eq_true h1
  have p3 := eq_true g1
  have p4 := eq_true g2
  have p5 := eq_true g4
  have p6 := eq_true g5
  have hu := Try.underlying25
  clear hr0 hR h0 h1 hb hc hW hgr g1 g2 g3 g4 g5 g6 m1 m2 hm k1 k2 hu0 hg hlt
  go_enter Try.func45, Try.ntmps45
  go_wp2
  go_region_held3 (fun w' => w'.cell? ⟨B, 0, none⟩ = some (.slice (some ad) l0.length c0) ∧ w'.cell? ⟨C, 0, none⟩ = some (.int .i64 kk) ∧ w'.cell? (ad.add ((kk).toNat * 2)) = some (.int .i64 ((rd_T25 l0 kk).f0)) ∧ w'.cell? ⟨(ad.add ((kk).toNat * 2)).block, (ad.add ((kk).toNat * 2)).off + 1, none⟩ = some (.int .i64 ((rd_T25 l0 kk).f1)) ∧ w'.cell? (ad.add ((x).toNat * 2)) = some (.int .i64 ((rd_T25 l0 x).f0)) ∧ w'.cell? ⟨(ad.add ((x).toNat * 2)).block, (ad.add ((x).toNat * 2)).off + 1, none⟩ = some (.int .i64 ((rd_T25 l0 x).f1)) ∧ w'.cell? (ad.add ((y).toNat * 2)) = some (.int .i64 ((rd_T25 l0 y).f0)) ∧ w'.cell? ⟨(ad.add ((y).toNat * 2)).block, (ad.add ((y).toNat * 2)).off + 1, none⟩ = some (.int .i64 ((rd_T25 l0 y).f1)))
    (first
      | (refine ⟨?_, ?_, ?_, ?_, ?_, ?_, ?_, ?_⟩ <;> assumption))
    (first
      | (go_at_call 33; (with_reducible refine (impl_meeting.calls ((rd_T25 l0 kk).f0) ((rd_T25 l0 kk).f1) ((rd_T25 l0 x).f0) ((rd_T25 l0 x).f1) r1 _ HM1.out).mono ?_); rintro e w1 ⟨v1, rfl, ho1, hb1⟩; have HO1 := Aside0.mk ho1; have HB1 := Aside0.mk (below_step (by repeat (first | (with_reducible first | apply below_alloc | apply pw_below_drewN | apply below_drew1) | exact HB.out)) hb1); obtain ⟨y1, y2, y3, y4, y5, y6, y7, y8⟩ := HF.out w1 HB1.out; clear hb1 ho1)
      | (go_at_call 33; (with_reducible refine (impl_meeting.calls ((rd_T25 l0 kk).f0) ((rd_T25 l0 kk).f1) ((rd_T25 l0 y).f0) ((rd_T25 l0 y).f1) r2 _ HM2.out).mono ?_); rintro e w2 ⟨v2, rfl, ho2, hb2⟩; have HO3 := Aside0.mk (Kd.R_below HO1.out hb2); have HO2 := Aside0.mk ho2; have HB2 := Aside0.mk (below_step HB1.out hb2); obtain ⟨y1, y2, y3, y4, y5, y6, y7, y8⟩ := HF.out w2 HB2.out; obtain ⟨A1, q1, e4⟩ := Kd.R_slice HO3.out; subst e4; obtain ⟨A2, q2, e5⟩ := Kd.R_slice HO2.out; subst e5; clear hb2 ho2)
      | (go_at_call 46; (with_reducible refine (impl_compareMeetings.calls _ _ r1 _ _ r2 (mtgC l0 kk x y) _ (Kd.R_reads' HO3.out).2.2 (Kd.R_reads' HO3.out).2.1 (Kd.R_reads' HO2.out).2.2 (Kd.R_reads' HO2.out).2.1 HM.out).mono ?_); rintro e w3 ⟨rfl, ⟨nd, rfl⟩⟩))
  all_goals
    go_wp2
    go_ret
    exact ⟨rfl, by repeat (first | (with_reducible first | apply below_alloc | apply pw_below_drewN | apply below_drew1) | exact HB2.out)⟩
/-! numbers in order by a comparison first, by size then -/
def lt2b (c : Int → Int → Int) (x y : Int) : Bool := decide (c x y < 0) || (decide (c x y = 0) && decide (x < y))
theorem lt2b_iff {c : Int → Int → Int} {x y : Int} : lt2b c x y = true ↔ lt2 c x y := by
  unfold lt2b lt2
  rw [Bool.or_eq_true, Bool.and_eq_true, decide_eq_true_eq, decide_eq_true_eq, decide_eq_true_eq]
def insC (c : Int → Int → Int) (x : Int) : List Int → List Int
  | [] => [x]
  | y :: r => if lt2b c x y = true then x :: y :: r else y :: insC c x r
def isortC (c : Int → Int → Int) : List Int → List Int
  | [] => []
  | x :: r => insC c x (isortC c r)
theorem insC_mem {c : Int → Int → Int} {x z : Int} : ∀ {l : List Int}, z ∈ insC c x l ↔ z = x ∨ z ∈ l
  | [] => by simp [insC]
  | y :: r => by
    unfold insC
    split
    · simp
    · rw [List.mem_cons, insC_mem (l := r), List.mem_cons]
      constructor
      · rintro (h | h | h) <;> simp [h]
      · rintro (h | h | h) <;> simp [h]
theorem isortC_mem {c : Int → Int → Int} {z : Int} : ∀ {l : List Int}, z ∈ isortC c l ↔ z ∈ l
  | [] => by simp [isortC]
  | x :: r => by unfold isortC; rw [insC_mem, isortC_mem (l := r), List.mem_cons]
theorem lt2_total {c : Int → Int → Int} {G : Int → Prop} (O : OrdF c G) {x y : Int} (gx : G x) (gy : G y) (hne : x ≠ y) (h : ¬ lt2 c x y) : lt2 c y x := by
  have a1 := O.anti x y gx gy
  have a2 := O.anti y x gy gx
  unfold lt2 at *
  by_cases h1 : c y x < 0
  · exact .inl h1
  · refine .inr ⟨by omega, ?_⟩
    have h2 : c x y = 0 := by omega
    by_cases h3 : x < y
    · exact absurd (.inr ⟨h2, h3⟩) h
    · omega
theorem insC_pw {c : Int → Int → Int} {G : Int → Prop} (O : OrdF c G) {x : Int} (gx : G x) : ∀ {l : List Int}, (∀ z ∈ l, G z ∧ z ≠ x) → l.Pairwise (lt2 c) → (insC c x l).Pairwise (lt2 c)
  | [], _, _ => by simp [insC]
  | y :: r, hg, hp => by
    obtain ⟨h1, h2⟩ := List.pairwise_cons.1 hp
    obtain ⟨gy, hne⟩ := hg y (by simp)
    unfold insC
    split
    · rename_i hl
      have hl := lt2b_iff.1 hl
      refine List.pairwise_cons.2 ⟨fun z hz => ?_, hp⟩
      rcases List.mem_cons.1 hz with rfl | hz
      · exact hl
      · exact lt2_trans O gx gy (hg z (by simp [hz])).1 hl (h1 z hz)
    · rename_i hl
      have hl : ¬ lt2 c x y := fun h => hl (lt2b_iff.2 h)
      refine List.pairwise_cons.2 ⟨fun z hz => ?_, insC_pw O gx (fun z hz => hg z (by simp [hz])) h2⟩
      rcases insC_mem.1 hz with rfl | hz
      · exact lt2_total O gx gy (fun e => hne e.symm) hl
      · exact h1 z hz
theorem isortC_pw {c : Int → Int → Int} {G : Int → Prop} (O : OrdF c G) : ∀ {l : List Int}, (∀ z ∈ l, G z) → l.Nodup → (isortC c l).Pairwise (lt2 c)
  | [], _, _ => by simp [isortC]
  | x :: r, hg, hn => by
    obtain ⟨h1, h2⟩ := List.nodup_cons.1 hn
    unfold isortC
    exact insC_pw O (hg x (by simp)) (fun z hz => ⟨hg z (by simp [isortC_mem.1 hz]), fun e => h1 (e ▸ isortC_mem.1 hz)⟩) (isortC_pw O (fun z hz => hg z (by simp [hz])) h2)
/-- Two rows in a strict order that hold the same things are the same. -/
theorem pw_ext {c : Int → Int → Int} {G : Int → Prop} (O : OrdF c G) : ∀ {l m : List Int}, (∀ z ∈ l, G z) → l.Pairwise (lt2 c) → m.Pairwise (lt2 c) → (∀ z, z ∈ l ↔ z ∈ m) → l = m
  | [], m, _, _, _, h => by
    cases m with
    | nil => rfl
    | cons y r => exact absurd ((h y).2 (by simp)) (by simp)
  | x :: l, m, hg, h1, h2, h => by
    cases m with
    | nil => exact absurd ((h x).1 (by simp)) (by simp)
    | cons y r =>
      obtain ⟨p1, p2⟩ := List.pairwise_cons.1 h1
      obtain ⟨q1, q2⟩ := List.pairwise_cons.1 h2
      have gx := hg x (by simp)
      have gy := hg y ((h y).2 (by simp))
      have e : x = y := by
        rcases List.mem_cons.1 ((h x).1 (by simp)) with e | hx
        · exact e
        · rcases List.mem_cons.1 ((h y).2 (by simp)) with e | hy
          · exact e.symm
          · exact absurd (lt2_trans O gx gy gx (p1 y hy) (q1 x hx)) (lt2_irrefl O gx)
      subst e
      have : l = r := pw_ext O (fun z hz => hg z (by simp [hz])) p2 q2 (fun z => by
        constructor
        · intro hz
          rcases List.mem_cons.1 ((h z).1 (by simp [hz])) with e | hr
          · subst e; exact absurd (p1 z hz) (lt2_irrefl O gx)
          · exact hr
        · intro hz
          rcases List.mem_cons.1 ((h z).2 (by simp [hz])) with e | hr
          · subst e; exact absurd (q1 z hz) (lt2_irrefl O gx)
          · exact hr)
      rw [this]
theorem tabF_getD (xs : List Int) : tabF xs.length (fun t => xs.getD t 0) = xs := by
  unfold tabF
  apply List.ext_getElem
  · simp
  · intro i h1 h2
    simp [List.getD_eq_getElem?_getD, List.getElem?_eq_getElem h2]
theorem tabF_mem {n : Nat} {f : Nat → Int} {z : Int} : z ∈ tabF n f ↔ ∃ t, t < n ∧ z = f t := by
  unfold tabF
  rw [List.mem_map]
  constructor
  · rintro ⟨t, ht, rfl⟩; exact ⟨t, List.mem_range.1 ht, rfl⟩
  · rintro ⟨t, ht, rfl⟩; exact ⟨t, List.mem_range.2 ht, rfl⟩
theorem tabF_pw {R : Int → Int → Prop} {n : Nat} {f : Nat → Int} (h : ∀ s t, s < t → t < n → R (f s) (f t)) : (tabF n f).Pairwise R := by
  unfold tabF
  rw [List.pairwise_map]
  exact List.Pairwise.imp_of_mem (fun ha hb hab => h _ _ hab (List.mem_range.1 hb)) List.pairwise_lt_range
theorem Done_sort {c : Int → Int → Int} {G : Int → Prop} (O : OrdF c G) {xs : List Int} (hg : ∀ z ∈ xs, G z) (hn : xs.Nodup) {F : Nat → Int} (D : DoneF c (fun t => xs.getD t 0) F 0 xs.length) : tabF xs.length F = isortC c xs := by
  have hm : ∀ z, z ∈ tabF xs.length F ↔ z ∈ xs := fun z => by
    have e := tabF_mem (n := xs.length) (f := fun t => xs.getD t 0) (z := z)
    rw [tabF_getD] at e
    rw [tabF_mem, e]
    constructor
    · rintro ⟨t, ht, rfl⟩
      obtain ⟨s, _, hs, e⟩ := D.2.2.1 t (Nat.zero_le _) ht
      exact ⟨s, hs, e⟩
    · rintro ⟨t, ht, rfl⟩
      obtain ⟨s, _, hs, e⟩ := D.2.2.2 t (Nat.zero_le _) ht
      exact ⟨s, hs, e⟩
  exact pw_ext O (fun z hz => hg z ((hm z).1 hz)) (tabF_pw (fun s t h1 h2 => D.1 s t (Nat.zero_le _) h1 h2)) (isortC_pw O hg hn) (fun z => by rw [hm, isortC_mem])
theorem numsW_up (p : Int → Bool) (lo hi : Int) : (numsW p lo hi).Pairwise (· < ·) := by
  unfold numsW
  refine List.Pairwise.filter p ?_
  rw [List.pairwise_map]
  exact List.Pairwise.imp (fun h => by omega) List.pairwise_lt_range
theorem R_rebase {e b b' g n cap : Nat} {ok : Nat → Prop} {W : World} {xs : List Int} (h : (Kd.int .i64).R e W b ok (.slice (some ⟨g, 0, none⟩) n cap) xs) (hb : b' ≤ g) : (Kd.int .i64).R e W b' ok (.slice (some ⟨g, 0, none⟩) n cap) xs := by
  obtain ⟨h1, inner, ⟨h2, h3⟩, h4⟩ := h
  refine ⟨h1, inner, ⟨h2, ?_⟩, h4⟩
  rcases h3 with ⟨q, _⟩ | ⟨g', cap', cur, q, _, r⟩
  · simp at q
  · have e1 : g = g' := by injection q with q _ _; injection q with q; injection q
    subst e1
    exact .inr ⟨g, cap', cur, q, hb, r⟩
set_option maxHeartbeats 4000000 in
theorem slices_SortStable.none (A : Option Addr) (cap gf : Nat) (cb : Array Value) (w : World) :
    Calls Try.prog 44 #[.slice A 0 cap, .func (.func gf) #[] cb] w fun e w' => e = .returned (.tuple #[]) ∧ w' = w := by
  have HC1 := Aside0.mk (show Calls Try.prog 70 #[.slice A 0 cap, .int .i64 0, .int .i64 0, .func (.func gf) #[] cb] w fun e w' => e = .returned (.tuple #[]) ∧ w' = w by
    go_enter Try.func70, Try.ntmps70
    go_wp2_with fail
    refine wp_loop_rounds 1 ?_
    rw [rounds_succ]
    go_wp2
    go_end0
    exact ⟨rfl, rfl⟩)
  have HC2 := Aside0.mk (show Calls Try.prog 61 #[.slice A 0 cap, .int .i64 0, .func (.func gf) #[] cb] w fun e w' => e = .returned (.tuple #[]) ∧ w' = w by
    go_enter Try.func61, Try.ntmps61
    go_wp2_with fail
    refine wp_loop_rounds 1 ?_
    rw [rounds_succ]
    go_wp2_with (first | (go_at_call 70; refine HC1.out.mono ?_; rintro e w1 ⟨rfl, rfl⟩) | fail)
    refine wp_loop_rounds 1 ?_
    rw [rounds_succ]
    go_wp2
    go_end0
    exact ⟨rfl, rfl⟩)
  go_enter Try.func44, Try.ntmps44
  go_wp2_with (first | (go_at_call 61; refine HC2.out.mono ?_; rintro e w1 ⟨rfl, rfl⟩) | fail)
  go_end0
  exact ⟨rfl, rfl⟩
/-- A row that rises is put in order by a comparison of its numbers; numbers that compare alike stay as they rise. -/
theorem slices_SortStable.sorts (hmix : Try.prog.follows .mixedOrders = true) (gf : Nat) (cb : Array Value) (c : Int → Int → Int) (G : Int → Prop) (O : OrdF c G) (b : Nat) (v : Value) (xs : List Int) (w : World) (ho : (Kd.int .i64).R 3 w b (fun _ => True) v xs)
    (eg : ∀ args w, (callFunc gf args).run Try.prog w = .ok (.enter gf args) w) (hcmp : ∀ g, b ≤ g → g < w.heap.size → CmpsF gf cb c G w g) (hn : xs.length < 40) (hG : ∀ z ∈ xs, G z) (rise : xs.Pairwise (· < ·)) (hbw : b ≤ w.heap.size) :
    Calls Try.prog 44 #[v, .func (.func gf) #[] cb] w fun e w' => e = .returned (.tuple #[]) ∧ (Kd.int .i64).R 3 w' b (fun _ => True) v (isortC c xs) ∧ Below b w w' := by
  rcases Nat.eq_zero_or_pos xs.length with hz | hp
  · obtain ⟨A, cp, rfl⟩ := Kd.R_slice ho
    obtain rfl : xs = [] := List.length_eq_zero_iff.1 hz
    refine (slices_SortStable.none A cp gf cb w).mono ?_
    rintro e w' ⟨rfl, rfl⟩
    exact ⟨rfl, ho, Below.refl _ _⟩
  · obtain ⟨g, cap, rfl, hb, hlt, _⟩ := Kd.R_form ho hp
    have hnd : xs.Nodup := rise.imp (fun h => by omega)
    have S : SR w g cap xs.length (fun t => xs.getD t 0) w := ⟨gb_refl _ _, by rw [tabF_getD]; exact R_rebase ho (Nat.zero_le _), hlt⟩
    have hgt : ∀ t, (ht : t < xs.length) → xs.getD t 0 = xs[t] := fun t ht => by simp [List.getD_eq_getElem?_getD, List.getElem?_eq_getElem ht]
    refine (slices_SortStable.own hmix g cap xs.length gf cb c G O w eg (hcmp g hb hlt) hn (fun t => xs.getD t 0) w S (fun t ht => by rw [hgt t ht]; exact hG _ (List.getElem_mem _)) (fun s t h1 h2 => by rw [hgt s (by omega), hgt t h2]; exact List.pairwise_iff_getElem.1 rise s t _ _ h1)).mono ?_
    rintro e w' ⟨rfl, F, hD, hS⟩
    have hs := Done_sort O hG hnd hD
    have hr := hS.row
    have hl : (isortC c xs).length = xs.length := by rw [← hs]; exact tabF_len _ _
    rw [hs, hl] at hr
    exact ⟨rfl, R_rebase hr hb, ⟨hS.gr.os, hS.gr.tape, hS.gr.output, hS.gr.size, fun k hk => hS.gr.block k (Nat.lt_of_lt_of_le hk hbw) (fun e => by injection e with e; omega)⟩⟩
def mtgP (l0 : List S25) (k x : Int) : Bool := impl_doThreadsMeet.f ((rd_T25 l0 k).f0) ((rd_T25 l0 k).f1) ((rd_T25 l0 x).f0) ((rd_T25 l0 x).f1) == some true
/-- The threads that meet one. -/
def mtgW (l0 : List S25) (k : Int) : List Int := numsW (mtgP l0 k) 0 ((l0.length : Int) - 1)
def mtgAll (l0 : List S25) (k : Int) : Bool := decide (l0.length ≤ 30) && (mtgW l0 k).all (mtgOk l0 k)
def impl_MeetingsOnThread.f (k : Nat) (l0 : List S25) (a1 : Int) : Option (List Int × Bool) :=
  (impl_AreThreads.f k l0).bind fun t => if t = true then (impl_within.f a1 0 (wrap64 ((l0.length : Int) - 1))).bind fun q => (if q = true then (if mtgAll l0 a1 = true then some (isortC (mtgC l0 a1) (mtgW l0 a1), true) else none) else some ([], false)) else some ([], false)
theorem impl_MeetingsOnThread.mono : ∀ a0 a1 k, LeO (impl_MeetingsOnThread.f k a0 a1) (impl_MeetingsOnThread.f (k + 1) a0 a1) := by
  intro l0 a1 k r h
  unfold impl_MeetingsOnThread.f at h ⊢
  obtain ⟨t, ht, h⟩ := Option.bind_eq_some_iff.mp h
  rw [impl_AreThreads.mono _ _ _ ht, Option.bind_some]
  exact h
theorem mtgW_told {l0 : List S25} {k : Int} (h : mtgAll l0 k = true) : l0.length ≤ 30 ∧ (mtgW l0 k).length < 40 ∧ ∀ z ∈ mtgW l0 k, mtgG l0 k z := by
  unfold mtgAll at h
  rw [Bool.and_eq_true, decide_eq_true_eq, List.all_eq_true] at h
  obtain ⟨h1, h2⟩ := h
  refine ⟨h1, ?_, fun z hz => ?_⟩
  · unfold mtgW numsW
    have := List.length_filter_le (mtgP l0 k) ((List.range ((l0.length : Int) - 1 + 1 - 0).toNat).map fun (j : Nat) => (0 : Int) + (j : Int))
    rw [List.length_map, List.length_range] at this
    omega
  · have hz2 := hz
    unfold mtgW numsW at hz2
    obtain ⟨j, hj, rfl⟩ := List.mem_map.1 (List.mem_filter.1 hz2).1
    have := List.mem_range.1 hj
    exact ⟨by omega, by omega, h2 _ hz⟩
theorem within_true {a b c : Int} (h : impl_within.f a b c = some true) : b ≤ a ∧ a ≤ c := by
  unfold impl_within.f at h
  by_cases h1 : a ≥ b
  · rw [if_pos h1] at h
    exact ⟨h1, of_decide_eq_true (Option.some.inj h)⟩
  · rw [if_neg h1] at h; cases h
set_option maxHeartbeats 4000000 in
theorem impl_MeetingsOnThread.calls (k : Nat) (A0 : Option Addr) (c0 : Nat) (l0 : List S25) (a1 : Int) (r1 : List Int) (r2 : Bool) (w : World) (hr0 : Kd.C k25 w A0 l0.length l0) (hc0 : l0.length ≤ c0) (h : impl_MeetingsOnThread.f k l0 a1 = some (r1, r2)) :
    Calls Try.prog 14 #[.slice A0 l0.length c0, .int .i64 a1] w fun e w' => ∃ v0_ : Value, e = .returned (.tuple #[v0_, .bool r2]) ∧ Kd.R (Kd.int .i64) 3 w' w.heap.size (fun _ => True) v0_ r1 ∧ Below w.heap.size w w' := by
  have hmix : Try.prog.follows .mixedOrders = true := by kernel_rfl
  unfold impl_MeetingsOnThread.f at h
  obtain ⟨t, ht, h⟩ := Option.bind_eq_some_iff.mp h
  obtain ⟨u, hu⟩ : ∃ u, u = (w.alloc (.cells #[.slice A0 l0.length c0] 35)).alloc (.cells #[.int .i64 a1] 3) := ⟨_, rfl⟩
  have HBU := Aside0.mk (show Below w.heap.size w u by rw [hu]; exact below_alloc (below_alloc (Below.refl w.heap.size w) _) _)
  have hub : u.cell? ⟨w.heap.size, 0, none⟩ = some (.slice A0 l0.length c0) := by rw [hu]; exact cell_later _ (cell_new rfl)
  have huc : u.cell? ⟨w.heap.size + 1, 0, none⟩ = some (.int .i64 a1) := by rw [hu]; simp
  have HUB := Aside0.mk hub
  have HUC := Aside0.mk huc
  have HR := Aside0.mk (show Kd.C k25 u A0 l0.length l0 by rw [hu]; exact Kd.C_alloc (Kd.C_alloc hr0 _) _)
  have HC0 := Aside0.mk hc0
  have HT := Aside0.mk (impl_AreThreads.calls k A0 c0 l0 t u HR.out hc0 ht)
  have HU := Aside0.mk hu
  have HMX := Aside0.mk hmix
  clear ht hr0 hc0 hub huc hu hmix
  by_cases hq : t = true
  · subst hq
    rw [if_pos rfl] at h
    obtain ⟨q, hw, h⟩ := Option.bind_eq_some_iff.mp h
    have HW := Aside0.mk hw
    by_cases hk : q = true
    · subst hk
      rw [if_pos rfl] at h
      by_cases hA : mtgAll l0 a1 = true
      · rw [if_pos hA] at h
        simp only [Option.some.injEq, Prod.mk.injEq] at h
        obtain ⟨rfl, rfl⟩ := h
        obtain ⟨hl, hz, hgd⟩ := mtgW_told hA
        have ew : wrap64 ((l0.length : Int) - 1) = (l0.length : Int) - 1 := by unfold wrap64; omega
        rw [ew] at hw HW
        have hk := within_true hw
        have HGD := Aside0.mk hgd
        have HZ := Aside0.mk hz
        have HK := Aside0.mk hk
        have e1 : IntKind.i64.wrap ((l0.length : Int) - 1) = (l0.length : Int) - 1 := IntWalk.i64_in _ (by omega)
        have HL := Aside0.mk hl
        clear hA hgd hz hk hl hw ew
        go_enter Try.func14, Try.ntmps14
        go_wp2_with (first
          | (go_at_call 23; rw [← HU.out]; refine HT.out.mono ?_; rintro e w1 ⟨rfl, hb⟩; have HB1 := Aside0.mk hb; have y1 := (hb.cell (World.block_lt_of_cell? u _ HUB.out)).trans HUB.out; have y2 := (hb.cell (World.block_lt_of_cell? u _ HUC.out)).trans HUC.out; clear hb HT)
          | (go_at_call 41; refine (impl_within.calls _ _ _ true _ HW.out).mono ?_; rintro e w' ⟨rfl, ⟨nd, rfl⟩⟩; clear HW)
          | (go_at_call 42; refine (impl_numbersWith.ask 0 ((l0.length : Int) - 1) 43 #[.pointer (some ⟨w.heap.size, 0, none⟩), .pointer (some ⟨w.heap.size + 1, 0, none⟩)] (mtgP l0 a1) (fun x => 0 ≤ x ∧ x ≤ (l0.length : Int) - 1) (w1.drewN nd) (enters_of Try.func43 (by kernel_rfl) rfl) (by omega) (by have := HL.out; omega) (impl_MeetingsOnThread_1.asks A0 c0 l0 a1 _ _ _ (Kd.C_drewN (Kd.C_below HR.out HB1.out) nd) HK.out.1 (by have := HK.out.2; omega) y1 y2) (fun z hz hz2 => ⟨hz, hz2⟩)).mono ?_; rintro e w3 ⟨v, rfl, ho, hb⟩; have HO := Aside0.mk (Kd.R_lower ho (show u.heap.size ≤ _ from HB1.out.size)); have HB3 := Aside0.mk (below_step (below_then (Below.refl u.heap.size u) (Nat.le_refl _) HB1.out) (show Below _ w1 w3 from below_then (pw_below_drewN (Below.refl _ _) _) (Nat.le_refl _) hb)); clear ho hb y1 y2)
          | (go_at_call 44; refine (slices_SortStable.sorts HMX.out 45 #[.pointer (some ⟨w.heap.size, 0, none⟩), .pointer (some ⟨w.heap.size + 1, 0, none⟩)] (mtgC l0 a1) (mtgG l0 a1) (mtgC_ord l0 a1) u.heap.size v (mtgW l0 a1) w3 HO.out (enters_of Try.func45 (by kernel_rfl) rfl) (fun g hg hg2 => impl_MeetingsOnThread_2.cmps A0 c0 l0 a1 _ _ g u w3 HB3.out hg HR.out HK.out.1 (by have := HK.out.2; omega) HUB.out HUC.out) HZ.out HGD.out (numsW_up _ _ _) HB3.out.size).mono ?_; rintro e w4 ⟨rfl, ho, hb⟩; have HO4 := Aside0.mk (Kd.R_lower ho HBU.out.size); have HB4 := Aside0.mk (below_then HBU.out HBU.out.size (HB3.out.trans hb)); clear ho hb))
        go_ret2
        exact ⟨_, rfl, HO4.out, HB4.out⟩
      · rw [if_neg hA] at h; cases h
    · rw [if_neg hk] at h
      simp only [Option.some.injEq, Prod.mk.injEq] at h
      obtain ⟨rfl, rfl⟩ := h
      simp only [Bool.not_eq_true] at hk
      subst hk
      have e1 : IntKind.i64.wrap ((l0.length : Int) - 1) = wrap64 ((l0.length : Int) - 1) := i64_w _
      clear hw
      go_enter Try.func14, Try.ntmps14
      go_wp2_with (first
          | (go_at_call 23; rw [← HU.out]; refine HT.out.mono ?_; rintro e w1 ⟨rfl, hb⟩; have HB1 := Aside0.mk hb; have y1 := (hb.cell (World.block_lt_of_cell? u _ HUB.out)).trans HUB.out; have y2 := (hb.cell (World.block_lt_of_cell? u _ HUC.out)).trans HUC.out; clear hb HT)
          | (go_at_call 41; refine (impl_within.calls _ _ _ false _ HW.out).mono ?_; rintro e w' ⟨rfl, ⟨nd, rfl⟩⟩; clear HW))
      go_ret2
      exact ⟨_, rfl, Kd.R_nil _ _ _ _ _, pw_below_drewN (below_then HBU.out HBU.out.size HB1.out) _⟩
  · rw [if_neg hq] at h
    simp only [Option.some.injEq, Prod.mk.injEq] at h
    obtain ⟨rfl, rfl⟩ := h
    simp only [Bool.not_eq_true] at hq
    subst hq
    go_enter Try.func14, Try.ntmps14
    go_wp2_with (first
          | (go_at_call 23; rw [← HU.out]; refine HT.out.mono ?_; rintro e w1 ⟨rfl, hb⟩; have HB1 := Aside0.mk hb; have y1 := (hb.cell (World.block_lt_of_cell? u _ HUB.out)).trans HUB.out; have y2 := (hb.cell (World.block_lt_of_cell? u _ HUC.out)).trans HUC.out; clear hb HT)
          | fail)
    go_ret2
    exact ⟨_, rfl, Kd.R_nil _ _ _ _ _, below_then HBU.out HBU.out.size HB1.out⟩

end Go.Proofs.Ytheijdpplihigaa.P
