/- What is proved: the pure statement of the law FnPathsShift, about numbers and lists alone; no condition. -/
import Derived.Test.YtfpjakkjkakjoaaGreatDoorPx19
import Derived.Lib.SplitLaws
import Derived.WalkSmall
namespace Go.Proofs.YtfpjakkjkakjoaaGreatDoor.Pure
open Go.RowKit Go.Proofs.YtfpjakkjkakjoaaGreatDoor.P Go.Proofs.YtfpjakkjkakjoaaGreatDoorW.PrintWords Go.Proofs.YtfpjakkjkakjoaaGreatDoorW.PrintLast
set_option linter.unusedVariables false
set_option linter.unusedSimpArgs false

theorem wrap_id {x : Int} (h : -9000000000000000000 ≤ x) (h2 : x ≤ 9000000000000000000) : wrap64 x = x := by unfold wrap64; omega
/-- A walker; a rigid motion. -/
structure StW where
 x : Int
 y : Int
 d : Int
def rotX (g k x y : Int) : Int := x * wayX g k + y * wayX g ((k + 1) % g)
def rotY (g k x y : Int) : Int := x * wayY g k + y * wayY g ((k + 1) % g)
def mulS (g : Int) (a b : StW) : StW := ⟨a.x + rotX g a.d b.x b.y, a.y + rotY g a.d b.x b.y, (a.d + b.d) % g⟩
def st0 : StW := ⟨0, 0, 0⟩
def gridG (g : Int) : Prop := g = 4 ∨ g = 6
def okDir (g d : Int) : Prop := 0 ≤ d ∧ d < g
theorem dirsG {g d : Int} (hg : gridG g) (hd : okDir g d) : (g = 4 ∧ (d = 0 ∨ d = 1 ∨ d = 2 ∨ d = 3)) ∨ (g = 6 ∧ (d = 0 ∨ d = 1 ∨ d = 2 ∨ d = 3 ∨ d = 4 ∨ d = 5)) := by
 unfold gridG okDir at *; omega
theorem rot_rot {g j k x y : Int} (hg : gridG g) (hj : okDir g j) (hk : okDir g k) :
  rotX g j (rotX g k x y) (rotY g k x y) = rotX g ((j + k) % g) x y ∧ rotY g j (rotX g k x y) (rotY g k x y) = rotY g ((j + k) % g) x y := by
 rcases dirsG hg hj with ⟨rfl, h | h | h | h⟩ | ⟨rfl, h | h | h | h | h | h⟩ <;> subst h <;> rcases dirsG hg hk with ⟨h, _⟩ | ⟨h, _⟩ <;> first | (exact absurd h (by decide)) | skip
 all_goals
  rcases dirsG hg hk with ⟨_, h2 | h2 | h2 | h2⟩ | ⟨_, h2 | h2 | h2 | h2 | h2 | h2⟩ <;> first | (exact absurd ‹_› (by decide)) | (subst h2; simp (config := {decide := true}) [rotX, rotY, wayX, wayY]; try omega)
theorem mul_assoc' {g : Int} {a b c : StW} (hg : gridG g) (ha : okDir g a.d) (hb : okDir g b.d) : mulS g (mulS g a b) c = mulS g a (mulS g b c) := by
 obtain ⟨h1, h2⟩ := rot_rot (x := c.x) (y := c.y) hg ha hb
 have lx : ∀ k p q r s, rotX g k (p + q) (r + s) = rotX g k p r + rotX g k q s := by intro k p q r s; unfold rotX; grind
 have ly : ∀ k p q r s, rotY g k (p + q) (r + s) = rotY g k p r + rotY g k q s := by intro k p q r s; unfold rotY; grind
 unfold mulS
 simp only [StW.mk.injEq]
 refine ⟨?_, ?_, ?_⟩
 ·rw [lx, h1]; omega
 ·rw [ly, h2]; omega
 ·rw [Int.emod_add_emod, Int.add_emod_emod]; congr 1; omega
def crsW (x y u v : Int) : Int := x * v - u * y
theorem crs_rot {g k x y u v : Int} (hg : gridG g) (hk : okDir g k) : crsW (rotX g k x y) (rotY g k x y) (rotX g k u v) (rotY g k u v) = crsW x y u v := by
 rcases dirsG hg hk with ⟨rfl, h | h | h | h⟩ | ⟨rfl, h | h | h | h | h | h⟩ <;> subst h <;> simp (config := {decide := true}) [rotX, rotY, wayX, wayY, crsW] <;> grind
/-- One sign. -/
def stpW (g : Int) (c : UInt8) (s : StW) : StW := if c = 70 then ⟨s.x + wayX g s.d, s.y + wayY g s.d, s.d⟩ else if c = 76 then ⟨s.x, s.y, (s.d + 1) % g⟩ else ⟨s.x, s.y, (s.d + g - 1) % g⟩
/-- All signs. -/
def runW (g : Int) : List UInt8 → StW → StW
 | [], s => s
 | c :: w, s => runW g w (stpW g c s)
theorem okD_mod {g d : Int} (hg : gridG g) : okDir g (d % g) := by
 unfold gridG okDir at *
 constructor
 ·exact Int.emod_nonneg _ (by omega)
 ·exact Int.emod_lt_of_pos _ (by omega)
theorem okD_zero {g : Int} (hg : gridG g) : okDir g 0 := by unfold gridG okDir at *; omega
theorem stp_ok {g : Int} (hg : gridG g) (c : UInt8) {s : StW} (h : okDir g s.d) : okDir g (stpW g c s).d := by
 unfold stpW
 split
 ·exact h
 ·split
  ·exact okD_mod hg
  ·exact okD_mod hg
theorem run_ok {g : Int} (hg : gridG g) : ∀ (w : List UInt8) {s : StW}, okDir g s.d → okDir g (runW g w s).d
 | [], _, h => h
 | c :: w, _, h => run_ok hg w (stp_ok hg c h)
theorem mul_ok {g : Int} (hg : gridG g) (a b : StW) : okDir g (mulS g a b).d := okD_mod hg
theorem rot_zero {g x y : Int} (hg : gridG g) : rotX g 0 x y = x ∧ rotY g 0 x y = y := by
 rcases hg with rfl | rfl <;> simp (config := {decide := true}) [rotX, rotY, wayX, wayY]
theorem rot_way {g d : Int} (hg : gridG g) (h : okDir g d) : rotX g d (wayX g 0) (wayY g 0) = wayX g d ∧ rotY g d (wayX g 0) (wayY g 0) = wayY g d := by
 rcases hg with rfl | rfl <;> simp (config := {decide := true}) [rotX, rotY, wayX, wayY]
theorem StW.eq {a b : StW} (h1 : a.x = b.x) (h2 : a.y = b.y) (h3 : a.d = b.d) : a = b := by
 cases a; cases b; simp only at h1 h2 h3; subst h1 h2 h3; rfl
theorem mod_id {g d : Int} (h : okDir g d) : d % g = d := Int.emod_eq_of_lt h.1 h.2
theorem rot_00 {g k : Int} : rotX g k 0 0 = 0 ∧ rotY g k 0 0 = 0 := by unfold rotX rotY; simp
theorem mul_s0 {g : Int} {a : StW} (h : okDir g a.d) : mulS g a st0 = a := by
 refine StW.eq ?_ ?_ ?_
 ·show a.x + rotX g a.d 0 0 = a.x
  rw [rot_00.1]; omega
 ·show a.y + rotY g a.d 0 0 = a.y
  rw [rot_00.2]; omega
 ·show (a.d + 0) % g = a.d
  rw [Int.add_zero, mod_id h]
theorem s0_mul {g : Int} (hg : gridG g) {a : StW} (h : okDir g a.d) : mulS g st0 a = a := by
 refine StW.eq ?_ ?_ ?_
 ·show 0 + rotX g 0 a.x a.y = a.x
  rw [(rot_zero hg).1]; omega
 ·show 0 + rotY g 0 a.x a.y = a.y
  rw [(rot_zero hg).2]; omega
 ·show (0 + a.d) % g = a.d
  rw [Int.zero_add, mod_id h]
theorem stp_mul {g : Int} (hg : gridG g) (c : UInt8) {s : StW} (h : okDir g s.d) : stpW g c s = mulS g s (stpW g c st0) := by
 obtain ⟨w1, w2⟩ := rot_way hg h
 unfold stpW
 split
 ·refine StW.eq ?_ ?_ ?_
  ·show s.x + wayX g s.d = s.x + rotX g s.d (0 + wayX g 0) (0 + wayY g 0)
   rw [Int.zero_add, Int.zero_add, w1]
  ·show s.y + wayY g s.d = s.y + rotY g s.d (0 + wayX g 0) (0 + wayY g 0)
   rw [Int.zero_add, Int.zero_add, w2]
  ·show s.d = (s.d + 0) % g
   rw [Int.add_zero, mod_id h]
 ·split
  ·refine StW.eq ?_ ?_ ?_
   ·show s.x = s.x + rotX g s.d 0 0
    rw [rot_00.1]; omega
   ·show s.y = s.y + rotY g s.d 0 0
    rw [rot_00.2]; omega
   ·show (s.d + 1) % g = (s.d + (0 + 1) % g) % g
    rw [Int.add_emod_emod]; simp
  ·refine StW.eq ?_ ?_ ?_
   ·show s.x = s.x + rotX g s.d 0 0
    rw [rot_00.1]; omega
   ·show s.y = s.y + rotY g s.d 0 0
    rw [rot_00.2]; omega
   ·show (s.d + g - 1) % g = (s.d + (0 + g - 1) % g) % g
    rw [Int.add_emod_emod]; congr 1; omega
theorem run_mul {g : Int} (hg : gridG g) : ∀ (w : List UInt8) {s : StW}, okDir g s.d → runW g w s = mulS g s (runW g w st0)
 | [], _, h => (mul_s0 h).symm
 | c :: w, s, h => by
  have hs := stp_ok hg c h
  have h0 := stp_ok hg c (s := st0) (okD_zero hg)
  rw [runW, runW, run_mul hg w hs, run_mul hg w h0, stp_mul hg c h, mul_assoc' hg h h0]
theorem run_app (g : Int) : ∀ (u v : List UInt8) (s : StW), runW g (u ++ v) s = runW g v (runW g u s)
 | [], _, _ => rfl
 | c :: u, v, s => run_app g u v (stpW g c s)
theorem run_two {g : Int} (hg : gridG g) (u v : List UInt8) : runW g (u ++ v) st0 = mulS g (runW g u st0) (runW g v st0) := by
 rw [run_app, run_mul hg v (run_ok hg u (okD_zero hg))]
theorem rot_neg (g k x y : Int) : rotX g k (-x) (-y) = -rotX g k x y ∧ rotY g k (-x) (-y) = -rotY g k x y := by
 unfold rotX rotY; constructor <;> grind
/-- What leads back on one side leads back on the other. -/
theorem mul_comm0 {g : Int} (hg : gridG g) {a b : StW} (ha : okDir g a.d) (hb : okDir g b.d) (h : mulS g a b = st0) : mulS g b a = st0 := by
 have e1 : a.x + rotX g a.d b.x b.y = 0 := congrArg StW.x h
 have e2 : a.y + rotY g a.d b.x b.y = 0 := congrArg StW.y h
 have e3 : (a.d + b.d) % g = 0 := congrArg StW.d h
 obtain ⟨r1, r2⟩ := rot_rot (x := b.x) (y := b.y) hg hb ha
 obtain ⟨z1, z2⟩ := rot_zero (x := b.x) (y := b.y) hg
 obtain ⟨n1, n2⟩ := rot_neg g b.d (rotX g a.d b.x b.y) (rotY g a.d b.x b.y)
 have e4 : (b.d + a.d) % g = 0 := by rw [Int.add_comm]; exact e3
 rw [e4] at r1 r2
 refine StW.eq ?_ ?_ e4
 ·show b.x + rotX g b.d a.x a.y = 0
  rw [show a.x = -rotX g a.d b.x b.y by omega, show a.y = -rotY g a.d b.x b.y by omega, n1, r1, z1]; omega
 ·show b.y + rotY g b.d a.x a.y = 0
  rw [show a.x = -rotX g a.d b.x b.y by omega, show a.y = -rotY g a.d b.x b.y by omega, n2, r2, z2]; omega
/-- Twice the areaW that a walk sweeps. -/
def areaW (g : Int) : List UInt8 → StW → Int
 | [], _ => 0
 | c :: w, s => crsW s.x s.y (stpW g c s).x (stpW g c s).y + areaW g w (stpW g c s)
theorem rot_add (g k p q r s : Int) : rotX g k (p + q) (r + s) = rotX g k p r + rotX g k q s ∧ rotY g k (p + q) (r + s) = rotY g k p r + rotY g k q s := by
 unfold rotX rotY; constructor <;> grind
theorem crs_move {a b x y u v p q r s : Int} (h : crsW x y u v = crsW p q r s) : crsW (a + x) (b + y) (a + u) (b + v) = crsW p q r s + crsW a b u v - crsW a b x y := by
 rw [← h]; unfold crsW; grind
theorem stp_mul' {g : Int} (hg : gridG g) (c : UInt8) {s t : StW} (hs : okDir g s.d) (ht : okDir g t.d) : stpW g c (mulS g s t) = mulS g s (stpW g c t) := by
 rw [stp_mul hg c (mul_ok hg s t), stp_mul hg c ht, mul_assoc' hg hs ht]
theorem area_mul {g : Int} (hg : gridG g) {s : StW} (hs : okDir g s.d) : ∀ (w : List UInt8) {t : StW}, okDir g t.d →
  areaW g w (mulS g s t) = areaW g w t + crsW s.x s.y (rotX g s.d (runW g w t).x (runW g w t).y) (rotY g s.d (runW g w t).x (runW g w t).y) - crsW s.x s.y (rotX g s.d t.x t.y) (rotY g s.d t.x t.y)
 | [], t, _ => by rw [areaW, areaW, runW]; omega
 | c :: w, t, ht => by
  have h1 := stp_ok hg c ht
  rw [areaW, areaW, runW, stp_mul' hg c hs ht, area_mul hg hs w h1]
  have := crs_move (a := s.x) (b := s.y) (crs_rot (x := t.x) (y := t.y) (u := (stpW g c t).x) (v := (stpW g c t).y) hg hs)
  show crsW (s.x + rotX g s.d t.x t.y) (s.y + rotY g s.d t.x t.y) (s.x + rotX g s.d (stpW g c t).x (stpW g c t).y) (s.y + rotY g s.d (stpW g c t).x (stpW g c t).y) + _ = _
  rw [this]; omega
theorem area_app (g : Int) : ∀ (u v : List UInt8) (s : StW), areaW g (u ++ v) s = areaW g u s + areaW g v (runW g u s)
 | [], v, s => by rw [List.nil_append, areaW, runW]; omega
 | c :: u, v, s => by rw [List.cons_append, areaW, areaW, runW, area_app g u v]; omega
theorem area_two {g : Int} (hg : gridG g) (u v : List UInt8) : areaW g (u ++ v) st0 = areaW g u st0 + areaW g v st0 + crsW (runW g u st0).x (runW g u st0).y (rotX g (runW g u st0).d (runW g v st0).x (runW g v st0).y) (rotY g (runW g u st0).d (runW g v st0).x (runW g v st0).y) := by
 have hu := run_ok hg u (s := st0) (okD_zero hg)
 have e := area_mul hg hu v (t := st0) (okD_zero hg)
 rw [mul_s0 hu] at e
 have z : crsW (runW g u st0).x (runW g u st0).y (rotX g (runW g u st0).d st0.x st0.y) (rotY g (runW g u st0).d st0.x st0.y) = 0 := by
  show crsW _ _ (rotX g _ 0 0) (rotY g _ 0 0) = 0
  rw [rot_00.1, rot_00.2]; unfold crsW; simp
 rw [area_app, e, z]; omega
theorem area_closed {g : Int} (hg : gridG g) {u v : List UInt8} (h : runW g (u ++ v) st0 = st0) : areaW g (u ++ v) st0 = areaW g u st0 + areaW g v st0 := by
 rw [run_two hg] at h
 have e1 : (runW g u st0).x + rotX g (runW g u st0).d (runW g v st0).x (runW g v st0).y = 0 := congrArg StW.x h
 have e2 : (runW g u st0).y + rotY g (runW g u st0).d (runW g v st0).x (runW g v st0).y = 0 := congrArg StW.y h
 rw [area_two hg, show rotX g (runW g u st0).d (runW g v st0).x (runW g v st0).y = -(runW g u st0).x by omega, show rotY g (runW g u st0).d (runW g v st0).x (runW g v st0).y = -(runW g u st0).y by omega]
 unfold crsW; grind
/-- A closed word is closed from each sign on, with the same areaW. -/
theorem shift_closed {g : Int} (hg : gridG g) {u v : List UInt8} (h : runW g (u ++ v) st0 = st0) : runW g (v ++ u) st0 = st0 := by
 rw [run_two hg] at h ⊢
 exact mul_comm0 hg (run_ok hg u (okD_zero hg)) (run_ok hg v (okD_zero hg)) h
theorem shift_area {g : Int} (hg : gridG g) {u v : List UInt8} (h : runW g (u ++ v) st0 = st0) : areaW g (v ++ u) st0 = areaW g (u ++ v) st0 := by
 rw [area_closed hg h, area_closed hg (shift_closed hg h)]; omega
def mirS (g : Int) (s : StW) : StW := if g = 4 then ⟨s.x, -s.y, (g - s.d) % g⟩ else ⟨s.x + s.y, -s.y, (g - s.d) % g⟩
def sgnW (c : UInt8) : Prop := c = 70 ∨ c = 76 ∨ c = 82
theorem stp_mir {g : Int} (hg : gridG g) {c : UInt8} (hc : sgnW c) {s : StW} (h : okDir g s.d) : stpW g (mirB c) (mirS g s) = mirS g (stpW g c s) := by
 obtain ⟨x, y, d⟩ := s
 rcases dirsG hg h with ⟨rfl, h | h | h | h⟩ | ⟨rfl, h | h | h | h | h | h⟩ <;> simp only at h <;> subst h <;> rcases hc with rfl | rfl | rfl <;>
  simp (config := {decide := true}) [stpW, mirB, mirS, wayX, wayY] <;> omega
theorem run_mir {g : Int} (hg : gridG g) : ∀ (w : List UInt8), (∀ c ∈ w, sgnW c) → ∀ {s : StW}, okDir g s.d → runW g (w.map mirB) (mirS g s) = mirS g (runW g w s)
 | [], _, _, _ => rfl
 | c :: w, hw, s, h => by
  rw [List.map_cons, runW, runW, stp_mir hg (hw c (by simp)) h]
  exact run_mir hg w (fun c hc => hw c (by simp [hc])) (stp_ok hg c h)
theorem refl_s0 {g : Int} (hg : gridG g) : mirS g st0 = st0 := by
 rcases hg with rfl | rfl <;> simp (config := {decide := true}) [mirS, st0]
theorem refl_crs {g : Int} (a b : StW) : crsW (mirS g a).x (mirS g a).y (mirS g b).x (mirS g b).y = -crsW a.x a.y b.x b.y := by
 unfold mirS crsW
 split <;> grind
theorem area_mir {g : Int} (hg : gridG g) : ∀ (w : List UInt8), (∀ c ∈ w, sgnW c) → ∀ {s : StW}, okDir g s.d → areaW g (w.map mirB) (mirS g s) = -areaW g w s
 | [], _, _, _ => rfl
 | c :: w, hw, s, h => by
  rw [List.map_cons, areaW, areaW, stp_mir hg (hw c (by simp)) h, refl_crs, area_mir hg w (fun c hc => hw c (by simp [hc])) (stp_ok hg c h)]; omega
theorem refl_inj {g : Int} (hg : gridG g) {a : StW} (h : okDir g a.d) (e : mirS g a = st0) : a = st0 := by
 obtain ⟨x, y, d⟩ := a
 rcases dirsG hg h with ⟨rfl, h | h | h | h⟩ | ⟨rfl, h | h | h | h | h | h⟩ <;> simp only at h <;> subst h <;> simp (config := {decide := true}) [mirS, st0] at e ⊢ <;> omega
/-- The walk, told back. -/
def bkS (g : Int) (a : StW) : StW := ⟨rotX g ((g - a.d) % g) a.x a.y, rotY g ((g - a.d) % g) a.x a.y, (g - a.d) % g⟩
def backW (w : List UInt8) : List UInt8 := (w.map mirB).reverse
theorem backW_cons (c : UInt8) (w : List UInt8) : backW (c :: w) = backW w ++ [mirB c] := by
 unfold backW; simp
theorem bk_stp {g : Int} (hg : gridG g) {c : UInt8} (hc : sgnW c) {b : StW} (hb : okDir g b.d) : bkS g (mulS g (stpW g c st0) b) = mulS g (bkS g b) (stpW g (mirB c) st0) := by
 obtain ⟨x, y, d⟩ := b
 rcases dirsG hg hb with ⟨rfl, h | h | h | h⟩ | ⟨rfl, h | h | h | h | h | h⟩ <;> simp only at h <;> subst h <;> rcases hc with rfl | rfl | rfl <;>
  simp (config := {decide := true}) [stpW, mirB, bkS, mulS, rotX, rotY, wayX, wayY, st0] <;> omega
theorem run_back {g : Int} (hg : gridG g) : ∀ (w : List UInt8), (∀ c ∈ w, sgnW c) → runW g (backW w) st0 = bkS g (runW g w st0)
 | [], _ => by
  rcases hg with rfl | rfl <;> simp (config := {decide := true}) [backW, runW, bkS, st0, rotX, rotY]
 | c :: w, hw => by
  have h0 := stp_ok hg c (s := st0) (okD_zero hg)
  have hb := run_ok hg w (s := st0) (okD_zero hg)
  rw [backW_cons, run_app, run_back hg w (fun c hc => hw c (by simp [hc])), runW, runW, runW, run_mul hg w h0, bk_stp hg (hw c (by simp)) hb]
  exact stp_mul hg (mirB c) (okD_mod hg)
theorem bk_s0 {g : Int} (hg : gridG g) : bkS g st0 = st0 := by
 rcases hg with rfl | rfl <;> simp (config := {decide := true}) [bkS, st0, rotX, rotY]
theorem bk_inj {g : Int} (hg : gridG g) {a : StW} (h : okDir g a.d) (e : bkS g a = st0) : a = st0 := by
 obtain ⟨x, y, d⟩ := a
 rcases dirsG hg h with ⟨rfl, h | h | h | h⟩ | ⟨rfl, h | h | h | h | h | h⟩ <;> simp only at h <;> subst h <;> simp (config := {decide := true}) [bkS, st0, rotX, rotY, wayX, wayY] at e ⊢ <;> omega
theorem area_back {g : Int} (hg : gridG g) : ∀ (w : List UInt8), (∀ c ∈ w, sgnW c) → areaW g (backW w) st0 = -areaW g w st0
 | [], _ => rfl
 | c :: w, hw => by
  have hw' : ∀ c ∈ w, sgnW c := fun c hc => hw c (by simp [hc])
  have hb := run_ok hg w (s := st0) (okD_zero hg)
  have e := area_two hg (backW w) [mirB c]
  have e2 := area_two hg [c] w
  have k1 : ∀ d, areaW g [d] st0 = 0 := by
   intro d
   show crsW 0 0 _ _ + 0 = 0
   unfold crsW; simp
  rw [k1, run_back hg w hw', area_back hg w hw'] at e
  rw [k1] at e2
  rw [backW_cons, show c :: w = [c] ++ w from rfl, e, e2]
  show _ + crsW (bkS g (runW g w st0)).x (bkS g (runW g w st0)).y (rotX g (bkS g (runW g w st0)).d (stpW g (mirB c) st0).x (stpW g (mirB c) st0).y) (rotY g (bkS g (runW g w st0)).d (stpW g (mirB c) st0).x (stpW g (mirB c) st0).y) = -(0 + _ + crsW (stpW g c st0).x (stpW g c st0).y (rotX g (stpW g c st0).d (runW g w st0).x (runW g w st0).y) (rotY g (stpW g c st0).d (runW g w st0).x (runW g w st0).y))
  generalize runW g w st0 = b at hb
  obtain ⟨x, y, d⟩ := b
  rcases dirsG hg hb with ⟨rfl, h | h | h | h⟩ | ⟨rfl, h | h | h | h | h | h⟩ <;> simp only at h <;> subst h <;> rcases hw c (by simp) with rfl | rfl | rfl <;>
   simp (config := {decide := true}) [stpW, mirB, bkS, rotX, rotY, wayX, wayY, st0, crsW] <;> omega
/-- A motion, so many times. -/
def powS (g : Int) (a : StW) : Nat → StW
 | 0 => st0
 | n + 1 => mulS g (powS g a n) a
theorem pow_ok {g : Int} (hg : gridG g) (a : StW) : ∀ n, okDir g (powS g a n).d
 | 0 => okD_zero hg
 | n + 1 => mul_ok hg _ _
def repW (w : List UInt8) : Nat → List UInt8
 | 0 => []
 | n + 1 => repW w n ++ w
theorem run_reps {g : Int} (hg : gridG g) (w : List UInt8) : ∀ n, runW g (repW w n) st0 = powS g (runW g w st0) n
 | 0 => rfl
 | n + 1 => by rw [repW, run_two hg, run_reps hg w n, powS]
theorem pow_full {g : Int} (hg : gridG g) {a : StW} (h : okDir g a.d) (h0 : a.d ≠ 0) : powS g a g.toNat = st0 := by
 obtain ⟨x, y, d⟩ := a
 rcases dirsG hg h with ⟨rfl, h | h | h | h⟩ | ⟨rfl, h | h | h | h | h | h⟩ <;> simp only at h <;> subst h <;> first | (exact absurd rfl h0) | skip
 all_goals
  simp (config := {decide := true}) [powS, mulS, rotX, rotY, wayX, wayY, st0]
  try omega
theorem pow_line {g : Int} (hg : gridG g) {a : StW} (h0 : a.d = 0) : ∀ n : Nat, powS g a n = ⟨(n : Int) * a.x, (n : Int) * a.y, 0⟩
 | 0 => by simp [powS, st0]
 | n + 1 => by
  rw [powS, pow_line hg h0 n]
  obtain ⟨z1, z2⟩ := rot_zero (x := a.x) (y := a.y) hg
  refine StW.eq ?_ ?_ ?_
  ·show (n : Int) * a.x + rotX g 0 a.x a.y = _
   rw [z1]; grind
  ·show (n : Int) * a.y + rotY g 0 a.x a.y = _
   rw [z2]; grind
  ·show (0 + a.d) % g = 0
   rw [h0]; simp
theorem pow_comm {g : Int} (hg : gridG g) {a : StW} (h : okDir g a.d) : ∀ n, mulS g (powS g a n) a = mulS g a (powS g a n)
 | 0 => by rw [powS, s0_mul hg h, mul_s0 h]
 | n + 1 => by
  have := pow_comm hg h n
  rw [powS, mul_assoc' hg (pow_ok hg a n) h, ← mul_assoc' hg h (pow_ok hg a n), ← this, mul_assoc' hg (pow_ok hg a n) h]
theorem refl_mul {g : Int} (hg : gridG g) {a b : StW} (ha : okDir g a.d) (hb : okDir g b.d) : mirS g (mulS g a b) = mulS g (mirS g a) (mirS g b) := by
 obtain ⟨x, y, d⟩ := a
 obtain ⟨u, v, e⟩ := b
 rcases dirsG hg ha with ⟨rfl, h | h | h | h⟩ | ⟨rfl, h | h | h | h | h | h⟩ <;> simp only at h <;> subst h <;> rcases dirsG hg hb with ⟨h, h2⟩ | ⟨h, h2⟩ <;> first | (exact absurd h (by decide)) | skip
 all_goals
  rcases dirsG hg hb with ⟨_, h | h | h | h⟩ | ⟨_, h | h | h | h | h | h⟩ <;> first | (exact absurd ‹_› (by decide)) | (simp only at h; subst h; simp (config := {decide := true}) [mirS, mulS, rotX, rotY, wayX, wayY]; try omega)
theorem bk_mul {g : Int} (hg : gridG g) {a b : StW} (ha : okDir g a.d) (hb : okDir g b.d) : bkS g (mulS g a b) = mulS g (bkS g b) (bkS g a) := by
 obtain ⟨x, y, d⟩ := a
 obtain ⟨u, v, e⟩ := b
 rcases dirsG hg ha with ⟨rfl, h | h | h | h⟩ | ⟨rfl, h | h | h | h | h | h⟩ <;> simp only at h <;> subst h <;> rcases dirsG hg hb with ⟨h, h2⟩ | ⟨h, h2⟩ <;> first | (exact absurd h (by decide)) | skip
 all_goals
  rcases dirsG hg hb with ⟨_, h | h | h | h⟩ | ⟨_, h | h | h | h | h | h⟩ <;> first | (exact absurd ‹_› (by decide)) | (simp only at h; subst h; simp (config := {decide := true}) [bkS, mulS, rotX, rotY, wayX, wayY]; try omega)
theorem refl_ok {g : Int} (hg : gridG g) (a : StW) : okDir g (mirS g a).d := by
 unfold mirS
 split <;> exact okD_mod hg
theorem pow_refl {g : Int} (hg : gridG g) {a : StW} (h : okDir g a.d) : ∀ n, powS g (mirS g a) n = mirS g (powS g a n)
 | 0 => (refl_s0 hg).symm
 | n + 1 => by rw [powS, powS, pow_refl hg h n, refl_mul hg (pow_ok hg a n) h]
theorem pow_bk {g : Int} (hg : gridG g) {a : StW} (h : okDir g a.d) : ∀ n, powS g (bkS g a) n = bkS g (powS g a n)
 | 0 => (bk_s0 hg).symm
 | n + 1 => by rw [powS, powS, pow_bk hg h n, pow_comm hg h n, bk_mul hg h (pow_ok hg a n)]
theorem closes_refl {g : Int} (hg : gridG g) {a : StW} (h : okDir g a.d) (n : Nat) : powS g (mirS g a) n = st0 ↔ powS g a n = st0 := by
 rw [pow_refl hg h]
 exact ⟨refl_inj hg (pow_ok hg a n), fun e => by rw [e, refl_s0 hg]⟩
theorem closes_bk {g : Int} (hg : gridG g) {a : StW} (h : okDir g a.d) (n : Nat) : powS g (bkS g a) n = st0 ↔ powS g a n = st0 := by
 rw [pow_bk hg h]
 exact ⟨bk_inj hg (pow_ok hg a n), fun e => by rw [e, bk_s0 hg]⟩
/-- Without a turn in the end a word closes at once or never. -/
theorem line_closes {g : Int} (hg : gridG g) {a : StW} (h0 : a.d = 0) {n : Nat} (hn : 1 ≤ n) (e : powS g a n = st0) : a = st0 := by
 rw [pow_line hg h0] at e
 have e1 : (n : Int) * a.x = 0 := congrArg StW.x e
 have e2 : (n : Int) * a.y = 0 := congrArg StW.y e
 refine StW.eq ?_ ?_ h0
 ·rcases Int.mul_eq_zero.1 e1 with h | h
  ·omega
  ·exact h
 ·rcases Int.mul_eq_zero.1 e2 with h | h
  ·omega
  ·exact h
/-- A word's signs. -/
def lst (w : ByteArray) : List UInt8 := w.data.toList
theorem lst_len (w : ByteArray) : (lst w).length = w.size := by
 unfold lst
 simp
def isSg (c : UInt8) : Bool := c == 70 || (c == 76 || c == 82)
theorem isSg_true {c : UInt8} : isSg c = true ↔ sgnW c := by
 unfold isSg sgnW
 simp
/-- A grid and a word of it. -/
def okW (g : Int) (w : ByteArray) : Bool := decide (g = 4 ∨ g = 6) && (decide (w.size ≤ 120) && (lst w).all isSg)
theorem okW_true {g : Int} {w : ByteArray} : okW g w = true ↔ gridG g ∧ w.size ≤ 120 ∧ ∀ c ∈ lst w, sgnW c := by
 unfold okW gridG
 simp only [Bool.and_eq_true, decide_eq_true_eq, List.all_eq_true, isSg_true]
theorem isGrid_told (g : Int) : impl_isGrid.f g = some (decide (g = 4 ∨ g = 6)) := by
 unfold impl_isGrid.f
 by_cases h : g = 4
 ·rw [if_pos h, decide_eq_true (.inl h)]
 ·rw [if_neg h]
  by_cases h6 : g = 6
  ·subst h6; rfl
  ·rw [decide_eq_false (by omega), beq_eq_false_iff_ne.2 h6]
theorem paGrid_told (g : Int) : spec_paGrid.f g = some (decide (g = 4 ∨ g = 6)) := by
 unfold spec_paGrid.f
 by_cases h : g = 4
 ·rw [if_pos h, decide_eq_true (.inl h)]
 ·rw [if_neg h]
  by_cases h6 : g = 6
  ·subst h6; rfl
  ·rw [decide_eq_false (by omega), beq_eq_false_iff_ne.2 h6]
theorem dropW_nil {p : UInt8 → Bool} : ∀ {l : List UInt8}, l.dropWhile p = [] ↔ ∀ c ∈ l, p c = true
 | [] => by simp
 | c :: l => by
  rw [List.dropWhile_cons]
  by_cases h : p c = true
  ·rw [if_pos h, dropW_nil]
   simp [h]
  ·rw [if_neg h]
   simp [h]
theorem isSg_in (c : UInt8) : ([70, 76, 82] : List UInt8).contains c = isSg c := by
 unfold isSg
 rw [List.contains_cons, List.contains_cons, List.contains_cons]
 simp [eq_comm]
theorem trim_told (l : List UInt8) : (Go.Lib.trimS l [70, 76, 82] == ([] : List UInt8)) = l.all isSg := by
 have e : (fun x => ([70, 76, 82] : List UInt8).contains x) = isSg := funext isSg_in
 have key : Go.Lib.trimS l [70, 76, 82] = [] ↔ l.all isSg = true := by
  unfold Go.Lib.trimS Go.Lib.trimLeftS Go.Lib.trimRightS
  rw [e, dropW_nil, List.all_eq_true]
  constructor
  ·intro h c hc
   by_cases hs : isSg c = true
   ·exact hs
   ·obtain ⟨a, b, hab⟩ : ∃ a b, l.reverse.dropWhile isSg = a :: b := by
     cases hd : l.reverse.dropWhile isSg with
     | nil => exact absurd ((dropW_nil.1 hd) c (by simpa using hc)) hs
     | cons a b => exact ⟨a, b, rfl⟩
    have h1 : isSg a = true := h a (by rw [hab]; simp)
    have h2 := List.head_dropWhile_not isSg (l := l.reverse) (by rw [hab]; simp)
    simp only [hab, List.head_cons] at h2
    rw [h1] at h2
    exact absurd h2 (by simp)
  ·intro h c hc
   have h1 : c ∈ l.reverse.dropWhile isSg := by simpa using hc
   exact h c (by simpa using (List.dropWhile_sublist isSg).mem h1)
 by_cases h : Go.Lib.trimS l [70, 76, 82] = []
 ·rw [h, key.1 h]; rfl
 ·have h2 : l.all isSg = false := by
   cases hb : l.all isSg with
   | true => exact absurd (key.2 hb) h
   | false => rfl
  rw [h2]
  simpa using h
theorem toList_mk (l : List UInt8) : (⟨l.toArray⟩ : ByteArray).toList = l := by
 rw [Go.Lib.toList_data]
theorem isWord_told (g : Int) (w : ByteArray) : impl_isWord.f g w = some (okW g w) := by
 unfold impl_isWord.f okW
 rw [isGrid_told]
 simp only [Option.bind_some]
 by_cases hg : g = 4 ∨ g = 6
 ·rw [if_pos (decide_eq_true hg), decide_eq_true hg, Bool.true_and]
  by_cases hs : w.size ≤ 120
  ·rw [if_pos (by omega), decide_eq_true hs, Bool.true_and]
   have h1 : strings_Trim.f w (⟨#[70, 76, 82]⟩ : ByteArray) = some ⟨(Go.Lib.trimS w.data.toList [70, 76, 82]).toArray⟩ := by
    unfold strings_Trim.f
    rw [if_pos ⟨by omega, by decide, by decide⟩]
   rw [h1, Option.bind_some, toList_mk, trim_told]
   rfl
  ·rw [if_neg (by omega), decide_eq_false hs, Bool.false_and]
 ·rw [if_neg (by simpa using hg), decide_eq_false hg, Bool.false_and]
theorem bt_lst {w : ByteArray} {i : Nat} (h : i < w.size) : bt w (i : Int) = (((lst w)[i]'(by rw [lst_len]; exact h)).toNat : Int) := by
 rw [← bt_at w i (by rw [Int.toNat_natCast]; exact h)]
 simp only [Int.toNat_natCast]
 show (((w.data[i]'h).toNat : Nat) : Int) = _
 unfold lst
 simp
theorem u8_is {c : UInt8} {n : Nat} (hn : n < 256) : ((c.toNat : Nat) : Int) = (n : Int) ↔ c = UInt8.ofNat n := by
 constructor
 ·intro h
  have h2 : c.toNat = n := by omega
  rw [← h2, UInt8.ofNat_toNat]
 ·rintro rfl
  rw [UInt8.toNat_ofNat_of_lt' hn]
theorem is70 {c : UInt8} : ((c.toNat : Nat) : Int) = 70 ↔ c = 70 := u8_is (n := 70) (by omega)
theorem is76 {c : UInt8} : ((c.toNat : Nat) : Int) = 76 ↔ c = 76 := u8_is (n := 76) (by omega)
theorem is82 {c : UInt8} : ((c.toNat : Nat) : Int) = 82 ↔ c = 82 := u8_is (n := 82) (by omega)
theorem paWord_l0 (w : ByteArray) (hw : w.size ≤ 1000000) : ∀ (d k i : Nat), i + d = w.size → d < k → spec_paWord.l0 k w i = some (((lst w).drop i).all isSg) := by
 intro d
 induction d with
 | zero =>
  intro k i h hk
  obtain ⟨k, rfl⟩ : ∃ m, k = m + 1 := ⟨k - 1, by omega⟩
  rw [spec_paWord.l0, if_neg (by omega), List.drop_eq_nil_of_le (by rw [lst_len]; omega)]
  rfl
 | succ d ih =>
  intro k i h hk
  obtain ⟨k, rfl⟩ : ∃ m, k = m + 1 := ⟨k - 1, by omega⟩
  have hi : i < (lst w).length := by rw [lst_len]; omega
  rw [spec_paWord.l0, if_pos (by omega), if_pos (by omega), bt_lst (by omega), wrap_id (by omega) (by omega), List.drop_eq_getElem_cons hi, List.all_cons, show ((i : Int) + 1) = ((i + 1 : Nat) : Int) by omega, ih k (i + 1) (by omega) (by omega)]
  generalize (lst w)[i] = c
  by_cases h1 : c = 70
  ·rw [if_pos (is70.2 h1), show isSg c = true by rw [h1]; rfl, Bool.true_and]
  ·rw [if_neg (fun e => h1 (is70.1 e))]
   by_cases h2 : c = 76
   ·rw [if_pos (is76.2 h2), show isSg c = true by rw [h2]; rfl, Bool.true_and]
   ·rw [if_neg (fun e => h2 (is76.1 e))]
    by_cases h3 : c = 82
    ·rw [if_pos (is82.2 h3), show isSg c = true by rw [h3]; rfl, Bool.true_and]
    ·rw [if_neg (fun e => h3 (is82.1 e)), show isSg c = false by unfold isSg; simp [h1, h2, h3], Bool.false_and]
theorem paAsked_told {k : Nat} (hk : 200 ≤ k) (g : Int) (w : ByteArray) : spec_paAsked.f k g w = some (okW g w) := by
 unfold spec_paAsked.f okW
 rw [paGrid_told]
 simp only [Option.bind_some]
 by_cases hg : g = 4 ∨ g = 6
 ·rw [if_pos (decide_eq_true hg), decide_eq_true hg, Bool.true_and]
  unfold spec_paWord.f
  by_cases hs : w.size ≤ 120
  ·rw [if_neg (by omega), decide_eq_true hs, Bool.true_and]
   have := paWord_l0 w (by omega) w.size k 0 (by omega) (by omega)
   rw [show ((0 : Nat) : Int) = 0 from rfl, List.drop_zero] at this
   rw [this]
   rfl
  ·rw [if_pos (by omega), decide_eq_false hs, Bool.false_and]
   rfl
 ·rw [if_neg (by simpa using hg), decide_eq_false hg, Bool.false_and]
/-- The points that a walk comes to, step by step. -/
def ptsW (g : Int) : List UInt8 → StW → List (List Int)
 | [], _ => []
 | c :: w, s => if c = 70 then [(stpW g c s).x, (stpW g c s).y] :: ptsW g w (stpW g c s) else ptsW g w (stpW g c s)
def nearS (B : Int) (s : StW) : Prop := -B ≤ s.x ∧ s.x ≤ B ∧ -B ≤ s.y ∧ s.y ≤ B
theorem way_le {g d : Int} : -1 ≤ wayX g d ∧ wayX g d ≤ 1 ∧ -1 ≤ wayY g d ∧ wayY g d ≤ 1 := by
 unfold wayX wayY
 refine ⟨?_, ?_, ?_, ?_⟩ <;> repeat' split
 all_goals omega
theorem near_stp {g B : Int} {s : StW} (c : UInt8) (h : nearS B s) : nearS (B + 1) (stpW g c s) := by
 obtain ⟨w1, w2, w3, w4⟩ := way_le (g := g) (d := s.d)
 obtain ⟨h1, h2, h3, h4⟩ := h
 unfold stpW nearS
 split
 ·dsimp only; omega
 ·split
  ·dsimp only; omega
  ·dsimp only; omega
theorem near_run {g : Int} : ∀ (l : List UInt8) {B : Int} {s : StW}, nearS B s → nearS (B + l.length) (runW g l s)
 | [], B, s, h => by rw [runW, List.length_nil]; simpa using h
 | c :: l, B, s, h => by
  have := near_run (g := g) l (near_stp (g := g) c h)
  rw [runW, List.length_cons]
  rw [show B + ((l.length + 1 : Nat) : Int) = B + 1 + (l.length : Int) by omega]
  exact this
theorem near_mono {B C : Int} {s : StW} (h : nearS B s) (hc : B ≤ C) : nearS C s := by
 unfold nearS at *; omega
theorem do_told {g : Int} (hg : gridG g) {c : UInt8} (hc : sgnW c) {s : StW} (hd : okDir g s.d) (hn : nearS 1000000000 s) :
  impl_walker_do.f s.x s.y s.d g (c.toNat : Int) = some ((stpW g c s).x, (stpW g c s).y, (stpW g c s).d) := by
 unfold impl_walker_do.f
 rw [if_pos (show inW s.x s.y s.d g from ⟨hg, hd.1, hd.2, hn.1, hn.2.1, hn.2.2.1, hn.2.2.2⟩)]
 unfold doW stpW
 rcases hc with rfl | rfl | rfl
 ·rw [if_pos (by decide), if_pos rfl]
 ·rw [if_neg (by decide), if_pos (by decide), if_neg (by decide), if_pos rfl]
 ·rw [if_neg (by decide), if_neg (by decide), if_pos (by decide), if_neg (by decide), if_neg (by decide)]
theorem walk_l0 {g : Int} (hg : gridG g) {w : ByteArray} (hw : w.size ≤ 1000000) (hs : ∀ c ∈ lst w, sgnW c) : ∀ (d k i : Nat) (out : List (List Int)) (s : StW), i + d = w.size → d < k → okDir g s.d → nearS (1000000000 - d) s → out.length + d < 5864062014805 →
  impl_walk.l0 k g w out (w.size : Int) i s.x s.y s.d = some (out ++ ptsW g ((lst w).drop i) s, (runW g ((lst w).drop i) s).x, (runW g ((lst w).drop i) s).y, (runW g ((lst w).drop i) s).d) := by
 intro d
 induction d with
 | zero =>
  intro k i out s h hk ho hn hl
  obtain ⟨k, rfl⟩ : ∃ m, k = m + 1 := ⟨k - 1, by omega⟩
  rw [impl_walk.l0, if_neg (by omega), List.drop_eq_nil_of_le (by rw [lst_len]; omega), ptsW, runW, List.append_nil]
 | succ d ih =>
  intro k i out s h hk ho hn hl
  obtain ⟨k, rfl⟩ : ∃ m, k = m + 1 := ⟨k - 1, by omega⟩
  have hi : i < (lst w).length := by rw [lst_len]; omega
  have hc := hs _ (List.getElem_mem hi)
  rw [impl_walk.l0, if_pos (by omega), if_pos (by omega), if_pos (by omega), bt_lst (by omega), do_told hg hc ho (near_mono hn (by omega)), List.drop_eq_getElem_cons hi, ptsW, runW]
  simp only [Option.bind_some]
  have hn' : nearS (1000000000 - d) (stpW g (lst w)[i] s) := near_mono (near_stp _ hn) (by omega)
  have ho' := stp_ok hg (lst w)[i] ho
  rw [wrap_id (by omega) (by omega), show ((i : Int) + 1) = ((i + 1 : Nat) : Int) by omega]
  by_cases h70 : (lst w)[i] = 70
  ·rw [if_pos (is70.2 h70), if_pos h70, if_pos (by omega), ih k (i + 1) _ _ (by omega) (by omega) ho' hn' (by rw [List.length_append]; simp; omega), List.append_assoc]
   rfl
  ·rw [if_neg (fun e => h70 (is70.1 e)), if_neg h70, ih k (i + 1) _ _ (by omega) (by omega) ho' hn' (by omega)]
theorem walk_told {g : Int} {w : ByteArray} (hw : okW g w = true) {s : StW} (ho : okDir g s.d) (hn : nearS 1000000 s) {k : Nat} (hk : 200 ≤ k) :
  impl_walk.f k g w s.x s.y s.d = some ([s.x, s.y] :: ptsW g (lst w) s, (runW g (lst w) s).x, (runW g (lst w) s).y, (runW g (lst w) s).d) := by
 obtain ⟨hg, hz, hs⟩ := okW_true.1 hw
 have := walk_l0 hg (by omega) hs w.size k 0 [[s.x, s.y]] s (by omega) (by omega) ho (near_mono hn (by omega)) (by simp; omega)
 unfold impl_walk.f
 rw [show ((0 : Nat) : Int) = 0 from rfl, List.drop_zero] at this
 rw [this]
 rfl
theorem paWay_told {g d : Int} (hg : gridG g) (hd : okDir g d) : spec_paWay.f g d = some [wayX g d, wayY g d] := by
 rcases dirsG hg hd with ⟨rfl, h | h | h | h⟩ | ⟨rfl, h | h | h | h | h | h⟩ <;> subst h <;> rfl
theorem path_l0 {g : Int} (hg : gridG g) {w : ByteArray} (hw : w.size ≤ 1000000) (hs : ∀ c ∈ lst w, sgnW c) : ∀ (d k i : Nat) (out : List (List Int)) (s : StW), i + d = w.size → d < k → okDir g s.d → nearS (1000000000 - d) s → out.length + d < 5864062014805 →
  spec_paPath.l0 k g w s.x s.y s.d out i = some (out ++ ptsW g ((lst w).drop i) s, (runW g ((lst w).drop i) s).d) := by
 intro d
 induction d with
 | zero =>
  intro k i out s h hk ho hn hl
  obtain ⟨k, rfl⟩ : ∃ m, k = m + 1 := ⟨k - 1, by omega⟩
  rw [spec_paPath.l0, if_neg (by omega), List.drop_eq_nil_of_le (by rw [lst_len]; omega), ptsW, runW, List.append_nil]
 | succ d ih =>
  intro k i out s h hk ho hn hl
  obtain ⟨k, rfl⟩ : ∃ m, k = m + 1 := ⟨k - 1, by omega⟩
  have hi : i < (lst w).length := by rw [lst_len]; omega
  have hc := hs _ (List.getElem_mem hi)
  have hgd : g = 4 ∨ g = 6 := hg
  have hod : 0 ≤ s.d ∧ s.d < g := ho
  have hnn : -(1000000000 - ((d + 1 : Nat) : Int)) ≤ s.x ∧ s.x ≤ 1000000000 - ((d + 1 : Nat) : Int) ∧ -(1000000000 - ((d + 1 : Nat) : Int)) ≤ s.y ∧ s.y ≤ 1000000000 - ((d + 1 : Nat) : Int) := hn
  rw [spec_paPath.l0, if_pos (by omega), if_pos (by omega), bt_lst (by omega), List.drop_eq_getElem_cons hi, ptsW, runW]
  have hn' : nearS (1000000000 - d) (stpW g (lst w)[i] s) := near_mono (near_stp _ hn) (by omega)
  have ho' := stp_ok hg (lst w)[i] ho
  have hnext : wrap64 ((i : Int) + 1) = ((i + 1 : Nat) : Int) := by rw [wrap_id (by omega) (by omega)]; omega
  rw [hnext]
  generalize hce : (lst w)[i] = c at *
  by_cases h70 : c = 70
  ·obtain ⟨w1, w2, w3, w4⟩ := way_le (g := g) (d := s.d)
   have e : stpW g c s = ⟨s.x + wayX g s.d, s.y + wayY g s.d, s.d⟩ := by unfold stpW; rw [if_pos h70]
   rw [if_pos (is70.2 h70), if_pos h70, paWay_told hg ho]
   simp only [Option.bind_some]
   rw [if_pos (by simp), if_pos (by simp), if_pos (by omega), show rd [wayX g s.d, wayY g s.d] 0 = wayX g s.d from rfl, show rd [wayX g s.d, wayY g s.d] 1 = wayY g s.d from rfl, wrap_id (x := s.x + wayX g s.d) (by omega) (by omega), wrap_id (x := s.y + wayY g s.d) (by omega) (by omega)]
   have := ih k (i + 1) (out ++ [[s.x + wayX g s.d, s.y + wayY g s.d]]) (stpW g c s) (by omega) (by omega) ho' hn' (by rw [List.length_append]; simp; omega)
   rw [e] at this ⊢
   rw [this, List.append_assoc]
   rfl
  ·rw [if_neg (fun e => h70 (is70.1 e)), if_neg h70]
   by_cases h76 : c = 76
   ·have e : stpW g c s = ⟨s.x, s.y, (s.d + 1) % g⟩ := by unfold stpW; rw [if_neg h70, if_pos h76]
    rw [if_pos (is76.2 h76), if_neg (by omega), wrap_id (x := s.d + 1) (by omega) (by omega), Int.tmod_eq_emod_of_nonneg (by omega)]
    have := ih k (i + 1) out (stpW g c s) (by omega) (by omega) ho' hn' (by omega)
    rw [e] at this ⊢
    exact this
   ·have e : stpW g c s = ⟨s.x, s.y, (s.d + g - 1) % g⟩ := by unfold stpW; rw [if_neg h70, if_neg h76]
    rw [if_neg (fun e => h76 (is76.1 e)), if_neg (by omega), wrap_id (x := s.d + g) (by omega) (by omega), wrap_id (x := s.d + g - 1) (by omega) (by omega), Int.tmod_eq_emod_of_nonneg (by omega)]
    have := ih k (i + 1) out (stpW g c s) (by omega) (by omega) ho' hn' (by omega)
    rw [e] at this ⊢
    exact this
theorem near_zero {B : Int} (h : 0 ≤ B) : nearS B st0 := by
 unfold nearS st0
 dsimp only
 omega
/-- Every word, however long: the path from the first point. -/
theorem path_all {g : Int} (hg : gridG g) {w : ByteArray} (hz : w.size ≤ 1000000) (hs : ∀ c ∈ lst w, sgnW c) {k : Nat} (hk : w.size < k) :
  spec_paPath.f k g w = some ([0, 0] :: ptsW g (lst w) st0, (runW g (lst w) st0).d) := by
 have := path_l0 hg hz hs w.size k 0 [[0, 0]] st0 (by omega) hk (okD_zero hg) (near_zero (by omega)) (by simp; omega)
 unfold spec_paPath.f
 rw [show ((0 : Nat) : Int) = 0 from rfl, List.drop_zero] at this
 rw [show st0.x = 0 from rfl, show st0.y = 0 from rfl, show st0.d = 0 from rfl] at this
 rw [this]
 rfl
/-- Points in order. -/
def ltP (a b : List Int) : Prop := rd a 0 < rd b 0 ∨ rd a 0 = rd b 0 ∧ rd a 1 < rd b 1
theorem ltP_irr {a : List Int} : ¬ ltP a a := by unfold ltP; omega
theorem ltP_trans {a b c : List Int} (h : ltP a b) (h2 : ltP b c) : ltP a c := by unfold ltP at *; omega
theorem asc_one : ∀ {a b : List (List Int)}, a.Pairwise ltP → b.Pairwise ltP → (∀ p, p ∈ a ↔ p ∈ b) → a = b
 | [], [], _, _, _ => rfl
 | [], q :: b, _, _, h => absurd ((h q).2 (by simp)) (by simp)
 | p :: a, [], _, _, h => absurd ((h p).1 (by simp)) (by simp)
 | p :: a, q :: b, ha, hb, h => by
  have ha' := List.pairwise_cons.1 ha
  have hb' := List.pairwise_cons.1 hb
  have e : p = q := by
   rcases List.mem_cons.1 ((h p).1 (by simp)) with e | hp
   ·exact e
   ·rcases List.mem_cons.1 ((h q).2 (by simp)) with e | hq
    ·exact e.symm
    ·exact absurd (ltP_trans (ha'.1 q hq) (hb'.1 p hp)) ltP_irr
  subst e
  refine congrArg _ (asc_one ha'.2 hb'.2 (fun x => ⟨fun hx => ?_, fun hx => ?_⟩))
  ·rcases List.mem_cons.1 ((h x).1 (by simp [hx])) with e | h2
   ·exact absurd (e ▸ ha'.1 x hx) ltP_irr
   ·exact h2
  ·rcases List.mem_cons.1 ((h x).2 (by simp [hx])) with e | h2
   ·exact absurd (e ▸ hb'.1 x hx) ltP_irr
   ·exact h2
/-- What is crossed among points: those that are there twice, in order. -/
def isCrossed (P C : List (List Int)) : Prop := C.Pairwise ltP ∧ ∀ p, p ∈ C ↔ 2 ≤ P.count p
theorem crossed_one {P A B : List (List Int)} (ha : isCrossed P A) (hb : isCrossed P B) : A = B :=
 asc_one ha.1 hb.1 (fun p => (ha.2 p).trans (hb.2 p).symm)
/-- A point more, laid in where it belongs. -/
theorem insert_asc {C : List (List Int)} {p : List Int} {m : Nat} (hC : C.Pairwise ltP) (hm : m ≤ C.length) (hlo : ∀ (i : Nat) (hi : i < C.length), i < m → ltP C[i] p) (hhi : ∀ (i : Nat) (hi : i < C.length), m ≤ i → ltP p C[i]) :
  (C.take m ++ [p] ++ C.drop m).Pairwise ltP := by
 rw [List.pairwise_append, List.pairwise_append]
 refine ⟨⟨hC.sublist (List.take_sublist _ _), by simp, fun a ha b hb => ?_⟩, hC.sublist (List.drop_sublist _ _), fun a ha b hb => ?_⟩
 ·obtain ⟨i, hi, rfl⟩ := List.mem_take_iff_getElem.1 ha
  obtain rfl : b = p := by simpa using hb
  exact hlo i (by omega) (by omega)
 ·obtain ⟨j, hj, rfl⟩ := List.mem_drop_iff_getElem.1 hb
  rcases List.mem_append.1 ha with ha | ha
  ·obtain ⟨i, hi, rfl⟩ := List.mem_take_iff_getElem.1 ha
   exact List.pairwise_iff_getElem.1 hC i (m + j) (by omega) (by omega) (by omega)
  ·obtain rfl : a = p := by simpa using ha
   exact hhi (m + j) (by omega) (by omega)
/-- So many turns, told shortly. -/
def turnW (g t : Int) : List UInt8 := if 0 < t then List.replicate (t % g).toNat 76 else List.replicate (-t % g).toNat 82
/-- The short word, with t turns kept back. -/
def shW (g : Int) : List UInt8 → Int → List UInt8
 | [], t => turnW g t
 | c :: w, t => if c = 70 then turnW g t ++ 70 :: shW g w 0 else if c = 76 then shW g w (t + 1) else shW g w (t - 1)
theorem mod_le_abs {g t : Int} (hg : gridG g) (h : 0 ≤ t) : 0 ≤ t % g ∧ t % g ≤ t := by
 have : g = 4 ∨ g = 6 := hg
 rcases this with rfl | rfl <;> omega
theorem turnW_len {g : Int} (hg : gridG g) (t : Int) : (turnW g t).length ≤ t.natAbs := by
 unfold turnW
 split
 ·rw [List.length_replicate]
  have := mod_le_abs hg (t := t) (by omega)
  omega
 ·rw [List.length_replicate]
  have := mod_le_abs hg (t := -t) (by omega)
  omega
theorem shW_len {g : Int} (hg : gridG g) : ∀ (w : List UInt8) (t : Int), (shW g w t).length ≤ w.length + t.natAbs
 | [], t => by
  have := turnW_len hg t
  rw [shW, List.length_nil]
  omega
 | c :: w, t => by
  have h0 := shW_len hg w 0
  have h1 := shW_len hg w (t + 1)
  have h2 := shW_len hg w (t - 1)
  have h3 := turnW_len hg t
  rw [shW, List.length_cons]
  split
  ·rw [List.length_append, List.length_cons]
   have : (0 : Int).natAbs = 0 := rfl
   omega
  ·split <;> omega
theorem turnW_sg {g t : Int} : ∀ c ∈ turnW g t, sgnW c := by
 intro c hc
 unfold turnW at hc
 unfold sgnW
 split at hc
 ·exact .inr (.inl (List.eq_of_mem_replicate hc))
 ·exact .inr (.inr (List.eq_of_mem_replicate hc))
theorem shW_sg {g : Int} : ∀ (w : List UInt8) (t : Int), ∀ c ∈ shW g w t, sgnW c
 | [], t, c, hc => turnW_sg c hc
 | d :: w, t, c, hc => by
  rw [shW] at hc
  split at hc
  ·rcases List.mem_append.1 hc with h | h
   ·exact turnW_sg c h
   ·rcases List.mem_cons.1 h with h | h
    ·exact .inl h
    ·exact shW_sg w 0 c h
  ·split at hc
   ·exact shW_sg w _ c hc
   ·exact shW_sg w _ c hc
theorem lefts {g : Int} (hg : gridG g) : ∀ (n : Nat) (s : StW), okDir g s.d → runW g (List.replicate n 76) s = ⟨s.x, s.y, (s.d + n) % g⟩ ∧ ptsW g (List.replicate n 76) s = []
 | 0, s, h => by
  refine ⟨?_, rfl⟩
  show s = _
  refine StW.eq rfl rfl ?_
  show s.d = (s.d + ((0 : Nat) : Int)) % g
  rw [show s.d + ((0 : Nat) : Int) = s.d by omega, mod_id h]
 | n + 1, s, h => by
  have e : stpW g 76 s = ⟨s.x, s.y, (s.d + 1) % g⟩ := rfl
  obtain ⟨h1, h2⟩ := lefts hg n (stpW g 76 s) (stp_ok hg _ h)
  rw [List.replicate_succ, runW, ptsW, if_neg (by decide), h1, h2, e]
  refine ⟨StW.eq rfl rfl ?_, rfl⟩
  show ((s.d + 1) % g + (n : Int)) % g = (s.d + ((n + 1 : Nat) : Int)) % g
  rw [Int.emod_add_emod]; congr 1; omega
theorem rights {g : Int} (hg : gridG g) : ∀ (n : Nat) (s : StW), okDir g s.d → runW g (List.replicate n 82) s = ⟨s.x, s.y, (s.d - n) % g⟩ ∧ ptsW g (List.replicate n 82) s = []
 | 0, s, h => by
  refine ⟨?_, rfl⟩
  show s = _
  refine StW.eq rfl rfl ?_
  show s.d = (s.d - ((0 : Nat) : Int)) % g
  rw [show s.d - ((0 : Nat) : Int) = s.d by omega, mod_id h]
 | n + 1, s, h => by
  have e : stpW g 82 s = ⟨s.x, s.y, (s.d + g - 1) % g⟩ := rfl
  obtain ⟨h1, h2⟩ := rights hg n (stpW g 82 s) (stp_ok hg _ h)
  rw [List.replicate_succ, runW, ptsW, if_neg (by decide), h1, h2, e]
  refine ⟨StW.eq rfl rfl ?_, rfl⟩
  show ((s.d + g - 1) % g - (n : Int)) % g = (s.d - ((n + 1 : Nat) : Int)) % g
  rw [Int.emod_sub_emod, show s.d + g - 1 - (n : Int) = s.d - ((n + 1 : Nat) : Int) + g * 1 by omega, Int.add_mul_emod_self_left]
theorem turnW_run {g : Int} (hg : gridG g) (t : Int) {s : StW} (h : okDir g s.d) : runW g (turnW g t) s = ⟨s.x, s.y, (s.d + t) % g⟩ ∧ ptsW g (turnW g t) s = [] := by
 have hgd : g = 4 ∨ g = 6 := hg
 have hod : 0 ≤ s.d ∧ s.d < g := h
 unfold turnW
 split
 ·obtain ⟨h1, h2⟩ := lefts hg (t % g).toNat s h
  refine ⟨?_, h2⟩
  rw [h1]
  refine StW.eq rfl rfl ?_
  show (s.d + ((t % g).toNat : Int)) % g = (s.d + t) % g
  rcases hgd with rfl | rfl <;> omega
 ·obtain ⟨h1, h2⟩ := rights hg (-t % g).toNat s h
  refine ⟨?_, h2⟩
  rw [h1]
  refine StW.eq rfl rfl ?_
  show (s.d - ((-t % g).toNat : Int)) % g = (s.d + t) % g
  rcases hgd with rfl | rfl <;> omega
theorem pts_app (g : Int) : ∀ (u v : List UInt8) (s : StW), ptsW g (u ++ v) s = ptsW g u s ++ ptsW g v (runW g u s)
 | [], v, s => rfl
 | c :: u, v, s => by
  rw [List.cons_append, ptsW, ptsW, runW, pts_app g u v]
  split <;> rfl
/-- The short word goes the same way. -/
theorem shW_pts {g : Int} (hg : gridG g) : ∀ (w : List UInt8), (∀ c ∈ w, sgnW c) → ∀ (t : Int) (s : StW), okDir g s.d → ptsW g (shW g w t) s = ptsW g w ⟨s.x, s.y, (s.d + t) % g⟩
 | [], _, t, s, h => by rw [shW, (turnW_run hg t h).2, ptsW]
 | c :: w, hw, t, s, h => by
  have hw' : ∀ c ∈ w, sgnW c := fun c hc => hw c (by simp [hc])
  rw [shW, ptsW]
  by_cases h70 : c = 70
  ·have e : stpW g 70 ⟨s.x, s.y, (s.d + t) % g⟩ = ⟨s.x + wayX g ((s.d + t) % g), s.y + wayY g ((s.d + t) % g), (s.d + t) % g⟩ := rfl
   rw [if_pos h70, if_pos h70, pts_app, (turnW_run hg t h).1, (turnW_run hg t h).2, List.nil_append, ptsW, if_pos rfl, h70, shW_pts hg w hw' 0 _ (stp_ok hg _ (okD_mod hg)), e]
   dsimp only
   rw [show (s.d + t) % g + 0 = (s.d + t) % g by omega, Int.emod_emod]
  ·rw [if_neg h70, if_neg h70]
   by_cases h76 : c = 76
   ·have e : stpW g c ⟨s.x, s.y, (s.d + t) % g⟩ = ⟨s.x, s.y, ((s.d + t) % g + 1) % g⟩ := by rw [h76]; rfl
    rw [if_pos h76, shW_pts hg w hw' _ _ h, e, Int.emod_add_emod, Int.add_assoc]
   ·have e : stpW g c ⟨s.x, s.y, (s.d + t) % g⟩ = ⟨s.x, s.y, ((s.d + t) % g + g - 1) % g⟩ := by unfold stpW; rw [if_neg h70, if_neg h76]
    rw [if_neg h76, shW_pts hg w hw' _ _ h, e, show (s.d + t) % g + g - 1 = (s.d + t) % g + (g - 1) by omega, Int.emod_add_emod, show s.d + t + (g - 1) = s.d + (t - 1) + g * 1 by omega, Int.add_mul_emod_self_left]
/-- A word's path; its last walker. -/
def ptsOf (g : Int) (w : ByteArray) : List (List Int) := [0, 0] :: ptsW g (lst w) st0
def endW (g : Int) (w : ByteArray) : StW := runW g (lst w) st0
def isSt0 (s : StW) : Bool := s.x == 0 && (s.y == 0 && s.d == 0)
theorem isSt0_true {s : StW} : isSt0 s = true ↔ s = st0 := by
 unfold isSt0
 simp only [Bool.and_eq_true, beq_iff_eq]
 constructor
 ·rintro ⟨a, b, c⟩
  exact StW.eq a b c
 ·rintro rfl
  exact ⟨rfl, rfl, rfl⟩
theorem pts_last (g : Int) : ∀ (w : List UInt8) (s : StW), ([s.x, s.y] :: ptsW g w s).getLast (by simp) = [(runW g w s).x, (runW g w s).y]
 | [], s => rfl
 | c :: w, s => by
  rw [runW, ← pts_last g w (stpW g c s)]
  by_cases h : c = 70
  ·simp only [ptsW, if_pos h]
   rw [List.getLast_cons (by simp)]
  ·have e : (stpW g c s).x = s.x ∧ (stpW g c s).y = s.y := by
    unfold stpW
    rw [if_neg h]
    split <;> exact ⟨rfl, rfl⟩
   simp only [ptsW, if_neg h, e.1, e.2]
theorem pts_count (g : Int) : ∀ (w : List UInt8) (s : StW), (ptsW g w s).length = w.count 70
 | [], s => rfl
 | c :: w, s => by
  rw [ptsW, List.count_cons]
  by_cases h : c = 70
  ·rw [if_pos h, List.length_cons, pts_count g w, h]; rfl
  ·rw [if_neg h, pts_count g w]
   simp [h]
theorem pts_le (g : Int) (w : List UInt8) (s : StW) : (ptsW g w s).length ≤ w.length := by
 rw [pts_count]; exact List.count_le_length
theorem pts_two (g : Int) : ∀ (w : List UInt8) (s : StW), ∀ p ∈ ptsW g w s, p.length = 2
 | [], s, p, hp => by cases hp
 | c :: w, s, p, hp => by
  rw [ptsW] at hp
  split at hp
  ·rcases List.mem_cons.1 hp with rfl | h
   ·rfl
   ·exact pts_two g w _ p h
  ·exact pts_two g w _ p hp
theorem ptsOf_two (g : Int) (w : ByteArray) : ∀ p ∈ ptsOf g w, p.length = 2 := by
 intro p hp
 rcases List.mem_cons.1 hp with rfl | h
 ·rfl
 ·exact pts_two g _ _ p h
theorem ptsOf_len {g : Int} {w : ByteArray} : (ptsOf g w).length = (lst w).count 70 + 1 := by
 unfold ptsOf
 rw [List.length_cons, pts_count]
theorem ptsOf_le {g : Int} {w : ByteArray} : 1 ≤ (ptsOf g w).length ∧ (ptsOf g w).length ≤ w.size + 1 := by
 unfold ptsOf
 rw [List.length_cons]
 have := pts_le g (lst w) st0
 rw [lst_len] at this
 omega
theorem ptsOf_last (g : Int) (w : ByteArray) (hw : w.size ≤ 1000000) : rd_L2 (ptsOf g w) (wrap64 (((ptsOf g w).length : Int) - 1)) = [(endW g w).x, (endW g w).y] := by
 have h := pts_last g (lst w) st0
 have hl := ptsOf_le (g := g) (w := w)
 have e : ((ptsOf g w).length : Int) - 1 = (((ptsOf g w).length - 1 : Nat) : Int) := by omega
 rw [wrap_id (by omega) (by omega), e]
 unfold rd_L2
 rw [Int.toNat_natCast, List.getD_eq_getElem?_getD, List.getElem?_eq_getElem (by omega), Option.getD_some]
 rw [List.getLast_eq_getElem] at h
 exact h
theorem walk0_told {g : Int} {w : ByteArray} (hw : okW g w = true) {k : Nat} (hk : 200 ≤ k) : impl_walk.f k g w 0 0 0 = some (ptsOf g w, (endW g w).x, (endW g w).y, (endW g w).d) :=
 walk_told hw (s := st0) (okD_zero (okW_true.1 hw).1) (near_zero (by omega)) hk
theorem path0_told {g : Int} {w : ByteArray} (hw : okW g w = true) {k : Nat} (hk : 200 ≤ k) : spec_paPath.f k g w = some (ptsOf g w, (endW g w).d) := by
 obtain ⟨hg, hz, hs⟩ := okW_true.1 hw
 exact path_all hg (by omega) hs (by omega)
def endL (s : StW) : List Int := [s.x, s.y, s.d]
theorem paClosed_told {g : Int} (hg : gridG g) {w : ByteArray} (hz : w.size ≤ 100000) (hs : ∀ c ∈ lst w, sgnW c) {k : Nat} (hk : w.size < k) : spec_paClosed.f k g w = some (isSt0 (endW g w)) := by
 have hp : spec_paPath.f k g w = some (ptsOf g w, (endW g w).d) := path_all hg (by omega) hs hk
 have hl := ptsOf_le (g := g) (w := w)
 unfold spec_paClosed.f isSt0
 rw [hp, Option.bind_some]
 dsimp only
 rw [ptsOf_last g w (by omega), wrap_id (by omega) (by omega), if_pos (by omega), if_pos (by omega), if_pos (by simp)]
 have e0 : rd [(endW g w).x, (endW g w).y] 0 = (endW g w).x := rfl
 have e1 : rd [(endW g w).x, (endW g w).y] 1 = (endW g w).y := rfl
 rw [e0, e1]
 by_cases hx : (endW g w).x = 0
 ·rw [if_pos hx, if_pos (by simp), hx]
  by_cases hy : (endW g w).y = 0
  ·rw [if_pos hy, hy]; rfl
  ·rw [if_neg hy, beq_eq_false_iff_ne.2 hy]; rfl
 ·rw [if_neg hx, beq_eq_false_iff_ne.2 hx]; rfl
theorem closedI {g : Int} {w : ByteArray} {k : Nat} (hk : 200 ≤ k) : impl_IsClosed.f k g w = some (okW g w && isSt0 (endW g w), okW g w) := by
 unfold impl_IsClosed.f
 rw [isWord_told, Option.bind_some]
 by_cases h : okW g w = true
 ·rw [if_pos h]
  unfold impl_isClosed.f
  rw [walk0_told h hk, h]; rfl
 ·rw [if_neg h, Bool.eq_false_iff.2 h]; rfl
/-- The least number of times from n on (d are tried) that leads a motion back. -/
def repR (g : Int) (a : StW) : Nat → Nat → Int × Bool
 | 0, _ => (0, false)
 | d + 1, n => if isSt0 (powS g a n) = true then ((n : Int), true) else repR g a d (n + 1)
theorem near_pow {g : Int} (hg : gridG g) {w : ByteArray} (hz : w.size ≤ 120) (n : Nat) : nearS (120 * n) (powS g (endW g w) n) := by
 have key : ∀ n : Nat, nearS (120 * n) (runW g (repW (lst w) n) st0) := by
  intro n
  have h := near_run (g := g) (repW (lst w) n) (near_zero (B := 0) (by omega))
  refine near_mono h ?_
  have hl : ∀ n : Nat, (repW (lst w) n).length ≤ 120 * n := by
   intro n
   induction n with
   | zero => simp [repW]
   | succ n ih =>
    rw [repW, List.length_append, lst_len]; omega
  have := hl n
  omega
 have := key n
 rw [run_reps hg] at this
 exact this
theorem rep_l0 {g : Int} {w : ByteArray} (hw : okW g w = true) : ∀ (d k n : Nat), ((n + 1 : Nat) : Int) + d = g + 1 → d + 300 < k →
  impl_RepeatsToClose.l0 k g w ((n + 1 : Nat) : Int) (powS g (endW g w) n).x (powS g (endW g w) n).y (powS g (endW g w) n).d = some (repR g (endW g w) d (n + 1)) := by
 obtain ⟨hg, hz, hs⟩ := okW_true.1 hw
 have hgd : g = 4 ∨ g = 6 := hg
 intro d
 induction d with
 | zero =>
  intro k n h hk
  obtain ⟨k, rfl⟩ : ∃ m, k = m + 1 := ⟨k - 1, by omega⟩
  rw [impl_RepeatsToClose.l0, if_neg (by omega), repR]
 | succ d ih =>
  intro k n h hk
  obtain ⟨k, rfl⟩ : ∃ m, k = m + 1 := ⟨k - 1, by omega⟩
  have hn := near_pow hg hz n
  have ho := pow_ok hg (endW g w) n
  have hwk := walk_told hw (s := powS g (endW g w) n) ho (near_mono hn (by omega)) (k := k) (by omega)
  have hrun : runW g (lst w) (powS g (endW g w) n) = powS g (endW g w) (n + 1) := by rw [run_mul hg _ ho]; rfl
  rw [hrun] at hwk
  rw [impl_RepeatsToClose.l0, if_pos (by omega), hwk, Option.bind_some, repR]
  dsimp only
  show (if isSt0 (powS g (endW g w) (n + 1)) = true then _ else _) = _
  by_cases hc : isSt0 (powS g (endW g w) (n + 1)) = true
  ·rw [if_pos hc, if_pos hc]
  ·rw [if_neg hc, if_neg hc, wrap_id (by omega) (by omega), show ((n + 1 : Nat) : Int) + 1 = ((n + 1 + 1 : Nat) : Int) by omega]
   exact ih k (n + 1) (by omega) (by omega)
theorem repI {g : Int} {w : ByteArray} {k : Nat} (hk : 400 ≤ k) : impl_RepeatsToClose.f k g w = some (if okW g w = true then repR g (endW g w) g.toNat 1 else (0, false)) := by
 unfold impl_RepeatsToClose.f
 rw [isWord_told, Option.bind_some]
 by_cases h : okW g w = true
 ·have hgd : g = 4 ∨ g = 6 := (okW_true.1 h).1
  rw [if_pos h, if_pos h]
  exact rep_l0 h g.toNat k 0 (by omega) (by omega)
 ·rw [if_neg h, if_neg h]
theorem paTimes_l0 (w : ByteArray) (hw : w.size ≤ 1000) : ∀ (d k : Nat) (out : ByteArray), d < k → d ≤ 1000000000 → (out.size : Int) + d * 1000 ≤ 9000000000000000000 → ∃ r, spec_paTimes.l0 k w (d : Int) out = some r ∧ lst r = lst out ++ repW (lst w) d := by
 intro d
 induction d with
 | zero =>
  intro k out hk _ _
  obtain ⟨k, rfl⟩ : ∃ m, k = m + 1 := ⟨k - 1, by omega⟩
  refine ⟨out, ?_, ?_⟩
  ·rw [spec_paTimes.l0, if_neg (by omega)]
  ·rw [repW, List.append_nil]
 | succ d ih =>
  intro k out hk hd ho
  obtain ⟨k, rfl⟩ : ∃ m, k = m + 1 := ⟨k - 1, by omega⟩
  have hsz : (out ++ w).size = out.size + w.size := ByteArray.size_append
  obtain ⟨r, h1, h2⟩ := ih k (out ++ w) (by omega) (by omega) (by rw [hsz]; omega)
  refine ⟨r, ?_, ?_⟩
  ·rw [spec_paTimes.l0, if_pos (by omega), if_pos (by omega), wrap_id (by omega) (by omega), show ((d + 1 : Nat) : Int) - 1 = (d : Int) by omega]
   exact h1
  ·rw [h2]
   have e : lst (out ++ w) = lst out ++ lst w := by unfold lst; simp
   have c : ∀ n : Nat, lst w ++ repW (lst w) n = repW (lst w) n ++ lst w := by
    intro n
    induction n with
    | zero => simp [repW]
    | succ n ih => rw [repW, ← List.append_assoc, ih]
   rw [e, repW, List.append_assoc, c]
theorem paTimes_told {w : ByteArray} (hw : w.size ≤ 1000) {n k : Nat} (hn : n ≤ 1000000) (hk : n < k) : ∃ r, spec_paTimes.f k w (n : Int) = some r ∧ lst r = repW (lst w) n := by
 obtain ⟨r, h1, h2⟩ := paTimes_l0 w hw n k ⟨#[]⟩ hk (by omega) (by
  have : (⟨#[]⟩ : ByteArray).size = 0 := rfl
  omega)
 exact ⟨r, h1, by rw [h2]; rfl⟩
theorem repW_mem {w : List UInt8} : ∀ {n : Nat} {c : UInt8}, c ∈ repW w n → c ∈ w
 | 0, c, h => by cases h
 | n + 1, c, h => by
  rcases List.mem_append.1 h with h | h
  ·exact repW_mem h
  ·exact h
theorem repW_len (w : List UInt8) : ∀ n : Nat, (repW w n).length = n * w.length
 | 0 => by simp [repW]
 | n + 1 => by rw [repW, List.length_append, repW_len w n, Nat.succ_mul]
theorem reps_l0 {g : Int} {w : ByteArray} (hw : okW g w = true) : ∀ (d k n : Nat), ((n + 1 : Nat) : Int) + d = g + 1 → d + 1300 < k →
  spec_paRepeats.l0 k g w ((n + 1 : Nat) : Int) = some (repR g (endW g w) d (n + 1)) := by
 obtain ⟨hg, hz, hs⟩ := okW_true.1 hw
 have hgd : g = 4 ∨ g = 6 := hg
 intro d
 induction d with
 | zero =>
  intro k n h hk
  obtain ⟨k, rfl⟩ : ∃ m, k = m + 1 := ⟨k - 1, by omega⟩
  rw [spec_paRepeats.l0, if_neg (by omega), repR]
 | succ d ih =>
  intro k n h hk
  obtain ⟨k, rfl⟩ : ∃ m, k = m + 1 := ⟨k - 1, by omega⟩
  obtain ⟨r, h1, h2⟩ := paTimes_told (w := w) (by omega) (n := n + 1) (k := k) (by omega) (by omega)
  have hrl : r.size ≤ 720 := by
   rw [← lst_len, h2, repW_len, lst_len]
   have : (n + 1) * w.size ≤ 6 * 120 := Nat.mul_le_mul (by omega) hz
   omega
  have hcl := paClosed_told hg (w := r) (by omega) (fun c hc => hs c (by rw [h2] at hc; exact repW_mem hc)) (k := k) (by omega)
  have he : endW g r = powS g (endW g w) (n + 1) := by
   unfold endW
   rw [h2, run_reps hg]
  rw [he] at hcl
  rw [spec_paRepeats.l0, if_pos (by omega), h1, Option.bind_some, hcl, Option.bind_some, repR]
  by_cases hc : isSt0 (powS g (endW g w) (n + 1)) = true
  ·rw [if_pos hc, if_pos hc]
  ·rw [if_neg hc, if_neg hc, wrap_id (by omega) (by omega), show ((n + 1 : Nat) : Int) + 1 = ((n + 1 + 1 : Nat) : Int) by omega]
   exact ih k (n + 1) (by omega) (by omega)
theorem rd_nat (l : List Int) {i : Nat} (h : i < l.length) : rd l (i : Int) = l[i] := by
 unfold rd
 rw [Int.toNat_natCast, List.getD_eq_getElem?_getD, List.getElem?_eq_getElem h, Option.getD_some]
theorem rd5_nat (l : List (List Int)) {i : Nat} (h : i < l.length) : rd_L2 l (i : Int) = l[i] := by
 unfold rd_L2
 rw [Int.toNat_natCast, List.getD_eq_getElem?_getD, List.getElem?_eq_getElem h, Option.getD_some]
/-- Loops that compare two rows tell whether they are equal. -/
theorem same_gen {F : Nat → List Int → List Int → Int → Int → Option Bool}
  (hF : ∀ k a b n i, F (k + 1) a b n i = if i < n then (if 0 ≤ i then (if i < (a.length : Int) then (if i < (b.length : Int) then (if (rd a i) = (rd b i) then (F k a b n (wrap64 (i + 1))) else (some false)) else (none)) else (none)) else (none)) else (some true))
  {a b : List Int} (hl : a.length = b.length) (hs : a.length ≤ 1000000) : ∀ (d k i : Nat), i + d = a.length → d < k → F k a b (a.length : Int) (i : Int) = some (decide (a.drop i = b.drop i)) := by
 intro d
 induction d with
 | zero =>
  intro k i h hk
  obtain ⟨k, rfl⟩ : ∃ m, k = m + 1 := ⟨k - 1, by omega⟩
  rw [hF, if_neg (by omega), List.drop_eq_nil_of_le (by omega), List.drop_eq_nil_of_le (by omega)]
  rfl
 | succ d ih =>
  intro k i h hk
  obtain ⟨k, rfl⟩ : ∃ m, k = m + 1 := ⟨k - 1, by omega⟩
  rw [hF, if_pos (by omega), if_pos (by omega), if_pos (by omega), if_pos (by omega), rd_nat a (by omega), rd_nat b (by omega), wrap_id (by omega) (by omega), show ((i : Int) + 1) = ((i + 1 : Nat) : Int) by omega, ih k (i + 1) (by omega) (by omega), List.drop_eq_getElem_cons (show i < a.length by omega), List.drop_eq_getElem_cons (show i < b.length by omega)]
  by_cases hc : a[i] = b[i]
  ·rw [if_pos hc]
   exact congrArg some (decide_eq_decide.2 (by rw [List.cons.injEq]; exact ⟨fun e => ⟨hc, e⟩, fun e => e.2⟩))
  ·rw [if_neg hc, decide_eq_false (fun e => hc (List.cons.inj e).1)]
theorem same_all {F : Nat → List Int → List Int → Int → Int → Option Bool}
  (hF : ∀ k a b n i, F (k + 1) a b n i = if i < n then (if 0 ≤ i then (if i < (a.length : Int) then (if i < (b.length : Int) then (if (rd a i) = (rd b i) then (F k a b n (wrap64 (i + 1))) else (some false)) else (none)) else (none)) else (none)) else (some true))
  {a b : List Int} (hs : a.length ≤ 1000000) {k : Nat} (hk : a.length < k) : (if (a.length : Int) = (b.length : Int) then F k a b (a.length : Int) 0 else some false) = some (decide (a = b)) := by
 by_cases hl : a.length = b.length
 ·rw [if_pos (by omega)]
  have := same_gen hF hl hs a.length k 0 (by omega) hk
  simpa using this
 ·rw [if_neg (by omega), decide_eq_false (fun e => hl (by rw [e]))]
/-- The turns that a word makes. -/
def trn (l : List UInt8) : Int := (l.count 76 : Int) - (l.count 82 : Int)
theorem trn_cons (c : UInt8) (l : List UInt8) : trn (c :: l) = trn l + (if c = 76 then 1 else if c = 82 then -1 else 0) := by
 unfold trn
 rw [List.count_cons, List.count_cons]
 by_cases h : c = 76
 ·subst h; rw [if_pos rfl]; simp; omega
 ·rw [if_neg h]
  by_cases h2 : c = 82
  ·subst h2; rw [if_pos rfl]; simp; omega
  ·rw [if_neg h2]; simp [h, h2]
theorem trn_le (l : List UInt8) : -(l.length : Int) ≤ trn l ∧ trn l ≤ l.length := by
 unfold trn
 have h1 := List.count_le_length (a := (76 : UInt8)) (l := l)
 have h2 := List.count_le_length (a := (82 : UInt8)) (l := l)
 omega
theorem run_dir {g : Int} (hg : gridG g) : ∀ (w : List UInt8), (∀ c ∈ w, sgnW c) → ∀ (s : StW), okDir g s.d → (runW g w s).d = (s.d + trn w) % g
 | [], _, s, h => by
  show s.d = (s.d + 0) % g
  rw [Int.add_zero, mod_id h]
 | c :: w, hw, s, h => by
  rw [runW, run_dir hg w (fun c hc => hw c (by simp [hc])) _ (stp_ok hg c h), trn_cons]
  unfold stpW
  rcases hw c (by simp) with rfl | rfl | rfl
  ·rw [if_pos rfl, if_neg (by decide), if_neg (by decide)]; simp
  ·rw [if_neg (by decide), if_pos rfl, if_pos rfl]
   dsimp only
   rw [Int.emod_add_emod]; congr 1; omega
  ·rw [if_neg (by decide), if_neg (by decide), if_neg (by decide), if_pos rfl]
   dsimp only
   rw [Int.emod_add_emod, show s.d + g - 1 + trn w = s.d + (trn w + -1) + g * 1 by omega, Int.add_mul_emod_self_left]
theorem turnsI {g : Int} {w : ByteArray} : impl_TurnsMade.f g w = some (if okW g w = true then trn (lst w) else 0, okW g w) := by
 have e1 : strings_Count.f w (⟨#[76]⟩ : ByteArray) = some (((lst w).count 76 : Nat) : Int) := by
  unfold strings_Count.f
  rw [if_pos (show (⟨#[76]⟩ : ByteArray).size = 1 from rfl)]; rfl
 have e2 : strings_Count.f w (⟨#[82]⟩ : ByteArray) = some (((lst w).count 82 : Nat) : Int) := by
  unfold strings_Count.f
  rw [if_pos (show (⟨#[82]⟩ : ByteArray).size = 1 from rfl)]; rfl
 unfold impl_TurnsMade.f
 rw [isWord_told, Option.bind_some]
 by_cases h : okW g w = true
 ·have hz := (okW_true.1 h).2.1
  have h1 := trn_le (lst w)
  rw [lst_len] at h1
  rw [if_pos h, if_pos h, e1, Option.bind_some, e2, Option.bind_some, h]
  show some (wrap64 (trn (lst w)), true) = _
  rw [wrap_id (by omega) (by omega)]
 ·rw [if_neg h, if_neg h, Bool.eq_false_iff.2 h]
/-- A list, cut at each c. -/
def pieces (c : UInt8) : List UInt8 → List (List UInt8)
 | [] => [[]]
 | x :: r => if x = c then [] :: pieces c r else match pieces c r with
  | [] => [[x]]
  | p :: ps => (x :: p) :: ps
theorem pieces_ne (c : UInt8) : ∀ l : List UInt8, pieces c l ≠ []
 | [] => by simp [pieces]
 | x :: r => by
  unfold pieces
  split
  ·simp
  ·split <;> simp
theorem pieces_hit (c : UInt8) (r : List UInt8) : pieces c (c :: r) = [] :: pieces c r := by
 rw [pieces, if_pos rfl]
theorem pieces_miss {c x : UInt8} (h : x ≠ c) (r p : List UInt8) (ps : List (List UInt8)) (e : pieces c r = p :: ps) : pieces c (x :: r) = (x :: p) :: ps := by
 rw [pieces, if_neg h, e]
theorem index_cons_ne {c x : UInt8} (h : x ≠ c) (l : List UInt8) : Go.Lib.index (x :: l) [c] = if Go.Lib.index l [c] == -1 then -1 else Go.Lib.index l [c] + 1 := by
 have hp : ([c] : List UInt8).isPrefixOf (x :: l) = false := by simp [List.isPrefixOf, Ne.symm h]
 rw [Go.Lib.index, hp]; simp
theorem index_cons_eq (c : UInt8) (l : List UInt8) : Go.Lib.index (c :: l) [c] = 0 := by rw [Go.Lib.index]; simp [List.isPrefixOf]
theorem splitK_pieces (c : UInt8) : ∀ l : List UInt8, Go.Lib.splitK [c] 0 (l.count c) l = pieces c l
 | [] => rfl
 | x :: r => by
  have ih := splitK_pieces c r
  by_cases h : x = c
  ·subst h
   rw [List.count_cons_self, Go.Lib.splitK, index_cons_eq, if_neg (by decide), pieces_hit, ← ih]
   simp
  ·rw [List.count_cons_of_ne (by simpa using h)]
   cases hk : r.count c with
   | zero =>
    rw [hk, Go.Lib.splitK] at ih
    rw [Go.Lib.splitK, pieces_miss h r r [] ih.symm]
   | succ k =>
    rw [hk, Go.Lib.splitK] at ih
    rw [Go.Lib.splitK, index_cons_ne h]
    by_cases hi : (Go.Lib.index r [c] == -1) = true
    ·rw [if_pos hi] at ih
     rw [if_pos hi, if_pos (by decide), pieces_miss h r r [] ih.symm]
    ·rw [if_neg hi] at ih
     have hge := Go.Lib.index_ge r [c]
     have hi2 : Go.Lib.index r [c] ≠ -1 := fun e => hi (beq_iff_eq.2 e)
     rw [if_neg hi, if_neg (by rw [beq_iff_eq]; omega), pieces_miss h r _ _ ih.symm]
     rw [show (Go.Lib.index r [c] + 1).toNat = (Go.Lib.index r [c]).toNat + 1 by omega]
     simp
theorem toL (w : ByteArray) : w.toList = lst w := Go.Lib.toList_data w
theorem lst_mk (l : List UInt8) : lst (⟨l.toArray⟩ : ByteArray) = l := rfl
theorem mk_size (l : List UInt8) : (⟨l.toArray⟩ : ByteArray).size = l.length := by
 show l.toArray.size = _
 simp
theorem lst_inj {a b : ByteArray} (h : lst a = lst b) : a = b := ba_ext h
def mirO (w : ByteArray) : ByteArray := ⟨((lst w).map mirB).toArray⟩
def bakO (w : ByteArray) : ByteArray := ⟨((lst w).map mirB).reverse.toArray⟩
theorem sg_mir {c : UInt8} : sgnW (mirB c) ↔ sgnW c := by
 unfold sgnW mirB
 by_cases h : c = 76
 ·subst h; decide
 ·by_cases h2 : c = 82
  ·subst h2; decide
  ·rw [if_neg h, if_neg h2]
theorem mir_mir (c : UInt8) : mirB (mirB c) = c := by
 unfold mirB
 by_cases h : c = 76
 ·subst h; decide
 ·by_cases h2 : c = 82
  ·subst h2; decide
  ·rw [if_neg h, if_neg h2, if_neg h, if_neg h2]
theorem ok_mir {g : Int} {w : ByteArray} (h : okW g w = true) : okW g (mirO w) = true := by
 obtain ⟨hg, hz, hs⟩ := okW_true.1 h
 refine okW_true.2 ⟨hg, ?_, fun c hc => ?_⟩
 ·unfold mirO
  rw [mk_size, List.length_map, lst_len]; exact hz
 ·obtain ⟨a, ha, rfl⟩ := List.mem_map.1 (show c ∈ (lst w).map mirB from hc)
  exact sg_mir.2 (hs a ha)
theorem ok_bak {g : Int} {w : ByteArray} (h : okW g w = true) : okW g (bakO w) = true := by
 obtain ⟨hg, hz, hs⟩ := okW_true.1 h
 refine okW_true.2 ⟨hg, ?_, fun c hc => ?_⟩
 ·unfold bakO
  rw [mk_size, List.length_reverse, List.length_map, lst_len]; exact hz
 ·obtain ⟨a, ha, rfl⟩ := List.mem_map.1 (List.mem_reverse.1 (show c ∈ ((lst w).map mirB).reverse from hc))
  exact sg_mir.2 (hs a ha)
theorem mirO_mirO (w : ByteArray) : mirO (mirO w) = w := by
 apply lst_inj
 show ((lst w).map mirB).map mirB = lst w
 rw [List.map_map]
 refine (List.map_congr_left (fun c _ => ?_)).trans (List.map_id _)
 exact mir_mir c
theorem bakO_bakO (w : ByteArray) : bakO (bakO w) = w := by
 apply lst_inj
 show (((lst w).map mirB).reverse.map mirB).reverse = lst w
 rw [← List.map_reverse, List.reverse_reverse, List.map_map]
 refine (List.map_congr_left (fun c _ => ?_)).trans (List.map_id _)
 exact mir_mir c
theorem mirI_told {g : Int} {w : ByteArray} (h : okW g w = true) : impl_MirrorWord.f g w = some (mirO w, true) := by
 have hz := (okW_true.1 h).2.1
 unfold impl_MirrorWord.f
 rw [isWord_told, Option.bind_some, if_pos h]
 unfold impl_mirrored.f
 rw [if_pos (by omega)]
 rfl
theorem bakI_told {g : Int} {w : ByteArray} (h : okW g w = true) : impl_BackWord.f g w = some (bakO w, true) := by
 have hz := (okW_true.1 h).2.1
 unfold impl_BackWord.f
 rw [isWord_told, Option.bind_some, if_pos h, if_pos (by omega)]
 rfl
theorem end_mir {g : Int} {w : ByteArray} (h : okW g w = true) : endW g (mirO w) = mirS g (endW g w) := by
 obtain ⟨hg, hz, hs⟩ := okW_true.1 h
 have := run_mir hg (lst w) hs (s := st0) (okD_zero hg)
 rw [refl_s0 hg] at this
 exact this
theorem end_bak {g : Int} {w : ByteArray} (h : okW g w = true) : endW g (bakO w) = bkS g (endW g w) := by
 obtain ⟨hg, hz, hs⟩ := okW_true.1 h
 exact run_back hg (lst w) hs
theorem end_ok {g : Int} {w : ByteArray} (h : okW g w = true) : okDir g (endW g w).d := run_ok (okW_true.1 h).1 _ (okD_zero (okW_true.1 h).1)
theorem repR_eq {g : Int} {a b : StW} (h : ∀ n, powS g a n = st0 ↔ powS g b n = st0) : ∀ (d n : Nat), repR g a d n = repR g b d n
 | 0, _ => rfl
 | d + 1, n => by
  rw [repR, repR, repR_eq h d]
  have e : isSt0 (powS g a n) = isSt0 (powS g b n) := by
   cases h1 : isSt0 (powS g a n) with
   | true => rw [isSt0_true.2 ((h n).1 (isSt0_true.1 h1))]
   | false =>
    cases h2 : isSt0 (powS g b n) with
    | false => rfl
    | true => rw [isSt0_true.2 ((h n).2 (isSt0_true.1 h2))] at h1; exact absurd h1 (by simp)
  rw [e]
theorem rep_mir {g : Int} {w : ByteArray} (h : okW g w = true) (d n : Nat) : repR g (endW g (mirO w)) d n = repR g (endW g w) d n := by
 rw [end_mir h]
 exact repR_eq (fun n => closes_refl (okW_true.1 h).1 (end_ok h) n) d n
theorem rep_bak {g : Int} {w : ByteArray} (h : okW g w = true) (d n : Nat) : repR g (endW g (bakO w)) d n = repR g (endW g w) d n := by
 rw [end_bak h]
 exact repR_eq (fun n => closes_bk (okW_true.1 h).1 (end_ok h) n) d n
/-- Short words. -/
def shO (g : Int) (w : ByteArray) : ByteArray := ⟨(shW g (lst w) 0).toArray⟩
theorem ok_sh {g : Int} {w : ByteArray} (h : okW g w = true) : okW g (shO g w) = true := by
 obtain ⟨hg, hz, hs⟩ := okW_true.1 h
 refine okW_true.2 ⟨hg, ?_, fun c hc => shW_sg (lst w) 0 c hc⟩
 have := shW_len hg (lst w) 0
 unfold shO
 rw [mk_size]
 rw [lst_len, show (0 : Int).natAbs = 0 from rfl] at this
 omega
theorem sh_size {g : Int} {w : ByteArray} (h : okW g w = true) : (shO g w).size ≤ w.size := by
 have := shW_len (okW_true.1 h).1 (lst w) 0
 unfold shO
 rw [mk_size]
 rw [lst_len, show (0 : Int).natAbs = 0 from rfl] at this
 omega
theorem sh_pts {g : Int} {w : ByteArray} (h : okW g w = true) : ptsOf g (shO g w) = ptsOf g w := by
 obtain ⟨hg, hz, hs⟩ := okW_true.1 h
 have := shW_pts hg (lst w) hs 0 st0 (okD_zero hg)
 unfold ptsOf
 show [0, 0] :: ptsW g (shW g (lst w) 0) st0 = _
 rw [this]
 have e : (⟨st0.x, st0.y, (st0.d + 0) % g⟩ : StW) = st0 := by
  refine StW.eq rfl rfl ?_
  show (0 + 0) % g = 0
  simp
 rw [e]
def ofB (l : List UInt8) : ByteArray := ⟨l.toArray⟩
theorem pieces_le (c : UInt8) : ∀ l : List UInt8, (pieces c l).length ≤ l.length + 1 ∧ ∀ p ∈ pieces c l, p.length ≤ l.length
 | [] => by simp [pieces]
 | x :: r => by
  obtain ⟨h1, h2⟩ := pieces_le c r
  by_cases h : x = c
  ·subst h
   rw [pieces_hit]
   refine ⟨by rw [List.length_cons, List.length_cons]; omega, fun p hp => ?_⟩
   rcases List.mem_cons.1 hp with rfl | hp
   ·simp
   ·have := h2 p hp
    rw [List.length_cons]; omega
  ·cases e : pieces c r with
   | nil => exact absurd e (pieces_ne _ _)
   | cons q qs =>
    rw [e] at h1 h2
    rw [pieces_miss h r q qs e]
    refine ⟨by rw [List.length_cons] at h1; rw [List.length_cons, List.length_cons]; omega, fun p hp => ?_⟩
    rcases List.mem_cons.1 hp with rfl | hp
    ·have := h2 q (by simp)
     rw [List.length_cons, List.length_cons]; omega
    ·have := h2 p (by simp [hp])
     rw [List.length_cons]; omega
theorem trn_nil : trn [] = 0 := rfl
/-- The short word, piece by piece. -/
theorem shW_pieces (g : Int) : ∀ (w : List UInt8), (∀ c ∈ w, sgnW c) → ∀ (t : Int) (p : List UInt8) (ps : List (List UInt8)), pieces 70 w = p :: ps → shW g w t = turnW g (t + trn p) ++ (ps.map fun q => [70] ++ turnW g (trn q)).flatten
 | [], _, t, p, ps, h => by
  have h' : [[]] = p :: ps := h
  obtain ⟨rfl, rfl⟩ := List.cons.inj h'
  rw [shW, trn_nil, Int.add_zero]; simp
 | c :: w, hw, t, p, ps, h => by
  have hw' : ∀ c ∈ w, sgnW c := fun c hc => hw c (by simp [hc])
  cases e : pieces 70 w with
  | nil => exact absurd e (pieces_ne _ _)
  | cons q qs =>
   rw [shW]
   by_cases h70 : c = 70
   ·subst h70
    rw [pieces_hit, e] at h
    obtain ⟨rfl, rfl⟩ := List.cons.inj h
    rw [if_pos rfl, shW_pieces g w hw' 0 q qs e, trn_nil, Int.add_zero, Int.zero_add]
    simp
   ·rw [pieces_miss h70 w q qs e] at h
    obtain ⟨rfl, rfl⟩ := List.cons.inj h
    rw [if_neg h70, trn_cons]
    rcases hw c (by simp) with h1 | rfl | rfl
    ·exact absurd h1 h70
    ·rw [if_pos rfl, if_pos rfl, shW_pieces g w hw' _ q qs e, show t + 1 + trn q = t + (trn q + 1) by omega]
    ·rw [if_neg (by decide), if_neg (by decide), if_pos rfl, shW_pieces g w hw' _ q qs e, show t - 1 + trn q = t + (trn q + -1) by omega]
theorem repL (c : UInt8) : ∀ n : Nat, Go.Lib.repeatL [c] n = List.replicate n c
 | 0 => rfl
 | n + 1 => by
  rw [Go.Lib.repeatL, repL c n]; rfl
theorem count_in (p : List UInt8) : strings_Count.f (ofB p) (⟨#[76]⟩ : ByteArray) = some ((p.count 76 : Nat) : Int) ∧ strings_Count.f (ofB p) (⟨#[82]⟩ : ByteArray) = some ((p.count 82 : Nat) : Int) := by
 unfold strings_Count.f
 rw [if_pos (show (⟨#[76]⟩ : ByteArray).size = 1 from rfl), if_pos (show (⟨#[82]⟩ : ByteArray).size = 1 from rfl)]
 exact ⟨rfl, rfl⟩
theorem bl_irr : ∀ l : List UInt8, Go.Op.bytesLess l l = false
 | [] => rfl
 | a :: l => by
  rw [Go.Op.bytesLess, bl_irr l]
  simp
theorem bl_tot : ∀ {a b : List UInt8}, Go.Op.bytesLess a b = false → Go.Op.bytesLess b a = false → a = b
 | [], [], _, _ => rfl
 | [], b :: y, h, _ => by rw [Go.Op.bytesLess] at h; cases h
 | a :: x, [], _, h => by rw [Go.Op.bytesLess] at h; cases h
 | a :: x, b :: y, h1, h2 => by
  rw [Go.Op.bytesLess, Bool.or_eq_false_iff] at h1 h2
  have e : a = b := by
   have q1 : ¬ a < b := by simpa using h1.1
   have q2 : ¬ b < a := by simpa using h2.1
   exact UInt8.le_antisymm (UInt8.not_lt.1 q2) (UInt8.not_lt.1 q1)
  subst e
  have e2 : x = y := bl_tot (by simpa using h1.2) (by simpa using h2.2)
  rw [e2]
theorem bl_trans : ∀ {a b c : List UInt8}, Go.Op.bytesLess a b = true → Go.Op.bytesLess b c = true → Go.Op.bytesLess a c = true
 | a, [], c, h, _ => by
  cases a <;> simp [Go.Op.bytesLess] at h
 | _, b :: y, [], _, h => by rw [Go.Op.bytesLess] at h; cases h
 | [], b :: y, c :: z, _, _ => by rw [Go.Op.bytesLess]
 | a :: x, b :: y, c :: z, h1, h2 => by
  rw [Go.Op.bytesLess, Bool.or_eq_true] at h1 h2 ⊢
  rcases h1 with h1 | h1
  ·rcases h2 with h2 | h2
   ·exact .inl (by simpa using UInt8.lt_trans (by simpa using h1) (by simpa using h2))
   ·have e : b = c := by simpa using (Bool.and_eq_true_iff.1 h2).1
    exact .inl (by rw [← e]; exact h1)
  ·have e : a = b := by simpa using (Bool.and_eq_true_iff.1 h1).1
   rcases h2 with h2 | h2
   ·exact .inl (by rw [e]; exact h2)
   ·have e2 : b = c := by simpa using (Bool.and_eq_true_iff.1 h2).1
    refine .inr (Bool.and_eq_true_iff.2 ⟨by rw [e, e2]; simp, ?_⟩)
    exact bl_trans (Bool.and_eq_true_iff.1 h1).2 (Bool.and_eq_true_iff.1 h2).2
def rotL (i : Nat) (l : List UInt8) : List UInt8 := l.drop i ++ l.take i
theorem rotL_len (i : Nat) (l : List UInt8) : (rotL i l).length = l.length := by
 unfold rotL
 rw [List.length_append, List.length_drop, List.length_take]
 omega
theorem rot_rotL {i j : Nat} {l : List UInt8} (h : i + j ≤ l.length) : rotL j (rotL i l) = rotL (i + j) l := by
 unfold rotL
 rw [List.drop_append_of_le_length (by rw [List.length_drop]; omega), List.take_append_of_le_length (by rw [List.length_drop]; omega), List.drop_drop, List.append_assoc]
 congr 1
 rw [List.take_add]
theorem rot_full (l : List UInt8) : rotL l.length l = l := by
 unfold rotL
 rw [List.drop_length, List.take_length, List.nil_append]
theorem rot_zero' (l : List UInt8) : rotL 0 l = l := by
 unfold rotL
 simp
/-- Turned on, and round again. -/
theorem rot_wrap {i j : Nat} {l : List UInt8} (hi : i ≤ l.length) (hj : j ≤ l.length) (h : l.length ≤ i + j) : rotL j (rotL i l) = rotL (i + j - l.length) l := by
 have e : j = (l.length - i) + (i + j - l.length) := by omega
 have h1 := rot_rotL (i := l.length - i) (j := i + j - l.length) (l := rotL i l) (by rw [rotL_len]; omega)
 rw [← e] at h1
 rw [← h1, rot_rotL (i := i) (j := l.length - i) (l := l) (by omega), show i + (l.length - i) = l.length by omega, rot_full]
theorem rot_mem {l : List UInt8} {j : Nat} (hj : j ≤ l.length) (x : List UInt8) : (∃ i, i ≤ l.length ∧ x = rotL i (rotL j l)) ↔ ∃ i, i ≤ l.length ∧ x = rotL i l := by
 constructor
 ·rintro ⟨i, hi, rfl⟩
  by_cases h : j + i ≤ l.length
  ·exact ⟨j + i, h, rot_rotL h⟩
  ·exact ⟨j + i - l.length, by omega, rot_wrap hj hi (by omega)⟩
 ·rintro ⟨i, hi, rfl⟩
  by_cases h : j ≤ i
  ·refine ⟨i - j, by omega, ?_⟩
   rw [rot_rotL (by omega), show j + (i - j) = i by omega]
  ·refine ⟨i + l.length - j, by omega, ?_⟩
   rw [rot_wrap hj (by omega) (by omega), show j + (i + l.length - j) - l.length = i by omega]
/-- The least of a word and its turns from i on (d are tried). -/
def lsR (l : List UInt8) : Nat → Nat → List UInt8 → List UInt8
 | 0, _, b => b
 | d + 1, i, b => lsR l d (i + 1) (if Go.Op.bytesLess (rotL i l) b = true then rotL i l else b)
theorem lsR_spec (l : List UInt8) : ∀ (d i : Nat) (b : List UInt8), (lsR l d i b = b ∨ ∃ k, i ≤ k ∧ k < i + d ∧ lsR l d i b = rotL k l) ∧ Go.Op.bytesLess b (lsR l d i b) = false ∧ ∀ k, i ≤ k → k < i + d → Go.Op.bytesLess (rotL k l) (lsR l d i b) = false
 | 0, i, b => ⟨.inl rfl, bl_irr b, fun k h1 h2 => absurd h2 (by omega)⟩
 | d + 1, i, b => by
  rw [lsR]
  by_cases h : Go.Op.bytesLess (rotL i l) b = true
  ·rw [if_pos h]
   obtain ⟨h1, h2, h3⟩ := lsR_spec l d (i + 1) (rotL i l)
   refine ⟨.inr ?_, ?_, fun k k1 k2 => ?_⟩
   ·rcases h1 with h1 | ⟨k, k1, k2, k3⟩
    ·exact ⟨i, Nat.le_refl _, by omega, h1⟩
    ·exact ⟨k, by omega, by omega, k3⟩
   ·cases hb : Go.Op.bytesLess b (lsR l d (i + 1) (rotL i l)) with
    | false => rfl
    | true => rw [bl_trans h hb] at h2; cases h2
   ·rcases Nat.eq_or_lt_of_le k1 with e | e
    ·subst e; exact h2
    ·exact h3 k (by omega) (by omega)
  ·rw [if_neg h]
   obtain ⟨h1, h2, h3⟩ := lsR_spec l d (i + 1) b
   refine ⟨?_, h2, fun k k1 k2 => ?_⟩
   ·rcases h1 with h1 | ⟨k, k1, k2, k3⟩
    ·exact .inl h1
    ·exact .inr ⟨k, by omega, by omega, k3⟩
   ·rcases Nat.eq_or_lt_of_le k1 with e | e
    ·subst e
     cases hb : Go.Op.bytesLess (rotL i l) (lsR l d (i + 1) b) with
     | false => rfl
     | true =>
      rcases h1 with h1 | ⟨k, k1, k2, k3⟩
      ·rw [h1] at hb; exact absurd hb h
      ·have hbk := h2
       cases hq : Go.Op.bytesLess b (rotL i l) with
       | true => rw [bl_trans hq hb] at h2; cases h2
       | false =>
        have e := bl_tot hq (by simpa using h)
        rw [← e, h2] at hb; cases hb
    ·exact h3 k (by omega) (by omega)
/-- The least word among a word's turns. -/
def leastL (l : List UInt8) : List UInt8 := lsR l l.length 0 l
theorem leastL_spec (l : List UInt8) : (∃ i, i ≤ l.length ∧ leastL l = rotL i l) ∧ ∀ i, i ≤ l.length → Go.Op.bytesLess (rotL i l) (leastL l) = false := by
 obtain ⟨h1, h2, h3⟩ := lsR_spec l l.length 0 l
 refine ⟨?_, fun i hi => ?_⟩
 ·rcases h1 with h1 | ⟨k, k1, k2, k3⟩
  ·exact ⟨0, by omega, by rw [rot_zero']; exact h1⟩
  ·exact ⟨k, by omega, k3⟩
 ·rcases Nat.eq_or_lt_of_le hi with e | e
  ·rw [e, rot_full]; exact h2
  ·exact h3 i (by omega) (by omega)
theorem leastL_le (l : List UInt8) : Go.Op.bytesLess l (leastL l) = false := by
 have := (leastL_spec l).2 0 (by omega)
 rw [rot_zero'] at this
 exact this
theorem leastL_len (l : List UInt8) : (leastL l).length = l.length := by
 obtain ⟨i, _, e⟩ := (leastL_spec l).1
 rw [e, rotL_len]
theorem leastL_rot {l : List UInt8} {j : Nat} (hj : j ≤ l.length) : leastL (rotL j l) = leastL l := by
 obtain ⟨a1, a2⟩ := leastL_spec (rotL j l)
 obtain ⟨b1, b2⟩ := leastL_spec l
 rw [rotL_len] at a1 a2
 apply bl_tot
 ·obtain ⟨i, hi, e⟩ := (rot_mem hj _).1 a1
  rw [e]; exact b2 i hi
 ·obtain ⟨i, hi, e⟩ := (rot_mem hj _).2 b1
  rw [e]; exact a2 i hi
/-- Twice the area that a row of points goes round. -/
def arP : List (List Int) → Int
 | [] => 0
 | [_] => 0
 | p :: q :: r => (rd p 0 * rd q 1 - rd q 0 * rd p 1) + arP (q :: r)
theorem arP_pts (g : Int) : ∀ (w : List UInt8) (s : StW), arP ([s.x, s.y] :: ptsW g w s) = areaW g w s
 | [], s => rfl
 | c :: w, s => by
  rw [areaW, ← arP_pts g w (stpW g c s), ptsW]
  by_cases h : c = 70
  ·rw [if_pos h, arP]
   rfl
  ·have e : (stpW g c s).x = s.x ∧ (stpW g c s).y = s.y := by
    unfold stpW
    rw [if_neg h]
    split <;> exact ⟨rfl, rfl⟩
   rw [if_neg h, e.1, e.2]
   unfold crsW
   omega
theorem crs_le {B x y u v : Int} (h1 : -B ≤ x) (h2 : x ≤ B) (h3 : -B ≤ y) (h4 : y ≤ B) (h5 : -B ≤ u) (h6 : u ≤ B) (h7 : -B ≤ v) (h8 : v ≤ B) : -(2 * (B * B)) ≤ x * v - u * y ∧ x * v - u * y ≤ 2 * (B * B) := by
 have hB : 0 ≤ B := by omega
 have k : ∀ a b : Int, -B ≤ a → a ≤ B → -B ≤ b → b ≤ B → -(B * B) ≤ a * b ∧ a * b ≤ B * B := by
  intro a b a1 a2 b1 b2
  have e : (a * b).natAbs ≤ B.natAbs * B.natAbs := by
   rw [Int.natAbs_mul]
   exact Nat.mul_le_mul (by omega) (by omega)
  have e2 : ((B.natAbs * B.natAbs : Nat) : Int) = B * B := by
   rw [Int.natCast_mul, Int.natAbs_of_nonneg hB]
  omega
 have m1 := k x v h1 h2 h7 h8
 have m2 := k u y h5 h6 h3 h4
 omega
theorem repR_true {g : Int} {a : StW} {r : Int} : ∀ (d n : Nat), repR g a d n = (r, true) → ∃ m : Nat, r = (m : Int) ∧ n ≤ m ∧ m < n + d ∧ powS g a m = st0 ∧ ∀ j, n ≤ j → j < m → powS g a j ≠ st0
 | 0, n, h => by
  rw [repR] at h
  exact absurd (show false = true from congrArg Prod.snd h) (by decide)
 | d + 1, n, h => by
  rw [repR] at h
  by_cases hc : isSt0 (powS g a n) = true
  ·rw [if_pos hc] at h
   have e : (n : Int) = r := congrArg Prod.fst h
   exact ⟨n, e.symm, Nat.le_refl _, by omega, isSt0_true.1 hc, fun j h1 h2 => absurd h2 (by omega)⟩
  ·rw [if_neg hc] at h
   obtain ⟨m, h1, h2, h3, h4, h5⟩ := repR_true d (n + 1) h
   refine ⟨m, h1, by omega, by omega, h4, fun j h6 h7 => ?_⟩
   rcases Nat.eq_or_lt_of_le h6 with e | e
   ·subst e; exact fun hh => hc (isSt0_true.2 hh)
   ·exact h5 j (by omega) h7
theorem repR_no {g : Int} {a : StW} : ∀ (d n : Nat), (repR g a d n).2 = false → ∀ j, n ≤ j → j < n + d → powS g a j ≠ st0
 | 0, n, _, j, h1, h2 => absurd h2 (by omega)
 | d + 1, n, h, j, h1, h2 => by
  rw [repR] at h
  by_cases hc : isSt0 (powS g a n) = true
  ·rw [if_pos hc] at h
   cases h
  ·rw [if_neg hc] at h
   rcases Nat.eq_or_lt_of_le h1 with e | e
   ·subst e; exact fun hh => hc (isSt0_true.2 hh)
   ·exact repR_no d (n + 1) h j (by omega) (by omega)
theorem pow_one {g : Int} (hg : gridG g) {a : StW} (h : okDir g a.d) : powS g a 1 = a := by
 show mulS g st0 a = a
 exact s0_mul hg h
/-- How often a word is told to close it. -/
def repW2 (g : Int) (w : ByteArray) : Int × Bool := if okW g w = true then repR g (endW g w) g.toNat 1 else (0, false)
/-- A word from a sign on, and round. -/
def rotO (w : ByteArray) (i : Nat) : ByteArray := w.extract i w.size ++ w.extract 0 i
theorem lst_rotO (w : ByteArray) (i : Nat) : lst (rotO w i) = rotL i (lst w) := by
 unfold rotO rotL lst
 have e1 := Go.Lib.extract_to_end w i
 have e2 := Go.Lib.extract_from_zero w i
 simp only [ByteArray.data_append, Array.toList_append]
 rw [e1, e2]
theorem rotO_size (w : ByteArray) (i : Nat) : (rotO w i).size = w.size := by
 rw [← lst_len, lst_rotO, rotL_len, lst_len]
theorem ok_rot {g : Int} {w : ByteArray} (h : okW g w = true) (i : Nat) : okW g (rotO w i) = true := by
 obtain ⟨hg, hz, hs⟩ := okW_true.1 h
 refine okW_true.2 ⟨hg, by rw [rotO_size]; exact hz, fun c hc => ?_⟩
 rw [lst_rotO] at hc
 unfold rotL at hc
 rcases List.mem_append.1 hc with hc | hc
 ·exact hs c (List.mem_of_mem_drop hc)
 ·exact hs c (List.mem_of_mem_take hc)
theorem end_rot {g : Int} {w : ByteArray} (h : okW g w = true) (hc : endW g w = st0) (i : Nat) : endW g (rotO w i) = st0 := by
 obtain ⟨hg, hz, hs⟩ := okW_true.1 h
 unfold endW at *
 rw [lst_rotO]
 unfold rotL
 refine shift_closed hg ?_
 rw [List.take_append_drop]
 exact hc
def areaO (g : Int) (w : ByteArray) : Int := areaW g (lst w) st0
theorem area_rot {g : Int} {w : ByteArray} (h : okW g w = true) (hc : endW g w = st0) (i : Nat) : areaO g (rotO w i) = areaO g w := by
 obtain ⟨hg, hz, hs⟩ := okW_true.1 h
 unfold areaO
 unfold endW at hc
 rw [lst_rotO]
 unfold rotL
 have hc' : runW g ((lst w).take i ++ (lst w).drop i) st0 = st0 := by rw [List.take_append_drop]; exact hc
 have := shift_area hg hc'
 rw [List.take_append_drop] at this
 exact this
theorem area_mirO {g : Int} {w : ByteArray} (h : okW g w = true) : areaO g (mirO w) = -areaO g w := by
 obtain ⟨hg, hz, hs⟩ := okW_true.1 h
 have := area_mir hg (lst w) hs (s := st0) (okD_zero hg)
 rw [refl_s0 hg] at this
 exact this
theorem area_bakO {g : Int} {w : ByteArray} (h : okW g w = true) : areaO g (bakO w) = -areaO g w := by
 obtain ⟨hg, hz, hs⟩ := okW_true.1 h
 exact area_back hg (lst w) hs
theorem end_mir0 {g : Int} {w : ByteArray} (h : okW g w = true) (hc : endW g w = st0) : endW g (mirO w) = st0 := by
 rw [end_mir h, hc, refl_s0 (okW_true.1 h).1]
theorem end_bak0 {g : Int} {w : ByteArray} (h : okW g w = true) (hc : endW g w = st0) : endW g (bakO w) = st0 := by
 rw [end_bak h, hc, bk_s0 (okW_true.1 h).1]
theorem arP_of (g : Int) (w : ByteArray) : arP (ptsOf g w) = areaO g w := arP_pts g (lst w) st0
theorem rotO_back {w : ByteArray} {i : Nat} (hi : i < w.size) : rotO (rotO w i) ((w.size - i) % w.size) = w := by
 apply lst_inj
 rw [lst_rotO, lst_rotO]
 by_cases h0 : i = 0
 ·subst h0
  rw [Nat.sub_zero, Nat.mod_self, rot_zero', rot_zero']
 ·rw [Nat.mod_eq_of_lt (by omega), rot_rotL (by rw [lst_len]; omega), show i + (w.size - i) = (lst w).length by rw [lst_len]; omega, rot_full]
def leastO (w : ByteArray) : ByteArray := ⟨(leastL (lst w)).toArray⟩
theorem leastO_rot {w : ByteArray} {i : Nat} (hi : i ≤ w.size) : leastO (rotO w i) = leastO w := by
 unfold leastO
 rw [lst_rotO, leastL_rot (by rw [lst_len]; exact hi)]
/-- A number from lo to hi. -/
def rg (n lo hi : Int) : Bool := decide (lo ≤ n ∧ n ≤ hi)
theorem rg_true {n lo hi : Int} : rg n lo hi = true ↔ lo ≤ n ∧ n ≤ hi := by simp [rg]
theorem l1In_rg (n lo hi : Int) : spec_l1In.f n lo hi = some (rg n lo hi) := by
 unfold spec_l1In.f rg
 by_cases h : n ≥ lo
 ·rw [if_pos h]; congr 1; simp only [decide_eq_decide]; omega
 ·rw [if_neg h]; congr 1; exact (decide_eq_false (by omega)).symm
theorem within_rg (n lo hi : Int) : impl_within.f n lo hi = some (rg n lo hi) := by
 unfold impl_within.f rg
 by_cases h : n ≥ lo
 ·rw [if_pos h]; congr 1; simp only [decide_eq_decide]; omega
 ·rw [if_neg h]; congr 1; exact (decide_eq_false (by omega)).symm
/-- A place to shift from. -/
def shB (w : ByteArray) (n : Int) : Bool := decide (0 ≤ n ∧ n < (w.size : Int))
theorem shiftI {g : Int} {w : ByteArray} {n : Int} : impl_ShiftWord.f g w n = some (if (okW g w && shB w n) = true then (rotO w n.toNat, true) else (⟨#[]⟩, false)) := by
 unfold impl_ShiftWord.f
 rw [isWord_told, Option.bind_some]
 by_cases h : okW g w = true
 ·have hz := (okW_true.1 h).2.1
  rw [if_pos h, within_rg, Option.bind_some, h, Bool.true_and, wrap_id (by omega) (by omega)]
  by_cases hn : 0 ≤ n ∧ n < (w.size : Int)
  ·have hsz : (w.extract n.toNat w.size).size + (w.extract 0 n.toNat).size ≤ 9223372036854775807 := by
    rw [ByteArray.size_extract, ByteArray.size_extract]; omega
   rw [if_pos (rg_true.2 (by omega)), if_pos hn.1, if_pos (by omega), if_pos hsz]
   unfold shB
   rw [decide_eq_true hn, if_pos rfl]
   rfl
  ·rw [if_neg (fun hh => hn (by have := rg_true.1 hh; omega))]
   unfold shB
   rw [decide_eq_false hn, if_neg (by decide)]
 ·rw [if_neg h, Bool.eq_false_iff.2 h, Bool.false_and, if_neg (by decide)]
theorem shiftS {g : Int} {w : ByteArray} {n : Int} {k : Nat} (hk : 200 ≤ k) : spec_ShiftWord.f k g w n = some (if (okW g w && shB w n) = true then (rotO w n.toNat, true) else (⟨#[]⟩, false)) := by
 unfold spec_ShiftWord.f
 rw [paAsked_told hk, Option.bind_some]
 by_cases h : okW g w = true
 ·have hz := (okW_true.1 h).2.1
  rw [if_pos h, l1In_rg, Option.bind_some, h, Bool.true_and, wrap_id (by omega) (by omega)]
  by_cases hn : 0 ≤ n ∧ n < (w.size : Int)
  ·have hsz : (w.extract n.toNat w.size).size + (w.extract 0 n.toNat).size ≤ 9223372036854775807 := by
    rw [ByteArray.size_extract, ByteArray.size_extract]; omega
   rw [if_pos (rg_true.2 (by omega)), if_pos hn.1, if_pos (by omega), if_pos hsz]
   unfold shB
   rw [decide_eq_true hn, if_pos rfl]
   rfl
  ·rw [if_neg (fun hh => hn (by have := rg_true.1 hh; omega))]
   unfold shB
   rw [decide_eq_false hn, if_neg (by decide)]
 ·rw [if_neg h, Bool.eq_false_iff.2 h, Bool.false_and, if_neg (by decide)]
/-- A point not far from the first one. -/
def nearP (B : Int) (p : List Int) : Prop := p.length = 2 ∧ -B ≤ rd p 0 ∧ rd p 0 ≤ B ∧ -B ≤ rd p 1 ∧ rd p 1 ≤ B
theorem pts_near (g : Int) : ∀ (w : List UInt8) (s : StW) (B : Int), nearS B s → ∀ p ∈ ptsW g w s, nearP (B + w.length) p
 | [], s, B, _, p, hp => by rw [ptsW] at hp; cases hp
 | c :: w, s, B, hs, p, hp => by
  have h1 := near_stp (g := g) c hs
  have hl : ((c :: w).length : Int) = (w.length : Int) + 1 := by simp
  have ih := pts_near g w (stpW g c s) (B + 1) h1
  rw [ptsW] at hp
  by_cases hc : c = 70
  ·rw [if_pos hc] at hp
   rcases List.mem_cons.1 hp with rfl | hp
   ·unfold nearS at h1
    unfold nearP
    show _ ∧ -(B + _) ≤ (stpW g c s).x ∧ (stpW g c s).x ≤ B + _ ∧ -(B + _) ≤ (stpW g c s).y ∧ (stpW g c s).y ≤ B + _
    rw [hl]
    exact ⟨rfl, by omega, by omega, by omega, by omega⟩
   ·have := ih p hp
    unfold nearP at this ⊢
    rw [hl]
    omega
  ·rw [if_neg hc] at hp
   have := ih p hp
   unfold nearP at this ⊢
   rw [hl]
   omega
theorem ptsOf_near {g : Int} {w : ByteArray} (hw : okW g w = true) : ∀ p ∈ ptsOf g w, nearP 120 p := by
 have hz := (okW_true.1 hw).2.1
 intro p hp
 unfold ptsOf at hp
 rcases List.mem_cons.1 hp with rfl | hp
 ·refine ⟨rfl, ?_, ?_, ?_, ?_⟩ <;> decide
 ·have := pts_near g (lst w) st0 0 (near_zero (by omega)) p hp
  rw [lst_len] at this
  unfold nearP at this ⊢
  omega
theorem prod_bd {a b : Int} (h1 : -120 ≤ a) (h2 : a ≤ 120) (h3 : -120 ≤ b) (h4 : b ≤ 120) : -14400 ≤ a * b ∧ a * b ≤ 14400 := by
 have h := Int.natAbs_mul a b
 have h5 : a.natAbs * b.natAbs ≤ 120 * 120 := Nat.mul_le_mul (by omega) (by omega)
 omega
theorem area_gen {F : Nat → List (List Int) → Int → Int → Option (Int × Bool)}
  (hF : ∀ k x6 x8 x9, F (k + 1) x6 x8 x9 = if x9 < (x6.length : Int) then (if 0 ≤ (wrap64 (x9 - 1)) then (if (wrap64 (x9 - 1)) < (x6.length : Int) then (if 0 ≤ x9 then (if 0 < ((rd_L2 x6 (wrap64 (x9 - 1))).length : Int) then (if 1 < ((rd_L2 x6 x9).length : Int) then (if 0 < ((rd_L2 x6 x9).length : Int) then (if 1 < ((rd_L2 x6 (wrap64 (x9 - 1))).length : Int) then (F k x6 (wrap64 (x8 + (wrap64 ((wrap64 ((rd (rd_L2 x6 (wrap64 (x9 - 1))) 0) * (rd (rd_L2 x6 x9) 1))) - (wrap64 ((rd (rd_L2 x6 x9) 0) * (rd (rd_L2 x6 (wrap64 (x9 - 1))) 1))))))) (wrap64 (x9 + 1))) else (none)) else (none)) else (none)) else (none)) else (none)) else (none)) else (none)) else (some (x8, true)))
  {P : List (List Int)} (hP : ∀ p ∈ P, nearP 120 p) (hl : P.length ≤ 1000) : ∀ (d k i : Nat) (s : Int), (i + 1) + d = P.length → d < k → -30000 * (i : Int) ≤ s → s ≤ 30000 * (i : Int) → F k P s ((i + 1 : Nat) : Int) = some (s + arP (P.drop i), true) := by
 intro d
 induction d with
 | zero =>
  intro k i s h hk h1 h2
  obtain ⟨k, rfl⟩ : ∃ m, k = m + 1 := ⟨k - 1, by omega⟩
  rw [hF, if_neg (by omega)]
  have e : P.drop i = [P[i]'(by omega)] := by
   rw [List.drop_eq_getElem_cons (by omega), List.drop_eq_nil_of_le (by omega)]
  rw [e, arP, Int.add_zero]
 | succ d ih =>
  intro k i s h hk h1 h2
  obtain ⟨k, rfl⟩ : ∃ m, k = m + 1 := ⟨k - 1, by omega⟩
  have hi : i < P.length := by omega
  have hi1 : i + 1 < P.length := by omega
  have p0 := hP _ (List.getElem_mem hi)
  have p1 := hP _ (List.getElem_mem hi1)
  have e : P.drop i = P[i] :: P[i + 1] :: P.drop (i + 2) := by
   rw [List.drop_eq_getElem_cons hi, List.drop_eq_getElem_cons hi1]
  have e2 : P.drop (i + 1) = P[i + 1] :: P.drop (i + 2) := List.drop_eq_getElem_cons hi1
  have er : ((i + 1 : Nat) : Int) - 1 = (i : Int) := by omega
  obtain ⟨l0, a1, a2, a3, a4⟩ := p0
  obtain ⟨l1, b1, b2, b3, b4⟩ := p1
  have m1 := prod_bd a1 a2 b3 b4
  have m2 := prod_bd b1 b2 a3 a4
  rw [hF, if_pos (by omega), wrap_id (x := ((i + 1 : Nat) : Int) - 1) (by omega) (by omega), er, if_pos (by omega), if_pos (by omega), if_pos (by omega), rd5_nat P hi, rd5_nat P hi1, if_pos (by omega), if_pos (by omega), if_pos (by omega), if_pos (by omega),
   wrap_id (x := rd P[i] 0 * rd P[i + 1] 1) (by omega) (by omega), wrap_id (x := rd P[i + 1] 0 * rd P[i] 1) (by omega) (by omega), wrap_id (x := rd P[i] 0 * rd P[i + 1] 1 - rd P[i + 1] 0 * rd P[i] 1) (by omega) (by omega), wrap_id (by omega) (by omega), wrap_id (x := ((i + 1 : Nat) : Int) + 1) (by omega) (by omega), show ((i + 1 : Nat) : Int) + 1 = ((i + 1 + 1 : Nat) : Int) by omega]
  rw [ih k (i + 1) _ (by omega) (by omega) (by omega) (by omega), e, arP, e2]
  congr 2
  omega
theorem areaI {g : Int} {w : ByteArray} {k : Nat} (hk : 500 ≤ k) : impl_DoubleArea.f k g w = some (if (okW g w && isSt0 (endW g w)) = true then (areaO g w, true) else (0, false)) := by
 obtain ⟨k, rfl⟩ : ∃ m, k = m + 1 := ⟨k - 1, by omega⟩
 unfold impl_DoubleArea.f
 rw [isWord_told, Option.bind_some]
 by_cases h : okW g w = true
 ·have hl := ptsOf_le (g := g) (w := w)
  have hz := (okW_true.1 h).2.1
  rw [if_pos h]
  unfold impl_isClosed.f
  rw [walk0_told h (by omega), h, Bool.true_and]
  simp only [Option.bind_some]
  show impl_DoubleArea.j0 (k + 1) g w (!isSt0 (endW g w)) = _
  rw [impl_DoubleArea.j0]
  by_cases hc : isSt0 (endW g w) = true
  ·rw [hc, if_neg (by decide), walk0_told h (by omega), Option.bind_some, if_pos rfl, ← arP_of]
   have := area_gen (F := impl_DoubleArea.l0) (fun _ _ _ _ => rfl) (ptsOf_near h) (by omega) ((ptsOf g w).length - 1) k 0 0 (by omega) (by omega) (by omega) (by omega)
   rw [List.drop_zero, Int.zero_add] at this
   exact this
  ·rw [if_neg hc, Bool.eq_false_iff.2 hc, if_pos (by decide)]
 ·rw [if_neg h, Bool.eq_false_iff.2 h, Bool.false_and, if_neg (by decide), impl_DoubleArea.j0, if_pos rfl]
theorem areaS {g : Int} {w : ByteArray} {k : Nat} (hk : 500 ≤ k) : spec_DoubleArea.f k g w = some (if (okW g w && isSt0 (endW g w)) = true then (areaO g w, true) else (0, false)) := by
 obtain ⟨k, rfl⟩ : ∃ m, k = m + 1 := ⟨k - 1, by omega⟩
 unfold spec_DoubleArea.f
 rw [paAsked_told (by omega), Option.bind_some]
 by_cases h : okW g w = true
 ·have hl := ptsOf_le (g := g) (w := w)
  obtain ⟨hg, hz, hs⟩ := okW_true.1 h
  rw [if_pos h, paClosed_told hg (by omega) hs (by omega), h, Bool.true_and, Option.bind_some, spec_DoubleArea.j0]
  by_cases hc : isSt0 (endW g w) = true
  ·rw [hc, if_neg (by decide), path0_told h (by omega), Option.bind_some, if_pos rfl, ← arP_of]
   have := area_gen (F := spec_DoubleArea.l0) (fun _ _ _ _ => rfl) (ptsOf_near h) (by omega) ((ptsOf g w).length - 1) k 0 0 (by omega) (by omega) (by omega) (by omega)
   rw [List.drop_zero, Int.zero_add] at this
   exact this
  ·rw [if_neg hc, Bool.eq_false_iff.2 hc, if_pos (by decide)]
 ·rw [if_neg h, Bool.eq_false_iff.2 h, Bool.false_and, if_neg (by decide), spec_DoubleArea.j0, if_pos rfl]
theorem arP_bd : ∀ P : List (List Int), (∀ p ∈ P, nearP 120 p) → -30000 * (P.length : Int) ≤ arP P ∧ arP P ≤ 30000 * (P.length : Int)
 | [], _ => by rw [arP]; simp
 | [_], _ => by rw [arP]; simp
 | p :: q :: r, h => by
  have ih := arP_bd (q :: r) (fun x hx => h x (List.mem_cons_of_mem _ hx))
  obtain ⟨_, a1, a2, a3, a4⟩ := h p (by simp)
  obtain ⟨_, b1, b2, b3, b4⟩ := h q (by simp)
  have m1 := prod_bd a1 a2 b3 b4
  have m2 := prod_bd b1 b2 a3 a4
  have e1 : ((p :: q :: r).length : Int) = ((q :: r).length : Int) + 1 := by simp
  rw [arP, e1]
  omega
theorem areaO_bd {g : Int} {w : ByteArray} (hw : okW g w = true) : -4000000 ≤ areaO g w ∧ areaO g w ≤ 4000000 := by
 have hz := (okW_true.1 hw).2.1
 have hl := ptsOf_le (g := g) (w := w)
 have := arP_bd _ (ptsOf_near hw)
 rw [arP_of] at this
 omega
/-- A spiral's signs. -/
def spW (t : Nat) : Nat → List UInt8
 | 0 => []
 | k + 1 => spW t k ++ (List.replicate (k + 1) 70 ++ List.replicate t 76)
theorem trn_app (a b : List UInt8) : trn (a ++ b) = trn a + trn b := by
 unfold trn
 rw [List.count_append, List.count_append]
 omega
theorem trn_F : ∀ n : Nat, trn (List.replicate n 70) = 0
 | 0 => rfl
 | n + 1 => by rw [List.replicate_succ, trn_cons, trn_F n]; decide
theorem trn_L : ∀ n : Nat, trn (List.replicate n 76) = n
 | 0 => rfl
 | n + 1 => by rw [List.replicate_succ, trn_cons, trn_L n, if_pos rfl]; omega
theorem spW_trn (t : Nat) : ∀ k : Nat, trn (spW t k) = ((k * t : Nat) : Int)
 | 0 => by rw [spW, Nat.zero_mul]; rfl
 | k + 1 => by
  rw [spW, trn_app, trn_app, trn_F, trn_L, spW_trn t k, Nat.succ_mul]
  omega
theorem spW_len (t : Nat) : ∀ k : Nat, 2 * (spW t k).length = k * (k + 1) + 2 * (k * t)
 | 0 => by rw [spW, Nat.zero_mul, Nat.zero_mul]; rfl
 | k + 1 => by
  have ih := spW_len t k
  have e1 : (k + 1) * (k + 1 + 1) = k * (k + 1) + 2 * (k + 1) := by
   rw [show (k + 1) * (k + 1 + 1) = (k + 1) * (k + 2) from rfl]
   simp only [Nat.add_mul, Nat.mul_add]
   omega
  rw [spW, List.length_append, List.length_append, List.length_replicate, List.length_replicate, e1, Nat.succ_mul k t]
  omega
theorem spW_sg (t : Nat) : ∀ k : Nat, ∀ c ∈ spW t k, sgnW c
 | 0, c, h => by cases h
 | k + 1, c, h => by
  rcases List.mem_append.1 h with h | h
  ·exact spW_sg t k c h
  ·rcases List.mem_append.1 h with h | h
   ·exact .inl (List.eq_of_mem_replicate h)
   ·exact .inr (.inl (List.eq_of_mem_replicate h))
/-- When a word comes back at all: at once if it does not turn, else always. -/
theorem rep_spiral {g : Int} (hg : gridG g) {a : StW} (h : okDir g a.d) {d : Nat} (hd : (d : Int) = g) : (repR g a d 1).2 = (decide (a.d ≠ 0) || decide ((repR g a d 1).1 = 1)) := by
 have hgd : g = 4 ∨ g = 6 := hg
 have hdg : d = g.toNat := by omega
 by_cases h0 : a.d = 0
 ·rw [decide_eq_false (fun hh => hh h0), Bool.false_or]
  cases e : repR g a d 1 with
  | mk r b =>
   cases b with
   | true =>
    obtain ⟨m, e1, m1, m2, m3, m4⟩ := repR_true _ _ e
    have ha := line_closes hg h0 m1 m3
    have hm : m = 1 := by
     rcases Nat.eq_or_lt_of_le m1 with h1 | h1
     ·exact h1.symm
     ·exact absurd (by rw [pow_one hg h, ha]) (m4 1 (Nat.le_refl _) h1)
    dsimp only
    rw [e1, hm]; rfl
   | false =>
    dsimp only
    have hr : r = 0 := by
     have key : ∀ (d n : Nat), (repR g a d n).2 = false → (repR g a d n).1 = 0 := by
      intro d
      induction d with
      | zero => intro n _; rfl
      | succ d ih =>
       intro n hn
       rw [repR] at hn ⊢
       by_cases hc : isSt0 (powS g a n) = true
       ·rw [if_pos hc] at hn; cases hn
       ·rw [if_neg hc] at hn ⊢
        exact ih (n + 1) hn
     have := key d 1 (by rw [e])
     rw [e] at this; exact this
    rw [hr]; rfl
 ·rw [decide_eq_true h0, Bool.true_or]
  cases e : (repR g a d 1).2 with
  | true => rfl
  | false =>
   exfalso
   have := repR_no d 1 e d (by omega) (by omega)
   rw [hdg] at this
   exact this (pow_full hg h h0)
theorem lst_rotZ (w : ByteArray) (i : Nat) : (rotZ w (i : Int)).data.toList = rotL i (lst w) := lst_rotO w i
theorem lst_lsZ (w : ByteArray) : ∀ (d i : Nat) (b : ByteArray), lst (lsZ w d (i : Int) b) = lsR (lst w) d i (lst b)
 | 0, i, b => rfl
 | d + 1, i, b => by
  rw [lsZ, lsR, show (i : Int) + 1 = ((i + 1 : Nat) : Int) by omega, lst_lsZ w d (i + 1), lst_rotZ]
  congr 1
  show lst (if Go.Op.bytesLess (rotL i (lst w)) (lst b) = true then rotZ w i else b) = _
  by_cases h : Go.Op.bytesLess (rotL i (lst w)) (lst b) = true
  ·rw [if_pos h, if_pos h]; exact lst_rotZ w i
  ·rw [if_neg h, if_neg h]
theorem lsZ_least (w : ByteArray) : lsZ w w.size 0 w = leastO w := by
 apply lst_inj
 have := lst_lsZ w w.size 0 w
 rw [show ((0 : Nat) : Int) = 0 from rfl] at this
 rw [this]
 show lsR (lst w) w.size 0 (lst w) = lsR (lst w) (lst w).length 0 (lst w)
 rw [lst_len]
theorem leastI {g : Int} {w : ByteArray} : impl_LeastShift.f g w = some (if okW g w = true then (leastO w, true) else (⟨#[]⟩, false)) := by
 unfold impl_LeastShift.f
 rw [isWord_told, Option.bind_some]
 by_cases h : okW g w = true
 ·have hz := (okW_true.1 h).2.1
  rw [if_pos h, if_pos h, if_pos (by omega), lsZ_least]
 ·rw [if_neg h, if_neg h]
theorem leastS {g : Int} {w : ByteArray} {k : Nat} (hk : 200 ≤ k) : spec_LeastShift.f k g w = some (if okW g w = true then (leastO w, true) else (⟨#[]⟩, false)) := by
 unfold spec_LeastShift.f
 rw [paAsked_told hk, Option.bind_some]
 by_cases h : okW g w = true
 ·obtain ⟨hg, hz, hs⟩ := okW_true.1 h
  have ha : (w.data.toList.all fun c => decide (c.toNat < 128)) = true := by
   rw [List.all_eq_true]
   intro c hc
   rcases hs c hc with rfl | rfl | rfl <;> decide
  rw [if_pos h, if_pos h, if_pos ⟨ha, by omega⟩, lsZ_least]
 ·rw [if_neg h, if_neg h]
/-! spirals -/
theorem repW_one' (c : UInt8) : ∀ n : Nat, repW [c] n = List.replicate n c
 | 0 => rfl
 | n + 1 => by
  rw [repW, repW_one' c n, List.replicate_succ']
theorem repL_one (c : UInt8) : ∀ n : Nat, Go.Lib.repeatL [c] n = List.replicate n c := repL c
theorem lst_app2 (a b : ByteArray) : lst (a ++ b) = lst a ++ lst b := by unfold lst; simp
def spO (c t : Nat) : ByteArray := ⟨(spW t c).toArray⟩
theorem spO_lst (c t : Nat) : lst (spO c t) = spW t c := rfl
theorem spO_size (c t : Nat) : (spO c t).size = (spW t c).length := by rw [← lst_len, spO_lst]
theorem sp_step (c t : Nat) {a b : ByteArray} (ha : lst a = List.replicate (c + 1) 70) (hb : lst b = List.replicate t 76) : spO c t ++ (a ++ b) = spO (c + 1) t := by
 apply lst_inj
 rw [lst_app2, lst_app2, ha, hb, spO_lst, spO_lst, spW]
theorem spW_le (t : Nat) (c : Nat) (hc : c ≤ 10) (ht : t ≤ 5) : (spW t c).length ≤ 200 := by
 have h := spW_len t c
 have h1 : c * (c + 1) ≤ 10 * 11 := Nat.mul_le_mul hc (by omega)
 have h2 : c * t ≤ 10 * 5 := Nat.mul_le_mul hc ht
 omega
theorem repeat_told (c : UInt8) (n : Nat) (hn : n ≤ 1000) : ∃ r, strings_Repeat.f (⟨#[c]⟩ : ByteArray) (n : Int) = some r ∧ lst r = List.replicate n c := by
 refine ⟨⟨(Go.Lib.repeatL [c] n).toArray⟩, ?_, ?_⟩
 ·unfold strings_Repeat.f
  have hz : (⟨#[c]⟩ : ByteArray).size = 1 := rfl
  rw [if_pos ⟨by omega, by omega, by omega⟩]
  rfl
 ·rw [lst_mk]; exact repL c n
theorem spiralI_l0 {C t : Nat} (hC : C ≤ 10) (ht : t ≤ 5) : ∀ (d k c : Nat), c + d = C → d < k → impl_SpiralWord.l0 k (C : Int) (t : Int) (spO c t) ((c + 1 : Nat) : Int) = some (if (spW t C).length ≤ 120 then (spO C t, true) else (⟨#[]⟩, false)) := by
 intro d
 induction d with
 | zero =>
  intro k c h hk
  obtain ⟨k, rfl⟩ : ∃ m, k = m + 1 := ⟨k - 1, by omega⟩
  obtain rfl : c = C := by omega
  rw [impl_SpiralWord.l0, if_neg (by omega), spO_size]
  by_cases hh : (spW t c).length ≤ 120
  ·rw [if_neg (by omega), if_pos hh]
  ·rw [if_pos (by omega), if_neg hh]
 | succ d ih =>
  intro k c h hk
  obtain ⟨k, rfl⟩ : ∃ m, k = m + 1 := ⟨k - 1, by omega⟩
  obtain ⟨a, a1, a2⟩ := repeat_told 70 (c + 1) (by omega)
  obtain ⟨b, b1, b2⟩ := repeat_told 76 t (by omega)
  have za : a.size = c + 1 := by rw [← lst_len, a2, List.length_replicate]
  have zb : b.size = t := by rw [← lst_len, b2, List.length_replicate]
  have zs := spW_le t c (by omega) ht
  have zab : (a ++ b).size = a.size + b.size := ByteArray.size_append
  rw [impl_SpiralWord.l0, if_pos (by omega), a1, Option.bind_some, b1, Option.bind_some, if_pos (by omega), if_pos (by rw [spO_size, zab]; omega), sp_step c t a2 b2, wrap_id (by omega) (by omega), show ((c + 1 : Nat) : Int) + 1 = ((c + 1 + 1 : Nat) : Int) by omega]
  exact ih k (c + 1) (by omega) (by omega)
theorem spiralS_l0 {C t : Nat} (hC : C ≤ 10) (ht : t ≤ 5) : ∀ (d k c : Nat), c + d = C → d + 100 < k → spec_paSpiral.l0 k (C : Int) (t : Int) (spO c t) ((c + 1 : Nat) : Int) = some (spO C t, decide ((spW t C).length ≤ 120)) := by
 intro d
 induction d with
 | zero =>
  intro k c h hk
  obtain ⟨k, rfl⟩ : ∃ m, k = m + 1 := ⟨k - 1, by omega⟩
  obtain rfl : c = C := by omega
  rw [spec_paSpiral.l0, if_neg (by omega), spO_size]
  congr 2
  rw [decide_eq_decide]
  omega
 | succ d ih =>
  intro k c h hk
  obtain ⟨k, rfl⟩ : ∃ m, k = m + 1 := ⟨k - 1, by omega⟩
  obtain ⟨a, a1, a2⟩ := paTimes_told (w := (⟨#[70]⟩ : ByteArray)) (by decide) (n := c + 1) (k := k) (by omega) (by omega)
  obtain ⟨b, b1, b2⟩ := paTimes_told (w := (⟨#[76]⟩ : ByteArray)) (by decide) (n := t) (k := k) (by omega) (by omega)
  have a2 : lst a = List.replicate (c + 1) 70 := by rw [a2]; exact repW_one' 70 _
  have b2 : lst b = List.replicate t 76 := by rw [b2]; exact repW_one' 76 _
  have za : a.size = c + 1 := by rw [← lst_len, a2, List.length_replicate]
  have zb : b.size = t := by rw [← lst_len, b2, List.length_replicate]
  have zs := spW_le t c (by omega) ht
  have zab : (a ++ b).size = a.size + b.size := ByteArray.size_append
  rw [spec_paSpiral.l0, if_pos (by omega), a1, Option.bind_some, b1, Option.bind_some, if_pos (by omega), if_pos (by rw [spO_size, zab]; omega), sp_step c t a2 b2, wrap_id (by omega) (by omega), show ((c + 1 : Nat) : Int) + 1 = ((c + 1 + 1 : Nat) : Int) by omega]
  exact ih k (c + 1) (by omega) (by omega)
/-- Counts and turns of a spiral; whether its word is a word. -/
def spB (g c t : Int) : Bool := decide (g = 4 ∨ g = 6) && (rg c 1 10 && rg t 0 (g - 1))
def spK (g c t : Int) : Bool := spB g c t && decide ((spW t.toNat c.toNat).length ≤ 120)
theorem spB_true {g c t : Int} : spB g c t = true ↔ gridG g ∧ (1 ≤ c ∧ c ≤ 10) ∧ 0 ≤ t ∧ t ≤ g - 1 := by
 unfold spB gridG
 rw [Bool.and_eq_true, Bool.and_eq_true, decide_eq_true_iff, rg_true, rg_true]
theorem spiralI {g c t : Int} {k : Nat} (hk : 50 ≤ k) : impl_SpiralWord.f k g c t = some (if spK g c t = true then (spO c.toNat t.toNat, true) else (⟨#[]⟩, false)) := by
 obtain ⟨k, rfl⟩ : ∃ m, k = m + 1 := ⟨k - 1, by omega⟩
 have hno : impl_SpiralWord.j0 (k + 1) c t true = some (⟨#[]⟩, false) := by rw [impl_SpiralWord.j0, if_pos rfl]
 unfold impl_SpiralWord.f
 rw [isGrid_told, Option.bind_some]
 by_cases hg : g = 4 ∨ g = 6
 ·rw [if_pos (by simpa using hg), within_rg, Option.bind_some]
  by_cases hc : rg c 1 10 = true
  ·rw [if_pos hc, wrap_id (by omega) (by omega), within_rg, Option.bind_some]
   by_cases ht : rg t 0 (g - 1) = true
   ·have hc' := rg_true.1 hc
    have ht' := rg_true.1 ht
    have hB : spB g c t = true := spB_true.2 ⟨hg, hc', ht'⟩
    rw [ht, impl_SpiralWord.j0, if_neg (by decide)]
    have := spiralI_l0 (C := c.toNat) (t := t.toNat) (by omega) (by omega) c.toNat k 0 (by omega) (by omega)
    rw [Int.toNat_of_nonneg (by omega), Int.toNat_of_nonneg (by omega)] at this
    rw [show spO 0 t.toNat = (⟨#[]⟩ : ByteArray) from rfl] at this
    rw [show (1 : Int) = ((0 + 1 : Nat) : Int) from rfl, this]
    unfold spK
    rw [hB, Bool.true_and]
    by_cases hl : (spW t.toNat c.toNat).length ≤ 120
    ·rw [if_pos hl, if_pos (by simpa using hl)]
    ·rw [if_neg hl, if_neg (by simpa using hl)]
   ·rw [Bool.eq_false_iff.2 ht]
    show impl_SpiralWord.j0 (k + 1) c t true = _
    rw [hno, if_neg]
    unfold spK spB
    rw [Bool.eq_false_iff.2 ht]
    simp
  ·rw [if_neg hc, hno, if_neg]
   unfold spK spB
   rw [Bool.eq_false_iff.2 hc]
   simp
 ·rw [if_neg (by simpa using hg), hno, if_neg]
  unfold spK spB
  rw [decide_eq_false hg]
  simp
theorem spiralS {g c t : Int} {k : Nat} (hk : 150 ≤ k) : spec_SpiralWord.f k g c t = some (if spK g c t = true then (spO c.toNat t.toNat, true) else (⟨#[]⟩, false)) := by
 obtain ⟨k, rfl⟩ : ∃ m, k = m + 1 := ⟨k - 1, by omega⟩
 have hno : spec_SpiralWord.j0 (k + 1) c t true = some (⟨#[]⟩, false) := by rw [spec_SpiralWord.j0, if_pos rfl]
 unfold spec_SpiralWord.f
 rw [paGrid_told, Option.bind_some]
 by_cases hg : g = 4 ∨ g = 6
 ·rw [if_pos (by simpa using hg), l1In_rg, Option.bind_some]
  by_cases hc : rg c 1 10 = true
  ·rw [if_pos hc, wrap_id (by omega) (by omega), l1In_rg, Option.bind_some]
   by_cases ht : rg t 0 (g - 1) = true
   ·have hc' := rg_true.1 hc
    have ht' := rg_true.1 ht
    have hB : spB g c t = true := spB_true.2 ⟨hg, hc', ht'⟩
    rw [ht, spec_SpiralWord.j0, if_neg (by decide)]
    unfold spec_paSpiral.f
    have := spiralS_l0 (C := c.toNat) (t := t.toNat) (by omega) (by omega) c.toNat k 0 (by omega) (by omega)
    rw [Int.toNat_of_nonneg (by omega), Int.toNat_of_nonneg (by omega)] at this
    rw [show spO 0 t.toNat = (⟨#[]⟩ : ByteArray) from rfl] at this
    rw [show (1 : Int) = ((0 + 1 : Nat) : Int) from rfl, this, Option.bind_some]
    unfold spK
    rw [hB, Bool.true_and]
    dsimp only
    by_cases hl : (spW t.toNat c.toNat).length ≤ 120
    ·rw [if_pos (by simpa using hl), if_pos (by simpa using hl)]
    ·rw [if_neg (by simpa using hl), if_neg (by simpa using hl)]
   ·rw [Bool.eq_false_iff.2 ht]
    show spec_SpiralWord.j0 (k + 1) c t true = _
    rw [hno, if_neg]
    unfold spK spB
    rw [Bool.eq_false_iff.2 ht]
    simp
  ·rw [if_neg hc, hno, if_neg]
   unfold spK spB
   rw [Bool.eq_false_iff.2 hc]
   simp
 ·rw [if_neg (by simpa using hg), hno, if_neg]
  unfold spK spB
  rw [decide_eq_false hg]
  simp
theorem ok_sp {g c t : Int} (h : spK g c t = true) : okW g (spO c.toNat t.toNat) = true := by
 unfold spK at h
 rw [Bool.and_eq_true, decide_eq_true_iff] at h
 exact okW_true.2 ⟨(spB_true.1 h.1).1, by rw [spO_size]; exact h.2, fun x hx => spW_sg _ _ x hx⟩
def spR (g c t : Int) : Int × Bool := if spK g c t = true then repR g (endW g (spO c.toNat t.toNat)) g.toNat 1 else (0, false)
theorem sprI {g c t : Int} {k : Nat} (hk : 500 ≤ k) : impl_SpiralRepeats.f k g c t = some (spR g c t) := by
 unfold impl_SpiralRepeats.f spR
 rw [spiralI (by omega), Option.bind_some]
 by_cases h : spK g c t = true
 ·rw [if_pos h, if_pos h, if_pos rfl, repI (by omega), if_pos (ok_sp h)]; rfl
 ·rw [if_neg h, if_neg h, if_neg (by decide)]
theorem sprS {g c t : Int} {k : Nat} (hk : 1500 ≤ k) : spec_SpiralRepeats.f k g c t = some (spR g c t) := by
 unfold spec_SpiralRepeats.f spR
 rw [spiralS (by omega), Option.bind_some]
 by_cases h : spK g c t = true
 ·have hgd : g = 4 ∨ g = 6 := (okW_true.1 (ok_sp h)).1
  rw [if_pos h, if_pos h, if_pos rfl]
  unfold spec_paRepeats.f
  have := reps_l0 (ok_sp h) g.toNat k 0 (by omega) (by omega)
  dsimp only
  rw [show (1 : Int) = ((0 + 1 : Nat) : Int) from rfl, this]; rfl
 ·rw [if_neg h, if_neg h, if_neg (by decide)]
/-- How many words of so many signs lead a walker home. -/
def cntW (g : Int) : Nat → StW → Int
 | 0, s => if isSt0 s = true then 1 else 0
 | n + 1, s => cntW g n (stpW g 70 s) + cntW g n (stpW g 76 s) + cntW g n (stpW g 82 s)
def pow3 : Nat → Int
 | 0 => 1
 | n + 1 => 3 * pow3 n
theorem cnt_bd (g : Int) : ∀ (n : Nat) (s : StW), 0 ≤ cntW g n s ∧ cntW g n s ≤ pow3 n
 | 0, s => by
  rw [cntW, pow3]
  split <;> omega
 | n + 1, s => by
  have h1 := cnt_bd g n (stpW g 70 s)
  have h2 := cnt_bd g n (stpW g 76 s)
  have h3 := cnt_bd g n (stpW g 82 s)
  rw [cntW, pow3]
  omega
theorem pow3_10 : ∀ {n : Nat}, n ≤ 10 → pow3 n ≤ 59049 := by
 intro n h
 have : n = 0 ∨ n = 1 ∨ n = 2 ∨ n = 3 ∨ n = 4 ∨ n = 5 ∨ n = 6 ∨ n = 7 ∨ n = 8 ∨ n = 9 ∨ n = 10 := by omega
 rcases this with rfl | rfl | rfl | rfl | rfl | rfl | rfl | rfl | rfl | rfl | rfl <;> decide
theorem cnt_odd : ∀ (n : Nat) (s : StW), okDir 4 s.d → ((n : Int) + s.x + s.y + s.d) % 2 ≠ 0 → cntW 4 n s = 0
 | 0, s, _, h => by
  rw [cntW, if_neg]
  intro hh
  rw [isSt0_true.1 hh] at h
  exact h rfl
 | n + 1, s, hd, h => by
  have hg : gridG 4 := .inl rfl
  have hod : 0 ≤ s.d ∧ s.d < 4 := hd
  have e70 : stpW 4 70 s = ⟨s.x + wayX 4 s.d, s.y + wayY 4 s.d, s.d⟩ := rfl
  have e76 : stpW 4 76 s = ⟨s.x, s.y, (s.d + 1) % 4⟩ := rfl
  have e82 : stpW 4 82 s = ⟨s.x, s.y, (s.d + 4 - 1) % 4⟩ := rfl
  have w : (wayX 4 s.d + wayY 4 s.d) % 2 = 1 := by
   rcases dirsG hg hd with ⟨_, h | h | h | h⟩ | ⟨h, _⟩
   ·rw [h]; decide
   ·rw [h]; decide
   ·rw [h]; decide
   ·rw [h]; decide
   ·exact absurd h (by decide)
  rw [cntW, cnt_odd n (stpW 4 70 s) (stp_ok hg 70 hd) (by rw [e70]; dsimp only; omega), cnt_odd n (stpW 4 76 s) (stp_ok hg 76 hd) (by rw [e76]; dsimp only; omega), cnt_odd n (stpW 4 82 s) (stp_ok hg 82 hd) (by rw [e82]; dsimp only; omega)]
  rfl
/-- A table of walkers: the sum of what a function tells of them. -/
def totA (f : StW → Int) : List (StW × Int) → Int
 | [] => 0
 | e :: m => e.2 * f e.1 + totA f m
theorem totA_app (f : StW → Int) : ∀ a b : List (StW × Int), totA f (a ++ b) = totA f a + totA f b
 | [], b => by rw [List.nil_append, totA]; omega
 | e :: a, b => by rw [List.cons_append, totA, totA, totA_app f a b]; omega
theorem totA_add (f h : StW → Int) : ∀ m : List (StW × Int), totA (fun s => f s + h s) m = totA f m + totA h m
 | [] => rfl
 | e :: m => by rw [totA, totA, totA, totA_add f h m, Int.mul_add]; omega
theorem totA_perm {f : StW → Int} {a b : List (StW × Int)} (h : a.Perm b) : totA f a = totA f b := by
 induction h with
 | nil => rfl
 | cons x _ ih => rw [totA, totA, ih]
 | swap x y l => rw [totA, totA, totA, totA]; omega
 | trans _ _ h1 h2 => rw [h1, h2]
theorem itF_in (g : Int) : ∀ (n : Nat) (f : WK → Int) (k : WK), itF g n (stF g f) k = stF g (itF g n f) k
 | 0, f, k => rfl
 | n + 1, f, k => by
  rw [itF, itF_in g n (stF g f) k]
  unfold stF
  rw [show itF g (n + 1) f = fun z => itF g n (stF g f) z from rfl]
  rfl
def stK (k : WK) : StW := ⟨k.1, k.2.1, k.2.2⟩
theorem itF_cnt {g : Int} : ∀ (n : Nat) (k : WK), itF g n (fun z => if z = (0, 0, 0) then 1 else 0) k = cntW g n (stK k)
 | 0, k => by
  obtain ⟨x, y, d⟩ := k
  rw [itF, cntW]
  by_cases h : (x, y, d) = ((0, 0, 0) : WK)
  ·simp only [Prod.mk.injEq] at h
   obtain ⟨rfl, rfl, rfl⟩ := h
   rw [if_pos rfl, if_pos (show isSt0 (stK (0, 0, 0)) = true from isSt0_true.2 rfl)]
  ·rw [if_neg h, if_neg]
   intro hh
   have e := isSt0_true.1 hh
   unfold stK st0 at e
   simp only [StW.mk.injEq] at e
   exact h (by obtain ⟨rfl, rfl, rfl⟩ := e; rfl)
 | n + 1, k => by
  obtain ⟨x, y, d⟩ := k
  rw [itF, itF_in g n, cntW]
  unfold stF
  rw [itF_cnt n, itF_cnt n, itF_cnt n]
  rfl
theorem count_spec {g : Int} (hg : gridG g) : ∀ (n k : Nat) (s : StW), n ≤ 10 → n < k → okDir g s.d → nearS (1000 - n) s → spec_paCount.f k g s.x s.y s.d (n : Int) = some (cntW g n s) := by
 intro n
 induction n with
 | zero =>
  intro k s _ hk _ _
  obtain ⟨k, rfl⟩ : ∃ m, k = m + 1 := ⟨k - 1, by omega⟩
  rw [spec_paCount.f, if_pos (by omega), cntW]
  by_cases h1 : s.x = 0
  ·rw [if_pos h1]
   by_cases h2 : s.y = 0
   ·rw [if_pos h2]
    by_cases h3 : s.d = 0
    ·rw [if_pos h3, if_pos (isSt0_true.2 (StW.eq h1 h2 h3))]
    ·rw [if_neg h3, if_neg (fun hh => h3 (by rw [isSt0_true.1 hh]; rfl))]
   ·rw [if_neg h2, if_neg (fun hh => h2 (by rw [isSt0_true.1 hh]; rfl))]
  ·rw [if_neg h1, if_neg (fun hh => h1 (by rw [isSt0_true.1 hh]; rfl))]
 | succ n ih =>
  intro k s hn hk hd hs
  obtain ⟨k, rfl⟩ : ∃ m, k = m + 1 := ⟨k - 1, by omega⟩
  have hgd : g = 4 ∨ g = 6 := hg
  have hod : 0 ≤ s.d ∧ s.d < g := hd
  have hw := way_le (g := g) (d := s.d)
  have hs' := hs
  unfold nearS at hs'
  have n70 : nearS (1000 - (n : Int)) (stpW g 70 s) := near_mono (near_stp (g := g) 70 hs) (by omega)
  have n76 : nearS (1000 - (n : Int)) (stpW g 76 s) := near_mono (near_stp (g := g) 76 hs) (by omega)
  have n82 : nearS (1000 - (n : Int)) (stpW g 82 s) := near_mono (near_stp (g := g) 82 hs) (by omega)
  have i1 := ih k (stpW g 70 s) (by omega) (by omega) (stp_ok hg 70 hd) n70
  have i2 := ih k (stpW g 76 s) (by omega) (by omega) (stp_ok hg 76 hd) n76
  have i3 := ih k (stpW g 82 s) (by omega) (by omega) (stp_ok hg 82 hd) n82
  have e70 : stpW g 70 s = ⟨s.x + wayX g s.d, s.y + wayY g s.d, s.d⟩ := rfl
  have e76 : stpW g 76 s = ⟨s.x, s.y, (s.d + 1) % g⟩ := rfl
  have e82 : stpW g 82 s = ⟨s.x, s.y, (s.d + g - 1) % g⟩ := rfl
  rw [e70] at i1
  rw [e76] at i2
  rw [e82] at i3
  dsimp only at i1 i2 i3
  have b1 := cnt_bd g n (stpW g 70 s)
  have b2 := cnt_bd g n (stpW g 76 s)
  have b3 := cnt_bd g n (stpW g 82 s)
  have hp := pow3_10 (n := n) (by omega)
  have en : ((n + 1 : Nat) : Int) - 1 = (n : Int) := by omega
  rw [spec_paCount.f, if_neg (by omega), paWay_told hg hd, Option.bind_some]
  have r0 : rd [wayX g s.d, wayY g s.d] 0 = wayX g s.d := rfl
  have r1 : rd [wayX g s.d, wayY g s.d] 1 = wayY g s.d := rfl
  rw [if_pos (by simp), if_pos (by simp), r0, r1, wrap_id (x := s.x + wayX g s.d) (by omega) (by omega), wrap_id (x := s.y + wayY g s.d) (by omega) (by omega), wrap_id (x := ((n + 1 : Nat) : Int) - 1) (by omega) (by omega), en, i1, Option.bind_some, if_neg (by omega), wrap_id (x := s.d + 1) (by omega) (by omega), Int.tmod_eq_emod_of_nonneg (by omega), i2, Option.bind_some,
   wrap_id (x := s.d + g) (by omega) (by omega), wrap_id (x := s.d + g - 1) (by omega) (by omega), Int.tmod_eq_emod_of_nonneg (by omega), i3, Option.bind_some, cntW, e70, e76, e82]
  rw [e70] at b1
  rw [e76] at b2
  rw [e82] at b3
  rw [wrap_id (x := cntW g n ⟨s.x + wayX g s.d, s.y + wayY g s.d, s.d⟩ + cntW g n ⟨s.x, s.y, (s.d + 1) % g⟩) (by omega) (by omega), wrap_id (by omega) (by omega)]
def cntB (g n : Int) : Bool := decide (g = 4 ∨ g = 6) && rg n 0 10
theorem countI {g n : Int} : impl_CountClosed.f g n = some (if cntB g n = true then (cntW g n.toNat st0, true) else (0, false)) := by
 unfold impl_CountClosed.f cntB
 rw [isGrid_told, Option.bind_some]
 by_cases hg : g = 4 ∨ g = 6
 ·rw [decide_eq_true hg, if_pos rfl, within_rg, Option.bind_some, Bool.true_and]
  by_cases hn : rg n 0 10 = true
  ·have := rg_true.1 hn
   rw [if_pos hn, if_pos hn, if_pos ⟨hg, this.1, this.2⟩, itF_cnt]
   rfl
  ·rw [if_neg hn, if_neg hn]
 ·rw [decide_eq_false hg, if_neg (by decide), Bool.false_and, if_neg (by decide)]
theorem countS {g n : Int} {k : Nat} (hk : 50 ≤ k) : spec_CountClosed.f k g n = some (if cntB g n = true then (cntW g n.toNat st0, true) else (0, false)) := by
 unfold spec_CountClosed.f cntB
 rw [paGrid_told, Option.bind_some]
 by_cases hg : g = 4 ∨ g = 6
 ·rw [decide_eq_true hg, if_pos rfl, l1In_rg, Option.bind_some, Bool.true_and]
  by_cases hn : rg n 0 10 = true
  ·have hr := rg_true.1 hn
   have := count_spec (g := g) hg n.toNat k st0 (by omega) (by omega) (okD_zero hg) (near_zero (by omega))
   rw [Int.toNat_of_nonneg hr.1] at this
   rw [if_pos hn, if_pos hn, show spec_paCount.f k g 0 0 0 n = some (cntW g n.toNat st0) from this]
   rfl
  ·rw [if_neg hn, if_neg hn]
 ·rw [decide_eq_false hg, if_neg (by decide), Bool.false_and, if_neg (by decide)]
theorem u64w (x : Int) : 0 ≤ IntKind.u64.wrap x ∧ IntKind.u64.wrap x ≤ 18446744073709551615 := by
 have e : IntKind.u64.wrap x = x % 18446744073709551616 := rfl
 rw [e]; omega
theorem byte_and {x : Int} (h0 : 0 ≤ x) (h1 : x ≤ 18446744073709551615) : 0 ≤ Go.bits .and .u64 x 255 ∧ Go.bits .and .u64 x 255 ≤ 255 := by
 have h := Go.bits_and_u64_nat x.toNat 255 (by omega) (by omega)
 rw [Int.toNat_of_nonneg h0] at h
 have h2 : x.toNat &&& 255 ≤ 255 := Nat.and_le_right
 have h3 : Go.bits .and .u64 x 255 = ((x.toNat &&& 255 : Nat) : Int) := h
 rw [h3]; omega
/-- Bytes. -/
def Bytes (s : List Int) : Prop := (s.length : Int) ≤ 1048576 ∧ ∀ x ∈ s, 0 ≤ x ∧ x ≤ 255
theorem Bytes.at {s : List Int} (h : Bytes s) {i : Int} (h0 : 0 ≤ i) (h1 : i < s.length) : 0 ≤ rd s i ∧ rd s i ≤ 255 := by
 have : rd s i = s[i.toNat]'(by omega) := by
  simp [rd, List.getD_eq_getElem?_getD, List.getElem?_eq_getElem (show i.toNat < s.length by omega)]
 rw [this]; exact h.2 _ (List.getElem_mem _)
theorem Bytes.of {s : List Int} (hl : (s.length : Int) ≤ 1048576) (h : ∀ x ∈ s, (Lit.int .u8 x).wf = true) : Bytes s := by
 refine ⟨hl, fun x hx => ?_⟩
 have := h x hx
 have e0 : IntKind.u8.min = 0 := rfl
 have e1 : IntKind.u8.max = 255 := rfl
 simp [Lit.wf] at this
 omega
theorem next_tot {s : List Int} (hs : Bytes s) {a sd : Int} (h0 : 0 ≤ a) (h1 : a ≤ 1000000) : ∃ b sd', spec_l1Cur_next.f s a sd = some (b, a + 1, sd') ∧ 0 ≤ b ∧ b ≤ 255 := by
 unfold spec_l1Cur_next.f
 rw [wrap_id (x := a + 1) (by omega) (by omega)]
 by_cases h : a < (s.length : Int)
 ·have hr := hs.at h0 h
  rw [if_pos h, if_pos h0, if_pos (by omega), wrap_id (x := rd s a) (by omega) (by omega)]
  exact ⟨_, _, rfl, hr⟩
 ·rw [if_neg h, if_neg (by omega)]
  refine ⟨_, _, rfl, ?_⟩
  have hu := u64w (IntKind.u64.wrap (IntKind.u64.wrap (sd * 6364136223846793005)) + 1442695040888963407)
  have hb := byte_and (x := IntKind.u64.wrap (IntKind.u64.wrap (IntKind.u64.wrap (sd * 6364136223846793005)) + 1442695040888963407) / 1099511627776) (by omega) (by omega)
  rw [wrap_id (by omega) (by omega)]
  exact hb
theorem pick_tot {s : List Int} (hs : Bytes s) {a sd : Int} (n : Int) (h0 : 0 ≤ a) (h1 : a ≤ 900000) : ∃ v a' sd', spec_l1Cur_pick.f s a sd n = some (v, a', sd') ∧ a ≤ a' ∧ a' ≤ a + 2 ∧ 0 ≤ v ∧ (1 ≤ n → v < n) ∧ (n ≤ 1 → v = 0) := by
 unfold spec_l1Cur_pick.f
 by_cases h : n ≤ 1
 ·rw [if_pos h]; exact ⟨0, a, sd, rfl, by omega, by omega, by omega, by omega, fun _ => rfl⟩
 ·rw [if_neg h]
  obtain ⟨b, sd1, e1, b0, b1⟩ := next_tot hs (sd := sd) h0 (by omega)
  rw [e1]
  simp only [Option.bind_some]
  by_cases h2 : n > 200
  ·rw [if_pos h2]
   obtain ⟨c, sd2, e2, c0, c1⟩ := next_tot hs (a := a + 1) (sd := sd1) (by omega) (by omega)
   rw [e2]
   simp only [Option.bind_some]
   rw [if_neg (by omega), wrap_id (x := b * 256) (by omega) (by omega), wrap_id (x := b * 256 + c) (by omega) (by omega), Int.tmod_eq_emod_of_nonneg (by omega)]
   exact ⟨_, _, _, rfl, by omega, by omega, Int.emod_nonneg _ (by omega), fun _ => Int.emod_lt_of_pos _ (by omega), by omega⟩
  ·rw [if_neg h2, if_neg (by omega), Int.tmod_eq_emod_of_nonneg (by omega)]
   exact ⟨_, _, _, rfl, by omega, by omega, Int.emod_nonneg _ (by omega), fun _ => Int.emod_lt_of_pos _ (by omega), by omega⟩
theorem one_tot {s : List Int} (hs : Bytes s) {a sd : Int} (n : Int) (h0 : 0 ≤ a) (h1 : a ≤ 900000) : ∃ v a' sd', spec_l1Cur_one.f s a sd n = some (v, a', sd') ∧ a ≤ a' ∧ a' ≤ a + 2 := by
 unfold spec_l1Cur_one.f
 obtain ⟨v, a', sd', e, q1, q2, _⟩ := pick_tot hs (sd := sd) n h0 h1
 rw [e]
 exact ⟨_, _, _, rfl, q1, q2⟩
theorem among_tot {s : List Int} (hs : Bytes s) {a sd : Int} (l : List Int) (hl : 1 ≤ (l.length : Int)) (h0 : 0 ≤ a) (h1 : a ≤ 900000) : ∃ v a' sd', spec_l1Cur_among.f s a sd l = some (v, a', sd') ∧ a ≤ a' ∧ a' ≤ a + 2 := by
 unfold spec_l1Cur_among.f
 obtain ⟨v, a', sd', e, q1, q2, q3, q4, _⟩ := pick_tot hs (sd := sd) (l.length : Int) h0 h1
 rw [e]
 simp only [Option.bind_some]
 rw [if_pos q3, if_pos (q4 hl)]
 exact ⟨_, _, _, rfl, q1, q2⟩
theorem grid_tot {s : List Int} (hs : Bytes s) {a sd : Int} (h0 : 0 ≤ a) (h1 : a ≤ 800000) : ∃ v a' sd', spec_l1Cur_grid.f s a sd = some (v, a', sd') ∧ a ≤ a' ∧ a' ≤ a + 4 := by
 unfold spec_l1Cur_grid.f
 obtain ⟨v, a1, sd1, e, q1, q2⟩ := one_tot hs (sd := sd) 14 h0 (by omega)
 rw [e]
 simp only [Option.bind_some]
 by_cases h : v = true
 ·rw [if_pos h]
  obtain ⟨x, a2, sd2, e2, q3, q4⟩ := among_tot hs (a := a1) (sd := sd1) [0, 3, 5, 8, (-4), 4611686018427387904] (by simp) (by omega) (by omega)
  rw [e2]
  exact ⟨_, a2, _, rfl, by omega, by omega⟩
 ·rw [if_neg h]
  obtain ⟨x, a2, sd2, e2, q3, q4⟩ := among_tot hs (a := a1) (sd := sd1) [4, 6] (by simp) (by omega) (by omega)
  rw [e2]
  exact ⟨_, a2, _, rfl, by omega, by omega⟩
theorem of_tot {s : List Int} (hs : Bytes s) {a sd : Int} (l : List ByteArray) (hl : 1 ≤ (l.length : Int)) (hB : ∀ r ∈ l, r.size ≤ 12) (h0 : 0 ≤ a) (h1 : a ≤ 900000) : ∃ v a' sd', spec_l1Cur_of.f s a sd l = some (v, a', sd') ∧ a ≤ a' ∧ a' ≤ a + 2 ∧ v.size ≤ 12 := by
 unfold spec_l1Cur_of.f
 obtain ⟨v, a', sd', e, q1, q2, q3, q4, _⟩ := pick_tot hs (sd := sd) (l.length : Int) h0 h1
 rw [e]
 simp only [Option.bind_some]
 have hv := q4 hl
 rw [if_pos q3, if_pos hv]
 refine ⟨_, _, _, rfl, q1, q2, ?_⟩
 unfold rdOf
 rw [List.getD_eq_getElem?_getD, List.getElem?_eq_getElem (show v.toNat < l.length by omega), Option.getD_some]
 exact hB _ (List.getElem_mem _)
theorem word_l0 {s : List Int} (hs : Bytes s) : ∀ (d k : Nat) (x : ByteArray) (a sd : Int), d ≤ 20 → d + 200 < k → x.size ≤ 1000 - 20 * d → 0 ≤ a → a ≤ 800000 - 10 * d →
  ∃ r a' sd', spec_l1Cur_word.l0 k x (d : Int) s a sd = some (r, a', sd') ∧ a ≤ a' ∧ a' ≤ a + 2 * d + 6 := by
 have h4 : ∀ r ∈ ([(⟨#[70, 76, 70, 76, 70, 76, 70, 76]⟩ : ByteArray), (⟨#[70, 76, 76, 70, 76, 76, 70, 76, 76]⟩ : ByteArray), (⟨#[70, 70, 76, 70, 76, 70, 70, 76, 70, 76]⟩ : ByteArray), (⟨#[70, 76, 70, 76, 70, 76, 70, 76, 70, 76, 70, 76]⟩ : ByteArray), (⟨#[70, 82, 70, 82, 70, 82, 70, 82]⟩ : ByteArray), (⟨#[70, 76, 76, 76, 70, 76, 76, 76]⟩ : ByteArray)] : List ByteArray), r.size ≤ 12 := by
  intro r hr
  simp only [List.mem_cons, List.not_mem_nil, or_false] at hr
  rcases hr with rfl | rfl | rfl | rfl | rfl | rfl <;> decide
 have h3 : ∀ r ∈ ([(⟨#[120]⟩ : ByteArray), (⟨#[102]⟩ : ByteArray), (⟨#[32]⟩ : ByteArray)] : List ByteArray), r.size ≤ 12 := by
  intro r hr
  simp only [List.mem_cons, List.not_mem_nil, or_false] at hr
  rcases hr with rfl | rfl | rfl <;> decide
 have h5 : ∀ r ∈ ([(⟨#[70]⟩ : ByteArray), (⟨#[70]⟩ : ByteArray), (⟨#[76]⟩ : ByteArray), (⟨#[82]⟩ : ByteArray), (⟨#[70, 76]⟩ : ByteArray)] : List ByteArray), r.size ≤ 12 := by
  intro r hr
  simp only [List.mem_cons, List.not_mem_nil, or_false] at hr
  rcases hr with rfl | rfl | rfl | rfl | rfl <;> decide
 intro d
 induction d with
 | zero =>
  intro k x a sd _ hk hx h0 h1
  obtain ⟨k, rfl⟩ : ∃ m, k = m + 1 := ⟨k - 1, by omega⟩
  rw [spec_l1Cur_word.l0, if_neg (by omega)]
  obtain ⟨v, a1, sd1, e1, q1, q2, q3, q4, _⟩ := pick_tot hs (a := a) (sd := sd) 14 h0 (by omega)
  rw [e1]
  simp only [Option.bind_some]
  by_cases v0 : v = 0
  ·rw [if_pos v0]
   obtain ⟨r, a2, sd2, e2, p1, p2, p3⟩ := of_tot hs (a := a1) (sd := sd1) _ (by simp) h3 (by omega) (by omega)
   rw [e2]
   simp only [Option.bind_some]
   rw [if_pos (by omega)]
   exact ⟨_, a2, _, rfl, by omega, by omega⟩
  ·rw [if_neg v0]
   by_cases v1 : v = 1
   ·rw [if_pos v1]
    obtain ⟨u, a2, sd2, e2, p1, p2, p3, p4, _⟩ := pick_tot hs (a := a1) (sd := sd1) 2 (by omega) (by omega)
    rw [e2]
    simp only [Option.bind_some]
    have hu := p4 (by omega)
    obtain ⟨r, r1, _⟩ := paTimes_told (w := (⟨#[70]⟩ : ByteArray)) (by decide) (n := (120 + u).toNat) (k := k) (by omega) (by omega)
    rw [wrap_id (by omega) (by omega)]
    rw [Int.toNat_of_nonneg (by omega)] at r1
    rw [r1]
    exact ⟨_, a2, _, rfl, by omega, by omega⟩
   ·rw [if_neg v1]
    obtain ⟨r, a2, sd2, e2, p1, p2, p3⟩ := of_tot hs (a := a1) (sd := sd1) _ (by simp) h4 (by omega) (by omega)
    by_cases v2 : v = 2
    ·rw [if_pos v2, e2]
     exact ⟨_, a2, _, rfl, by omega, by omega⟩
    ·rw [if_neg v2]
     by_cases v3 : v = 3
     ·rw [if_pos v3, e2]
      exact ⟨_, a2, _, rfl, by omega, by omega⟩
     ·rw [if_neg v3]
      exact ⟨_, a1, _, rfl, by omega, by omega⟩
 | succ d ih =>
  intro k x a sd hd hk hx h0 h1
  obtain ⟨k, rfl⟩ : ∃ m, k = m + 1 := ⟨k - 1, by omega⟩
  rw [spec_l1Cur_word.l0, if_pos (by omega)]
  obtain ⟨r, a2, sd2, e2, p1, p2, p3⟩ := of_tot hs (a := a) (sd := sd) _ (by simp) h5 (by omega) (by omega)
  rw [e2]
  simp only [Option.bind_some]
  have hsz : (x ++ r).size = x.size + r.size := ByteArray.size_append
  obtain ⟨R, a3, sd3, e3, p4, p5⟩ := ih k (x ++ r) a2 sd2 (by omega) (by omega) (by rw [hsz]; omega) (by omega) (by omega)
  rw [if_pos (by omega), wrap_id (by omega) (by omega), show ((d + 1 : Nat) : Int) - 1 = (d : Int) by omega, e3]
  exact ⟨_, a3, _, rfl, by omega, by omega⟩
theorem wrd_tot {s : List Int} (hs : Bytes s) {a sd : Int} (h0 : 0 ≤ a) (h1 : a ≤ 700000) {k : Nat} (hk : 300 ≤ k) : ∃ v a' sd', spec_l1Cur_word.f k s a sd = some (v, a', sd') ∧ a ≤ a' ∧ a' ≤ a + 50 := by
 unfold spec_l1Cur_word.f
 obtain ⟨v, a1, sd1, e1, q1, q2, q3, q4, _⟩ := pick_tot hs (a := a) (sd := sd) 14 h0 (by omega)
 have hv := q4 (by omega)
 rw [e1]
 simp only [Option.bind_some]
 obtain ⟨r, a2, sd2, e2, p1, p2⟩ := word_l0 hs v.toNat k ⟨#[]⟩ a1 sd1 (by omega) (by omega) (by
  show (0 : Nat) ≤ _
  omega) (by omega) (by omega)
 rw [Int.toNat_of_nonneg q3] at e2
 rw [e2]
 exact ⟨_, a2, _, rfl, by omega, by omega⟩
theorem drawArea_w {s : List Int} (hs : Bytes s) {k : Nat} (hk : 2000 ≤ k) : ∃ g w a' sd', spec_DrawDoubleArea_w.f k s 0 0 = some (g, w, a', sd') ∧ 0 ≤ a' ∧ a' ≤ 200 := by
 obtain ⟨k, rfl⟩ : ∃ m, k = m + 1 := ⟨k - 1, by omega⟩
 unfold spec_DrawDoubleArea_w.f
 obtain ⟨g, a1, sd1, e1, q1, q2⟩ := grid_tot hs (a := 0) (sd := 0) (by omega) (by omega)
 rw [e1]
 simp only [Option.bind_some]
 obtain ⟨w, a2, sd2, e2, p1, p2⟩ := wrd_tot hs (a := a1) (sd := sd1) (by omega) (by omega) (k := k + 1) (by omega)
 rw [e2]
 simp only [Option.bind_some]
 rw [paAsked_told (by omega), Option.bind_some]
 have hno : ∀ (a sd : Int), spec_DrawDoubleArea_w.j0 (k + 1) g w false s a sd = some (g, w, a, sd) := fun a sd => by
  rw [spec_DrawDoubleArea_w.j0, if_neg (by decide)]
 by_cases h : okW g w = true
 ·obtain ⟨hg, hz, hsg⟩ := okW_true.1 h
  have hgd : g = 4 ∨ g = 6 := hg
  obtain ⟨v, a3, sd3, e3, r1, r2⟩ := one_tot hs (a := a2) (sd := sd2) 3 (by omega) (by omega)
  rw [if_pos h, e3]
  simp only [Option.bind_some]
  cases v with
  | true => exact ⟨g, w, a3, sd3, hno _ _, by omega, by omega⟩
  | false =>
   show ∃ g_1 w_1 a' sd', spec_DrawDoubleArea_w.j0 (k + 1) g w true s a3 sd3 = some (g_1, w_1, a', sd') ∧ _
   rw [spec_DrawDoubleArea_w.j0, if_pos rfl]
   have hr : spec_paRepeats.f k g w = some (repR g (endW g w) g.toNat 1) := by
    unfold spec_paRepeats.f
    exact reps_l0 h g.toNat k 0 (by omega) (by omega)
   rw [hr]
   simp only [Option.bind_some]
   cases e : repR g (endW g w) g.toNat 1 with
   | mk r b =>
    cases b with
    | false => exact ⟨g, w, a3, sd3, by simp, by omega, by omega⟩
    | true =>
     obtain ⟨m, rfl, m1, m2, _, _⟩ := repR_true _ _ e
     have hm : m ≤ 6 := by omega
     have hms : m * w.size ≤ 6 * 120 := Nat.mul_le_mul hm hz
     have hcast : (m : Int) * (w.size : Int) = ((m * w.size : Nat) : Int) := by simp
     obtain ⟨x, x1, _⟩ := paTimes_told (w := w) (by omega) (n := m) (k := k) (by omega) (by omega)
     dsimp only
     rw [if_pos rfl]
     by_cases hle : wrap64 ((m : Int) * (w.size : Int)) ≤ 120
     ·rw [if_pos hle, x1]
      exact ⟨g, x, a3, sd3, rfl, by omega, by omega⟩
     ·rw [if_neg hle]
      exact ⟨g, w, a3, sd3, rfl, by omega, by omega⟩
 ·rw [if_neg h]
  exact ⟨g, w, a2, sd2, hno _ _, by omega, by omega⟩
theorem drawArea {s : List Int} (hs : Bytes s) {k : Nat} (hk : 2000 ≤ k) : ∃ g w, spec_DrawDoubleArea.f k s = some (g, w) := by
 unfold spec_DrawDoubleArea.f
 obtain ⟨g, w, a', sd', e, _⟩ := drawArea_w hs hk
 rw [e, Option.bind_some]
 exact ⟨g, w, rfl⟩
theorem drawShift {s : List Int} (hs : Bytes s) {k : Nat} (hk : 2000 ≤ k) : ∃ g w n, spec_DrawShiftWord.f k s = some (g, w, n) := by
 unfold spec_DrawShiftWord.f
 obtain ⟨g, w, e⟩ := drawArea hs hk
 rw [e, Option.bind_some]
 dsimp only
 obtain ⟨v, a', sd', e1, _⟩ := pick_tot hs (a := 0) (sd := 0) (wrap64 ((w.size : Int) + 2)) (by omega) (by omega)
 rw [e1, Option.bind_some]
 exact ⟨g, w, _, rfl⟩
theorem drawSpiral {s : List Int} (hs : Bytes s) : ∃ g c t, spec_DrawSpiralWord.f s = some (g, c, t) := by
 unfold spec_DrawSpiralWord.f spec_DrawSpiralWord_w.f
 obtain ⟨g, a1, sd1, e1, q1, q2⟩ := grid_tot hs (a := 0) (sd := 0) (by omega) (by omega)
 rw [e1]
 simp only [Option.bind_some]
 obtain ⟨c, a2, sd2, e2, p1, p2⟩ := among_tot hs (a := a1) (sd := sd1) [1, 2, 3, 4, 5, 7, 10, 11, 0] (by simp) (by omega) (by omega)
 rw [e2]
 simp only [Option.bind_some]
 obtain ⟨t, a3, sd3, e3, _⟩ := among_tot hs (a := a2) (sd := sd2) [0, 1, 2, 3, 4, 5, 6, (-1)] (by simp) (by omega) (by omega)
 rw [e3]
 exact ⟨g, c, t, rfl⟩
theorem drawCount {s : List Int} (hs : Bytes s) : ∃ g n, spec_DrawCountClosed.f s = some (g, n) := by
 unfold spec_DrawCountClosed.f spec_DrawCountClosed_w.f
 obtain ⟨g, a1, sd1, e1, q1, q2⟩ := grid_tot hs (a := 0) (sd := 0) (by omega) (by omega)
 rw [e1]
 simp only [Option.bind_some]
 obtain ⟨c, a2, sd2, e2, _⟩ := among_tot hs (a := a1) (sd := sd1) [0, 1, 2, 3, 4, 5, 6, 8, 11, (-1)] (by simp) (by omega) (by omega)
 rw [e2]
 exact ⟨g, c, rfl⟩
theorem toL_eq {a b : ByteArray} : a.toList = b.toList ↔ a = b := by
 rw [toL, toL]
 exact ⟨lst_inj, fun h => by rw [h]⟩
theorem ps_j4 {h n c : Int} {b : Bool} (hc : (c, b) = if cntB h n = true then (cntW h n.toNat st0, true) else (0, false)) {k : Nat} (hk : 5 ≤ k) : laws_FnPathsShift.j4 k h n c b = some true := by
 obtain ⟨k, rfl⟩ : ∃ m, k = m + 1 := ⟨k - 1, by omega⟩
 rw [laws_FnPathsShift.j4]
 by_cases hB : cntB h n = true
 ·rw [if_pos hB] at hc
  simp only [Prod.mk.injEq] at hc
  obtain ⟨rfl, rfl⟩ := hc
  unfold cntB at hB
  rw [Bool.and_eq_true, decide_eq_true_iff, rg_true] at hB
  have hb := cnt_bd h n.toNat st0
  rw [if_pos rfl, if_neg (by omega)]
  have hodd : Int.tmod n 2 = 1 → h = 4 → cntW h n.toNat st0 = 0 := fun h1 h2 => by
   subst h2
   rw [Int.tmod_eq_emod_of_nonneg (by omega)] at h1
   exact cnt_odd n.toNat st0 (okD_zero hB.1) (by show ((n.toNat : Int) + 0 + 0 + 0) % 2 ≠ 0; omega)
  by_cases h0 : n = 0
  ·subst h0
   rw [if_pos rfl, if_pos (show cntW h (0 : Int).toNat st0 = 1 from rfl), if_neg (by decide)]
  ·rw [if_neg h0]
   by_cases h1 : Int.tmod n 2 = 1
   ·rw [if_pos h1]
    by_cases h2 : h = 4
    ·rw [if_pos h2, if_pos (hodd h1 h2)]
    ·rw [if_neg h2]
   ·rw [if_neg h1]
 ·rw [if_neg hB] at hc
  simp only [Prod.mk.injEq] at hc
  obtain ⟨rfl, rfl⟩ := hc
  rw [if_neg (by decide)]
theorem ps_j3 {g c t r h n v : Int} {w : ByteArray} {b q u x : Bool} (hw : (w, b) = if spK g c t = true then (spO c.toNat t.toNat, true) else (⟨#[]⟩, false)) (hr : (r, q) = spR g c t) (hv : (v, u) = if cntB h n = true then (cntW h n.toNat st0, true) else (0, false)) (hx : x = false) {k : Nat} (hk : 600 ≤ k) :
  laws_FnPathsShift.j3 k g c t w b r q h n v u x = some true := by
 obtain ⟨k, rfl⟩ : ∃ m, k = m + 1 := ⟨k - 1, by omega⟩
 have h4 := ps_j4 hv (k := k) (by omega)
 subst hx
 rw [laws_FnPathsShift.j3, if_neg (by decide)]
 by_cases hK : spK g c t = true
 ·rw [if_pos hK] at hw
  simp only [Prod.mk.injEq] at hw
  obtain ⟨rfl, rfl⟩ := hw
  have hok := ok_sp hK
  have hK' := hK
  unfold spK at hK'
  rw [Bool.and_eq_true, decide_eq_true_iff] at hK'
  obtain ⟨hB, hlen⟩ := hK'
  obtain ⟨hg, hc, ht⟩ := spB_true.1 hB
  have hgd : g = 4 ∨ g = 6 := hg
  unfold spR at hr
  rw [if_pos hK] at hr
  have hm1 : c.toNat * t.toNat ≤ 10 * 5 := Nat.mul_le_mul (by omega) (by omega)
  have hm2 : c.toNat * (c.toNat + 1) ≤ 10 * 11 := Nat.mul_le_mul (by omega) (by omega)
  have hct : c * t = ((c.toNat * t.toNat : Nat) : Int) := by
   rw [Int.natCast_mul, Int.toNat_of_nonneg (by omega), Int.toNat_of_nonneg (by omega)]
  have hcc : c * (c + 1) = ((c.toNat * (c.toNat + 1) : Nat) : Int) := by
   rw [Int.natCast_mul, Int.natCast_add, Int.toNat_of_nonneg (by omega)]
   rfl
  have htr : trn (lst (spO c.toNat t.toNat)) = ((c.toNat * t.toNat : Nat) : Int) := by rw [spO_lst]; exact spW_trn _ _
  have hsz : 2 * (spO c.toNat t.toNat).size = c.toNat * (c.toNat + 1) + 2 * (c.toNat * t.toNat) := by rw [spO_size]; exact spW_len _ _
  have hd : (endW g (spO c.toNat t.toNat)).d = (((c.toNat * t.toNat : Nat) : Int)) % g := by
   have := run_dir hg (lst (spO c.toNat t.toNat)) (okW_true.1 hok).2.2 st0 (okD_zero hg)
   unfold endW
   rw [this, htr]
   show (0 + _) % g = _
   rw [Int.zero_add]
  rw [if_pos rfl, turnsI, Option.bind_some, if_pos hok, hok, repI (by omega), Option.bind_some, if_pos hok, ← hr]
  dsimp only
  have hq := rep_spiral hg (end_ok hok) (d := g.toNat) (by omega)
  rw [← hr] at hq
  dsimp only at hq
  rw [if_pos rfl, htr, hct, wrap_id (x := ((c.toNat * t.toNat : Nat) : Int)) (by omega) (by omega), if_pos rfl, wrap_id (x := c + 1) (by omega) (by omega), hcc, wrap_id (x := ((c.toNat * (c.toNat + 1) : Nat) : Int)) (by omega) (by omega), Int.tdiv_eq_ediv_of_nonneg (by omega), wrap_id (x := ((c.toNat * (c.toNat + 1) : Nat) : Int) / 2) (by omega) (by omega), wrap_id (by omega) (by omega), if_pos (by omega), bne_self_eq_false, if_neg (by decide), if_pos rfl, if_neg (by omega), Int.tmod_eq_emod_of_nonneg (by omega), ← hd]
  by_cases h0 : (endW g (spO c.toNat t.toNat)).d = 0
  ·rw [if_pos h0, hq, decide_eq_false (fun hh => hh h0), Bool.false_or]
   have : (decide (r = 1) != (r == 1)) = false := by
    cases hh : (r == 1) with
    | true => rw [decide_eq_true (beq_iff_eq.1 hh)]; rfl
    | false => rw [decide_eq_false (beq_eq_false_iff_ne.1 hh)]; rfl
   rw [this, if_neg (by decide)]
   exact h4
  ·rw [if_neg h0, hq, decide_eq_true h0, Bool.true_or, bne_self_eq_false, if_neg (by decide)]
   exact h4
 ·rw [if_neg hK] at hw
  simp only [Prod.mk.injEq] at hw
  obtain ⟨rfl, rfl⟩ := hw
  rw [if_neg (by decide)]
  exact h4
theorem ps_j2 {l1 : List Int} (hs : Bytes l1) {k : Nat} (hk : 4000 ≤ k) : laws_FnPathsShift.j2 k l1 = some true := by
 obtain ⟨k, rfl⟩ : ∃ m, k = m + 1 := ⟨k - 1, by omega⟩
 obtain ⟨g, c, t, e1⟩ := drawSpiral hs
 obtain ⟨h, n, e2⟩ := drawCount hs
 obtain ⟨y, v, e3⟩ := drawArea hs (k := k) (by omega)
 rw [laws_FnPathsShift.j2, e1, Option.bind_some]
 dsimp only
 rw [spiralI (by omega), Option.bind_some, spiralS (by omega), Option.bind_some, sprI (by omega), Option.bind_some, sprS (by omega), Option.bind_some, e2, Option.bind_some]
 dsimp only
 rw [countI, Option.bind_some, countS (by omega), Option.bind_some, e3, Option.bind_some]
 dsimp only
 rw [areaI (by omega), Option.bind_some, areaS (by omega), Option.bind_some]
 generalize hw : (if spK g c t = true then (spO c.toNat t.toNat, true) else ((⟨#[]⟩ : ByteArray), false)) = W
 generalize hr : spR g c t = R
 generalize hv : (if cntB h n = true then (cntW h n.toNat st0, true) else ((0 : Int), false)) = V
 obtain ⟨w, b⟩ := W
 obtain ⟨r, q⟩ := R
 obtain ⟨x, u⟩ := V
 dsimp only
 rw [bne_self_eq_false, if_neg (by decide), if_pos rfl, bne_self_eq_false, if_neg (by decide), if_pos rfl, bne_self_eq_false, if_neg (by decide), if_pos rfl, bne_self_eq_false, if_neg (by decide), if_pos rfl]
 cases q with
 | true =>
  rw [if_pos rfl]
  refine ps_j3 hw.symm hr.symm hv.symm ?_ (by omega)
  unfold spR at hr
  by_cases hK : spK g c t = true
  ·rw [if_pos hK] at hw
   simp only [Prod.mk.injEq] at hw
   rw [← hw.2]; rfl
  ·rw [if_neg hK] at hr
   simp only [Prod.mk.injEq] at hr
   exact absurd hr.2 (by decide)
 | false =>
  rw [if_neg (by decide)]
  exact ps_j3 hw.symm hr.symm hv.symm rfl (by omega)
theorem ps_j1 {l1 : List Int} (hs : Bytes l1) {g n a : Int} {w s L : ByteArray} {b cl : Bool} (hsft : (s, b) = if (okW g w && shB w n) = true then (rotO w n.toNat, true) else (⟨#[]⟩, false)) (ha : (a, cl) = if (okW g w && isSt0 (endW g w)) = true then (areaO g w, true) else (0, false)) (hL : L = if okW g w = true then leastO w else ⟨#[]⟩) {k : Nat} (hk : 5000 ≤ k) :
  laws_FnPathsShift.j1 k l1 g w n s b a cl L = some true := by
 obtain ⟨k, rfl⟩ : ∃ m, k = m + 1 := ⟨k - 1, by omega⟩
 have h2 := ps_j2 hs (k := k) (by omega)
 rw [laws_FnPathsShift.j1]
 by_cases hB : (okW g w && shB w n) = true
 ·rw [if_pos hB] at hsft
  simp only [Prod.mk.injEq] at hsft
  obtain ⟨rfl, rfl⟩ := hsft
  rw [Bool.and_eq_true] at hB
  obtain ⟨hok, hn⟩ := hB
  unfold shB at hn
  rw [decide_eq_true_iff] at hn
  have hz := (okW_true.1 hok).2.1
  have hokr := ok_rot hok n.toNat
  have hback : Int.tmod (wrap64 ((w.size : Int) - n)) (w.size : Int) = (((w.size - n.toNat) % w.size : Nat) : Int) := by
   rw [wrap_id (by omega) (by omega), Int.tmod_eq_emod_of_nonneg (by omega), show (w.size : Int) - n = ((w.size - n.toNat : Nat) : Int) by omega]
   rfl
  have hlt : (w.size - n.toNat) % w.size < w.size := Nat.mod_lt _ (by omega)
  rw [if_pos hok] at hL
  subst hL
  rw [if_pos rfl, leastI, Option.bind_some, if_pos hokr, if_neg (by omega), hback, shiftI, Option.bind_some, hokr, Bool.true_and]
  have hshb : shB (rotO w n.toNat) (((w.size - n.toNat) % w.size : Nat) : Int) = true := by
   unfold shB
   rw [rotO_size]
   exact decide_eq_true ⟨by omega, by omega⟩
  rw [if_pos hshb, Int.toNat_natCast, rotO_back (by omega), leastO_rot (by omega)]
  dsimp only
  have hle : Go.Op.bytesLess w.toList (leastO w).toList = false := by
   rw [toL, toL]
   exact leastL_le (lst w)
  rw [if_pos rfl, if_pos rfl, hle, if_neg (by decide), if_pos rfl, if_pos rfl]
  by_cases hc : (okW g w && isSt0 (endW g w)) = true
  ·rw [if_pos hc] at ha
   simp only [Prod.mk.injEq] at ha
   obtain ⟨rfl, rfl⟩ := ha
   rw [Bool.and_eq_true] at hc
   have hend := isSt0_true.1 hc.2
   have her := end_rot hok hend n.toNat
   rw [if_pos rfl, areaI (by omega), Option.bind_some, hokr, her, if_pos (show (true && isSt0 st0) = true by rw [isSt0_true.2 rfl]; rfl), if_pos rfl, area_rot hok hend, if_pos rfl]
   exact h2
  ·rw [if_neg hc] at ha
   simp only [Prod.mk.injEq] at ha
   obtain ⟨rfl, rfl⟩ := ha
   rw [if_neg (by decide)]
   exact h2
 ·rw [if_neg hB] at hsft
  simp only [Prod.mk.injEq] at hsft
  obtain ⟨rfl, rfl⟩ := hsft
  rw [if_neg (by decide)]
  exact h2
theorem ps_j0 {l1 : List Int} (hs : Bytes l1) {g n a : Int} {w s L : ByteArray} {b cl x : Bool} (hsft : (s, b) = if (okW g w && shB w n) = true then (rotO w n.toNat, true) else (⟨#[]⟩, false)) (ha : (a, cl) = if (okW g w && isSt0 (endW g w)) = true then (areaO g w, true) else (0, false)) (hL : L = if okW g w = true then leastO w else ⟨#[]⟩) (hx : x = false) {k : Nat} (hk : 6000 ≤ k) :
  laws_FnPathsShift.j0 k l1 g w n s b a cl L x = some true := by
 obtain ⟨k, rfl⟩ : ∃ m, k = m + 1 := ⟨k - 1, by omega⟩
 have h1 := ps_j1 hs hsft ha hL (k := k) (by omega)
 subst hx
 rw [laws_FnPathsShift.j0, if_neg (by decide)]
 by_cases hc : (okW g w && isSt0 (endW g w)) = true
 ·rw [if_pos hc] at ha
  simp only [Prod.mk.injEq] at ha
  obtain ⟨rfl, rfl⟩ := ha
  rw [Bool.and_eq_true] at hc
  obtain ⟨hok, hcl⟩ := hc
  have hend := isSt0_true.1 hcl
  have hm := end_mir0 hok hend
  have hbk := end_bak0 hok hend
  have hb := areaO_bd hok
  have hs0 : (true && isSt0 st0) = true := by rw [isSt0_true.2 rfl]; rfl
  rw [if_pos rfl, closedI (by omega), Option.bind_some, hok, hcl, mirI_told hok, Option.bind_some, bakI_told hok, Option.bind_some]
  dsimp only
  rw [areaI (by omega), Option.bind_some, ok_mir hok, hm, if_pos hs0, areaI (by omega), Option.bind_some, ok_bak hok, hbk, if_pos hs0, area_mirO hok, area_bakO hok]
  simp only [Bool.and_self, if_true]
  rw [wrap_id (by omega) (by omega)]
  simp only [if_true]
  exact h1
 ·rw [if_neg hc] at ha
  simp only [Prod.mk.injEq] at ha
  obtain ⟨rfl, rfl⟩ := ha
  rw [if_neg (by decide)]
  exact h1
theorem FnPathsShift : laws_FnPathsShift.Pure := by
 intro l0 l1 _ _ hb0 _ _ hb1
 refine ⟨7000, ?_⟩
 unfold laws_FnPathsShift.f
 by_cases hbig : (l0.length : Int) > 1048576
 ·have e : laws_big.f l0 l1 = some true := by unfold laws_big.f; rw [if_pos hbig]
  rw [e, Option.bind_some, if_pos rfl]
 ·by_cases hbig1 : (l1.length : Int) > wrap64 (1048576 - (l0.length : Int))
  ·have e : laws_big.f l0 l1 = some true := by unfold laws_big.f; rw [if_neg hbig, decide_eq_true hbig1]
   rw [e, Option.bind_some, if_pos rfl]
  ·have e : laws_big.f l0 l1 = some false := by unfold laws_big.f; rw [if_neg hbig, decide_eq_false hbig1]
   rw [wrap_id (by omega) (by omega)] at hbig1
   have hs0 : Bytes l0 := Bytes.of (by omega) hb0
   have hs1 : Bytes l1 := Bytes.of (by omega) hb1
   obtain ⟨g, w, n, e1⟩ := drawShift hs0 (k := 7000) (by omega)
   rw [e, Option.bind_some, if_neg (by decide), e1, Option.bind_some]
   dsimp only
   rw [shiftI, Option.bind_some, shiftS (by omega), Option.bind_some, areaI (by omega), Option.bind_some, areaS (by omega), Option.bind_some, leastI, Option.bind_some, leastS (by omega), Option.bind_some]
   generalize hsft : (if (okW g w && shB w n) = true then (rotO w n.toNat, true) else ((⟨#[]⟩ : ByteArray), false)) = S
   generalize ha : (if (okW g w && isSt0 (endW g w)) = true then (areaO g w, true) else ((0 : Int), false)) = A
   generalize hL : (if okW g w = true then (leastO w, true) else ((⟨#[]⟩ : ByteArray), false)) = L
   obtain ⟨s, b⟩ := S
   obtain ⟨a, cl⟩ := A
   obtain ⟨L, lb⟩ := L
   dsimp only
   have hL1 : L = if okW g w = true then leastO w else ⟨#[]⟩ := by
    by_cases h : okW g w = true
    ·rw [if_pos h] at hL ⊢; exact (congrArg Prod.fst hL).symm
    ·rw [if_neg h] at hL ⊢; exact (congrArg Prod.fst hL).symm
   rw [bne_self_eq_false, if_neg (by decide), if_pos rfl, bne_self_eq_false, if_neg (by decide), if_pos rfl, bne_self_eq_false, if_neg (by decide), if_pos rfl]
   cases b with
   | true =>
    rw [if_pos rfl]
    refine ps_j0 hs1 hsft.symm ha.symm hL1 ?_ (by omega)
    by_cases h : okW g w = true
    ·rw [if_pos h] at hL
     have : lb = true := (congrArg Prod.snd hL).symm
     rw [this]; rfl
    ·rw [Bool.eq_false_iff.2 h, Bool.false_and, if_neg (by decide)] at hsft
     exact absurd (show false = true from congrArg Prod.snd hsft) (by decide)
   | false =>
    rw [if_neg (by decide)]
    exact ps_j0 hs1 hsft.symm ha.symm hL1 rfl (by omega)

end Go.Proofs.YtfpjakkjkakjoaaGreatDoor.Pure
