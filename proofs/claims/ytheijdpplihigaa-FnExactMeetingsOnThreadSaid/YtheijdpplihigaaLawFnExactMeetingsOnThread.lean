/- What is proved: the statement Rows.FnExactMeetingsOnThreadSaid of the law FnExactMeetingsOnThread: for every input the law returns true and its arguments read as before; no condition. -/
import Derived.Test.YtheijdpplihigaaRows
import Derived.Test.YtheijdpplihigaaPx14
import Derived.Test.YtheijdpplihigaaPureFnExactMeetingsOnThread
import Derived.WalkKit
import Derived.ProofKit
import Derived.OpenShut
import Derived.ShutString
import Derived.ChangeOld
import Derived.Below
import Derived.SizedLaws
import Derived.Lib.SmallJoins
import Derived.Deep.SlicePairs
import Derived.Test.YtheijdpplihigaaWSized
namespace Go.Proofs.Ytheijdpplihigaa.fnExactMeetingsOnThread
open Go.ChangeShapes Go.WideShapes Go.ChangeAt Go.RowKit
open Go.ChangeMaps (open_string shut_string)
open Go.Proofs.Ytheijdpplihigaa.P Go.Proofs.YtheijdpplihigaaW.PrintWords
set_option linter.unusedVariables false
theorem own : ownKnob Try.prog.godebug = none := by kernel_rfl
theorem laidOut : laidOutB Try.prog = true := by kernel_rfl
section
variable {H : Type} {enc : TypeId × Value → H} {W : World} {base : Nat} {spare : Nat → Bool} {held : Bool}
theorem pairs77 {t : TypeId} {a : Option Addr} {len cap : Nat} {d : DataW H} {ps : List MemPlace} (ht : Try.prog.underlying t = some (.slice 77)) (h : DataW.Trod enc Try.prog W base spare held t (.slice a len cap) d ps) :
    ∃ (l : List S77), l.length = len ∧ len ≤ cap ∧ k77.C W a len l ∧ (∀ x ∈ l, (Lit.int .i64 x.f0).wf = true ∧ (Lit.int .i64 x.f1).wf = true) ∧ ((a = none ∧ len = 0 ∧ cap = 0) ∨ ∃ es sp : List (DataW H), d = .slice es sp ∧ es.length = len) := by
  obtain ⟨fuel, hf⟩ := h
  rcases Go.Deep.open_slice_pairs ht Try.underlying77 (by kernel_rfl) (by rfl) (by rfl) (by kernel_rfl) (by kernel_rfl) hf with ⟨hcs, _⟩ | ⟨x, l, c, m, n, V0, V1, D0, D1, P0, P1, hcs, _, hl, hm, hmm, hx, hall⟩
  · simp [Value.cells] at hcs
    obtain ⟨rfl, rfl, rfl⟩ := hcs
    exact ⟨[], rfl, Nat.le_refl _, Kd.C_nil _ _, by simp, .inl ⟨rfl, rfl, rfl⟩⟩
  · simp [Value.cells] at hcs
    obtain ⟨rfl, rfl, rfl⟩ := hcs
    have hlm : len ≤ m := by rw [hmm]; split <;> omega
    have each : ∀ i, i < len → ∃ q : S77, W.cell? (x.add (i * 2)) = some (.int .i64 q.f0) ∧ W.cell? (x.add (i * 2 + 1)) = some (.int .i64 q.f1) ∧ (Lit.int .i64 q.f0).wf = true ∧ (Lit.int .i64 q.f1).wf = true := by
      intro i hi
      obtain ⟨h0, h1, t0, t1⟩ := hall i (by omega)
      obtain ⟨b0, e0, _, w0⟩ := DataW.trod_int Try.underlying3 t0
      obtain ⟨b1, e1, _, w1⟩ := DataW.trod_int Try.underlying3 t1
      simp at e0 e1
      exact ⟨⟨b0, b1⟩, by rw [h0, e0], by rw [h1, e1], w0, w1⟩
    haveI : Inhabited S77 := ⟨z77⟩
    obtain ⟨q, hq⟩ := Go.Deep.choose_lt each
    refine ⟨(List.range len).map q, by simp, hl, ⟨by simp, by simp only [maxLen] at hm; omega, fun _ => ⟨x, rfl, fun j p hj => ?_⟩⟩, ?_, .inr ⟨_, _, (Prod.mk.inj hx).1, by simp⟩⟩
    · have hj' : j < len := by
        have := (List.getElem?_eq_some_iff.1 hj).1
        simpa using this
      have hp : q j = p := by
        rw [List.getElem?_map, List.getElem?_range hj'] at hj
        simpa using hj
      subst hp
      refine ⟨_, rfl, k77_mk W (q j), fun i u hu => ?_⟩
      match i, hu with
      | 0, hu => simp at hu; subst hu; exact (hq j hj').1
      | 1, hu => simp at hu; subst hu; exact (hq j hj').2.1
    · intro p hp
      obtain ⟨j, hj, rfl⟩ := List.mem_map.1 hp
      have := hq j (List.mem_range.1 hj)
      exact ⟨this.2.2.1, this.2.2.2⟩
end
set_option maxRecDepth 100000 in
theorem lifted (os : Os) (started : os.Started) (H : Type) (enc : TypeId × Value → H) :
    ReturnsInHanded {} Try.checked os 4 .any (Rows.fnExactMeetingsOnThreadSpec.pre6 enc Try.prog Try.f4 Rows.fnExactMeetingsOnThreadRow.domain false) (Rows.fnExactMeetingsOnThreadSpec.post enc Try.prog Try.f4 false true false false) := by
  refine returnsInHanded_of_change_sized (C := Try.checked) own started (by kernel_rfl) Try.func4
    (ChangeSpec.witness6 (enc := enc) (C := Try.checked) false ⟨#[], #[.slice none 0 0, .int .i64 0], []⟩ 8 (by kernel_rfl) (by kernel_rfl) (by kernel_rfl) (by kernel_rfl)) ?_
  intro W base args ds gs before hval0 hW hcnd hsz0 _
  have hsz : (DataW.weightsEach Try.prog (Try.f4.params.toList ++ Rows.fnExactMeetingsOnThreadSpec.plain.varTypes Try.prog) (ds ++ gs)).all (· ≤ reachBytes) = true := hsz0
  have hval : ∀ (j : Nat) t v, Try.f4.params[j]? = some t → args[j]? = some v → Value.okWide Try.prog W .any base t v := hval0
  have hW' := hW
  obtain ⟨p, q, hA0, hV, rfl, hfz, hnd⟩ := hW
  have hA : DataW.TrodAll enc Try.prog W 0 (fun _ => true) true Try.f4.params.toList args.toList ds p := hA0
  rw [Try.params4] at hA hval hsz
  obtain ⟨v0, vs0, d0, ds0, p0, q0, hargs, rfl, rfl, h0, r0⟩ := trodAll_cons hA
  obtain ⟨v1, vs1, d1, ds1, p1, q1, rfl, rfl, rfl, h1, r1⟩ := trodAll_cons r0
  obtain ⟨rfl, rfl, rfl⟩ := trodAll_nil r1
  obtain rfl : args = #[v0, v1] := by cases args; simp_all
  obtain ⟨rfl, rfl⟩ := trodVars_none hV
  obtain ⟨a0, len0, cap0, rfl⟩ := okWide_slice Try.underlying47 (hval 0 47 v0 rfl rfl)
  have k0 := h0
  have lt0 : ∀ x ∈ p0, x.block < W.heap.size := by obtain ⟨m, hm⟩ := k0; exact DataW.trod_lt m _ _ _ hm
  obtain ⟨l0, n0, hc0, hr0, w0, hd0⟩ := pairs77 Try.underlying47 h0
  subst n0
  have y0 : l0.length * 16 ≤ 140737488351232 := by
    rcases hd0 with ⟨_, h0_, _⟩ | ⟨es, sp, rfl, hes⟩
    · rw [h0_]; omega
    · have z := sized_slice hsz (j := 0) (t := 47) rfl rfl Try.underlying47
      rw [show Try.prog.bytesOf 77 = 16 by kernel_rfl] at z
      exact Nat.le_trans (Nat.mul_le_mul_right _ (by omega)) z
  obtain ⟨a1, rfl, rfl, rfl, w1⟩ := open_int Try.underlying3 (hval 1 3 v1 rfl rfl) h1
  clear hA0 hval0 hsz0 hsz
  obtain ⟨k, hp⟩ := Pure.FnExactMeetingsOnThread l0 a1 y0 w0 w1
  refine (laws_FnExactMeetingsOnThread.calls k a0 cap0 l0 a1 true W hr0 hc0 hp).mono fun e W' ⟨he, bel0⟩ => ?_
  have bel : Below W.heap.size W W' := bel0
  subst he
  exact ⟨_, rfl, _, _, _, [], _, [], hW', trodAll_mk1 (shut_bool Try.underlying4 _), (trodAll_cons_mk (Below.trod laidOut (by kernel_rfl) (of_decide_eq_true (by kernel_rfl)) k0 bel lt0) (trodAll_cons_mk (shut_int Try.underlying3 w1) trodAll_mk0)), rfl, bel.frame _, fun h => by cases h⟩
theorem over : Rows.fnExactMeetingsOnThreadRow.holds Try.pinned (OpenSpec.ofChange Rows.fnExactMeetingsOnThreadSpec) :=
  OpenClaim.holds_of_wide 4 Try.f4 rfl rfl rfl rfl rfl rfl rfl ⟨rfl, rfl, rfl, rfl, rfl⟩ rfl rfl rfl rfl rfl (by kernel_rfl) Try.func4 (by kernel_rfl)
    (of_decide_eq_true (by kernel_rfl)) (by unfold Func.isWrapper; first | (rw [if_pos (by decide +kernel)]; kernel_rfl) | (rw [if_neg (by decide +kernel)]; exact ⟨rfl, rfl⟩))
    (fun os started H enc _ => lifted os started H enc)
theorem proved : Rows.FnExactMeetingsOnThreadSaid := over
#print axioms proved
end Go.Proofs.Ytheijdpplihigaa.fnExactMeetingsOnThread
namespace Go.Proofs.Ytheijdpplihigaa
/-- The row, under a short name, for the claim. -/
theorem fnExactMeetingsOnThread_holds : Rows.FnExactMeetingsOnThreadSaid := fnExactMeetingsOnThread.proved
end Go.Proofs.Ytheijdpplihigaa
