/- LazyRows returns true for every two slices of numbers, and its arguments read afterwards as they read before. No condition. -/
import Derived.Test.YtbjbejjieibldaaLw
import Derived.Test.YtbjbejjieibldaaLt
namespace Go.Proofs.Ytbjbejjieibldaa.LazyRowsLaw
open Go.ChangeShapes Go.WideShapes Go.ChangeAt Go.RowKit Go.Deep Go.Proofs.YtbjbejjieibldaaW.PrintWords
open Go.Proofs.Ytbjbejjieibldaa.La Go.Proofs.Ytbjbejjieibldaa.Lw
set_option linter.unusedVariables false

set_option maxRecDepth 100000 in
theorem lifted (os : Os) (started : os.Started) (H : Type) (enc : TypeId × Value → H) :
    ReturnsInHanded {} Try.checked os 14 .any (Rows.lazyRowsSpec.pre6 enc Try.prog Try.f14 Rows.lazyRowsRow.domain false) (Rows.lazyRowsSpec.post enc Try.prog Try.f14 false true false false) := by
  refine returnsInHanded_of_change_sized (C := Try.checked) own started (by kernel_rfl) Try.func14
    (ChangeSpec.witness6 (enc := enc) (C := Try.checked) false ⟨#[], #[.slice none 0 0, .slice none 0 0], []⟩ 8 (by kernel_rfl) (by kernel_rfl) (by kernel_rfl) (by kernel_rfl)) ?_
  intro W base args ds gs before hval0 hW hcnd hsz0 _
  have hval : ∀ (j : Nat) t v, Try.f14.params[j]? = some t → args[j]? = some v → Value.okWide Try.prog W .any base t v := hval0
  have hW' := hW
  obtain ⟨p, q, hA0, hV, rfl, hfz, hnd⟩ := hW
  have hA : DataW.TrodAll enc Try.prog W 0 (fun _ => true) true Try.f14.params.toList args.toList ds p := hA0
  rw [Try.params14] at hA hval
  obtain ⟨v0, vs0, d0, ds0, p0, q0, hargs, rfl, rfl, h0, r0⟩ := trodAll_cons hA
  obtain ⟨v1, vs1, d1, ds1, p1, q1, rfl, rfl, rfl, h1, r1⟩ := trodAll_cons r0
  obtain ⟨rfl, rfl, rfl⟩ := trodAll_nil r1
  obtain rfl : args = #[v0, v1] := by cases args; simp_all
  obtain ⟨rfl, rfl⟩ := trodVars_none hV
  obtain ⟨a0, len0, cap0, rfl⟩ := okWide_slice Try.underlying103 (hval 0 103 v0 rfl rfl)
  have k0 := h0
  have lt0 : ∀ x ∈ p0, x.block < W.heap.size := by obtain ⟨m, hm⟩ := k0; exact DataW.trod_lt m _ _ _ hm
  obtain ⟨hlc0, h630, xs0, hxl0, hC0, hU0⟩ : len0 ≤ cap0 ∧ cap0 ≤ 9223372036854775807 ∧ ∃ xs : List Int, xs.length = len0 ∧ Kd.C (Kd.int .i64) W a0 len0 xs ∧ ∀ y ∈ xs, (Lit.int .i64 y).wf = true := by
    obtain ⟨fuel, hf⟩ := h0
    exact open_ints_C Try.underlying103 Try.underlying2 (by kernel_rfl) hf
  subst hxl0
  obtain ⟨a1, len1, cap1, rfl⟩ := okWide_slice Try.underlying104 (hval 1 104 v1 rfl rfl)
  have k1 := h1
  have lt1 : ∀ x ∈ p1, x.block < W.heap.size := by obtain ⟨m, hm⟩ := k1; exact DataW.trod_lt m _ _ _ hm
  obtain ⟨hlc1, h631, xs1, hxl1, hC1, hU1⟩ : len1 ≤ cap1 ∧ cap1 ≤ 9223372036854775807 ∧ ∃ xs : List Int, xs.length = len1 ∧ Kd.C (Kd.int .i64) W a1 len1 xs ∧ ∀ y ∈ xs, (Lit.int .i64 y).wf = true := by
    obtain ⟨fuel, hf⟩ := h1
    exact open_ints_C Try.underlying104 Try.underlying3 (by kernel_rfl) hf
  subst hxl1
  clear hA0 hval0 hsz0
  refine (lazyrows_walk a0 cap0 xs0 a1 cap1 xs1 W hC0 hC1 hU1 (by omega) (by omega)).mono fun e W' ⟨he, bel⟩ => ?_
  subst he
  exact ⟨_, rfl, _, _, _, [], _, [], hW', trodAll_mk1 (shut_bool Try.underlying4 _), (trodAll_cons_mk (Below.trod laidOut (by kernel_rfl) (of_decide_eq_true (by kernel_rfl)) k0 bel lt0) (trodAll_cons_mk (Below.trod laidOut (by kernel_rfl) (of_decide_eq_true (by kernel_rfl)) k1 bel lt1) trodAll_mk0)), rfl, bel.frame _, fun h => by cases h⟩

theorem said : Rows.LazyRowsSaid :=
  OpenClaim.holds_of_wide 14 Try.f14 rfl rfl rfl rfl rfl rfl rfl ⟨rfl, rfl, rfl, rfl, rfl⟩ rfl rfl rfl rfl rfl (by kernel_rfl) Try.func14 (by kernel_rfl)
    (of_decide_eq_true (by kernel_rfl)) (by unfold Func.isWrapper; first | (rw [if_pos (by decide +kernel)]; kernel_rfl) | (rw [if_neg (by decide +kernel)]; exact ⟨rfl, rfl⟩))
    (fun os started H enc _ => lifted os started H enc)
end Go.Proofs.Ytbjbejjieibldaa.LazyRowsLaw
namespace Go.Proofs.Ytbjbejjieibldaa
theorem lazy_rows_holds : Rows.LazyRowsSaid := LazyRowsLaw.said
#print axioms lazy_rows_holds
end Go.Proofs.Ytbjbejjieibldaa
