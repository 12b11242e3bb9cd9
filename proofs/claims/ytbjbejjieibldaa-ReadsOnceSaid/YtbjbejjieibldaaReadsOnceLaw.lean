/- ReadsOnce returns true for every slice of calls, and its argument reads afterwards as it read before. No condition. -/
import Derived.Test.YtbjbejjieibldaaLw
import Derived.Test.YtbjbejjieibldaaQo
namespace Go.Proofs.Ytbjbejjieibldaa.ReadsOnceLaw
open Go.ChangeShapes Go.WideShapes Go.ChangeAt Go.RowKit Go.Deep Go.Proofs.YtbjbejjieibldaaW.PrintWords
open Go.Proofs.Ytbjbejjieibldaa.Qa Go.Proofs.Ytbjbejjieibldaa.Lw
set_option linter.unusedVariables false

/-- A slice of calls that came in. -/
theorem open_ops {H : Type} {enc : TypeId × Value → H} {w : World} {fuel : Nat} {a : Option Addr} {len cap : Nat} {x : DataW H × List MemPlace} (h : DataW.trod enc Try.prog w 0 (fun _ => true) true fuel 43 [.slice a len cap] = some x) :
    len ≤ cap ∧ cap ≤ 9223372036854775807 ∧ ∃ xs : List S50, xs.length = len ∧ Kd.C k50 w a len xs ∧ ∀ y ∈ xs, (Lit.int .i64 y.f0).wf = true ∧ (Lit.int .u64 y.f1).wf = true ∧ (Lit.int .u64 y.f2).wf = true := by
  refine open_C k50 z50 _ Try.underlying43 (by kernel_rfl) (fun fuel cs x hx hl => ?_) h
  obtain ⟨a0, e0, w0⟩ := int_field Try.underlying50 hx 0 _ .i64 rfl rfl (by kernel_rfl) Try.underlying3
  obtain ⟨a1, e1, w1⟩ := int_field Try.underlying50 hx 1 _ .u64 rfl rfl (by kernel_rfl) Try.underlying23
  obtain ⟨a2, e2, w2⟩ := int_field Try.underlying50 hx 2 _ .u64 rfl rfl (by kernel_rfl) Try.underlying23
  have hl3 : cs.length = 3 := hl
  have hcs : cs = [.int .i64 a0, .int .u64 a1, .int .u64 a2] := by
    match cs, hl3, e0, e1, e2 with
    | [x0, x1, x2], _, e0, e1, e2 =>
      have h0 : x0 = _ := Option.some.inj e0
      have h1 : x1 = _ := Option.some.inj e1
      have h2 : x2 = _ := Option.some.inj e2
      rw [h0, h1, h2]
  subst hcs
  exact ⟨⟨a0, a1, a2⟩, k50_mk _ _, w0, w1, w2⟩

set_option maxRecDepth 100000 in
theorem lifted (os : Os) (started : os.Started) (H : Type) (enc : TypeId × Value → H) :
    ReturnsInHanded {} Try.checked os 8 .any (Rows.readsOnceSpec.pre6 enc Try.prog Try.f8 Rows.readsOnceRow.domain false) (Rows.readsOnceSpec.post enc Try.prog Try.f8 false true false false) := by
  refine returnsInHanded_of_change_sized (C := Try.checked) own started (by kernel_rfl) Try.func8
    (ChangeSpec.witness6 (enc := enc) (C := Try.checked) false ⟨#[], #[.slice none 0 0], []⟩ 8 (by kernel_rfl) (by kernel_rfl) (by kernel_rfl) (by kernel_rfl)) ?_
  intro W base args ds gs before hval0 hW hcnd hsz0 _
  have hval : ∀ (j : Nat) t v, Try.f8.params[j]? = some t → args[j]? = some v → Value.okWide Try.prog W .any base t v := hval0
  have hW' := hW
  obtain ⟨p, q, hA0, hV, rfl, hfz, hnd⟩ := hW
  have hA : DataW.TrodAll enc Try.prog W 0 (fun _ => true) true Try.f8.params.toList args.toList ds p := hA0
  rw [Try.params8] at hA hval
  obtain ⟨v0, vs0, d0, ds0, p0, q0, hargs, rfl, rfl, h0, r0⟩ := trodAll_cons hA
  obtain ⟨rfl, rfl, rfl⟩ := trodAll_nil r0
  obtain rfl : args = #[v0] := by cases args; simp_all
  obtain ⟨rfl, rfl⟩ := trodVars_none hV
  obtain ⟨a0, len0, cap0, rfl⟩ := okWide_slice Try.underlying43 (hval 0 43 v0 rfl rfl)
  have k0 := h0
  have lt0 : ∀ x ∈ p0, x.block < W.heap.size := by obtain ⟨m, hm⟩ := k0; exact DataW.trod_lt m _ _ _ hm
  obtain ⟨hlc0, h630, xs0, hxl0, hC0, hU0⟩ : len0 ≤ cap0 ∧ cap0 ≤ 9223372036854775807 ∧ ∃ xs : List S50, xs.length = len0 ∧ Kd.C k50 W a0 len0 xs ∧ ∀ y ∈ xs, (Lit.int .i64 y.f0).wf = true ∧ (Lit.int .u64 y.f1).wf = true ∧ (Lit.int .u64 y.f2).wf = true := by
    obtain ⟨fuel, hf⟩ := h0
    exact open_ops hf
  subst hxl0
  clear hA0 hval0 hsz0
  refine (once_walk a0 cap0 xs0 W hC0 (fun y hy => (hU0 y hy).2.1) (by omega)).mono fun e W' ⟨he, bel⟩ => ?_
  subst he
  exact ⟨_, rfl, _, _, _, [], _, [], hW', trodAll_mk1 (shut_bool Try.underlying4 _), (trodAll_cons_mk (Below.trod laidOut (by kernel_rfl) (of_decide_eq_true (by kernel_rfl)) k0 bel lt0) trodAll_mk0), rfl, bel.frame _, fun h => by cases h⟩

theorem said : Rows.ReadsOnceSaid :=
  OpenClaim.holds_of_wide 8 Try.f8 rfl rfl rfl rfl rfl rfl rfl ⟨rfl, rfl, rfl, rfl, rfl⟩ rfl rfl rfl rfl rfl (by kernel_rfl) Try.func8 (by kernel_rfl)
    (of_decide_eq_true (by kernel_rfl)) (by unfold Func.isWrapper; first | (rw [if_pos (by decide +kernel)]; kernel_rfl) | (rw [if_neg (by decide +kernel)]; exact ⟨rfl, rfl⟩))
    (fun os started H enc _ => lifted os started H enc)
end Go.Proofs.Ytbjbejjieibldaa.ReadsOnceLaw
namespace Go.Proofs.Ytbjbejjieibldaa
theorem reads_once_holds : Rows.ReadsOnceSaid := ReadsOnceLaw.said
#print axioms reads_once_holds
end Go.Proofs.Ytbjbejjieibldaa
