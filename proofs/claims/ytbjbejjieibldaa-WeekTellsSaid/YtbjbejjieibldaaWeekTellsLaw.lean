/- WeekTells returns true for every slice of spans and every number, and its arguments read afterwards as they read before. No condition. -/
import Derived.Test.YtbjbejjieibldaaLw
import Derived.Test.YtbjbejjieibldaaVs
namespace Go.Proofs.Ytbjbejjieibldaa.WeekTellsLaw
open Go.ChangeShapes Go.WideShapes Go.ChangeAt Go.RowKit Go.Deep Go.Proofs.YtbjbejjieibldaaW.PrintWords
open Go.Proofs.Ytbjbejjieibldaa.Va Go.Proofs.Ytbjbejjieibldaa.Lw Go.Proofs.Ytbjbejjieibldaa.PWeekCounts
set_option linter.unusedVariables false

/-- A slice of spans that came in. -/
theorem open_spans {H : Type} {enc : TypeId × Value → H} {w : World} {fuel : Nat} {a : Option Addr} {len cap : Nat} {x : DataW H × List MemPlace} (h : DataW.trod enc Try.prog w 0 (fun _ => true) true fuel 69 [.slice a len cap] = some x) :
    len ≤ cap ∧ cap ≤ 9223372036854775807 ∧ ∃ xs : List Sp, xs.length = len ∧ Kd.C k151 w a len xs ∧ ∀ y ∈ xs, True := by
  refine open_C k151 z151 _ Try.underlying69 (by kernel_rfl) (fun fuel cs x hx hl => ?_) h
  obtain ⟨a0, e0, w0⟩ := int_field Try.underlying151 hx 0 _ .i64 rfl rfl (by kernel_rfl) Try.underlying2
  obtain ⟨a1, e1, w1⟩ := int_field Try.underlying151 hx 1 _ .i64 rfl rfl (by kernel_rfl) Try.underlying2
  have hl2 : cs.length = 2 := hl
  have hcs : cs = [.int .i64 a0, .int .i64 a1] := by
    match cs, hl2, e0, e1 with
    | [x0, x1], _, e0, e1 =>
      have h0 : x0 = _ := Option.some.inj e0
      have h1 : x1 = _ := Option.some.inj e1
      rw [h0, h1]
  subst hcs
  exact ⟨⟨a0, a1⟩, k151_mk _ _, trivial⟩

set_option maxRecDepth 100000 in
theorem lifted (os : Os) (started : os.Started) (H : Type) (enc : TypeId × Value → H) :
    ReturnsInHanded {} Try.checked os 6 .any (Rows.weekTellsSpec.pre6 enc Try.prog Try.f6 Rows.weekTellsRow.domain false) (Rows.weekTellsSpec.post enc Try.prog Try.f6 false true false false) := by
  refine returnsInHanded_of_change_sized (C := Try.checked) own started (by kernel_rfl) Try.func6
    (ChangeSpec.witness6 (enc := enc) (C := Try.checked) false ⟨#[], #[.slice none 0 0, .int .i64 0], []⟩ 8 (by kernel_rfl) (by kernel_rfl) (by kernel_rfl) (by kernel_rfl)) ?_
  intro W base args ds gs before hval0 hW hcnd hsz0 _
  have hval : ∀ (j : Nat) t v, Try.f6.params[j]? = some t → args[j]? = some v → Value.okWide Try.prog W .any base t v := hval0
  have hW' := hW
  obtain ⟨p, q, hA0, hV, rfl, hfz, hnd⟩ := hW
  have hA : DataW.TrodAll enc Try.prog W 0 (fun _ => true) true Try.f6.params.toList args.toList ds p := hA0
  rw [Try.params6] at hA hval
  obtain ⟨v0, vs0, d0, ds0, p0, q0, hargs, rfl, rfl, h0, r0⟩ := trodAll_cons hA
  obtain ⟨v1, vs1, d1, ds1, p1, q1, rfl, rfl, rfl, h1, r1⟩ := trodAll_cons r0
  obtain ⟨rfl, rfl, rfl⟩ := trodAll_nil r1
  obtain rfl : args = #[v0, v1] := by cases args; simp_all
  obtain ⟨rfl, rfl⟩ := trodVars_none hV
  obtain ⟨a0, len0, cap0, rfl⟩ := okWide_slice Try.underlying69 (hval 0 69 v0 rfl rfl)
  have k0 := h0
  have lt0 : ∀ x ∈ p0, x.block < W.heap.size := by obtain ⟨m, hm⟩ := k0; exact DataW.trod_lt m _ _ _ hm
  obtain ⟨hlc0, h630, xs0, hxl0, hC0, hU0⟩ : len0 ≤ cap0 ∧ cap0 ≤ 9223372036854775807 ∧ ∃ xs : List Sp, xs.length = len0 ∧ Kd.C k151 W a0 len0 xs ∧ ∀ y ∈ xs, True := by
    obtain ⟨fuel, hf⟩ := h0
    exact open_spans hf
  subst hxl0
  obtain ⟨t, rfl, rfl, rfl, w1⟩ := open_int Try.underlying2 (hval 1 2 v1 rfl rfl) h1
  clear hA0 hval0 hsz0
  refine (weektells_walk a0 cap0 xs0 t W hC0 hlc0).mono fun e W' ⟨he, bel⟩ => ?_
  subst he
  exact ⟨_, rfl, _, _, _, [], _, [], hW', trodAll_mk1 (shut_bool Try.underlying4 _), (trodAll_cons_mk (Below.trod laidOut (by kernel_rfl) (of_decide_eq_true (by kernel_rfl)) k0 bel lt0) (trodAll_cons_mk (shut_int Try.underlying2 w1) trodAll_mk0)), rfl, bel.frame _, fun h => by cases h⟩

theorem said : Rows.WeekTellsSaid :=
  OpenClaim.holds_of_wide 6 Try.f6 rfl rfl rfl rfl rfl rfl rfl ⟨rfl, rfl, rfl, rfl, rfl⟩ rfl rfl rfl rfl rfl (by kernel_rfl) Try.func6 (by kernel_rfl)
    (of_decide_eq_true (by kernel_rfl)) (by unfold Func.isWrapper; first | (rw [if_pos (by decide +kernel)]; kernel_rfl) | (rw [if_neg (by decide +kernel)]; exact ⟨rfl, rfl⟩))
    (fun os started H enc _ => lifted os started H enc)
end Go.Proofs.Ytbjbejjieibldaa.WeekTellsLaw
namespace Go.Proofs.Ytbjbejjieibldaa
theorem week_tells_holds : Rows.WeekTellsSaid := WeekTellsLaw.said
#print axioms week_tells_holds
end Go.Proofs.Ytbjbejjieibldaa
