/- WeekCounts returns true for every slice of spans and every three numbers, and its arguments read afterwards as they read before. No condition. -/
import Derived.Test.YtbjbejjieibldaaLw
import Derived.Test.YtbjbejjieibldaaVq
namespace Go.Proofs.Ytbjbejjieibldaa.WeekCountsLaw
open Go.ChangeShapes Go.WideShapes Go.ChangeAt Go.RowKit Go.Deep Go.Proofs.YtbjbejjieibldaaW.PrintWords
open Go.Proofs.Ytbjbejjieibldaa.Va Go.Proofs.Ytbjbejjieibldaa.Lw Go.Proofs.Ytbjbejjieibldaa.PWeekCounts
set_option linter.unusedVariables false

/-- A slice of spans that came in. -/
theorem open_spans {H : Type} {enc : TypeId × Value → H} {w : World} {fuel : Nat} {a : Option Addr} {len cap : Nat} {x : DataW H × List MemPlace} (h : DataW.trod enc Try.prog w 0 (fun _ => true) true fuel 69 [.slice a len cap] = some x) :
    len ≤ cap ∧ cap ≤ 9223372036854775807 ∧ ∃ xs : List Sp, xs.length = len ∧ Kd.C k151 w a len xs ∧ ∀ y ∈ xs, True := by
  refine open_C k151 z151 _ Try.underlying69 (by kernel_rfl) (fun fuel cs x hx hl => ?_) h
  obtain ⟨a0, e0, w0⟩ := int_field Try.underlying151 hx 0 _ .i64 rfl rfl (by kernel_rfl) Try.underlying2
  obtain ⟨a1, e1, w1⟩ := int_field Try.underlying151 hx 1 _ .i64 rfl rfl (by kernel_rfl) Try.underlying2
  have hl2 : cs.length = 2 := hl
  have hcs : cs = [.int .i64 a0, .int .i64 a1] := by
    match cs, hl2, e0, e1 with
    | [x0, x1], _, e0, e1 =>
      have h0 : x0 = _ := Option.some.inj e0
      have h1 : x1 = _ := Option.some.inj e1
      rw [h0, h1]
  subst hcs
  exact ⟨⟨a0, a1⟩, k151_mk _ _, trivial⟩

set_option maxRecDepth 100000 in
theorem lifted (os : Os) (started : os.Started) (H : Type) (enc : TypeId × Value → H) :
    ReturnsInHanded {} Try.checked os 15 .any (Rows.weekCountsSpec.pre6 enc Try.prog Try.f15 Rows.weekCountsRow.domain false) (Rows.weekCountsSpec.post enc Try.prog Try.f15 false true false false) := by
  refine returnsInHanded_of_change_sized (C := Try.checked) own started (by kernel_rfl) Try.func15
    (ChangeSpec.witness6 (enc := enc) (C := Try.checked) false ⟨#[], #[.slice none 0 0, .int .i64 0, .int .i64 0, .int .i64 0], []⟩ 8 (by kernel_rfl) (by kernel_rfl) (by kernel_rfl) (by kernel_rfl)) ?_
  intro W base args ds gs before hval0 hW hcnd hsz0 _
  have hval : ∀ (j : Nat) t v, Try.f15.params[j]? = some t → args[j]? = some v → Value.okWide Try.prog W .any base t v := hval0
  have hW' := hW
  obtain ⟨p, q, hA0, hV, rfl, hfz, hnd⟩ := hW
  have hA : DataW.TrodAll enc Try.prog W 0 (fun _ => true) true Try.f15.params.toList args.toList ds p := hA0
  rw [Try.params15] at hA hval
  obtain ⟨v0, vs0, d0, ds0, p0, q0, hargs, rfl, rfl, h0, r0⟩ := trodAll_cons hA
  obtain ⟨v1, vs1, d1, ds1, p1, q1, rfl, rfl, rfl, h1, r1⟩ := trodAll_cons r0
  obtain ⟨v2, vs2, d2, ds2, p2, q2, rfl, rfl, rfl, h2, r2⟩ := trodAll_cons r1
  obtain ⟨v3, vs3, d3, ds3, p3, q3, rfl, rfl, rfl, h3, r3⟩ := trodAll_cons r2
  obtain ⟨rfl, rfl, rfl⟩ := trodAll_nil r3
  obtain rfl : args = #[v0, v1, v2, v3] := by cases args; simp_all
  obtain ⟨rfl, rfl⟩ := trodVars_none hV
  obtain ⟨a0, len0, cap0, rfl⟩ := okWide_slice Try.underlying69 (hval 0 69 v0 rfl rfl)
  have k0 := h0
  have lt0 : ∀ x ∈ p0, x.block < W.heap.size := by obtain ⟨m, hm⟩ := k0; exact DataW.trod_lt m _ _ _ hm
  obtain ⟨hlc0, h630, xs0, hxl0, hC0, hU0⟩ : len0 ≤ cap0 ∧ cap0 ≤ 9223372036854775807 ∧ ∃ xs : List Sp, xs.length = len0 ∧ Kd.C k151 W a0 len0 xs ∧ ∀ y ∈ xs, True := by
    obtain ⟨fuel, hf⟩ := h0
    exact open_spans hf
  subst hxl0
  obtain ⟨x, rfl, rfl, rfl, w1⟩ := open_int Try.underlying2 (hval 1 2 v1 rfl rfl) h1
  obtain ⟨y, rfl, rfl, rfl, w2⟩ := open_int Try.underlying2 (hval 2 2 v2 rfl rfl) h2
  obtain ⟨n, rfl, rfl, rfl, w3⟩ := open_int Try.underlying2 (hval 3 2 v3 rfl rfl) h3
  clear hA0 hval0 hsz0
  refine (weekcounts_walk a0 cap0 xs0 x y n W hC0 hlc0 (by have h := w3; simp only [Lit.wf, Bool.and_eq_true, decide_eq_true_eq] at h; exact h.2)).mono fun e W' ⟨he, bel⟩ => ?_
  subst he
  exact ⟨_, rfl, _, _, _, [], _, [], hW', trodAll_mk1 (shut_bool Try.underlying4 _), (trodAll_cons_mk (Below.trod laidOut (by kernel_rfl) (of_decide_eq_true (by kernel_rfl)) k0 bel lt0) (trodAll_cons_mk (shut_int Try.underlying2 w1) (trodAll_cons_mk (shut_int Try.underlying2 w2) (trodAll_cons_mk (shut_int Try.underlying2 w3) trodAll_mk0)))), rfl, bel.frame _, fun h => by cases h⟩

theorem said : Rows.WeekCountsSaid :=
  OpenClaim.holds_of_wide 15 Try.f15 rfl rfl rfl rfl rfl rfl rfl ⟨rfl, rfl, rfl, rfl, rfl⟩ rfl rfl rfl rfl rfl (by kernel_rfl) Try.func15 (by kernel_rfl)
    (of_decide_eq_true (by kernel_rfl)) (by unfold Func.isWrapper; first | (rw [if_pos (by decide +kernel)]; kernel_rfl) | (rw [if_neg (by decide +kernel)]; exact ⟨rfl, rfl⟩))
    (fun os started H enc _ => lifted os started H enc)
end Go.Proofs.Ytbjbejjieibldaa.WeekCountsLaw
namespace Go.Proofs.Ytbjbejjieibldaa
theorem week_counts_holds : Rows.WeekCountsSaid := WeekCountsLaw.said
#print axioms week_counts_holds
end Go.Proofs.Ytbjbejjieibldaa
