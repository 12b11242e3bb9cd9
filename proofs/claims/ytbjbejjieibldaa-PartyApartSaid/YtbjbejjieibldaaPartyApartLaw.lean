/- PartyApart returns true for every slice of notices and every two notices, and its arguments read afterwards as they read before. No condition. -/
import Derived.Test.YtbjbejjieibldaaLw
import Derived.Test.YtbjbejjieibldaaPx
namespace Go.Proofs.Ytbjbejjieibldaa.PartyApartLaw
open Go.ChangeShapes Go.WideShapes Go.ChangeAt Go.RowKit Go.Deep Go.Proofs.YtbjbejjieibldaaW.PrintWords
open Go.Proofs.Ytbjbejjieibldaa.Pa Go.Proofs.Ytbjbejjieibldaa.Lw
set_option linter.unusedVariables false

/-- A slice of notices that came in. -/
theorem open_notices {H : Type} {enc : TypeId × Value → H} {w : World} {fuel : Nat} {a : Option Addr} {len cap : Nat} {x : DataW H × List MemPlace} (h : DataW.trod enc Try.prog w 0 (fun _ => true) true fuel 22 [.slice a len cap] = some x) :
    len ≤ 9223372036854775807 ∧ ∃ xs : List S31, C31 w a len xs ∧ ∀ y ∈ xs, U y.f0 := by
  rcases open_slice Try.underlying22 h with ⟨hcs, _⟩ | ⟨ad, l, c, m, n, D, Pl, hcs, _, hl, hm, hmm, _, hel⟩
  · simp only [List.cons.injEq, Value.slice.injEq, and_true] at hcs
    obtain ⟨rfl, rfl, rfl⟩ := hcs
    exact ⟨by omega, [], ⟨rfl, fun h => absurd h (by omega)⟩, by simp⟩
  · simp only [List.cons.injEq, Value.slice.injEq, and_true] at hcs
    obtain ⟨rfl, rfl, rfl⟩ := hcs
    unfold maxLen at hm
    refine ⟨by omega, ?_⟩
    have hmc : len ≤ m := by rw [hmm]; simp; exact hl
    have hone : ∀ i, i < len → ∃ y : S31, (∀ (j : Nat) (u : Value), (cells31 y)[j]? = some u → w.cell? (ad.add (i * 9 + j)) = some u) ∧ U y.f0 := by
      intro i hi
      obtain ⟨cs', hc, ht⟩ := hel i (by omega)
      obtain ⟨_, hcl, hat⟩ := World.cells?_some hc
      have h9 : Try.prog.cellsOf 31 = 9 := by kernel_rfl
      rw [h9] at hat hcl
      obtain ⟨a0, e0, w0⟩ := int_field Try.underlying31 ht 0 _ .u64 rfl rfl (by kernel_rfl) Try.underlying23
      obtain ⟨a1, e1, _⟩ := int_field Try.underlying31 ht 1 _ .u64 rfl rfl (by kernel_rfl) Try.underlying23
      obtain ⟨a2, e2, _⟩ := int_field Try.underlying31 ht 2 _ .i64 rfl rfl (by kernel_rfl) Try.underlying3
      obtain ⟨a3, e3, _⟩ := int_field Try.underlying31 ht 3 _ .i64 rfl rfl (by kernel_rfl) Try.underlying3
      obtain ⟨a4, e4, _⟩ := int_field Try.underlying31 ht 4 _ .i64 rfl rfl (by kernel_rfl) Try.underlying3
      obtain ⟨a5, e5, _⟩ := int_field Try.underlying31 ht 5 _ .i64 rfl rfl (by kernel_rfl) Try.underlying3
      obtain ⟨a6, e6, _⟩ := int_field Try.underlying31 ht 6 _ .i64 rfl rfl (by kernel_rfl) Try.underlying3
      obtain ⟨a7, e7, _⟩ := int_field Try.underlying31 ht 7 _ .i64 rfl rfl (by kernel_rfl) Try.underlying2
      obtain ⟨a8, e8, _⟩ := int_field Try.underlying31 ht 8 _ .i64 rfl rfl (by kernel_rfl) Try.underlying2
      refine ⟨⟨a0, a1, a2, a3, a4, a5, a6, a7, a8⟩, fun j u hu => ?_, w0⟩
      have hj : j < 9 := by
        have := (List.getElem?_eq_some_iff.1 hu).1
        simpa [cells31] using this
      have hx := hat j hj
      rw [Go.Deep.add_add] at hx
      rw [hx]
      match j, hj, hu with
      | 0, _, hu => exact e0.trans hu
      | 1, _, hu => exact e1.trans hu
      | 2, _, hu => exact e2.trans hu
      | 3, _, hu => exact e3.trans hu
      | 4, _, hu => exact e4.trans hu
      | 5, _, hu => exact e5.trans hu
      | 6, _, hu => exact e6.trans hu
      | 7, _, hu => exact e7.trans hu
      | 8, _, hu => exact e8.trans hu
    obtain ⟨V, hV⟩ : ∃ V : Nat → S31, ∀ i, i < len → (∀ (j : Nat) (u : Value), (cells31 (V i))[j]? = some u → w.cell? (ad.add (i * 9 + j)) = some u) ∧ U (V i).f0 := by
      refine ⟨fun i => if hi : i < len then Classical.choose (hone i hi) else z31, fun i hi => ?_⟩
      simp only [hi, dif_pos]
      exact Classical.choose_spec (hone i hi)
    refine ⟨(List.range len).map V, ⟨by simp, fun _ => ⟨ad, rfl, fun i hi j u hu => ?_⟩⟩, fun y hy => ?_⟩
    · have e : ((List.range len).map V).getD i z31 = V i := by simp [List.getD_eq_getElem?_getD, hi]
      rw [e] at hu
      exact (hV i hi).1 j u hu
    · obtain ⟨i, hi, rfl⟩ := List.mem_map.1 hy
      exact (hV i (List.mem_range.1 hi)).2

/-- A notice that came in. -/
theorem open_notice {H : Type} {enc : TypeId × Value → H} {w : World} {fuel : Nat} {cs : Array Value} {x : DataW H × List MemPlace} (hs : cs.size = Try.prog.cellsOf 31) (h : DataW.trod enc Try.prog w 0 (fun _ => true) true fuel 31 cs.toList = some x) :
    ∃ N : S31, U N.f0 ∧ cs = #[.int .u64 N.f0, .int .u64 N.f1, .int .i64 N.f2, .int .i64 N.f3, .int .i64 N.f4, .int .i64 N.f5, .int .i64 N.f6, .int .i64 N.f7, .int .i64 N.f8] := by
  have hs9 : cs.size = 9 := hs.trans (by kernel_rfl)
  obtain ⟨a0, e0, w0⟩ := int_field Try.underlying31 h 0 _ .u64 rfl rfl (by kernel_rfl) Try.underlying23
  obtain ⟨a1, e1, _⟩ := int_field Try.underlying31 h 1 _ .u64 rfl rfl (by kernel_rfl) Try.underlying23
  obtain ⟨a2, e2, _⟩ := int_field Try.underlying31 h 2 _ .i64 rfl rfl (by kernel_rfl) Try.underlying3
  obtain ⟨a3, e3, _⟩ := int_field Try.underlying31 h 3 _ .i64 rfl rfl (by kernel_rfl) Try.underlying3
  obtain ⟨a4, e4, _⟩ := int_field Try.underlying31 h 4 _ .i64 rfl rfl (by kernel_rfl) Try.underlying3
  obtain ⟨a5, e5, _⟩ := int_field Try.underlying31 h 5 _ .i64 rfl rfl (by kernel_rfl) Try.underlying3
  obtain ⟨a6, e6, _⟩ := int_field Try.underlying31 h 6 _ .i64 rfl rfl (by kernel_rfl) Try.underlying3
  obtain ⟨a7, e7, _⟩ := int_field Try.underlying31 h 7 _ .i64 rfl rfl (by kernel_rfl) Try.underlying2
  obtain ⟨a8, e8, _⟩ := int_field Try.underlying31 h 8 _ .i64 rfl rfl (by kernel_rfl) Try.underlying2
  refine ⟨⟨a0, a1, a2, a3, a4, a5, a6, a7, a8⟩, w0, ?_⟩
  apply Array.ext_getElem?
  intro j
  by_cases hj : j < 9
  · have ht : cs[j]? = cs.toList[j]? := by simp
    rw [ht]
    match j, hj with
    | 0, _ => exact e0
    | 1, _ => exact e1
    | 2, _ => exact e2
    | 3, _ => exact e3
    | 4, _ => exact e4
    | 5, _ => exact e5
    | 6, _ => exact e6
    | 7, _ => exact e7
    | 8, _ => exact e8
  · rw [Array.getElem?_eq_none (by omega), Array.getElem?_eq_none (by simp; omega)]


set_option maxRecDepth 100000 in
theorem lifted (os : Os) (started : os.Started) (H : Type) (enc : TypeId × Value → H) :
    ReturnsInHanded {} Try.checked os 10 .any (Rows.partyApartSpec.pre6 enc Try.prog Try.f10 Rows.partyApartRow.domain false) (Rows.partyApartSpec.post enc Try.prog Try.f10 false true false false) := by
  refine returnsInHanded_of_change_sized (C := Try.checked) own started (by kernel_rfl) Try.func10
    (ChangeSpec.witness6 (enc := enc) (C := Try.checked) false ⟨#[], #[.slice none 0 0, .agg #[.int .u64 0, .int .u64 0, .int .i64 0, .int .i64 0, .int .i64 0, .int .i64 0, .int .i64 0, .int .i64 0, .int .i64 0], .agg #[.int .u64 0, .int .u64 0, .int .i64 0, .int .i64 0, .int .i64 0, .int .i64 0, .int .i64 0, .int .i64 0, .int .i64 0]], []⟩ 8 (by kernel_rfl) (by kernel_rfl) (by kernel_rfl) (by kernel_rfl)) ?_
  intro W base args ds gs before hval0 hW hcnd hsz0 _
  have hval : ∀ (j : Nat) t v, Try.f10.params[j]? = some t → args[j]? = some v → Value.okWide Try.prog W .any base t v := hval0
  have hW' := hW
  obtain ⟨p, q, hA0, hV, rfl, hfz, hnd⟩ := hW
  have hA : DataW.TrodAll enc Try.prog W 0 (fun _ => true) true Try.f10.params.toList args.toList ds p := hA0
  rw [Try.params10] at hA hval
  obtain ⟨v0, vs0, d0, ds0, p0, q0, hargs, rfl, rfl, h0, r0⟩ := trodAll_cons hA
  obtain ⟨v1, vs1, d1, ds1, p1, q1, rfl, rfl, rfl, h1, r1⟩ := trodAll_cons r0
  obtain ⟨v2, vs2, d2, ds2, p2, q2, rfl, rfl, rfl, h2, r2⟩ := trodAll_cons r1
  obtain ⟨rfl, rfl, rfl⟩ := trodAll_nil r2
  obtain rfl : args = #[v0, v1, v2] := by cases args; simp_all
  obtain ⟨rfl, rfl⟩ := trodVars_none hV
  obtain ⟨a0, len0, cap0, rfl⟩ := okWide_slice Try.underlying22 (hval 0 22 v0 rfl rfl)
  have k0 := h0
  have lt0 : ∀ x ∈ p0, x.block < W.heap.size := by obtain ⟨m, hm⟩ := k0; exact DataW.trod_lt m _ _ _ hm
  obtain ⟨h63, xs, hC, hU⟩ : len0 ≤ 9223372036854775807 ∧ ∃ xs : List S31, C31 W a0 len0 xs ∧ ∀ y ∈ xs, U y.f0 := by
    obtain ⟨fuel, hf⟩ := h0
    exact open_notices hf
  obtain ⟨cs1, rfl, hs1⟩ := okWide_struct Try.underlying31 (hval 1 31 v1 rfl rfl)
  have k1 := h1
  have lt1 : ∀ x ∈ p1, x.block < W.heap.size := by obtain ⟨m, hm⟩ := k1; exact DataW.trod_lt m _ _ _ hm
  obtain ⟨N, hN, e1⟩ := (by
    obtain ⟨fuel, hf⟩ := h1
    exact open_notice hs1 hf : ∃ N : S31, U N.f0 ∧ cs1 = #[.int .u64 N.f0, .int .u64 N.f1, .int .i64 N.f2, .int .i64 N.f3, .int .i64 N.f4, .int .i64 N.f5, .int .i64 N.f6, .int .i64 N.f7, .int .i64 N.f8])
  subst e1
  obtain ⟨cs2, rfl, hs2⟩ := okWide_struct Try.underlying31 (hval 2 31 v2 rfl rfl)
  have k2 := h2
  have lt2 : ∀ x ∈ p2, x.block < W.heap.size := by obtain ⟨m, hm⟩ := k2; exact DataW.trod_lt m _ _ _ hm
  obtain ⟨M, hM, e2⟩ := (by
    obtain ⟨fuel, hf⟩ := h2
    exact open_notice hs2 hf : ∃ N : S31, U N.f0 ∧ cs2 = #[.int .u64 N.f0, .int .u64 N.f1, .int .i64 N.f2, .int .i64 N.f3, .int .i64 N.f4, .int .i64 N.f5, .int .i64 N.f6, .int .i64 N.f7, .int .i64 N.f8])
  subst e2
  clear hA0 hval0 hsz0
  refine (apart_walk a0 len0 cap0 xs N M W hC hU hN hM h63).mono fun e W' ⟨he, bel⟩ => ?_
  subst he
  exact ⟨_, rfl, _, _, _, [], _, [], hW', trodAll_mk1 (shut_bool Try.underlying4 _), (trodAll_cons_mk (Below.trod laidOut (by kernel_rfl) (of_decide_eq_true (by kernel_rfl)) k0 bel lt0) (trodAll_cons_mk (Below.trod laidOut (by kernel_rfl) (of_decide_eq_true (by kernel_rfl)) k1 bel lt1) (trodAll_cons_mk (Below.trod laidOut (by kernel_rfl) (of_decide_eq_true (by kernel_rfl)) k2 bel lt2) trodAll_mk0))), rfl, bel.frame _, fun h => by cases h⟩

theorem said : Rows.PartyApartSaid :=
  OpenClaim.holds_of_wide 10 Try.f10 rfl rfl rfl rfl rfl rfl rfl ⟨rfl, rfl, rfl, rfl, rfl⟩ rfl rfl rfl rfl rfl (by kernel_rfl) Try.func10 (by kernel_rfl)
    (of_decide_eq_true (by kernel_rfl)) (by unfold Func.isWrapper; first | (rw [if_pos (by decide +kernel)]; kernel_rfl) | (rw [if_neg (by decide +kernel)]; exact ⟨rfl, rfl⟩))
    (fun os started H enc _ => lifted os started H enc)
end Go.Proofs.Ytbjbejjieibldaa.PartyApartLaw
namespace Go.Proofs.Ytbjbejjieibldaa
theorem party_apart_holds : Rows.PartyApartSaid := PartyApartLaw.said
#print axioms party_apart_holds
end Go.Proofs.Ytbjbejjieibldaa
