/- ReadsNobody, walked. -/
import Derived.Test.YtbjbejjieibldaaQf
namespace Go.Proofs.Ytbjbejjieibldaa.Qa
open Go.RowKit Go.Proofs.YtbjbejjieibldaaW.PrintWords Go.Proofs.YtbjbejjieibldaaW.PrintLast Go.Proofs.YtbjbejjieibldaaW.PrintMore Go.Proofs.Ytbjbejjieibldaa.Rg
set_option linter.unusedVariables false

/-- The row that is ranged over. -/
structure NB (W0 w : World) (g12 g13 : Nat) : Prop where
  zero : w.heap[g12]? = some QZ
  row : w.heap[g13]? = some (.cells #[.pointer none, .pointer (some ⟨g12, 0, none⟩)] 44 (0, 0))
  below : Below W0.heap.size W0 w
theorem NB.later {W0 w w' : World} {g12 g13 : Nat} (h : NB W0 w g12 g13) (hb : Below w.heap.size w w') : NB W0 w' g12 g13 := ⟨blk_below h.zero hb, blk_below h.row hb, below_then h.below h.below.size hb⟩

set_option maxHeartbeats 4000000 in
set_option maxRecDepth 100000 in
theorem nobody_walk (x y : Int) (w : World) : Calls Try.prog 9 #[.int .u64 x, .int .u64 y] w fun e w' => e = .returned (.bool true) ∧ Below w.heap.size w w' := by
  have hu := Try.underlying94
  go_enter Try.func9, Try.ntmps9
  go_wp2_with (first
    | ((with_reducible refine gate_dst (N := 12) rfl ?_); refine box_event ?hg (N := 12) ?hd (cs := #[.bool false, .int .u64 0, .int .u64 0, .slice none 0 0]) (t := 94) ?hr ?_; (case hd => rfl); (case hg => rfl); (case hr => first | (go_simp; done) | (go_simp; rfl)); intro g12 hg w2 hbox hb; have K2 := Aside0.mk hbox; have B2 := Aside0.mk hb; clear hg hbox hb))
  have HN : Aside0 (NB w (w2.alloc (.cells #[.pointer none, .pointer (some ⟨g12, 0, none⟩)] 44)) g12 w2.heap.size) := ⟨blk_alloc K2.out _, blk_new _ _, B2.out.alloc B2.out.size _⟩
  clear K2 B2
  go_loopw [15] (fun i wr => ∃ k : Nat, k ≤ 2 ∧ i = .int .i64 k ∧ Aside0 (NB w wr g12 w2.heap.size)) (fun i _ => 2 - (intOf i).toNat)
  case atStart => exact ⟨0, by omega, rfl, HN⟩
  case round =>
    clear HN
    obtain ⟨k, hk, rfl, HN⟩ := hrel
    by_cases hlt : k < 2
    · obtain ⟨p, hc, hp⟩ : ∃ p, wr.cell? ⟨w2.heap.size, k, none⟩ = some (.pointer p) ∧ ∀ w', NB w w' g12 w2.heap.size → Nobody w' p := by
        rcases (show k = 0 ∨ k = 1 by omega) with rfl | rfl
        · exact ⟨none, (blk_cell HN.out.row 0).trans rfl, fun _ _ => .inl rfl⟩
        · exact ⟨some ⟨g12, 0, none⟩, (blk_cell HN.out.row 1).trans rfl, fun _ h => .inr ⟨g12, rfl, h.zero⟩⟩
      have HP := Aside0.mk hp
      clear hp
      go_wp2_with (first
        | (go_at_call 38; refine ((HP.out _ HN.out).ask x y).mono ?_; rintro e w' ⟨rfl, rfl⟩)
        | (go_at_call 31; refine ((HP.out _ HN.out).confirm x).mono ?_; rintro e w' ⟨rfl, rfl⟩)
        | (go_at_call 29; refine ((HP.out _ HN.out).begin).mono ?_; rintro e w' ⟨rfl, rfl⟩)
        | (go_at_call 39; refine ((HP.out _ HN.out).round).mono ?_; rintro e w' ⟨rfl, rfl⟩)
        | (go_at_call 35; refine ((HP.out _ HN.out).take x).mono ?_; rintro e w5 ⟨rfl, hb⟩; have HN5 := Aside0.mk (HN.out.later hb); clear hb HN hc)
        | (go_at_call 36; refine ((HP.out _ HN5.out).drop).mono ?_; rintro e w' ⟨rfl, rfl⟩)
        | (go_at_call 40; refine ((HP.out _ HN5.out).len).mono ?_; rintro e w' ⟨rfl, rfl⟩))
      go_roundw
      case rel => exact ⟨k + 1, by omega, by go_num, HN5⟩
      case measure => simp [intOf]; omega
    · go_wp2_with (go_at_call 26; refine (lives_calls _).mono ?_; rintro e w' ⟨rfl, hb⟩; have HB := Aside0.mk (below_then HN.out.below HN.out.below.size hb); clear hb)
      go_ret
      exact ⟨rfl, HB.out⟩
end Go.Proofs.Ytbjbejjieibldaa.Qa
