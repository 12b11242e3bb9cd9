/- Ask: what it answers, and the queue behind it. -/
import Derived.Test.YtbjbejjieibldaaQc
namespace Go.Proofs.Ytbjbejjieibldaa.Qa
open Go.RowKit Go.Proofs.YtbjbejjieibldaaW.PrintWords Go.Proofs.YtbjbejjieibldaaW.PrintLast Go.Proofs.YtbjbejjieibldaaW.PrintMore Go.Proofs.Ytbjbejjieibldaa.Rg
open Go.Proofs.Ytbjbejjieibldaa.PReadsPlays (S91 z91 k91 k91_open k91_openM k91_mk k91_mkM rd_T91 at_T91 S147 z147 k147 k147_mkM rd_T147 at_T147 info147)
set_option linter.unusedVariables false

/-- What Ask tells: rounds begun, what waits, the round, the error. -/
def askBegun (begun : Int) (l : List S91) : Int := if 32 ≤ l.length then begun else if BIG ≤ begun then begun else begun + 1
def askList (begun : Int) (l : List S91) (id index : Int) : List S91 := if 32 ≤ l.length then l else if BIG ≤ begun then l else l ++ [⟨id, index, begun + 1⟩]
def askRound (begun : Int) (l : List S91) : Int := if 32 ≤ l.length then 0 else if BIG ≤ begun then 0 else begun + 1
def askErr (begun : Int) (l : List S91) : Int := if 32 ≤ l.length then 30 else if BIG ≤ begun then 10 else 0

section
variable {W0 w : World} {ok : Nat → Prop} {qb : Nat} {begun sure : Int} {l : List S91} {v : Value}
set_option maxHeartbeats 1000000 in
set_option maxRecDepth 100000 in
theorem IsQ.ask (h : IsQ w W0.heap.size ok qb begun sure l v) (hB : Below W0.heap.size W0 w) (id index : Int) :
    Calls Try.prog 38 #[.pointer (some ⟨qb, 0, none⟩), .int .u64 id, .int .u64 index] w fun e w' => ∃ v', e = .returned (.tuple #[.int .u64 (askRound begun l), .int .i64 (askErr begun l)]) ∧
      IsQ w' W0.heap.size (fun k => ok k ∨ w.heap.size ≤ k) qb (askBegun begun l) sure (askList begun l id index) v' ∧ Below W0.heap.size W0 w' ∧ Kept w w' (fun k => k = qb) := by
  obtain ⟨A, c, hv, hlc, hC⟩ := h.slice
  subst hv
  have H := Aside0.mk h
  have HB := Aside0.mk hB
  have c1 : w.cell? ⟨qb, 1, none⟩ = some (.int .u64 begun) := blk_cell h.cell 1
  have c3 : w.cell? ⟨qb, 3, none⟩ = some (.slice A l.length c) := blk_cell h.cell 3
  have hl32 := h.len
  have hnil := C_none hC
  clear hC
  by_cases hfull : 32 ≤ l.length
  · have e1 : askBegun begun l = begun := by unfold askBegun; rw [if_pos hfull]
    have e2 : askList begun l id index = l := by unfold askList; rw [if_pos hfull]
    have e3 : askRound begun l = 0 := by unfold askRound; rw [if_pos hfull]
    have e4 : askErr begun l = 30 := by unfold askErr; rw [if_pos hfull]
    rw [e1, e2, e3, e4]
    have d1 : decide (32 ≤ (l.length : Int)) = true := by simp; omega
    clear h hB hnil
    go_enter Try.func38, Try.ntmps38
    go_wp2_with (go_at_call 77; refine (none_some qb begun sure _ _ H.out.cell).mono ?_; rintro e w' ⟨rfl, rfl⟩)
    go_ret2
    exact ⟨_, rfl, H.out.mono (fun k hk => .inl hk), HB.out, Kept.refl _ _⟩
  · have d1 : decide (32 ≤ (l.length : Int)) = false := by simp; omega
    by_cases hbig : BIG ≤ begun
    · have e1 : askBegun begun l = begun := by unfold askBegun; rw [if_neg hfull, if_pos hbig]
      have e2 : askList begun l id index = l := by unfold askList; rw [if_neg hfull, if_pos hbig]
      have e3 : askRound begun l = 0 := by unfold askRound; rw [if_neg hfull, if_pos hbig]
      have e4 : askErr begun l = 10 := by unfold askErr; rw [if_neg hfull, if_pos hbig]
      rw [e1, e2, e3, e4]
      have d2 : decide (1152921504606846976 ≤ begun) = true := by simpa using hbig
      clear h hB hnil
      go_enter Try.func38, Try.ntmps38
      go_wp2_with (go_at_call 77; refine (none_some qb begun sure _ _ H.out.cell).mono ?_; rintro e w' ⟨rfl, rfl⟩)
      go_ret2
      exact ⟨_, rfl, H.out.mono (fun k hk => .inl hk), HB.out, Kept.refl _ _⟩
    · have e1 : askBegun begun l = begun + 1 := by unfold askBegun; rw [if_neg hfull, if_neg hbig]
      have e2 : askList begun l id index = l ++ [⟨id, index, begun + 1⟩] := by unfold askList; rw [if_neg hfull, if_neg hbig]
      have e3 : askRound begun l = begun + 1 := by unfold askRound; rw [if_neg hfull, if_neg hbig]
      have e4 : askErr begun l = 0 := by unfold askErr; rw [if_neg hfull, if_neg hbig]
      rw [e1, e2, e3, e4]
      have d2 : decide (1152921504606846976 ≤ begun) = false := by simpa using hbig
      have HN := Aside0.mk hnil
      clear h hB hnil
      go_enter Try.func38, Try.ntmps38
      go_wp2_with (go_at_call 77; refine (none_some qb begun sure _ _ H.out.cell).mono ?_; rintro e w' ⟨rfl, rfl⟩)
      refine r38x8 qb begun sure id index A c l W0.heap.size ok w HB.out.size (blk_lt H.out.cell) H.out.mine.1 H.out.b0 (by omega) hl32 hlc HN.out rfl rfl rfl rfl rfl ⟨Kept.refl _ _, fun _ => ⟨_, H.out.cell⟩, fun _ _ => H.out.cell, H.out.row, below_drew (Below.refl _ _)⟩ (fun x41 x43 x44 x17 w2 b hb hG f41 f43 f44 f17 => ?_)
      have HG := Aside0.mk hG
      obtain ⟨g1, g2⟩ := f17
      have HF := Aside0.mk g2
      have HC := Aside0.mk g1
      have c1' := (blk_cell g1 1).trans rfl
      clear hG g1 g2 f41 f43 f44 hb
      simp only [putAll, Act.put, List.setIfInBounds_toArray, List.set_cons_zero, List.set_cons_succ]
      go_wp2
      go_ret2
      exact ⟨_, rfl, ⟨HC.out, ⟨H.out.mine.1, .inl H.out.mine.2⟩, Kd.R_mono HF.out (fun k hk => ⟨.inr hk, fun e => by have hk : w.heap.size ≤ k := hk; have := blk_lt H.out.cell; omega⟩), by have := H.out.b0; omega, by omega, H.out.s0, by have := H.out.s1; omega, by simp; omega⟩, HB.out.trans HG.out.2.2.2.2, HG.out.1⟩
end
end Go.Proofs.Ytbjbejjieibldaa.Qa
