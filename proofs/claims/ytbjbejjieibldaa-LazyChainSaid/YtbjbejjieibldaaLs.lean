/- LazySizes, walked. -/
import Derived.Test.YtbjbejjieibldaaLh
namespace Go.Proofs.Ytbjbejjieibldaa.La
open Go.RowKit Go.Proofs.YtbjbejjieibldaaW.PrintWords Go.Proofs.YtbjbejjieibldaaW.PrintLast Go.Proofs.YtbjbejjieibldaaW.PrintMore Go.Proofs.Ytbjbejjieibldaa.Rg
open Go.Proofs.Ytbjbejjieibldaa
set_option linter.unusedVariables false

section
variable {w : World} {lo tb g5 g3 : Nat} {fv : Value} {cbs : List Nat} {A : Option Addr} {c : Nat} {made : Int} {st : Nat → Option Nat} {val : Nat → Int}
theorem TB.apart (h : TB w lo tb g5 g3 fv cbs A c made st val) : tb ≠ g5 ∧ tb ≠ g3 ∧ g5 ≠ g3 ∧ ∀ k, k < cbs.length → cbs.getD k 0 ≠ tb ∧ cbs.getD k 0 ≠ g5 ∧ cbs.getD k 0 ≠ g3 := by
  refine ⟨fun e => ?_, fun e => ?_, fun e => ?_, fun k hk => ?_⟩
  · have := h.tab; rw [e, h.v5] at this; cases this
  · have := h.tab; rw [e, h.v3] at this; cases this
  · have := h.v5; rw [e, h.v3] at this; cases this
  · have hc := (h.cell k hk).lt.2
    exact ⟨fun e => hc _ 162 (by decide) (e ▸ h.tab), fun e => hc _ 127 (by decide) (e ▸ h.v5), fun e => hc _ 134 (by decide) (e ▸ h.v3)⟩
/-- A row of a table without a function, asked for the first time. -/
theorem row_nil {W0 : World} (h : TB w lo tb g5 g3 .nilFunc cbs A c made st val) (hB : Below W0.heap.size W0 w) (hlo : W0.heap.size ≤ lo) (hm : 0 ≤ made ∧ made < 1000000) (i : Nat) (hi : i < cbs.length) (hst : st i = none) :
    Calls Try.prog 58 #[PB (cbs.getD i 0)] w fun e w' => e = .returned (.int .i64 0) ∧ (w'.heap[tb]? = some (.cells #[.slice A cbs.length c, .int .i64 (made + 1)] 162 (0, 0)) ∧ Below W0.heap.size W0 w') := by
  obtain ⟨a1, a2, a3, a4⟩ := h.apart
  obtain ⟨b1, b2, b3⟩ := a4 i hi
  have hc := h.cell i hi
  rw [hst] at hc
  obtain ⟨g6, h60, hcc, h6⟩ := hc
  have l1 := h.los.1
  have l2 := h.los.2.2.2 i hi
  generalize cbs.getD i 0 = cb at b1 b2 b3 hcc l2
  refine (getIn100 cb 0 ⟨g5, 0, none⟩ ⟨g3, 0, none⟩ ⟨g6, 0, none⟩ 0 (fun w2 v => v = .int .i64 0 ∧ w2.heap[tb]? = some (.cells #[.slice A cbs.length c, .int .i64 (made + 1)] 162 (0, 0)) ∧ Below W0.heap.size W0 w2) w hcc (by omega) (fun w1 ho hc1 => ?_) (fun w2 v hq => ⟨0, hq.1⟩)).mono ?_
  · refine (rowfn_nil tb g5 g3 g6 A cbs.length c made w1 (blk_kept h.tab ho.1 (fun e => b1 e.symm)) (blk_kept h.v5 ho.1 (fun e => b2 e.symm)) (blk_kept h.v3 ho.1 (fun e => b3 e.symm)) hm a2).mono ?_
    rintro e w2 ⟨rfl, h1, h2⟩
    exact ⟨0, rfl, blk_kept hc1 h2.1 b1, rfl, h1, h2.2 _ _ (by omega) (ho.2 _ _ (by omega) hB)⟩
  · rintro e w' ⟨v, w2, rfl, ⟨rfl, h1, h2⟩, h3, h4⟩
    exact ⟨rfl, blk_kept h1 h4.1 (fun e => b1 e.symm), h4.2 _ _ (by omega) h2⟩
end

set_option maxHeartbeats 4000000 in
set_option maxRecDepth 100000 in
theorem sizes_walk (n i : Int) (w : World) : Calls Try.prog 13 #[.int .i64 n, .int .i64 i] w fun e w' => e = .returned (.bool true) ∧ Below w.heap.size w w' := by
  by_cases hskip : 1000 < n ∧ n ≤ 65536
  · have d1 : decide (1000 < n) = true := by simpa using hskip.1
    have d2 : decide (n ≤ 65536) = true := by simpa using hskip.2
    clear hskip
    go_enter Try.func13, Try.ntmps13
    go_wp2_with (go_at_call 55; refine (lives_calls _).mono ?_; rintro e w' ⟨rfl, hb⟩; have HB := Aside0.mk hb; clear hb)
    go_ret
    exact ⟨rfl, HB.out⟩
  · have hN : rowsOf n ≤ 1000 := by unfold rowsOf; split <;> omega
    have hT := rows_nil n (fun _ => 0) w
    have HT := Aside0.mk hT
    clear hT
    have key : ∀ want : Int, want = (rowsOf n : Int) → ∀ (tb g5 g3 : Nat) (cbs : List Nat) (A : Option Addr) (c : Nat) (w1 : World), TB w1 w.heap.size tb g5 g3 .nilFunc cbs A c 0 (fun _ => none) (fun _ => 0) → cbs.length = rowsOf n → Below w.heap.size w w1 →
        ∃ b : Bool, b = (decide (0 ≤ i) && decide (i < want)) ∧ Calls Try.prog 60 #[PB tb, .int .i64 i] w1 fun e w' => e = .returned (.tuple #[.int .i64 0, .bool b]) ∧ ((∃ m, w'.heap[tb]? = some (.cells #[.slice A cbs.length c, .int .i64 m] 162 (0, 0))) ∧ Below w.heap.size w w') := by
      intro want hw tb g5 g3 cbs A c w1 hTB hl hB
      by_cases hin : 0 ≤ i ∧ i < want
      · obtain ⟨j, rfl⟩ : ∃ j : Nat, i = j := ⟨i.toNat, by omega⟩
        refine ⟨true, by simp; omega, ?_⟩
        refine at_in tb A cbs c 0 j 0 _ w1 hTB.tab (Kd.R_reads' hTB.row).2.2 (by omega) (by omega) ?_
        refine (row_nil hTB hB (Nat.le_refl _) (by omega) j (by omega) rfl).mono ?_
        rintro e w' ⟨rfl, h1, h2⟩
        exact ⟨rfl, ⟨_, h1⟩, h2⟩
      · refine ⟨false, by simp; omega, ?_⟩
        refine (at_out tb A cbs.length c 0 i w1 hTB.tab (by omega)).mono ?_
        rintro e w' ⟨rfl, rfl⟩
        exact ⟨rfl, ⟨_, hTB.tab⟩, hB⟩
    have HK := Aside0.mk key
    clear key
    by_cases h0 : n < 0
    · have d1 : decide (1000 < n) = false := by simp; omega
      have d3 : decide (n < 0) = true := by simpa using h0
      have e0 : (rowsOf n : Int) = 0 := by unfold rowsOf; rw [if_pos (.inl h0)]; rfl
      clear hskip
      by_cases hi0 : 0 ≤ i
      · have d5 : decide (0 ≤ i) = true := by simpa using hi0
        by_cases hi1 : i < 0
        · have d6 : decide (i < 0) = true := by simpa using hi1
          go_enter Try.func13, Try.ntmps13
          go_wp2_with (first
            | (go_at_call 67; refine (HT.out).mono ?_; rintro e w1 ⟨tb, g5, g3, cbs, A, c, rfl, hT, hl, hB⟩; obtain ⟨b, hb, hcall⟩ := HK.out _ rfl tb g5 g3 cbs A c w1 hT hl hB; have HC := Aside0.mk hcall; have hbb : b = true := (by rw [hb, e0]; simp; try omega); subst hbb; have hll : (cbs.length : Int) = 0 := (by rw [hl]; exact e0); clear hT hl hB hb hcall)
            | (go_at_call 60; refine (HC.out).mono ?_; rintro e w2 ⟨rfl, ⟨m, h1⟩, h2⟩; have K2 := Aside0.mk h1; have B2 := Aside0.mk h2; clear h1 h2)
            | (go_at_call 64; refine (tlen_calls tb A cbs.length c m _ K2.out).mono ?_; rintro e w' ⟨rfl, rfl⟩; have hlb : ((cbs.length : Int) == 0) = true := (by simpa using hll))
            | (go_at_call 55; refine (lives_calls _).mono ?_; rintro e w6 ⟨rfl, hb⟩; have B6 := Aside0.mk (below_then B2.out B2.out.size hb); clear hb))
          go_ret
          exact ⟨rfl, B6.out⟩
        · have d6 : decide (i < 0) = false := by simpa using hi1
          go_enter Try.func13, Try.ntmps13
          go_wp2_with (first
            | (go_at_call 67; refine (HT.out).mono ?_; rintro e w1 ⟨tb, g5, g3, cbs, A, c, rfl, hT, hl, hB⟩; obtain ⟨b, hb, hcall⟩ := HK.out _ rfl tb g5 g3 cbs A c w1 hT hl hB; have HC := Aside0.mk hcall; have hbb : b = false := (by rw [hb, e0]; simp; try omega); subst hbb; have hll : (cbs.length : Int) = 0 := (by rw [hl]; exact e0); clear hT hl hB hb hcall)
            | (go_at_call 60; refine (HC.out).mono ?_; rintro e w2 ⟨rfl, ⟨m, h1⟩, h2⟩; have K2 := Aside0.mk h1; have B2 := Aside0.mk h2; clear h1 h2)
            | (go_at_call 64; refine (tlen_calls tb A cbs.length c m _ K2.out).mono ?_; rintro e w' ⟨rfl, rfl⟩; have hlb : ((cbs.length : Int) == 0) = true := (by simpa using hll))
            | (go_at_call 55; refine (lives_calls _).mono ?_; rintro e w6 ⟨rfl, hb⟩; have B6 := Aside0.mk (below_then B2.out B2.out.size hb); clear hb))
          go_ret
          exact ⟨rfl, B6.out⟩
      · have d5 : decide (0 ≤ i) = false := by simpa using hi0
        go_enter Try.func13, Try.ntmps13
        go_wp2_with (first
          | (go_at_call 67; refine (HT.out).mono ?_; rintro e w1 ⟨tb, g5, g3, cbs, A, c, rfl, hT, hl, hB⟩; obtain ⟨b, hb, hcall⟩ := HK.out _ rfl tb g5 g3 cbs A c w1 hT hl hB; have HC := Aside0.mk hcall; have hbb : b = false := (by rw [hb, e0]; simp; try omega); subst hbb; have hll : (cbs.length : Int) = 0 := (by rw [hl]; exact e0); clear hT hl hB hb hcall)
          | (go_at_call 60; refine (HC.out).mono ?_; rintro e w2 ⟨rfl, ⟨m, h1⟩, h2⟩; have K2 := Aside0.mk h1; have B2 := Aside0.mk h2; clear h1 h2)
          | (go_at_call 64; refine (tlen_calls tb A cbs.length c m _ K2.out).mono ?_; rintro e w' ⟨rfl, rfl⟩; have hlb : ((cbs.length : Int) == 0) = true := (by simpa using hll))
          | (go_at_call 55; refine (lives_calls _).mono ?_; rintro e w6 ⟨rfl, hb⟩; have B6 := Aside0.mk (below_then B2.out B2.out.size hb); clear hb))
        go_ret
        exact ⟨rfl, B6.out⟩
    · by_cases h1 : 65536 < n
      · have d1 : decide (1000 < n) = true := by simp; omega
        have d2 : decide (n ≤ 65536) = false := by simp; omega
        have d3 : decide (n < 0) = false := by simpa using h0
        have d4 : decide (65536 < n) = true := by simpa using h1
        have e0 : (rowsOf n : Int) = 0 := by unfold rowsOf; rw [if_pos (.inr h1)]; rfl
        clear hskip
        by_cases hi0 : 0 ≤ i
        · have d5 : decide (0 ≤ i) = true := by simpa using hi0
          by_cases hi1 : i < 0
          · have d6 : decide (i < 0) = true := by simpa using hi1
            go_enter Try.func13, Try.ntmps13
            go_wp2_with (first
              | (go_at_call 67; refine (HT.out).mono ?_; rintro e w1 ⟨tb, g5, g3, cbs, A, c, rfl, hT, hl, hB⟩; obtain ⟨b, hb, hcall⟩ := HK.out _ rfl tb g5 g3 cbs A c w1 hT hl hB; have HC := Aside0.mk hcall; have hbb : b = true := (by rw [hb, e0]; simp; try omega); subst hbb; have hll : (cbs.length : Int) = 0 := (by rw [hl]; exact e0); clear hT hl hB hb hcall)
              | (go_at_call 60; refine (HC.out).mono ?_; rintro e w2 ⟨rfl, ⟨m, h1⟩, h2⟩; have K2 := Aside0.mk h1; have B2 := Aside0.mk h2; clear h1 h2)
              | (go_at_call 64; refine (tlen_calls tb A cbs.length c m _ K2.out).mono ?_; rintro e w' ⟨rfl, rfl⟩; have hlb : ((cbs.length : Int) == 0) = true := (by simpa using hll))
              | (go_at_call 55; refine (lives_calls _).mono ?_; rintro e w6 ⟨rfl, hb⟩; have B6 := Aside0.mk (below_then B2.out B2.out.size hb); clear hb))
            go_ret
            exact ⟨rfl, B6.out⟩
          · have d6 : decide (i < 0) = false := by simpa using hi1
            go_enter Try.func13, Try.ntmps13
            go_wp2_with (first
              | (go_at_call 67; refine (HT.out).mono ?_; rintro e w1 ⟨tb, g5, g3, cbs, A, c, rfl, hT, hl, hB⟩; obtain ⟨b, hb, hcall⟩ := HK.out _ rfl tb g5 g3 cbs A c w1 hT hl hB; have HC := Aside0.mk hcall; have hbb : b = false := (by rw [hb, e0]; simp; try omega); subst hbb; have hll : (cbs.length : Int) = 0 := (by rw [hl]; exact e0); clear hT hl hB hb hcall)
              | (go_at_call 60; refine (HC.out).mono ?_; rintro e w2 ⟨rfl, ⟨m, h1⟩, h2⟩; have K2 := Aside0.mk h1; have B2 := Aside0.mk h2; clear h1 h2)
              | (go_at_call 64; refine (tlen_calls tb A cbs.length c m _ K2.out).mono ?_; rintro e w' ⟨rfl, rfl⟩; have hlb : ((cbs.length : Int) == 0) = true := (by simpa using hll))
              | (go_at_call 55; refine (lives_calls _).mono ?_; rintro e w6 ⟨rfl, hb⟩; have B6 := Aside0.mk (below_then B2.out B2.out.size hb); clear hb))
            go_ret
            exact ⟨rfl, B6.out⟩
        · have d5 : decide (0 ≤ i) = false := by simpa using hi0
          go_enter Try.func13, Try.ntmps13
          go_wp2_with (first
            | (go_at_call 67; refine (HT.out).mono ?_; rintro e w1 ⟨tb, g5, g3, cbs, A, c, rfl, hT, hl, hB⟩; obtain ⟨b, hb, hcall⟩ := HK.out _ rfl tb g5 g3 cbs A c w1 hT hl hB; have HC := Aside0.mk hcall; have hbb : b = false := (by rw [hb, e0]; simp; try omega); subst hbb; have hll : (cbs.length : Int) = 0 := (by rw [hl]; exact e0); clear hT hl hB hb hcall)
            | (go_at_call 60; refine (HC.out).mono ?_; rintro e w2 ⟨rfl, ⟨m, h1⟩, h2⟩; have K2 := Aside0.mk h1; have B2 := Aside0.mk h2; clear h1 h2)
            | (go_at_call 64; refine (tlen_calls tb A cbs.length c m _ K2.out).mono ?_; rintro e w' ⟨rfl, rfl⟩; have hlb : ((cbs.length : Int) == 0) = true := (by simpa using hll))
            | (go_at_call 55; refine (lives_calls _).mono ?_; rintro e w6 ⟨rfl, hb⟩; have B6 := Aside0.mk (below_then B2.out B2.out.size hb); clear hb))
          go_ret
          exact ⟨rfl, B6.out⟩
      · have d1 : decide (1000 < n) = false := by simp; omega
        have d3 : decide (n < 0) = false := by simpa using h0
        have d4 : decide (65536 < n) = false := by simpa using h1
        have e0 : (rowsOf n : Int) = n := by unfold rowsOf; rw [if_neg (by omega)]; omega
        clear hskip
        by_cases hi0 : 0 ≤ i
        · have d5 : decide (0 ≤ i) = true := by simpa using hi0
          by_cases hi1 : i < n
          · have d6 : decide (i < n) = true := by simpa using hi1
            go_enter Try.func13, Try.ntmps13
            go_wp2_with (first
              | (go_at_call 67; refine (HT.out).mono ?_; rintro e w1 ⟨tb, g5, g3, cbs, A, c, rfl, hT, hl, hB⟩; obtain ⟨b, hb, hcall⟩ := HK.out _ rfl tb g5 g3 cbs A c w1 hT hl hB; have HC := Aside0.mk hcall; have hbb : b = true := (by rw [hb, e0]; simp; try omega); subst hbb; have hll : (cbs.length : Int) = n := (by rw [hl]; exact e0); clear hT hl hB hb hcall)
              | (go_at_call 60; refine (HC.out).mono ?_; rintro e w2 ⟨rfl, ⟨m, h1⟩, h2⟩; have K2 := Aside0.mk h1; have B2 := Aside0.mk h2; clear h1 h2)
              | (go_at_call 64; refine (tlen_calls tb A cbs.length c m _ K2.out).mono ?_; rintro e w' ⟨rfl, rfl⟩; have hlb : ((cbs.length : Int) == n) = true := (by simpa using hll))
              | (go_at_call 55; refine (lives_calls _).mono ?_; rintro e w6 ⟨rfl, hb⟩; have B6 := Aside0.mk (below_then B2.out B2.out.size hb); clear hb))
            go_ret
            exact ⟨rfl, B6.out⟩
          · have d6 : decide (i < n) = false := by simpa using hi1
            go_enter Try.func13, Try.ntmps13
            go_wp2_with (first
              | (go_at_call 67; refine (HT.out).mono ?_; rintro e w1 ⟨tb, g5, g3, cbs, A, c, rfl, hT, hl, hB⟩; obtain ⟨b, hb, hcall⟩ := HK.out _ rfl tb g5 g3 cbs A c w1 hT hl hB; have HC := Aside0.mk hcall; have hbb : b = false := (by rw [hb, e0]; simp; try omega); subst hbb; have hll : (cbs.length : Int) = n := (by rw [hl]; exact e0); clear hT hl hB hb hcall)
              | (go_at_call 60; refine (HC.out).mono ?_; rintro e w2 ⟨rfl, ⟨m, h1⟩, h2⟩; have K2 := Aside0.mk h1; have B2 := Aside0.mk h2; clear h1 h2)
              | (go_at_call 64; refine (tlen_calls tb A cbs.length c m _ K2.out).mono ?_; rintro e w' ⟨rfl, rfl⟩; have hlb : ((cbs.length : Int) == n) = true := (by simpa using hll))
              | (go_at_call 55; refine (lives_calls _).mono ?_; rintro e w6 ⟨rfl, hb⟩; have B6 := Aside0.mk (below_then B2.out B2.out.size hb); clear hb))
            go_ret
            exact ⟨rfl, B6.out⟩
        · have d5 : decide (0 ≤ i) = false := by simpa using hi0
          go_enter Try.func13, Try.ntmps13
          go_wp2_with (first
            | (go_at_call 67; refine (HT.out).mono ?_; rintro e w1 ⟨tb, g5, g3, cbs, A, c, rfl, hT, hl, hB⟩; obtain ⟨b, hb, hcall⟩ := HK.out _ rfl tb g5 g3 cbs A c w1 hT hl hB; have HC := Aside0.mk hcall; have hbb : b = false := (by rw [hb, e0]; simp; try omega); subst hbb; have hll : (cbs.length : Int) = n := (by rw [hl]; exact e0); clear hT hl hB hb hcall)
            | (go_at_call 60; refine (HC.out).mono ?_; rintro e w2 ⟨rfl, ⟨m, h1⟩, h2⟩; have K2 := Aside0.mk h1; have B2 := Aside0.mk h2; clear h1 h2)
            | (go_at_call 64; refine (tlen_calls tb A cbs.length c m _ K2.out).mono ?_; rintro e w' ⟨rfl, rfl⟩; have hlb : ((cbs.length : Int) == n) = true := (by simpa using hll))
            | (go_at_call 55; refine (lives_calls _).mono ?_; rintro e w6 ⟨rfl, hb⟩; have B6 := Aside0.mk (below_then B2.out B2.out.size hb); clear hb))
          go_ret
          exact ⟨rfl, B6.out⟩
end Go.Proofs.Ytbjbejjieibldaa.La
