/- The region of open order in the queue's Ask. -/
import Derived.Test.YtbjbejjieibldaaQb
namespace Go.Proofs.Ytbjbejjieibldaa.Qa
open Go.RowKit Go.Proofs.YtbjbejjieibldaaW.PrintWords Go.Proofs.YtbjbejjieibldaaW.PrintLast Go.Proofs.YtbjbejjieibldaaW.PrintMore Go.Proofs.Ytbjbejjieibldaa.Rg
open Go.Proofs.Ytbjbejjieibldaa.PReadsPlays (S91 z91 k91 k91_open k91_openM k91_mk k91_mkM rd_T91 at_T91 S147 z147 k147 k147_mkM rd_T147 at_T147 info147)
set_option linter.unusedVariables false
set_option linter.unusedSimpArgs false

/-! ### region 8 of function 38 -/
def r38x8.T : Bool × List (List Nat × List Nat) := (true, [([], []), ([], []), ([1], [1]), ([2], [2]), ([3], [3]), ([], []), ([], []), ([4, 5, 6], [4, 5, 6]), ([], []), ([], []), ([], []), ([10], [10]), ([8, 9, 11], [8, 9, 11]), ([12], [12]), ([7, 13, 11], [7, 13]), ([0, 0, 1, 2, 3, 4, 5, 6, 7, 8, 9, 10, 11, 12, 13, 14], [0]), ([15, 0, 1, 2, 3, 4, 5, 6, 7, 8, 9, 10, 11, 12, 13, 14], [15]), ([16, 14, 14, 0, 1, 2, 3, 4, 5, 6, 7, 8, 9, 10, 11, 12, 13, 14], [14, 16])])
def r38x8.B : List Nat := [0, 0, 2, 6, 14, 0, 0, 126, 0, 0, 0, 1024, 3840, 7936, 16382, 32767, 65535, 131071]
def r38x8.L : List (Nat × Tmp) := [(0, 30), (1, 31), (2, 32), (3, 33), (4, 34), (5, 35), (6, 36), (7, 37), (8, 38), (9, 39), (10, 40), (11, 41), (12, 42), (13, 43), (14, 44), (15, 45), (16, 46)]
theorem r38x8.tab : rtab .any (opsOf Try.f38 8) = r38x8.T := by kernel_rfl
theorem r38x8.bits : waitsOk r38x8.T.2 r38x8.B = true := by kernel_rfl
theorem r38x8.base : baseOk r38x8.T.2 (List.range 18) = true := by kernel_rfl
theorem r38x8.okl : okL (opsOf Try.f38 8) r38x8.L 51 = true := by kernel_rfl
def r38x8.F (qb : Nat) (begun sure id index : Int) (A : Option Addr) (c : Nat) (l : List S91) (base : Nat) (ok : Nat → Prop) (W : World) (i : Nat) : Value → World → Prop := match i with
  | 0 => fun v _ => v = (.pointer (some ⟨qb, 0, none⟩))
  | 1 => fun v _ => v = (.pointer (some ⟨qb, 0, none⟩))
  | 2 => fun v _ => v = (.pointer (some ⟨qb, 0, none⟩))
  | 3 => fun v _ => v = (.pointer (some ⟨qb, 3, none⟩))
  | 4 => fun v _ => v = (.slice A l.length c)
  | 5 => fun v _ => v = (.int .i64 l.length)
  | 6 => fun v _ => v = (.int .i64 l.length)
  | 7 => fun v _ => v = (.slice A l.length l.length)
  | 8 => fun v _ => v = (.int .u64 id)
  | 9 => fun v _ => v = (.int .u64 index)
  | 10 => fun v _ => v = (.pointer (some ⟨qb, 0, none⟩))
  | 11 => fun v w => v = .int .u64 (begun + 1) ∧ ∃ u, w.heap[qb]? = some (QC (begun + 1) sure u)
  | 12 => fun v _ => v = (.agg #[.int .u64 id, .int .u64 index, .int .u64 (begun + 1)])
  | 13 => fun v w => Kd.R k91 91 w base (fun k => W.heap.size ≤ k) v [(⟨id, index, begun + 1⟩ : S91)]
  | 14 => fun v w => Kd.R k91 91 w base (fun k => W.heap.size ≤ k) v (l ++ [(⟨id, index, begun + 1⟩ : S91)])
  | 15 => fun v _ => v = (.pointer (some ⟨qb, 0, none⟩))
  | 16 => fun v _ => v = (.pointer (some ⟨qb, 3, none⟩))
  | 17 => fun v w => w.heap[qb]? = some (QC (begun + 1) sure v) ∧ Kd.R k91 91 w base (fun k => W.heap.size ≤ k) v (l ++ [(⟨id, index, begun + 1⟩ : S91)])
  | _ => fun _ _ => True
def r38x8.St (qb : Nat) (begun sure id index : Int) (A : Option Addr) (c : Nat) (l : List S91) (base : Nat) (ok : Nat → Prop) (W : World) (i : Nat) : World → World → Prop := match i with
  | 11 => fun w w' => w' = w.setCell ⟨qb, 1, none⟩ (.int .u64 (begun + 1))
  | 13 => fun w w' => Below w.heap.size w w'
  | 14 => fun w w' => Below w.heap.size w w'
  | 17 => fun w w' => ∃ u, w' = w.setCell ⟨qb, 3, none⟩ u
  | _ => fun w w' => w' = w
def r38x8.G (qb : Nat) (begun sure id index : Int) (A : Option Addr) (c : Nat) (l : List S91) (base : Nat) (ok : Nat → Prop) (W : World) : (Nat → Bool) → World → Prop := fun b w => Kept W w (fun k => k = qb) ∧ (b 17 = false → ∃ b', w.heap[qb]? = some (QC b' sure (.slice A l.length c))) ∧ (b 11 = false → b 17 = false → w.heap[qb]? = some (QC begun sure (.slice A l.length c))) ∧ Kd.R k91 91 w base (fun k => ok k ∧ k ≠ qb) (.slice A l.length c) l ∧ Below base W w
set_option maxHeartbeats 4000000 in
set_option maxRecDepth 100000 in
theorem r38x8 (qb : Nat) (begun sure id index : Int) (A : Option Addr) (c : Nat) (l : List S91) (base : Nat) (ok : Nat → Prop) (W : World) (hbase0 : base ≤ W.heap.size) (hqb : qb < W.heap.size) (hbp : base ≤ qb) (hb0 : 0 ≤ begun) (hb1 : begun < BIG) (hll : l.length ≤ 32) (hlc : l.length ≤ c) (hAn : A = none → l = []) {Q : Exit → Act → World → Prop} {a0 : Act} {w0 : World} (hz : a0.tmps.size = 51) (z0 : a0.tmps[0]? = some (.pointer (some ⟨qb, 0, none⟩))) (z1 : a0.tmps[1]? = some (.int .u64 id)) (z2 : a0.tmps[2]? = some (.int .u64 index)) (z8 : a0.tmps[8]? = some (.int .i64 l.length)) (hG0 : (r38x8.G qb begun sure id index A c l base ok W) (fun _ => false) w0.drew)
    (hend : ∀ (v41 : Value) (v43 : Value) (v44 : Value) (v17 : Value) (w : World) (b : Nat → Bool), (∀ i, i < 18 → b i = true) → (r38x8.G qb begun sure id index A c l base ok W) b w → r38x8.F qb begun sure id index A c l base ok W 11 v41 w → r38x8.F qb begun sure id index A c l base ok W 13 v43 w → r38x8.F qb begun sure id index A c l base ok W 14 v44 w → r38x8.F qb begun sure id index A c l base ok W 17 v17 w → Q .normal (putAll a0 [(30, (.pointer (some ⟨qb, 0, none⟩))), (31, (.pointer (some ⟨qb, 0, none⟩))), (32, (.pointer (some ⟨qb, 0, none⟩))), (33, (.pointer (some ⟨qb, 3, none⟩))), (34, (.slice A l.length c)), (35, (.int .i64 l.length)), (36, (.int .i64 l.length)), (37, (.slice A l.length l.length)), (38, (.int .u64 id)), (39, (.int .u64 index)), (40, (.pointer (some ⟨qb, 0, none⟩))), (41, v41), (42, (.agg #[.int .u64 id, .int .u64 index, .int .u64 (begun + 1)])), (43, v43), (44, v44), (45, (.pointer (some ⟨qb, 0, none⟩))), (46, (.pointer (some ⟨qb, 3, none⟩)))]) w) :
    (Code.region 8 (opsOf Try.f38 8) true).wp Try.prog Q a0 w0 := by
  refine region_lit (ops' := #[_, _, _, _, _, _, _, _, _, _, _, _, _, _, _, _, _, _]) rfl ?_
  refine region_facts (n := 18) (T := r38x8.T) (B := r38x8.B) r38x8.L (r38x8.G qb begun sure id index A c l base ok W) (r38x8.St qb begun sure id index A c l base ok W) (r38x8.F qb begun sure id index A c l base ok W) (by kernel_rfl) (by kernel_rfl) r38x8.tab r38x8.bits r38x8.base (by rw [hz]; exact r38x8.okl) hG0 ?hSt ?hF ((all_cons ?s0 (all_cons ?s1 (all_cons ?s2 (all_cons ?s3 (all_cons ?s4 (all_cons ?s5 (all_cons ?s6 (all_cons ?s7 (all_cons ?s8 (all_cons ?s9 (all_cons ?s10 (all_cons ?s11 (all_cons ?s12 (all_cons ?s13 (all_cons ?s14 (all_cons ?s15 (all_cons ?s16 (all_cons ?s17 all_nil))))))))))))))))))) ?hend
  case hSt =>
    intro i b w w' hi hb hoff hG hst
    match i, hi, hb, hoff, hst with
    | 0, _, hb, hoff, hst =>
      obtain rfl : w' = w := hst
      obtain ⟨hk, hc1, hc2, hr, hbl⟩ := hG
      exact ⟨hk, fun h => hc1 (by rw [up_ne (by decide)] at h; exact h), fun h h2 => hc2 (by rw [up_ne (by decide)] at h; exact h) (by rw [up_ne (by decide)] at h2; exact h2), hr, hbl⟩
    | 1, _, hb, hoff, hst =>
      obtain rfl : w' = w := hst
      obtain ⟨hk, hc1, hc2, hr, hbl⟩ := hG
      exact ⟨hk, fun h => hc1 (by rw [up_ne (by decide)] at h; exact h), fun h h2 => hc2 (by rw [up_ne (by decide)] at h; exact h) (by rw [up_ne (by decide)] at h2; exact h2), hr, hbl⟩
    | 2, _, hb, hoff, hst =>
      obtain rfl : w' = w := hst
      obtain ⟨hk, hc1, hc2, hr, hbl⟩ := hG
      exact ⟨hk, fun h => hc1 (by rw [up_ne (by decide)] at h; exact h), fun h h2 => hc2 (by rw [up_ne (by decide)] at h; exact h) (by rw [up_ne (by decide)] at h2; exact h2), hr, hbl⟩
    | 3, _, hb, hoff, hst =>
      obtain rfl : w' = w := hst
      obtain ⟨hk, hc1, hc2, hr, hbl⟩ := hG
      exact ⟨hk, fun h => hc1 (by rw [up_ne (by decide)] at h; exact h), fun h h2 => hc2 (by rw [up_ne (by decide)] at h; exact h) (by rw [up_ne (by decide)] at h2; exact h2), hr, hbl⟩
    | 4, _, hb, hoff, hst =>
      obtain rfl : w' = w := hst
      obtain ⟨hk, hc1, hc2, hr, hbl⟩ := hG
      exact ⟨hk, fun h => hc1 (by rw [up_ne (by decide)] at h; exact h), fun h h2 => hc2 (by rw [up_ne (by decide)] at h; exact h) (by rw [up_ne (by decide)] at h2; exact h2), hr, hbl⟩
    | 5, _, hb, hoff, hst =>
      obtain rfl : w' = w := hst
      obtain ⟨hk, hc1, hc2, hr, hbl⟩ := hG
      exact ⟨hk, fun h => hc1 (by rw [up_ne (by decide)] at h; exact h), fun h h2 => hc2 (by rw [up_ne (by decide)] at h; exact h) (by rw [up_ne (by decide)] at h2; exact h2), hr, hbl⟩
    | 6, _, hb, hoff, hst =>
      obtain rfl : w' = w := hst
      obtain ⟨hk, hc1, hc2, hr, hbl⟩ := hG
      exact ⟨hk, fun h => hc1 (by rw [up_ne (by decide)] at h; exact h), fun h h2 => hc2 (by rw [up_ne (by decide)] at h; exact h) (by rw [up_ne (by decide)] at h2; exact h2), hr, hbl⟩
    | 7, _, hb, hoff, hst =>
      obtain rfl : w' = w := hst
      obtain ⟨hk, hc1, hc2, hr, hbl⟩ := hG
      exact ⟨hk, fun h => hc1 (by rw [up_ne (by decide)] at h; exact h), fun h h2 => hc2 (by rw [up_ne (by decide)] at h; exact h) (by rw [up_ne (by decide)] at h2; exact h2), hr, hbl⟩
    | 8, _, hb, hoff, hst =>
      obtain rfl : w' = w := hst
      obtain ⟨hk, hc1, hc2, hr, hbl⟩ := hG
      exact ⟨hk, fun h => hc1 (by rw [up_ne (by decide)] at h; exact h), fun h h2 => hc2 (by rw [up_ne (by decide)] at h; exact h) (by rw [up_ne (by decide)] at h2; exact h2), hr, hbl⟩
    | 9, _, hb, hoff, hst =>
      obtain rfl : w' = w := hst
      obtain ⟨hk, hc1, hc2, hr, hbl⟩ := hG
      exact ⟨hk, fun h => hc1 (by rw [up_ne (by decide)] at h; exact h), fun h h2 => hc2 (by rw [up_ne (by decide)] at h; exact h) (by rw [up_ne (by decide)] at h2; exact h2), hr, hbl⟩
    | 10, _, hb, hoff, hst =>
      obtain rfl : w' = w := hst
      obtain ⟨hk, hc1, hc2, hr, hbl⟩ := hG
      exact ⟨hk, fun h => hc1 (by rw [up_ne (by decide)] at h; exact h), fun h h2 => hc2 (by rw [up_ne (by decide)] at h; exact h) (by rw [up_ne (by decide)] at h2; exact h2), hr, hbl⟩
    | 11, _, hb, hoff, hst =>
      obtain ⟨hk, hc1, hc2, hr, hbl⟩ := hG
      obtain rfl : w' = w.setCell ⟨qb, 1, none⟩ (.int .u64 (begun + 1)) := hst
      refine ⟨hk.setCell (p := ⟨qb, 1, none⟩) (.inl rfl) _, fun hb17 => ?_, fun hb11 _ => ?_, Kd.R_far (p := ⟨qb, 1, none⟩) hr (fun k hk => hk.2) _, hbl.setCell (p := ⟨qb, 1, none⟩) hbp _⟩
      · exact ⟨_, blk_set (hc2 hb (hoff 17 (by decide) (by decide))) 1 _⟩
      · rw [up_self] at hb11; cases hb11
    | 12, _, hb, hoff, hst =>
      obtain rfl : w' = w := hst
      obtain ⟨hk, hc1, hc2, hr, hbl⟩ := hG
      exact ⟨hk, fun h => hc1 (by rw [up_ne (by decide)] at h; exact h), fun h h2 => hc2 (by rw [up_ne (by decide)] at h; exact h) (by rw [up_ne (by decide)] at h2; exact h2), hr, hbl⟩
    | 13, _, hb, hoff, hst =>
      obtain ⟨hk, hc1, hc2, hr, hbl⟩ := hG
      have hst' : Below w.heap.size w w' := hst
      exact ⟨hk.below hst', fun hb17 => by obtain ⟨b', h⟩ := hc1 (by rw [up_ne (by decide)] at hb17; exact hb17); exact ⟨b', blk_below h hst'⟩, fun hb11 hb17 => blk_below (hc2 (by rw [up_ne (by decide)] at hb11; exact hb11) (by rw [up_ne (by decide)] at hb17; exact hb17)) hst', Kd.R_below hr hst', below_then hbl (Nat.le_trans hbase0 hk.1) hst'⟩
    | 14, _, hb, hoff, hst =>
      obtain ⟨hk, hc1, hc2, hr, hbl⟩ := hG
      have hst' : Below w.heap.size w w' := hst
      exact ⟨hk.below hst', fun hb17 => by obtain ⟨b', h⟩ := hc1 (by rw [up_ne (by decide)] at hb17; exact hb17); exact ⟨b', blk_below h hst'⟩, fun hb11 hb17 => blk_below (hc2 (by rw [up_ne (by decide)] at hb11; exact hb11) (by rw [up_ne (by decide)] at hb17; exact hb17)) hst', Kd.R_below hr hst', below_then hbl (Nat.le_trans hbase0 hk.1) hst'⟩
    | 15, _, hb, hoff, hst =>
      obtain rfl : w' = w := hst
      obtain ⟨hk, hc1, hc2, hr, hbl⟩ := hG
      exact ⟨hk, fun h => hc1 (by rw [up_ne (by decide)] at h; exact h), fun h h2 => hc2 (by rw [up_ne (by decide)] at h; exact h) (by rw [up_ne (by decide)] at h2; exact h2), hr, hbl⟩
    | 16, _, hb, hoff, hst =>
      obtain rfl : w' = w := hst
      obtain ⟨hk, hc1, hc2, hr, hbl⟩ := hG
      exact ⟨hk, fun h => hc1 (by rw [up_ne (by decide)] at h; exact h), fun h h2 => hc2 (by rw [up_ne (by decide)] at h; exact h) (by rw [up_ne (by decide)] at h2; exact h2), hr, hbl⟩
    | 17, _, hb, hoff, hst =>
      obtain ⟨hk, hc1, hc2, hr, hbl⟩ := hG
      obtain ⟨u, rfl⟩ : ∃ u, w' = w.setCell ⟨qb, 3, none⟩ u := hst
      refine ⟨hk.setCell (p := ⟨qb, 3, none⟩) (.inl rfl) _, fun hb17 => ?_, fun _ hb17 => ?_, Kd.R_far (p := ⟨qb, 3, none⟩) hr (fun k hk => hk.2) _, hbl.setCell (p := ⟨qb, 3, none⟩) hbp _⟩
      · rw [up_self] at hb17; cases hb17
      · rw [up_self] at hb17; cases hb17
    | i + 18, hi, _, _, _ => exact absurd hi (by omega)
  case hF =>
    intro i j b v w w' hij hi hj hb hbj hoff hG hst hf
    match i, hi, hij, hb, hoff, hst with
    | 0, _, hij, hb, hoff, hst =>
      obtain rfl : w' = w := hst
      exact hf
    | 1, _, hij, hb, hoff, hst =>
      obtain rfl : w' = w := hst
      exact hf
    | 2, _, hij, hb, hoff, hst =>
      obtain rfl : w' = w := hst
      exact hf
    | 3, _, hij, hb, hoff, hst =>
      obtain rfl : w' = w := hst
      exact hf
    | 4, _, hij, hb, hoff, hst =>
      obtain rfl : w' = w := hst
      exact hf
    | 5, _, hij, hb, hoff, hst =>
      obtain rfl : w' = w := hst
      exact hf
    | 6, _, hij, hb, hoff, hst =>
      obtain rfl : w' = w := hst
      exact hf
    | 7, _, hij, hb, hoff, hst =>
      obtain rfl : w' = w := hst
      exact hf
    | 8, _, hij, hb, hoff, hst =>
      obtain rfl : w' = w := hst
      exact hf
    | 9, _, hij, hb, hoff, hst =>
      obtain rfl : w' = w := hst
      exact hf
    | 10, _, hij, hb, hoff, hst =>
      obtain rfl : w' = w := hst
      exact hf
    | 11, _, hij, hb, hoff, hst =>
      match j, hj, hij, hbj, hf with
      | 0, _, hij, hbj, hf => 
        exact hf
      | 1, _, hij, hbj, hf => 
        exact hf
      | 2, _, hij, hbj, hf => 
        exact hf
      | 3, _, hij, hbj, hf => 
        exact hf
      | 4, _, hij, hbj, hf => 
        exact hf
      | 5, _, hij, hbj, hf => 
        exact hf
      | 6, _, hij, hbj, hf => 
        exact hf
      | 7, _, hij, hbj, hf => 
        exact hf
      | 8, _, hij, hbj, hf => 
        exact hf
      | 9, _, hij, hbj, hf => 
        exact hf
      | 10, _, hij, hbj, hf => 
        exact hf
      | 11, _, hij, hbj, hf => exact absurd rfl hij
      | 12, _, hij, hbj, hf => exact absurd hbj (by rw [hoff 12 (by decide) (by decide)]; decide)
      | 13, _, hij, hbj, hf => exact absurd hbj (by rw [hoff 13 (by decide) (by decide)]; decide)
      | 14, _, hij, hbj, hf => exact absurd hbj (by rw [hoff 14 (by decide) (by decide)]; decide)
      | 15, _, hij, hbj, hf => exact absurd hbj (by rw [hoff 15 (by decide) (by decide)]; decide)
      | 16, _, hij, hbj, hf => exact absurd hbj (by rw [hoff 16 (by decide) (by decide)]; decide)
      | 17, _, hij, hbj, hf => exact absurd hbj (by rw [hoff 17 (by decide) (by decide)]; decide)
      | j + 18, hj, _, _, _ => exact absurd hj (by omega)
    | 12, _, hij, hb, hoff, hst =>
      obtain rfl : w' = w := hst
      exact hf
    | 13, _, hij, hb, hoff, hst =>
      match j, hj, hij, hbj, hf with
      | 0, _, hij, hbj, hf => 
        exact hf
      | 1, _, hij, hbj, hf => 
        exact hf
      | 2, _, hij, hbj, hf => 
        exact hf
      | 3, _, hij, hbj, hf => 
        exact hf
      | 4, _, hij, hbj, hf => 
        exact hf
      | 5, _, hij, hbj, hf => 
        exact hf
      | 6, _, hij, hbj, hf => 
        exact hf
      | 7, _, hij, hbj, hf => 
        exact hf
      | 8, _, hij, hbj, hf => 
        exact hf
      | 9, _, hij, hbj, hf => 
        exact hf
      | 10, _, hij, hbj, hf => 
        exact hf
      | 11, _, hij, hbj, hf => 
        obtain ⟨h1, u, h2⟩ := hf
        exact ⟨h1, u, blk_below h2 hst⟩
      | 12, _, hij, hbj, hf => 
        exact hf
      | 13, _, hij, hbj, hf => exact absurd rfl hij
      | 14, _, hij, hbj, hf => exact absurd hbj (by rw [hoff 14 (by decide) (by decide)]; decide)
      | 15, _, hij, hbj, hf => exact absurd hbj (by rw [hoff 15 (by decide) (by decide)]; decide)
      | 16, _, hij, hbj, hf => exact absurd hbj (by rw [hoff 16 (by decide) (by decide)]; decide)
      | 17, _, hij, hbj, hf => exact absurd hbj (by rw [hoff 17 (by decide) (by decide)]; decide)
      | j + 18, hj, _, _, _ => exact absurd hj (by omega)
    | 14, _, hij, hb, hoff, hst =>
      match j, hj, hij, hbj, hf with
      | 0, _, hij, hbj, hf => 
        exact hf
      | 1, _, hij, hbj, hf => 
        exact hf
      | 2, _, hij, hbj, hf => 
        exact hf
      | 3, _, hij, hbj, hf => 
        exact hf
      | 4, _, hij, hbj, hf => 
        exact hf
      | 5, _, hij, hbj, hf => 
        exact hf
      | 6, _, hij, hbj, hf => 
        exact hf
      | 7, _, hij, hbj, hf => 
        exact hf
      | 8, _, hij, hbj, hf => 
        exact hf
      | 9, _, hij, hbj, hf => 
        exact hf
      | 10, _, hij, hbj, hf => 
        exact hf
      | 11, _, hij, hbj, hf => 
        obtain ⟨h1, u, h2⟩ := hf
        exact ⟨h1, u, blk_below h2 hst⟩
      | 12, _, hij, hbj, hf => 
        exact hf
      | 13, _, hij, hbj, hf => 
        exact Kd.R_below hf hst
      | 14, _, hij, hbj, hf => exact absurd rfl hij
      | 15, _, hij, hbj, hf => exact absurd hbj (by rw [hoff 15 (by decide) (by decide)]; decide)
      | 16, _, hij, hbj, hf => exact absurd hbj (by rw [hoff 16 (by decide) (by decide)]; decide)
      | 17, _, hij, hbj, hf => exact absurd hbj (by rw [hoff 17 (by decide) (by decide)]; decide)
      | j + 18, hj, _, _, _ => exact absurd hj (by omega)
    | 15, _, hij, hb, hoff, hst =>
      obtain rfl : w' = w := hst
      exact hf
    | 16, _, hij, hb, hoff, hst =>
      obtain rfl : w' = w := hst
      exact hf
    | 17, _, hij, hb, hoff, hst =>
      match j, hj, hij, hbj, hf with
      | 0, _, hij, hbj, hf => 
        exact hf
      | 1, _, hij, hbj, hf => 
        exact hf
      | 2, _, hij, hbj, hf => 
        exact hf
      | 3, _, hij, hbj, hf => 
        exact hf
      | 4, _, hij, hbj, hf => 
        exact hf
      | 5, _, hij, hbj, hf => 
        exact hf
      | 6, _, hij, hbj, hf => 
        exact hf
      | 7, _, hij, hbj, hf => 
        exact hf
      | 8, _, hij, hbj, hf => 
        exact hf
      | 9, _, hij, hbj, hf => 
        exact hf
      | 10, _, hij, hbj, hf => 
        exact hf
      | 11, _, hij, hbj, hf => 
        obtain ⟨u, rfl⟩ : ∃ u, w' = w.setCell ⟨qb, 3, none⟩ u := hst
        obtain ⟨h1, u2, h2⟩ := hf
        exact ⟨h1, _, blk_set h2 3 u⟩
      | 12, _, hij, hbj, hf => 
        exact hf
      | 13, _, hij, hbj, hf => 
        obtain ⟨u, rfl⟩ : ∃ u, w' = w.setCell ⟨qb, 3, none⟩ u := hst
        exact Kd.R_far (p := ⟨qb, 3, none⟩) hf (fun k hk => by have hk : W.heap.size ≤ k := hk; intro e; have e : k = qb := e; omega) _
      | 14, _, hij, hbj, hf => 
        obtain ⟨u, rfl⟩ : ∃ u, w' = w.setCell ⟨qb, 3, none⟩ u := hst
        exact Kd.R_far (p := ⟨qb, 3, none⟩) hf (fun k hk => by have hk : W.heap.size ≤ k := hk; intro e; have e : k = qb := e; omega) _
      | 15, _, hij, hbj, hf => 
        exact hf
      | 16, _, hij, hbj, hf => 
        exact hf
      | 17, _, hij, hbj, hf => exact absurd rfl hij
      | j + 18, hj, _, _, _ => exact absurd hj (by omega)
    | i + 18, hi, _, _, _, _ => exact absurd hi (by omega)
  case s0 =>
    refine ⟨_, rfl, fun b a w hG hb hoff hd hs K hK => ?_⟩
    have h0 := (hs 0 (by decide)).trans z0
    have e0 := eval_of h0
    refine value_ (v := (.pointer (some ⟨qb, 0, none⟩))) rfl rfl ?_ (hK _ _ rfl rfl)
    clear hd hs hK hoff
    clear e0
    go_simp
  case s1 =>
    refine ⟨_, rfl, fun b a w hG hb hoff hd hs K hK => ?_⟩
    have h0 := (hs 0 (by decide)).trans z0
    have e0 := eval_of h0
    refine value_ (v := (.pointer (some ⟨qb, 0, none⟩))) rfl rfl ?_ (hK _ _ rfl rfl)
    clear hd hs hK hoff
    clear e0
    go_simp
  case s2 =>
    refine ⟨_, rfl, fun b a w hG hb hoff hd hs K hK => ?_⟩
    obtain ⟨y31, h31, f31⟩ := hd 1 31 (by decide) (by decide)
    replace f31 : y31 = (.pointer (some ⟨qb, 0, none⟩)) := f31
    subst y31
    have e31 := eval_of h31
    refine value_ (v := (.pointer (some ⟨qb, 0, none⟩))) rfl rfl ?_ (hK _ _ rfl rfl)
    clear hd hs hK hoff
    clear e31
    go_simp
  case s3 =>
    refine ⟨_, rfl, fun b a w hG hb hoff hd hs K hK => ?_⟩
    obtain ⟨y32, h32, f32⟩ := hd 2 32 (by decide) (by decide)
    replace f32 : y32 = (.pointer (some ⟨qb, 0, none⟩)) := f32
    subst y32
    have e32 := eval_of h32
    refine value_ (v := (.pointer (some ⟨qb, 3, none⟩))) rfl rfl ?_ (hK _ _ rfl rfl)
    clear hd hs hK hoff
    clear e32
    go_simp
  case s4 =>
    refine ⟨_, rfl, fun b a w hG hb hoff hd hs K hK => ?_⟩
    obtain ⟨y33, h33, f33⟩ := hd 3 33 (by decide) (by decide)
    replace f33 : y33 = (.pointer (some ⟨qb, 3, none⟩)) := f33
    subst y33
    have e33 := eval_of h33
    refine value_ (v := (.slice A l.length c)) rfl rfl ?_ (hK _ _ rfl rfl)
    obtain ⟨hk, hc1, hc2, hr, hbl⟩ := hG
    obtain ⟨b', hc'⟩ := hc1 (hoff 17 (by decide) (by decide))
    have hc := (blk_cell hc' 3).trans rfl
    clear hr hc1 hc2 hk hbl
    clear hd hs hK hoff
    clear e33
    go_simp
  case s5 =>
    refine ⟨_, rfl, fun b a w hG hb hoff hd hs K hK => ?_⟩
    have h8 := (hs 8 (by decide)).trans z8
    have e8 := eval_of h8
    refine value_ (v := (.int .i64 l.length)) rfl rfl ?_ (hK _ _ rfl rfl)
    clear hd hs hK hoff
    clear e8
    go_simp
  case s6 =>
    refine ⟨_, rfl, fun b a w hG hb hoff hd hs K hK => ?_⟩
    have h8 := (hs 8 (by decide)).trans z8
    have e8 := eval_of h8
    refine value_ (v := (.int .i64 l.length)) rfl rfl ?_ (hK _ _ rfl rfl)
    clear hd hs hK hoff
    clear e8
    go_simp
  case s7 =>
    refine ⟨_, rfl, fun b a w hG hb hoff hd hs K hK => ?_⟩
    obtain ⟨y34, h34, f34⟩ := hd 4 34 (by decide) (by decide)
    replace f34 : y34 = (.slice A l.length c) := f34
    subst y34
    have e34 := eval_of h34
    obtain ⟨y35, h35, f35⟩ := hd 5 35 (by decide) (by decide)
    replace f35 : y35 = (.int .i64 l.length) := f35
    subst y35
    have e35 := eval_of h35
    obtain ⟨y36, h36, f36⟩ := hd 6 36 (by decide) (by decide)
    replace f36 : y36 = (.int .i64 l.length) := f36
    subst y36
    have e36 := eval_of h36
    refine value_ (v := (.slice A l.length l.length)) rfl rfl ?_ (hK _ _ rfl rfl)
    clear hG
    have hcl : l.length ≤ c := hlc
    have hA : A = none → l = [] := hAn
    clear hAn hlc
    clear hd hs hK hoff
    clear e34
    clear e35
    clear e36
    cases A with
    | none => obtain rfl := hA rfl; go_simp
    | some ad => go_simp
  case s8 =>
    refine ⟨_, rfl, fun b a w hG hb hoff hd hs K hK => ?_⟩
    have h1 := (hs 1 (by decide)).trans z1
    have e1 := eval_of h1
    refine value_ (v := (.int .u64 id)) rfl rfl ?_ (hK _ _ rfl rfl)
    clear hd hs hK hoff
    clear e1
    go_simp
  case s9 =>
    refine ⟨_, rfl, fun b a w hG hb hoff hd hs K hK => ?_⟩
    have h2 := (hs 2 (by decide)).trans z2
    have e2 := eval_of h2
    refine value_ (v := (.int .u64 index)) rfl rfl ?_ (hK _ _ rfl rfl)
    clear hd hs hK hoff
    clear e2
    go_simp
  case s10 =>
    refine ⟨_, rfl, fun b a w hG hb hoff hd hs K hK => ?_⟩
    have h0 := (hs 0 (by decide)).trans z0
    have e0 := eval_of h0
    refine value_ (v := (.pointer (some ⟨qb, 0, none⟩))) rfl rfl ?_ (hK _ _ rfl rfl)
    clear hd hs hK hoff
    clear e0
    go_simp
  case s11 =>
    refine ⟨_, rfl, fun b a w hG hb hoff hd hs K hK => ?_⟩
    obtain ⟨y40, h40, f40⟩ := hd 10 40 (by decide) (by decide)
    replace f40 : y40 = (.pointer (some ⟨qb, 0, none⟩)) := f40
    subst y40
    have e40 := eval_of h40
    obtain ⟨hk, hc1, hc2, hr, hbl⟩ := hG
    have hc := hc2 hb (hoff 17 (by decide) (by decide))
    refine goes_ Try.func29 (by kernel_rfl) rfl #[.pointer (some ⟨qb, 0, none⟩)] rfl rfl rfl (by simp [e40]) ?_
    refine (begin_calls qb begun sure _ w hc hb0 (by omega)).mono ?_
    rintro e w' ⟨rfl, rfl⟩
    have hbe : beginOf begun = begun + 1 := by unfold beginOf; rw [if_pos hb1]
    rw [hbe]
    exact ⟨_, rfl, hK _ _ rfl ⟨rfl, _, blk_set hc 1 _⟩⟩
  case s12 =>
    refine ⟨_, rfl, fun b a w hG hb hoff hd hs K hK => ?_⟩
    obtain ⟨y38, h38, f38⟩ := hd 8 38 (by decide) (by decide)
    replace f38 : y38 = (.int .u64 id) := f38
    subst y38
    have e38 := eval_of h38
    obtain ⟨y39, h39, f39⟩ := hd 9 39 (by decide) (by decide)
    replace f39 : y39 = (.int .u64 index) := f39
    subst y39
    have e39 := eval_of h39
    obtain ⟨v41, h41, f41⟩ := hd 11 41 (by decide) (by decide)
    have e41 := eval_of h41
    refine value_ (v := (.agg #[.int .u64 id, .int .u64 index, .int .u64 (begun + 1)])) rfl rfl ?_ (hK _ _ rfl rfl)
    obtain ⟨f41a, _⟩ := f41
    subst f41a
    have hu := Try.underlying91
    clear hG
    clear hd hs hK hoff
    clear e38
    clear e39
    clear e41
    go_simp
  case s13 =>
    refine ⟨_, rfl, fun b a w hG hb hoff hd hs K hK => ?_⟩
    obtain ⟨y42, h42, f42⟩ := hd 12 42 (by decide) (by decide)
    replace f42 : y42 = (.agg #[.int .u64 id, .int .u64 index, .int .u64 (begun + 1)]) := f42
    subst y42
    have e42 := eval_of h42
    have hbase : base ≤ w.heap.size := Nat.le_trans hbase0 hG.1.1
    refine Kd.R_lit_step k91 (w0 := w) base 91 rfl (N := 43) rfl (xs := [(⟨id, index, begun + 1⟩ : S91)]) (inner := [.int .u64 id, .int .u64 index, .int .u64 (begun + 1)]) (ok := fun k => W.heap.size ≤ k) (okp := fun _ => False) ?hr (reps1_91 w base _ (⟨id, index, begun + 1⟩ : S91)) (fun _ h => h.elim) hG.1.1 (Below.refl _ _) hbase (by simp) (fun v1 w1 ho hb1 hg hn => ?_)
    case hr => clear hd hs hK hoff hG; (first | (go_simp; done) | (go_simp; rfl))
    exact hK _ _ (below_of_grown hg) ho
  case s14 =>
    refine ⟨_, rfl, fun b a w hG hb hoff hd hs K hK => ?_⟩
    obtain ⟨y37, h37, f37⟩ := hd 7 37 (by decide) (by decide)
    replace f37 : y37 = (.slice A l.length l.length) := f37
    subst y37
    have e37 := eval_of h37
    obtain ⟨v43, h43, f43⟩ := hd 13 43 (by decide) (by decide)
    have e43 := eval_of h43
    have hbase : base ≤ w.heap.size := Nat.le_trans hbase0 hG.1.1
    obtain ⟨A3, c3, e3, hl3, hr3⟩ := Kd.R_reads f43
    have hWw := hG.1.1
    obtain ⟨_, _, _, hr, _⟩ := hG
    refine cap_append_step k91 flat91 rfl (.tmp 37) (.tmp 43) 60 91 (.agg #[(.int .u64 0), (.int .u64 0), (.int .u64 0)]) 24 rfl Try.underlying60 info91 rfl (by decide) (by omega) A l [(⟨id, index, begun + 1⟩ : S91)] A3 1 c3 e37 (e43.trans e3) hAn (Kd.R_reads' hr).2.2 hr3 (by omega) (by omega) (fun v1 w1 ho hb1 => ?_)
    exact hK _ _ hb1 (Kd.R_mono (Kd.R_lower ho hbase) (fun k hk => Nat.le_trans hWw hk))
  case s15 =>
    refine ⟨_, rfl, fun b a w hG hb hoff hd hs K hK => ?_⟩
    obtain ⟨y30, h30, f30⟩ := hd 0 30 (by decide) (by decide)
    replace f30 : y30 = (.pointer (some ⟨qb, 0, none⟩)) := f30
    subst y30
    have e30 := eval_of h30
    refine value_ (v := (.pointer (some ⟨qb, 0, none⟩))) rfl rfl ?_ (hK _ _ rfl rfl)
    clear hd hs hK hoff
    clear e30
    go_simp
  case s16 =>
    refine ⟨_, rfl, fun b a w hG hb hoff hd hs K hK => ?_⟩
    obtain ⟨y45, h45, f45⟩ := hd 15 45 (by decide) (by decide)
    replace f45 : y45 = (.pointer (some ⟨qb, 0, none⟩)) := f45
    subst y45
    have e45 := eval_of h45
    refine value_ (v := (.pointer (some ⟨qb, 3, none⟩))) rfl rfl ?_ (hK _ _ rfl rfl)
    clear hd hs hK hoff
    clear e45
    go_simp
  case s17 =>
    refine ⟨_, rfl, fun b a w hG hb hoff hd hs K hK => ?_⟩
    obtain ⟨v44, h44, f44⟩ := hd 14 44 (by decide) (by decide)
    have e44 := eval_of h44
    obtain ⟨y46, h46, f46⟩ := hd 16 46 (by decide) (by decide)
    replace f46 : y46 = (.pointer (some ⟨qb, 3, none⟩)) := f46
    subst y46
    have e46 := eval_of h46
    obtain ⟨v41, h41, f41⟩ := hd 11 41 (by decide) (by decide)
    have e41 := eval_of h41
    obtain ⟨A4, c4, hv, _, _⟩ := Kd.R_reads f44
    obtain ⟨hk, hc1, hc2, hr, hbl⟩ := hG
    obtain ⟨b', hc'⟩ := hc1 hb
    obtain ⟨_, u, hcu⟩ := f41
    have hcq : w.heap[qb]? = some (QC (begun + 1) sure (.slice A l.length c)) := by
      have := hc'.symm.trans hcu
      simp only [Option.some.injEq, Obj.cells.injEq, Array.mk.injEq, List.cons.injEq, Value.int.injEq, true_and, and_true] at this
      rw [hc', this.1]
    have hz := blk_frozen hcq 3
    have hce := (blk_cell hcq 3).trans rfl
    subst hv
    refine skip_ (w1 := w.setCell ⟨qb, 3, none⟩ (.slice A4 (l ++ [(⟨id, index, begun + 1⟩ : S91)]).length c4)) rfl rfl ?_ (hK (.slice A4 (l ++ [(⟨id, index, begun + 1⟩ : S91)]).length c4) _ ⟨_, rfl⟩ ⟨?_, ?_⟩)
    · clear hd hs hK hoff hr hc1 hc2 hk hbl f44 e41 hcu hc'
      go_simp
    · exact blk_set hcq 3 _
    · exact Kd.R_far (p := ⟨qb, 3, none⟩) f44 (fun k hk => by have hk : W.heap.size ≤ k := hk; intro e; have e : k = qb := e; omega) _
  case hend =>
    intro b v w hb hG hv
    have f0 := hv 0 (by decide)
    have f1 := hv 1 (by decide)
    have f2 := hv 2 (by decide)
    have f3 := hv 3 (by decide)
    have f4 := hv 4 (by decide)
    have f5 := hv 5 (by decide)
    have f6 := hv 6 (by decide)
    have f7 := hv 7 (by decide)
    have f8 := hv 8 (by decide)
    have f9 := hv 9 (by decide)
    have f10 := hv 10 (by decide)
    have f11 := hv 11 (by decide)
    have f12 := hv 12 (by decide)
    have f13 := hv 13 (by decide)
    have f14 := hv 14 (by decide)
    have f15 := hv 15 (by decide)
    have f16 := hv 16 (by decide)
    have f17 := hv 17 (by decide)
    have := hend (v 11) (v 13) (v 14) (v 17) w b hb hG f11 f13 f14 f17
    have g0 : v 0 = (.pointer (some ⟨qb, 0, none⟩)) := f0
    have g1 : v 1 = (.pointer (some ⟨qb, 0, none⟩)) := f1
    have g2 : v 2 = (.pointer (some ⟨qb, 0, none⟩)) := f2
    have g3 : v 3 = (.pointer (some ⟨qb, 3, none⟩)) := f3
    have g4 : v 4 = (.slice A l.length c) := f4
    have g5 : v 5 = (.int .i64 l.length) := f5
    have g6 : v 6 = (.int .i64 l.length) := f6
    have g7 : v 7 = (.slice A l.length l.length) := f7
    have g8 : v 8 = (.int .u64 id) := f8
    have g9 : v 9 = (.int .u64 index) := f9
    have g10 : v 10 = (.pointer (some ⟨qb, 0, none⟩)) := f10
    have g12 : v 12 = (.agg #[.int .u64 id, .int .u64 index, .int .u64 (begun + 1)]) := f12
    have g15 : v 15 = (.pointer (some ⟨qb, 0, none⟩)) := f15
    have g16 : v 16 = (.pointer (some ⟨qb, 3, none⟩)) := f16
    have e : (r38x8.L.map fun e => (e.2, v e.1)) = [(30, (.pointer (some ⟨qb, 0, none⟩))), (31, (.pointer (some ⟨qb, 0, none⟩))), (32, (.pointer (some ⟨qb, 0, none⟩))), (33, (.pointer (some ⟨qb, 3, none⟩))), (34, (.slice A l.length c)), (35, (.int .i64 l.length)), (36, (.int .i64 l.length)), (37, (.slice A l.length l.length)), (38, (.int .u64 id)), (39, (.int .u64 index)), (40, (.pointer (some ⟨qb, 0, none⟩))), (41, v 11), (42, (.agg #[.int .u64 id, .int .u64 index, .int .u64 (begun + 1)])), (43, v 13), (44, v 14), (45, (.pointer (some ⟨qb, 0, none⟩))), (46, (.pointer (some ⟨qb, 3, none⟩)))] := by
      simp only [r38x8.L, List.map_cons, List.map_nil, g0, g1, g2, g3, g4, g5, g6, g7, g8, g9, g10, g12, g15, g16]
    rw [e]
    exact this

end Go.Proofs.Ytbjbejjieibldaa.Qa
