/- The law's own 'hear': its last statement, whose order is open. -/
import Derived.Test.YtbjbejjieibldaaPd
namespace Go.Proofs.Ytbjbejjieibldaa.Pa
open Go.RowKit Go.Proofs.YtbjbejjieibldaaW.PrintWords Go.Proofs.YtbjbejjieibldaaW.PrintLast Go.Proofs.YtbjbejjieibldaaW.PrintMore Go.Maps Go.Proofs.Ytbjbejjieibldaa.Rg
open Go.Proofs.Ytbjbejjieibldaa.Pl (cnt dedup mostL same_f cnt_snoc dedup_step most_dedup times_f most_f did_f)
open Go.Proofs.Ytbjbejjieibldaa
set_option linter.unusedVariables false
set_option linter.unusedSimpArgs false

/-! ### region 3 of function 20 -/
def r20x3.T : Bool × List (List Nat × List Nat) := (true, [([], []), ([], []), ([], []), ([1, 2], [1, 2]), ([3], [3]), ([4], [4]), ([4], [4]), ([5, 6, 4], [4, 5, 6]), ([4, 7], [4, 7]), ([8, 4], [8]), ([9], [9]), ([9], [9]), ([11, 9], [9, 11]), ([10, 12, 9, 9], [9, 10, 12]), ([9], [9]), ([9], [9]), ([15, 9], [9, 15]), ([14, 16, 13, 9], [9, 14, 16]), ([13, 17, 9], [9, 13, 17]), ([9, 18], [9, 18]), ([19, 17], [19]), ([20], [20]), ([21, 20, 20], [20, 21]), ([20], [20]), ([23, 22, 20], [20, 23]), ([22, 24, 20], [20, 22, 24]), ([20, 25], [20, 25]), ([26, 24], [26]), ([27], [27]), ([28, 27, 27], [27, 28]), ([27], [27]), ([30, 29, 27], [27, 30]), ([29, 31, 31, 27], [27, 29, 31]), ([27, 32], [27, 32]), ([0, 32, 0], [0]), ([33, 34, 0, 1, 2, 3, 4, 5, 6, 7, 8, 9, 10, 11, 12, 13, 14, 15, 16, 17, 18, 19, 20, 21, 22, 23, 24, 25, 26, 27, 28, 29, 30, 31, 32, 33, 34], [33])])
def r20x3.B : List Nat := [0, 0, 0, 6, 14, 30, 30, 126, 254, 510, 1022, 1022, 3070, 8190, 1022, 1022, 33790, 131070, 262142, 524286, 1048574, 2097150, 4194302, 2097150, 16777214, 33554430, 67108862, 134217726, 268435454, 536870910, 268435454, 2147483646, 4294967294, 8589934590, 8589934591, 34359738367]
def r20x3.L : List (Nat × Tmp) := [(0, 26), (1, 27), (2, 28), (3, 29), (4, 30), (5, 31), (6, 32), (7, 33), (8, 34), (9, 35), (10, 36), (11, 37), (12, 38), (13, 39), (14, 40), (15, 41), (16, 42), (17, 43), (18, 44), (19, 45), (20, 46), (21, 47), (22, 48), (23, 49), (24, 50), (25, 51), (26, 52), (27, 53), (28, 54), (29, 55), (30, 56), (31, 57), (32, 58), (33, 59), (35, 7)]
theorem r20x3.tab : rtab .any (opsOf Try.f20 3) = r20x3.T := by kernel_rfl
theorem r20x3.bits : waitsOk r20x3.T.2 r20x3.B = true := by kernel_rfl
theorem r20x3.base : baseOk r20x3.T.2 (List.range 36) = true := by kernel_rfl
theorem r20x3.okl : okL (opsOf Try.f20 3) r20x3.L 60 = true := by kernel_rfl
def r20x3.F (pb xb nb rb : Nat) (number id e : Int) (first : Bool) (A : Option Addr) (c : Nat) (l : List Int) (base : Nat) (W : World) (i : Nat) : Value → World → Prop := match i with
  | 0 => fun v _ => v = (.agg #[.int .i64 number, .slice A l.length c])
  | 1 => fun v _ => v = (.bool first)
  | 2 => fun v _ => v = (.bool first)
  | 3 => fun v _ => v = (.bool true)
  | 4 => fun v _ => v = (.bool true)
  | 5 => fun v _ => v = (.int .i64 e)
  | 6 => fun v _ => v = (.int .i64 e)
  | 7 => fun v _ => v = (.bool true)
  | 8 => fun v _ => v = (.bool true)
  | 9 => fun v _ => v = (.bool true)
  | 10 => fun v _ => v = (.pointer (some ⟨pb, 0, none⟩))
  | 11 => fun v _ => v = (.pointer (some ⟨nb, 0, none⟩))
  | 12 => fun v _ => v = (.int .u64 id)
  | 13 => fun v _ => v = (.int .i64 (cnt l id))
  | 14 => fun v _ => v = (.agg #[.int .i64 number, .slice A l.length c])
  | 15 => fun v _ => v = (.pointer (some ⟨nb, 0, none⟩))
  | 16 => fun v _ => v = (.int .u64 id)
  | 17 => fun v _ => v = (.int .i64 (cnt l id))
  | 18 => fun v _ => v = (.bool true)
  | 19 => fun v _ => v = (.bool true)
  | 20 => fun v _ => v = (.bool true)
  | 21 => fun v _ => v = (.pointer (some ⟨pb, 0, none⟩))
  | 22 => fun v _ => v = (.int .i64 (mostL (cnt l) l))
  | 23 => fun v _ => v = (.agg #[.int .i64 number, .slice A l.length c])
  | 24 => fun v _ => v = (.int .i64 (mostL (cnt l) l))
  | 25 => fun v _ => v = (.bool true)
  | 26 => fun v _ => v = (.bool true)
  | 27 => fun v _ => v = (.bool true)
  | 28 => fun v _ => v = (.pointer (some ⟨pb, 0, none⟩))
  | 29 => fun v w => Kd.R (Kd.int .u64) 23 w base (fun k => k ≠ rb) v (dedup l)
  | 30 => fun v _ => v = (.agg #[.int .i64 number, .slice A l.length c])
  | 31 => fun v w => Kd.R (Kd.int .u64) 23 w base (fun k => k ≠ rb) v (dedup l)
  | 32 => fun v _ => v = (.bool true)
  | 33 => fun v _ => v = (.bool true)
  | 34 => fun _ w => w.heap[rb]? = some (.cells #[.int .i64 number, .slice A l.length c] 29 (0, 0))
  | 35 => fun v _ => v = (.bool true)
  | _ => fun _ _ => True
def r20x3.St (pb xb nb rb : Nat) (number id e : Int) (first : Bool) (A : Option Addr) (c : Nat) (l : List Int) (base : Nat) (W : World) (i : Nat) : World → World → Prop := match i with
  | 17 => fun w w' => Below w.heap.size w w'
  | 22 => fun w w' => Below w.heap.size w w'
  | 24 => fun w w' => Below w.heap.size w w'
  | 29 => fun w w' => Below w.heap.size w w'
  | 31 => fun w w' => Below w.heap.size w w'
  | 32 => fun w w' => Below w.heap.size w w'
  | 34 => fun w w' => ∃ u1 u2, w' = (w.setCell ⟨rb, 0, none⟩ u1).setCell ⟨rb, 1, none⟩ u2
  | _ => fun w w' => w' = w
def r20x3.G (pb xb nb rb : Nat) (number id e : Int) (first : Bool) (A : Option Addr) (c : Nat) (l : List Int) (base : Nat) (W : World) : (Nat → Bool) → World → Prop := fun b w => Kept W w (fun k => k = rb) ∧ Below base W w ∧ w.heap[xb]? = some (.cells #[.int .i64 number, .slice A l.length c] 29 (0, 0)) ∧ w.cell? ⟨nb, 0, none⟩ = some (.int .u64 id) ∧ (b 34 = false → w.heap[rb]? = some (.cells #[.int .i64 0, .slice none 0 0] 29 (0, 0)))
set_option maxHeartbeats 4000000 in
set_option maxRecDepth 100000 in
theorem r20x3 (pb xb nb rb : Nat) (number id e : Int) (first : Bool) (A : Option Addr) (c : Nat) (l : List Int) (base : Nat) (W : World) {ok1 : Nat → Prop} {base1 : Nat} (hid : U id) (hl : l.length < 1000) (hxr : xb ≠ rb) (hnr : nb ≠ rb) (hbr : base ≤ rb) (hrb : rb < W.heap.size) (hbase0 : base ≤ W.heap.size) (hP : ∀ w, Kept W w (fun k => k = rb) → Heard w base1 ok1 pb number l) (hR : ∀ w, Kept W w (fun k => k = rb) → l.length = l.length ∧ l.length ≤ c ∧ (Kd.int .u64).C w A l.length l) {Q : Exit → Act → World → Prop} {a0 : Act} {w0 : World} (hz : a0.tmps.size = 60) (z0 : a0.tmps[0]? = some (.pointer (some ⟨pb, 0, none⟩))) (z5 : a0.tmps[5]? = some (.pointer (some ⟨nb, 0, none⟩))) (z6 : a0.tmps[6]? = some (.pointer (some ⟨rb, 0, none⟩))) (z8 : a0.tmps[8]? = some (.pointer (some ⟨xb, 0, none⟩))) (z9 : a0.tmps[9]? = some (.bool first)) (z10 : a0.tmps[10]? = some (.int .i64 e)) (z11 : a0.tmps[11]? = some (.bool first)) (z12 : a0.tmps[12]? = some (.int .i64 e)) (hG0 : (r20x3.G pb xb nb rb number id e first A c l base W) (fun _ => false) w0.drew)
    (hend : ∀ (v55 : Value) (v57 : Value) (v34 : Value) (w : World) (b : Nat → Bool), (∀ i, i < 36 → b i = true) → (r20x3.G pb xb nb rb number id e first A c l base W) b w → r20x3.F pb xb nb rb number id e first A c l base W 29 v55 w → r20x3.F pb xb nb rb number id e first A c l base W 31 v57 w → r20x3.F pb xb nb rb number id e first A c l base W 34 v34 w → Q .normal (putAll a0 [(26, (.agg #[.int .i64 number, .slice A l.length c])), (27, (.bool first)), (28, (.bool first)), (29, (.bool true)), (30, (.bool true)), (31, (.int .i64 e)), (32, (.int .i64 e)), (33, (.bool true)), (34, (.bool true)), (35, (.bool true)), (36, (.pointer (some ⟨pb, 0, none⟩))), (37, (.pointer (some ⟨nb, 0, none⟩))), (38, (.int .u64 id)), (39, (.int .i64 (cnt l id))), (40, (.agg #[.int .i64 number, .slice A l.length c])), (41, (.pointer (some ⟨nb, 0, none⟩))), (42, (.int .u64 id)), (43, (.int .i64 (cnt l id))), (44, (.bool true)), (45, (.bool true)), (46, (.bool true)), (47, (.pointer (some ⟨pb, 0, none⟩))), (48, (.int .i64 (mostL (cnt l) l))), (49, (.agg #[.int .i64 number, .slice A l.length c])), (50, (.int .i64 (mostL (cnt l) l))), (51, (.bool true)), (52, (.bool true)), (53, (.bool true)), (54, (.pointer (some ⟨pb, 0, none⟩))), (55, v55), (56, (.agg #[.int .i64 number, .slice A l.length c])), (57, v57), (58, (.bool true)), (59, (.bool true)), (7, (.bool true))]) w) :
    (Code.region 3 (opsOf Try.f20 3) true).wp Try.prog Q a0 w0 := by
  refine region_lit (ops' := #[_, _, _, _, _, _, _, _, _, _, _, _, _, _, _, _, _, _, _, _, _, _, _, _, _, _, _, _, _, _, _, _, _, _, _, _]) rfl ?_
  refine region_facts (n := 36) (T := r20x3.T) (B := r20x3.B) r20x3.L (r20x3.G pb xb nb rb number id e first A c l base W) (r20x3.St pb xb nb rb number id e first A c l base W) (r20x3.F pb xb nb rb number id e first A c l base W) (by kernel_rfl) (by kernel_rfl) r20x3.tab r20x3.bits r20x3.base (by rw [hz]; exact r20x3.okl) hG0 ?hSt ?hF ((all_cons ?s0 (all_cons ?s1 (all_cons ?s2 (all_cons ?s3 (all_cons ?s4 (all_cons ?s5 (all_cons ?s6 (all_cons ?s7 (all_cons ?s8 (all_cons ?s9 (all_cons ?s10 (all_cons ?s11 (all_cons ?s12 (all_cons ?s13 (all_cons ?s14 (all_cons ?s15 (all_cons ?s16 (all_cons ?s17 (all_cons ?s18 (all_cons ?s19 (all_cons ?s20 (all_cons ?s21 (all_cons ?s22 (all_cons ?s23 (all_cons ?s24 (all_cons ?s25 (all_cons ?s26 (all_cons ?s27 (all_cons ?s28 (all_cons ?s29 (all_cons ?s30 (all_cons ?s31 (all_cons ?s32 (all_cons ?s33 (all_cons ?s34 (all_cons ?s35 all_nil))))))))))))))))))))))))))))))))))))) ?hend
  case hSt =>
    intro i b w w' hi hb hoff hG hst
    match i, hi, hb, hoff, hst with
    | 0, _, hb, hoff, hst =>
      obtain rfl : w' = w := hst
      obtain ⟨h1, h2, h3, h4, h5⟩ := hG
      exact ⟨h1, h2, h3, h4, fun hb34 => h5 (by rw [up_ne (by decide)] at hb34; exact hb34)⟩
    | 1, _, hb, hoff, hst =>
      obtain rfl : w' = w := hst
      obtain ⟨h1, h2, h3, h4, h5⟩ := hG
      exact ⟨h1, h2, h3, h4, fun hb34 => h5 (by rw [up_ne (by decide)] at hb34; exact hb34)⟩
    | 2, _, hb, hoff, hst =>
      obtain rfl : w' = w := hst
      obtain ⟨h1, h2, h3, h4, h5⟩ := hG
      exact ⟨h1, h2, h3, h4, fun hb34 => h5 (by rw [up_ne (by decide)] at hb34; exact hb34)⟩
    | 3, _, hb, hoff, hst =>
      obtain rfl : w' = w := hst
      obtain ⟨h1, h2, h3, h4, h5⟩ := hG
      exact ⟨h1, h2, h3, h4, fun hb34 => h5 (by rw [up_ne (by decide)] at hb34; exact hb34)⟩
    | 4, _, hb, hoff, hst =>
      obtain rfl : w' = w := hst
      obtain ⟨h1, h2, h3, h4, h5⟩ := hG
      exact ⟨h1, h2, h3, h4, fun hb34 => h5 (by rw [up_ne (by decide)] at hb34; exact hb34)⟩
    | 5, _, hb, hoff, hst =>
      obtain rfl : w' = w := hst
      obtain ⟨h1, h2, h3, h4, h5⟩ := hG
      exact ⟨h1, h2, h3, h4, fun hb34 => h5 (by rw [up_ne (by decide)] at hb34; exact hb34)⟩
    | 6, _, hb, hoff, hst =>
      obtain rfl : w' = w := hst
      obtain ⟨h1, h2, h3, h4, h5⟩ := hG
      exact ⟨h1, h2, h3, h4, fun hb34 => h5 (by rw [up_ne (by decide)] at hb34; exact hb34)⟩
    | 7, _, hb, hoff, hst =>
      obtain rfl : w' = w := hst
      obtain ⟨h1, h2, h3, h4, h5⟩ := hG
      exact ⟨h1, h2, h3, h4, fun hb34 => h5 (by rw [up_ne (by decide)] at hb34; exact hb34)⟩
    | 8, _, hb, hoff, hst =>
      obtain rfl : w' = w := hst
      obtain ⟨h1, h2, h3, h4, h5⟩ := hG
      exact ⟨h1, h2, h3, h4, fun hb34 => h5 (by rw [up_ne (by decide)] at hb34; exact hb34)⟩
    | 9, _, hb, hoff, hst =>
      obtain rfl : w' = w := hst
      obtain ⟨h1, h2, h3, h4, h5⟩ := hG
      exact ⟨h1, h2, h3, h4, fun hb34 => h5 (by rw [up_ne (by decide)] at hb34; exact hb34)⟩
    | 10, _, hb, hoff, hst =>
      obtain rfl : w' = w := hst
      obtain ⟨h1, h2, h3, h4, h5⟩ := hG
      exact ⟨h1, h2, h3, h4, fun hb34 => h5 (by rw [up_ne (by decide)] at hb34; exact hb34)⟩
    | 11, _, hb, hoff, hst =>
      obtain rfl : w' = w := hst
      obtain ⟨h1, h2, h3, h4, h5⟩ := hG
      exact ⟨h1, h2, h3, h4, fun hb34 => h5 (by rw [up_ne (by decide)] at hb34; exact hb34)⟩
    | 12, _, hb, hoff, hst =>
      obtain rfl : w' = w := hst
      obtain ⟨h1, h2, h3, h4, h5⟩ := hG
      exact ⟨h1, h2, h3, h4, fun hb34 => h5 (by rw [up_ne (by decide)] at hb34; exact hb34)⟩
    | 13, _, hb, hoff, hst =>
      obtain rfl : w' = w := hst
      obtain ⟨h1, h2, h3, h4, h5⟩ := hG
      exact ⟨h1, h2, h3, h4, fun hb34 => h5 (by rw [up_ne (by decide)] at hb34; exact hb34)⟩
    | 14, _, hb, hoff, hst =>
      obtain rfl : w' = w := hst
      obtain ⟨h1, h2, h3, h4, h5⟩ := hG
      exact ⟨h1, h2, h3, h4, fun hb34 => h5 (by rw [up_ne (by decide)] at hb34; exact hb34)⟩
    | 15, _, hb, hoff, hst =>
      obtain rfl : w' = w := hst
      obtain ⟨h1, h2, h3, h4, h5⟩ := hG
      exact ⟨h1, h2, h3, h4, fun hb34 => h5 (by rw [up_ne (by decide)] at hb34; exact hb34)⟩
    | 16, _, hb, hoff, hst =>
      obtain rfl : w' = w := hst
      obtain ⟨h1, h2, h3, h4, h5⟩ := hG
      exact ⟨h1, h2, h3, h4, fun hb34 => h5 (by rw [up_ne (by decide)] at hb34; exact hb34)⟩
    | 17, _, hb, hoff, hst =>
      obtain ⟨h1, h2, h3, h4, h5⟩ := hG
      have hst' : Below w.heap.size w w' := hst
      exact ⟨h1.below hst', below_then h2 (Nat.le_trans hbase0 h1.1) hst', blk_below h3 hst', pw_cell_below hst' h4, fun hb34 => blk_below (h5 (by rw [up_ne (by decide)] at hb34; exact hb34)) hst'⟩
    | 18, _, hb, hoff, hst =>
      obtain rfl : w' = w := hst
      obtain ⟨h1, h2, h3, h4, h5⟩ := hG
      exact ⟨h1, h2, h3, h4, fun hb34 => h5 (by rw [up_ne (by decide)] at hb34; exact hb34)⟩
    | 19, _, hb, hoff, hst =>
      obtain rfl : w' = w := hst
      obtain ⟨h1, h2, h3, h4, h5⟩ := hG
      exact ⟨h1, h2, h3, h4, fun hb34 => h5 (by rw [up_ne (by decide)] at hb34; exact hb34)⟩
    | 20, _, hb, hoff, hst =>
      obtain rfl : w' = w := hst
      obtain ⟨h1, h2, h3, h4, h5⟩ := hG
      exact ⟨h1, h2, h3, h4, fun hb34 => h5 (by rw [up_ne (by decide)] at hb34; exact hb34)⟩
    | 21, _, hb, hoff, hst =>
      obtain rfl : w' = w := hst
      obtain ⟨h1, h2, h3, h4, h5⟩ := hG
      exact ⟨h1, h2, h3, h4, fun hb34 => h5 (by rw [up_ne (by decide)] at hb34; exact hb34)⟩
    | 22, _, hb, hoff, hst =>
      obtain ⟨h1, h2, h3, h4, h5⟩ := hG
      have hst' : Below w.heap.size w w' := hst
      exact ⟨h1.below hst', below_then h2 (Nat.le_trans hbase0 h1.1) hst', blk_below h3 hst', pw_cell_below hst' h4, fun hb34 => blk_below (h5 (by rw [up_ne (by decide)] at hb34; exact hb34)) hst'⟩
    | 23, _, hb, hoff, hst =>
      obtain rfl : w' = w := hst
      obtain ⟨h1, h2, h3, h4, h5⟩ := hG
      exact ⟨h1, h2, h3, h4, fun hb34 => h5 (by rw [up_ne (by decide)] at hb34; exact hb34)⟩
    | 24, _, hb, hoff, hst =>
      obtain ⟨h1, h2, h3, h4, h5⟩ := hG
      have hst' : Below w.heap.size w w' := hst
      exact ⟨h1.below hst', below_then h2 (Nat.le_trans hbase0 h1.1) hst', blk_below h3 hst', pw_cell_below hst' h4, fun hb34 => blk_below (h5 (by rw [up_ne (by decide)] at hb34; exact hb34)) hst'⟩
    | 25, _, hb, hoff, hst =>
      obtain rfl : w' = w := hst
      obtain ⟨h1, h2, h3, h4, h5⟩ := hG
      exact ⟨h1, h2, h3, h4, fun hb34 => h5 (by rw [up_ne (by decide)] at hb34; exact hb34)⟩
    | 26, _, hb, hoff, hst =>
      obtain rfl : w' = w := hst
      obtain ⟨h1, h2, h3, h4, h5⟩ := hG
      exact ⟨h1, h2, h3, h4, fun hb34 => h5 (by rw [up_ne (by decide)] at hb34; exact hb34)⟩
    | 27, _, hb, hoff, hst =>
      obtain rfl : w' = w := hst
      obtain ⟨h1, h2, h3, h4, h5⟩ := hG
      exact ⟨h1, h2, h3, h4, fun hb34 => h5 (by rw [up_ne (by decide)] at hb34; exact hb34)⟩
    | 28, _, hb, hoff, hst =>
      obtain rfl : w' = w := hst
      obtain ⟨h1, h2, h3, h4, h5⟩ := hG
      exact ⟨h1, h2, h3, h4, fun hb34 => h5 (by rw [up_ne (by decide)] at hb34; exact hb34)⟩
    | 29, _, hb, hoff, hst =>
      obtain ⟨h1, h2, h3, h4, h5⟩ := hG
      have hst' : Below w.heap.size w w' := hst
      exact ⟨h1.below hst', below_then h2 (Nat.le_trans hbase0 h1.1) hst', blk_below h3 hst', pw_cell_below hst' h4, fun hb34 => blk_below (h5 (by rw [up_ne (by decide)] at hb34; exact hb34)) hst'⟩
    | 30, _, hb, hoff, hst =>
      obtain rfl : w' = w := hst
      obtain ⟨h1, h2, h3, h4, h5⟩ := hG
      exact ⟨h1, h2, h3, h4, fun hb34 => h5 (by rw [up_ne (by decide)] at hb34; exact hb34)⟩
    | 31, _, hb, hoff, hst =>
      obtain ⟨h1, h2, h3, h4, h5⟩ := hG
      have hst' : Below w.heap.size w w' := hst
      exact ⟨h1.below hst', below_then h2 (Nat.le_trans hbase0 h1.1) hst', blk_below h3 hst', pw_cell_below hst' h4, fun hb34 => blk_below (h5 (by rw [up_ne (by decide)] at hb34; exact hb34)) hst'⟩
    | 32, _, hb, hoff, hst =>
      obtain ⟨h1, h2, h3, h4, h5⟩ := hG
      have hst' : Below w.heap.size w w' := hst
      exact ⟨h1.below hst', below_then h2 (Nat.le_trans hbase0 h1.1) hst', blk_below h3 hst', pw_cell_below hst' h4, fun hb34 => blk_below (h5 (by rw [up_ne (by decide)] at hb34; exact hb34)) hst'⟩
    | 33, _, hb, hoff, hst =>
      obtain rfl : w' = w := hst
      obtain ⟨h1, h2, h3, h4, h5⟩ := hG
      exact ⟨h1, h2, h3, h4, fun hb34 => h5 (by rw [up_ne (by decide)] at hb34; exact hb34)⟩
    | 34, _, hb, hoff, hst =>
      obtain ⟨h1, h2, h3, h4, h5⟩ := hG
      obtain ⟨u1, u2, rfl⟩ : ∃ u1 u2, w' = (w.setCell ⟨rb, 0, none⟩ u1).setCell ⟨rb, 1, none⟩ u2 := hst
      refine ⟨(h1.setCell (.inl rfl) u1).setCell (.inl rfl) u2, (h2.setCell hbr u1).setCell hbr u2, blk_far (p := ⟨rb, 1, none⟩) (blk_far (p := ⟨rb, 0, none⟩) h3 hxr u1) hxr u2, ?_, fun hb34 => ?_⟩
      · rw [World.cell?_setCell_other _ _ _ _ (fun e => hnr (congrArg Addr.block e).symm), World.cell?_setCell_other _ _ _ _ (fun e => hnr (congrArg Addr.block e).symm)]; exact h4
      · rw [up_self] at hb34; cases hb34
    | 35, _, hb, hoff, hst =>
      obtain rfl : w' = w := hst
      obtain ⟨h1, h2, h3, h4, h5⟩ := hG
      exact ⟨h1, h2, h3, h4, fun hb34 => h5 (by rw [up_ne (by decide)] at hb34; exact hb34)⟩
    | i + 36, hi, _, _, _ => exact absurd hi (by omega)
  case hF =>
    intro i j b v w w' hij hi hj hb hbj hoff hG hst hf
    match i, hi, hij, hb, hoff, hst with
    | 0, _, hij, hb, hoff, hst =>
      obtain rfl : w' = w := hst
      exact hf
    | 1, _, hij, hb, hoff, hst =>
      obtain rfl : w' = w := hst
      exact hf
    | 2, _, hij, hb, hoff, hst =>
      obtain rfl : w' = w := hst
      exact hf
    | 3, _, hij, hb, hoff, hst =>
      obtain rfl : w' = w := hst
      exact hf
    | 4, _, hij, hb, hoff, hst =>
      obtain rfl : w' = w := hst
      exact hf
    | 5, _, hij, hb, hoff, hst =>
      obtain rfl : w' = w := hst
      exact hf
    | 6, _, hij, hb, hoff, hst =>
      obtain rfl : w' = w := hst
      exact hf
    | 7, _, hij, hb, hoff, hst =>
      obtain rfl : w' = w := hst
      exact hf
    | 8, _, hij, hb, hoff, hst =>
      obtain rfl : w' = w := hst
      exact hf
    | 9, _, hij, hb, hoff, hst =>
      obtain rfl : w' = w := hst
      exact hf
    | 10, _, hij, hb, hoff, hst =>
      obtain rfl : w' = w := hst
      exact hf
    | 11, _, hij, hb, hoff, hst =>
      obtain rfl : w' = w := hst
      exact hf
    | 12, _, hij, hb, hoff, hst =>
      obtain rfl : w' = w := hst
      exact hf
    | 13, _, hij, hb, hoff, hst =>
      obtain rfl : w' = w := hst
      exact hf
    | 14, _, hij, hb, hoff, hst =>
      obtain rfl : w' = w := hst
      exact hf
    | 15, _, hij, hb, hoff, hst =>
      obtain rfl : w' = w := hst
      exact hf
    | 16, _, hij, hb, hoff, hst =>
      obtain rfl : w' = w := hst
      exact hf
    | 17, _, hij, hb, hoff, hst =>
      match j, hj, hij, hbj, hf with
      | 0, _, hij, hbj, hf => 
        exact hf
      | 1, _, hij, hbj, hf => 
        exact hf
      | 2, _, hij, hbj, hf => 
        exact hf
      | 3, _, hij, hbj, hf => 
        exact hf
      | 4, _, hij, hbj, hf => 
        exact hf
      | 5, _, hij, hbj, hf => 
        exact hf
      | 6, _, hij, hbj, hf => 
        exact hf
      | 7, _, hij, hbj, hf => 
        exact hf
      | 8, _, hij, hbj, hf => 
        exact hf
      | 9, _, hij, hbj, hf => 
        exact hf
      | 10, _, hij, hbj, hf => 
        exact hf
      | 11, _, hij, hbj, hf => 
        exact hf
      | 12, _, hij, hbj, hf => 
        exact hf
      | 13, _, hij, hbj, hf => 
        exact hf
      | 14, _, hij, hbj, hf => 
        exact hf
      | 15, _, hij, hbj, hf => 
        exact hf
      | 16, _, hij, hbj, hf => 
        exact hf
      | 17, _, hij, hbj, hf => exact absurd rfl hij
      | 18, _, hij, hbj, hf => exact absurd hbj (by rw [hoff 18 (by decide) (by decide)]; decide)
      | 19, _, hij, hbj, hf => exact absurd hbj (by rw [hoff 19 (by decide) (by decide)]; decide)
      | 20, _, hij, hbj, hf => exact absurd hbj (by rw [hoff 20 (by decide) (by decide)]; decide)
      | 21, _, hij, hbj, hf => exact absurd hbj (by rw [hoff 21 (by decide) (by decide)]; decide)
      | 22, _, hij, hbj, hf => exact absurd hbj (by rw [hoff 22 (by decide) (by decide)]; decide)
      | 23, _, hij, hbj, hf => exact absurd hbj (by rw [hoff 23 (by decide) (by decide)]; decide)
      | 24, _, hij, hbj, hf => exact absurd hbj (by rw [hoff 24 (by decide) (by decide)]; decide)
      | 25, _, hij, hbj, hf => exact absurd hbj (by rw [hoff 25 (by decide) (by decide)]; decide)
      | 26, _, hij, hbj, hf => exact absurd hbj (by rw [hoff 26 (by decide) (by decide)]; decide)
      | 27, _, hij, hbj, hf => exact absurd hbj (by rw [hoff 27 (by decide) (by decide)]; decide)
      | 28, _, hij, hbj, hf => exact absurd hbj (by rw [hoff 28 (by decide) (by decide)]; decide)
      | 29, _, hij, hbj, hf => exact absurd hbj (by rw [hoff 29 (by decide) (by decide)]; decide)
      | 30, _, hij, hbj, hf => exact absurd hbj (by rw [hoff 30 (by decide) (by decide)]; decide)
      | 31, _, hij, hbj, hf => exact absurd hbj (by rw [hoff 31 (by decide) (by decide)]; decide)
      | 32, _, hij, hbj, hf => exact absurd hbj (by rw [hoff 32 (by decide) (by decide)]; decide)
      | 33, _, hij, hbj, hf => exact absurd hbj (by rw [hoff 33 (by decide) (by decide)]; decide)
      | 34, _, hij, hbj, hf => exact absurd hbj (by rw [hoff 34 (by decide) (by decide)]; decide)
      | 35, _, hij, hbj, hf => exact absurd hbj (by rw [hoff 35 (by decide) (by decide)]; decide)
      | j + 36, hj, _, _, _ => exact absurd hj (by omega)
    | 18, _, hij, hb, hoff, hst =>
      obtain rfl : w' = w := hst
      exact hf
    | 19, _, hij, hb, hoff, hst =>
      obtain rfl : w' = w := hst
      exact hf
    | 20, _, hij, hb, hoff, hst =>
      obtain rfl : w' = w := hst
      exact hf
    | 21, _, hij, hb, hoff, hst =>
      obtain rfl : w' = w := hst
      exact hf
    | 22, _, hij, hb, hoff, hst =>
      match j, hj, hij, hbj, hf with
      | 0, _, hij, hbj, hf => 
        exact hf
      | 1, _, hij, hbj, hf => 
        exact hf
      | 2, _, hij, hbj, hf => 
        exact hf
      | 3, _, hij, hbj, hf => 
        exact hf
      | 4, _, hij, hbj, hf => 
        exact hf
      | 5, _, hij, hbj, hf => 
        exact hf
      | 6, _, hij, hbj, hf => 
        exact hf
      | 7, _, hij, hbj, hf => 
        exact hf
      | 8, _, hij, hbj, hf => 
        exact hf
      | 9, _, hij, hbj, hf => 
        exact hf
      | 10, _, hij, hbj, hf => 
        exact hf
      | 11, _, hij, hbj, hf => 
        exact hf
      | 12, _, hij, hbj, hf => 
        exact hf
      | 13, _, hij, hbj, hf => 
        exact hf
      | 14, _, hij, hbj, hf => 
        exact hf
      | 15, _, hij, hbj, hf => 
        exact hf
      | 16, _, hij, hbj, hf => 
        exact hf
      | 17, _, hij, hbj, hf => 
        exact hf
      | 18, _, hij, hbj, hf => 
        exact hf
      | 19, _, hij, hbj, hf => 
        exact hf
      | 20, _, hij, hbj, hf => 
        exact hf
      | 21, _, hij, hbj, hf => 
        exact hf
      | 22, _, hij, hbj, hf => exact absurd rfl hij
      | 23, _, hij, hbj, hf => 
        exact hf
      | 24, _, hij, hbj, hf => exact absurd hbj (by rw [hoff 24 (by decide) (by decide)]; decide)
      | 25, _, hij, hbj, hf => exact absurd hbj (by rw [hoff 25 (by decide) (by decide)]; decide)
      | 26, _, hij, hbj, hf => exact absurd hbj (by rw [hoff 26 (by decide) (by decide)]; decide)
      | 27, _, hij, hbj, hf => exact absurd hbj (by rw [hoff 27 (by decide) (by decide)]; decide)
      | 28, _, hij, hbj, hf => exact absurd hbj (by rw [hoff 28 (by decide) (by decide)]; decide)
      | 29, _, hij, hbj, hf => exact absurd hbj (by rw [hoff 29 (by decide) (by decide)]; decide)
      | 30, _, hij, hbj, hf => exact absurd hbj (by rw [hoff 30 (by decide) (by decide)]; decide)
      | 31, _, hij, hbj, hf => exact absurd hbj (by rw [hoff 31 (by decide) (by decide)]; decide)
      | 32, _, hij, hbj, hf => exact absurd hbj (by rw [hoff 32 (by decide) (by decide)]; decide)
      | 33, _, hij, hbj, hf => exact absurd hbj (by rw [hoff 33 (by decide) (by decide)]; decide)
      | 34, _, hij, hbj, hf => exact absurd hbj (by rw [hoff 34 (by decide) (by decide)]; decide)
      | 35, _, hij, hbj, hf => exact absurd hbj (by rw [hoff 35 (by decide) (by decide)]; decide)
      | j + 36, hj, _, _, _ => exact absurd hj (by omega)
    | 23, _, hij, hb, hoff, hst =>
      obtain rfl : w' = w := hst
      exact hf
    | 24, _, hij, hb, hoff, hst =>
      match j, hj, hij, hbj, hf with
      | 0, _, hij, hbj, hf => 
        exact hf
      | 1, _, hij, hbj, hf => 
        exact hf
      | 2, _, hij, hbj, hf => 
        exact hf
      | 3, _, hij, hbj, hf => 
        exact hf
      | 4, _, hij, hbj, hf => 
        exact hf
      | 5, _, hij, hbj, hf => 
        exact hf
      | 6, _, hij, hbj, hf => 
        exact hf
      | 7, _, hij, hbj, hf => 
        exact hf
      | 8, _, hij, hbj, hf => 
        exact hf
      | 9, _, hij, hbj, hf => 
        exact hf
      | 10, _, hij, hbj, hf => 
        exact hf
      | 11, _, hij, hbj, hf => 
        exact hf
      | 12, _, hij, hbj, hf => 
        exact hf
      | 13, _, hij, hbj, hf => 
        exact hf
      | 14, _, hij, hbj, hf => 
        exact hf
      | 15, _, hij, hbj, hf => 
        exact hf
      | 16, _, hij, hbj, hf => 
        exact hf
      | 17, _, hij, hbj, hf => 
        exact hf
      | 18, _, hij, hbj, hf => 
        exact hf
      | 19, _, hij, hbj, hf => 
        exact hf
      | 20, _, hij, hbj, hf => 
        exact hf
      | 21, _, hij, hbj, hf => 
        exact hf
      | 22, _, hij, hbj, hf => 
        exact hf
      | 23, _, hij, hbj, hf => 
        exact hf
      | 24, _, hij, hbj, hf => exact absurd rfl hij
      | 25, _, hij, hbj, hf => exact absurd hbj (by rw [hoff 25 (by decide) (by decide)]; decide)
      | 26, _, hij, hbj, hf => exact absurd hbj (by rw [hoff 26 (by decide) (by decide)]; decide)
      | 27, _, hij, hbj, hf => exact absurd hbj (by rw [hoff 27 (by decide) (by decide)]; decide)
      | 28, _, hij, hbj, hf => exact absurd hbj (by rw [hoff 28 (by decide) (by decide)]; decide)
      | 29, _, hij, hbj, hf => exact absurd hbj (by rw [hoff 29 (by decide) (by decide)]; decide)
      | 30, _, hij, hbj, hf => exact absurd hbj (by rw [hoff 30 (by decide) (by decide)]; decide)
      | 31, _, hij, hbj, hf => exact absurd hbj (by rw [hoff 31 (by decide) (by decide)]; decide)
      | 32, _, hij, hbj, hf => exact absurd hbj (by rw [hoff 32 (by decide) (by decide)]; decide)
      | 33, _, hij, hbj, hf => exact absurd hbj (by rw [hoff 33 (by decide) (by decide)]; decide)
      | 34, _, hij, hbj, hf => exact absurd hbj (by rw [hoff 34 (by decide) (by decide)]; decide)
      | 35, _, hij, hbj, hf => exact absurd hbj (by rw [hoff 35 (by decide) (by decide)]; decide)
      | j + 36, hj, _, _, _ => exact absurd hj (by omega)
    | 25, _, hij, hb, hoff, hst =>
      obtain rfl : w' = w := hst
      exact hf
    | 26, _, hij, hb, hoff, hst =>
      obtain rfl : w' = w := hst
      exact hf
    | 27, _, hij, hb, hoff, hst =>
      obtain rfl : w' = w := hst
      exact hf
    | 28, _, hij, hb, hoff, hst =>
      obtain rfl : w' = w := hst
      exact hf
    | 29, _, hij, hb, hoff, hst =>
      match j, hj, hij, hbj, hf with
      | 0, _, hij, hbj, hf => 
        exact hf
      | 1, _, hij, hbj, hf => 
        exact hf
      | 2, _, hij, hbj, hf => 
        exact hf
      | 3, _, hij, hbj, hf => 
        exact hf
      | 4, _, hij, hbj, hf => 
        exact hf
      | 5, _, hij, hbj, hf => 
        exact hf
      | 6, _, hij, hbj, hf => 
        exact hf
      | 7, _, hij, hbj, hf => 
        exact hf
      | 8, _, hij, hbj, hf => 
        exact hf
      | 9, _, hij, hbj, hf => 
        exact hf
      | 10, _, hij, hbj, hf => 
        exact hf
      | 11, _, hij, hbj, hf => 
        exact hf
      | 12, _, hij, hbj, hf => 
        exact hf
      | 13, _, hij, hbj, hf => 
        exact hf
      | 14, _, hij, hbj, hf => 
        exact hf
      | 15, _, hij, hbj, hf => 
        exact hf
      | 16, _, hij, hbj, hf => 
        exact hf
      | 17, _, hij, hbj, hf => 
        exact hf
      | 18, _, hij, hbj, hf => 
        exact hf
      | 19, _, hij, hbj, hf => 
        exact hf
      | 20, _, hij, hbj, hf => 
        exact hf
      | 21, _, hij, hbj, hf => 
        exact hf
      | 22, _, hij, hbj, hf => 
        exact hf
      | 23, _, hij, hbj, hf => 
        exact hf
      | 24, _, hij, hbj, hf => 
        exact hf
      | 25, _, hij, hbj, hf => 
        exact hf
      | 26, _, hij, hbj, hf => 
        exact hf
      | 27, _, hij, hbj, hf => 
        exact hf
      | 28, _, hij, hbj, hf => 
        exact hf
      | 29, _, hij, hbj, hf => exact absurd rfl hij
      | 30, _, hij, hbj, hf => 
        exact hf
      | 31, _, hij, hbj, hf => exact absurd hbj (by rw [hoff 31 (by decide) (by decide)]; decide)
      | 32, _, hij, hbj, hf => exact absurd hbj (by rw [hoff 32 (by decide) (by decide)]; decide)
      | 33, _, hij, hbj, hf => exact absurd hbj (by rw [hoff 33 (by decide) (by decide)]; decide)
      | 34, _, hij, hbj, hf => exact absurd hbj (by rw [hoff 34 (by decide) (by decide)]; decide)
      | 35, _, hij, hbj, hf => exact absurd hbj (by rw [hoff 35 (by decide) (by decide)]; decide)
      | j + 36, hj, _, _, _ => exact absurd hj (by omega)
    | 30, _, hij, hb, hoff, hst =>
      obtain rfl : w' = w := hst
      exact hf
    | 31, _, hij, hb, hoff, hst =>
      match j, hj, hij, hbj, hf with
      | 0, _, hij, hbj, hf => 
        exact hf
      | 1, _, hij, hbj, hf => 
        exact hf
      | 2, _, hij, hbj, hf => 
        exact hf
      | 3, _, hij, hbj, hf => 
        exact hf
      | 4, _, hij, hbj, hf => 
        exact hf
      | 5, _, hij, hbj, hf => 
        exact hf
      | 6, _, hij, hbj, hf => 
        exact hf
      | 7, _, hij, hbj, hf => 
        exact hf
      | 8, _, hij, hbj, hf => 
        exact hf
      | 9, _, hij, hbj, hf => 
        exact hf
      | 10, _, hij, hbj, hf => 
        exact hf
      | 11, _, hij, hbj, hf => 
        exact hf
      | 12, _, hij, hbj, hf => 
        exact hf
      | 13, _, hij, hbj, hf => 
        exact hf
      | 14, _, hij, hbj, hf => 
        exact hf
      | 15, _, hij, hbj, hf => 
        exact hf
      | 16, _, hij, hbj, hf => 
        exact hf
      | 17, _, hij, hbj, hf => 
        exact hf
      | 18, _, hij, hbj, hf => 
        exact hf
      | 19, _, hij, hbj, hf => 
        exact hf
      | 20, _, hij, hbj, hf => 
        exact hf
      | 21, _, hij, hbj, hf => 
        exact hf
      | 22, _, hij, hbj, hf => 
        exact hf
      | 23, _, hij, hbj, hf => 
        exact hf
      | 24, _, hij, hbj, hf => 
        exact hf
      | 25, _, hij, hbj, hf => 
        exact hf
      | 26, _, hij, hbj, hf => 
        exact hf
      | 27, _, hij, hbj, hf => 
        exact hf
      | 28, _, hij, hbj, hf => 
        exact hf
      | 29, _, hij, hbj, hf => 
        exact Kd.R_below hf hst
      | 30, _, hij, hbj, hf => 
        exact hf
      | 31, _, hij, hbj, hf => exact absurd rfl hij
      | 32, _, hij, hbj, hf => exact absurd hbj (by rw [hoff 32 (by decide) (by decide)]; decide)
      | 33, _, hij, hbj, hf => exact absurd hbj (by rw [hoff 33 (by decide) (by decide)]; decide)
      | 34, _, hij, hbj, hf => exact absurd hbj (by rw [hoff 34 (by decide) (by decide)]; decide)
      | 35, _, hij, hbj, hf => exact absurd hbj (by rw [hoff 35 (by decide) (by decide)]; decide)
      | j + 36, hj, _, _, _ => exact absurd hj (by omega)
    | 32, _, hij, hb, hoff, hst =>
      match j, hj, hij, hbj, hf with
      | 0, _, hij, hbj, hf => 
        exact hf
      | 1, _, hij, hbj, hf => 
        exact hf
      | 2, _, hij, hbj, hf => 
        exact hf
      | 3, _, hij, hbj, hf => 
        exact hf
      | 4, _, hij, hbj, hf => 
        exact hf
      | 5, _, hij, hbj, hf => 
        exact hf
      | 6, _, hij, hbj, hf => 
        exact hf
      | 7, _, hij, hbj, hf => 
        exact hf
      | 8, _, hij, hbj, hf => 
        exact hf
      | 9, _, hij, hbj, hf => 
        exact hf
      | 10, _, hij, hbj, hf => 
        exact hf
      | 11, _, hij, hbj, hf => 
        exact hf
      | 12, _, hij, hbj, hf => 
        exact hf
      | 13, _, hij, hbj, hf => 
        exact hf
      | 14, _, hij, hbj, hf => 
        exact hf
      | 15, _, hij, hbj, hf => 
        exact hf
      | 16, _, hij, hbj, hf => 
        exact hf
      | 17, _, hij, hbj, hf => 
        exact hf
      | 18, _, hij, hbj, hf => 
        exact hf
      | 19, _, hij, hbj, hf => 
        exact hf
      | 20, _, hij, hbj, hf => 
        exact hf
      | 21, _, hij, hbj, hf => 
        exact hf
      | 22, _, hij, hbj, hf => 
        exact hf
      | 23, _, hij, hbj, hf => 
        exact hf
      | 24, _, hij, hbj, hf => 
        exact hf
      | 25, _, hij, hbj, hf => 
        exact hf
      | 26, _, hij, hbj, hf => 
        exact hf
      | 27, _, hij, hbj, hf => 
        exact hf
      | 28, _, hij, hbj, hf => 
        exact hf
      | 29, _, hij, hbj, hf => 
        exact Kd.R_below hf hst
      | 30, _, hij, hbj, hf => 
        exact hf
      | 31, _, hij, hbj, hf => 
        exact Kd.R_below hf hst
      | 32, _, hij, hbj, hf => exact absurd rfl hij
      | 33, _, hij, hbj, hf => exact absurd hbj (by rw [hoff 33 (by decide) (by decide)]; decide)
      | 34, _, hij, hbj, hf => exact absurd hbj (by rw [hoff 34 (by decide) (by decide)]; decide)
      | 35, _, hij, hbj, hf => exact absurd hbj (by rw [hoff 35 (by decide) (by decide)]; decide)
      | j + 36, hj, _, _, _ => exact absurd hj (by omega)
    | 33, _, hij, hb, hoff, hst =>
      obtain rfl : w' = w := hst
      exact hf
    | 34, _, hij, hb, hoff, hst =>
      match j, hj, hij, hbj, hf with
      | 0, _, hij, hbj, hf => 
        exact hf
      | 1, _, hij, hbj, hf => 
        exact hf
      | 2, _, hij, hbj, hf => 
        exact hf
      | 3, _, hij, hbj, hf => 
        exact hf
      | 4, _, hij, hbj, hf => 
        exact hf
      | 5, _, hij, hbj, hf => 
        exact hf
      | 6, _, hij, hbj, hf => 
        exact hf
      | 7, _, hij, hbj, hf => 
        exact hf
      | 8, _, hij, hbj, hf => 
        exact hf
      | 9, _, hij, hbj, hf => 
        exact hf
      | 10, _, hij, hbj, hf => 
        exact hf
      | 11, _, hij, hbj, hf => 
        exact hf
      | 12, _, hij, hbj, hf => 
        exact hf
      | 13, _, hij, hbj, hf => 
        exact hf
      | 14, _, hij, hbj, hf => 
        exact hf
      | 15, _, hij, hbj, hf => 
        exact hf
      | 16, _, hij, hbj, hf => 
        exact hf
      | 17, _, hij, hbj, hf => 
        exact hf
      | 18, _, hij, hbj, hf => 
        exact hf
      | 19, _, hij, hbj, hf => 
        exact hf
      | 20, _, hij, hbj, hf => 
        exact hf
      | 21, _, hij, hbj, hf => 
        exact hf
      | 22, _, hij, hbj, hf => 
        exact hf
      | 23, _, hij, hbj, hf => 
        exact hf
      | 24, _, hij, hbj, hf => 
        exact hf
      | 25, _, hij, hbj, hf => 
        exact hf
      | 26, _, hij, hbj, hf => 
        exact hf
      | 27, _, hij, hbj, hf => 
        exact hf
      | 28, _, hij, hbj, hf => 
        exact hf
      | 29, _, hij, hbj, hf => 
        obtain ⟨u1, u2, rfl⟩ : ∃ u1 u2, w' = (w.setCell ⟨rb, 0, none⟩ u1).setCell ⟨rb, 1, none⟩ u2 := hst
        exact Kd.R_far (p := ⟨rb, 1, none⟩) (Kd.R_far (p := ⟨rb, 0, none⟩) hf (fun k hk => hk) u1) (fun k hk => hk) u2
      | 30, _, hij, hbj, hf => 
        exact hf
      | 31, _, hij, hbj, hf => 
        obtain ⟨u1, u2, rfl⟩ : ∃ u1 u2, w' = (w.setCell ⟨rb, 0, none⟩ u1).setCell ⟨rb, 1, none⟩ u2 := hst
        exact Kd.R_far (p := ⟨rb, 1, none⟩) (Kd.R_far (p := ⟨rb, 0, none⟩) hf (fun k hk => hk) u1) (fun k hk => hk) u2
      | 32, _, hij, hbj, hf => 
        exact hf
      | 33, _, hij, hbj, hf => 
        exact hf
      | 34, _, hij, hbj, hf => exact absurd rfl hij
      | 35, _, hij, hbj, hf => exact absurd hbj (by rw [hoff 35 (by decide) (by decide)]; decide)
      | j + 36, hj, _, _, _ => exact absurd hj (by omega)
    | 35, _, hij, hb, hoff, hst =>
      obtain rfl : w' = w := hst
      exact hf
    | i + 36, hi, _, _, _, _ => exact absurd hi (by omega)
  case s0 =>
    refine ⟨_, rfl, fun b a w hG hb hoff hd hs K hK => ?_⟩
    have h8 := (hs 8 (by decide)).trans z8
    have e8 := eval_of h8
    refine value_ (v := (.agg #[.int .i64 number, .slice A l.length c])) rfl rfl ?_ (hK _ _ rfl rfl)
    have hc0 := (blk_cell (hG.2.2.1) 0).trans rfl
    have hc1 := (blk_cell (hG.2.2.1) 1).trans rfl
    have hu := Try.underlying29
    clear hG
    clear hd hs hK hoff
    clear e8
    go_simp
  case s1 =>
    refine ⟨_, rfl, fun b a w hG hb hoff hd hs K hK => ?_⟩
    have h11 := (hs 11 (by decide)).trans z11
    have e11 := eval_of h11
    refine value_ (v := (.bool first)) rfl rfl ?_ (hK _ _ rfl rfl)
    clear hd hs hK hoff
    clear e11
    go_simp
  case s2 =>
    refine ⟨_, rfl, fun b a w hG hb hoff hd hs K hK => ?_⟩
    have h9 := (hs 9 (by decide)).trans z9
    have e9 := eval_of h9
    refine value_ (v := (.bool first)) rfl rfl ?_ (hK _ _ rfl rfl)
    clear hd hs hK hoff
    clear e9
    go_simp
  case s3 =>
    refine ⟨_, rfl, fun b a w hG hb hoff hd hs K hK => ?_⟩
    obtain ⟨y27, h27, f27⟩ := hd 1 27 (by decide) (by decide)
    replace f27 : y27 = (.bool first) := f27
    subst y27
    have e27 := eval_of h27
    obtain ⟨y28, h28, f28⟩ := hd 2 28 (by decide) (by decide)
    replace f28 : y28 = (.bool first) := f28
    subst y28
    have e28 := eval_of h28
    refine value_ (v := (.bool true)) rfl rfl ?_ (hK _ _ rfl rfl)
    clear hd hs hK hoff
    clear e27
    clear e28
    go_simp
  case s4 =>
    refine ⟨_, rfl, fun b a w hG hb hoff hd hs K hK => ?_⟩
    obtain ⟨y29, h29, f29⟩ := hd 3 29 (by decide) (by decide)
    replace f29 : y29 = (.bool true) := f29
    subst y29
    have e29 := eval_of h29
    refine value_ (v := (.bool true)) rfl rfl ?_ (hK _ _ rfl rfl)
    clear hd hs hK hoff
    clear e29
    go_simp
  case s5 =>
    refine ⟨_, rfl, fun b a w hG hb hoff hd hs K hK => ?_⟩
    have h12 := (hs 12 (by decide)).trans z12
    have e12 := eval_of h12
    obtain ⟨y30, h30, f30⟩ := hd 4 30 (by decide) (by decide)
    replace f30 : y30 = (.bool true) := f30
    subst y30
    have e30 := eval_of h30
    refine value_ (v := (.int .i64 e)) (wanted_on rfl rfl rfl h30) rfl ?_ (hK _ _ rfl rfl)
    clear hd hs hK hoff
    clear e12
    clear e30
    go_simp
  case s6 =>
    refine ⟨_, rfl, fun b a w hG hb hoff hd hs K hK => ?_⟩
    have h10 := (hs 10 (by decide)).trans z10
    have e10 := eval_of h10
    obtain ⟨y30, h30, f30⟩ := hd 4 30 (by decide) (by decide)
    replace f30 : y30 = (.bool true) := f30
    subst y30
    have e30 := eval_of h30
    refine value_ (v := (.int .i64 e)) (wanted_on rfl rfl rfl h30) rfl ?_ (hK _ _ rfl rfl)
    clear hd hs hK hoff
    clear e10
    clear e30
    go_simp
  case s7 =>
    refine ⟨_, rfl, fun b a w hG hb hoff hd hs K hK => ?_⟩
    obtain ⟨y30, h30, f30⟩ := hd 4 30 (by decide) (by decide)
    replace f30 : y30 = (.bool true) := f30
    subst y30
    have e30 := eval_of h30
    obtain ⟨y31, h31, f31⟩ := hd 5 31 (by decide) (by decide)
    replace f31 : y31 = (.int .i64 e) := f31
    subst y31
    have e31 := eval_of h31
    obtain ⟨y32, h32, f32⟩ := hd 6 32 (by decide) (by decide)
    replace f32 : y32 = (.int .i64 e) := f32
    subst y32
    have e32 := eval_of h32
    refine value_ (v := (.bool true)) (wanted_on rfl rfl rfl h30) rfl ?_ (hK _ _ rfl rfl)
    clear hd hs hK hoff
    clear e30
    clear e31
    clear e32
    go_simp
  case s8 =>
    refine ⟨_, rfl, fun b a w hG hb hoff hd hs K hK => ?_⟩
    obtain ⟨y30, h30, f30⟩ := hd 4 30 (by decide) (by decide)
    replace f30 : y30 = (.bool true) := f30
    subst y30
    have e30 := eval_of h30
    obtain ⟨y33, h33, f33⟩ := hd 7 33 (by decide) (by decide)
    replace f33 : y33 = (.bool true) := f33
    subst y33
    have e33 := eval_of h33
    refine value_ (v := (.bool true)) rfl rfl ?_ (hK _ _ rfl rfl)
    clear hd hs hK hoff
    clear e30
    clear e33
    go_simp
  case s9 =>
    refine ⟨_, rfl, fun b a w hG hb hoff hd hs K hK => ?_⟩
    obtain ⟨y34, h34, f34⟩ := hd 8 34 (by decide) (by decide)
    replace f34 : y34 = (.bool true) := f34
    subst y34
    have e34 := eval_of h34
    refine value_ (v := (.bool true)) rfl rfl ?_ (hK _ _ rfl rfl)
    clear hd hs hK hoff
    clear e34
    go_simp
  case s10 =>
    refine ⟨_, rfl, fun b a w hG hb hoff hd hs K hK => ?_⟩
    have h0 := (hs 0 (by decide)).trans z0
    have e0 := eval_of h0
    obtain ⟨y35, h35, f35⟩ := hd 9 35 (by decide) (by decide)
    replace f35 : y35 = (.bool true) := f35
    subst y35
    have e35 := eval_of h35
    refine value_ (v := (.pointer (some ⟨pb, 0, none⟩))) (wanted_on rfl rfl rfl h35) rfl ?_ (hK _ _ rfl rfl)
    clear hd hs hK hoff
    clear e0
    clear e35
    go_simp
  case s11 =>
    refine ⟨_, rfl, fun b a w hG hb hoff hd hs K hK => ?_⟩
    have h5 := (hs 5 (by decide)).trans z5
    have e5 := eval_of h5
    obtain ⟨y35, h35, f35⟩ := hd 9 35 (by decide) (by decide)
    replace f35 : y35 = (.bool true) := f35
    subst y35
    have e35 := eval_of h35
    refine value_ (v := (.pointer (some ⟨nb, 0, none⟩))) (wanted_on rfl rfl rfl h35) rfl ?_ (hK _ _ rfl rfl)
    clear hd hs hK hoff
    clear e5
    clear e35
    go_simp
  case s12 =>
    refine ⟨_, rfl, fun b a w hG hb hoff hd hs K hK => ?_⟩
    obtain ⟨y35, h35, f35⟩ := hd 9 35 (by decide) (by decide)
    replace f35 : y35 = (.bool true) := f35
    subst y35
    have e35 := eval_of h35
    obtain ⟨y37, h37, f37⟩ := hd 11 37 (by decide) (by decide)
    replace f37 : y37 = (.pointer (some ⟨nb, 0, none⟩)) := f37
    subst y37
    have e37 := eval_of h37
    refine value_ (v := (.int .u64 id)) (wanted_on rfl rfl rfl h35) rfl ?_ (hK _ _ rfl rfl)
    have hc := hG.2.2.2.1
    clear hG
    clear hd hs hK hoff
    clear e35
    clear e37
    go_simp
  case s13 =>
    refine ⟨_, rfl, fun b a w hG hb hoff hd hs K hK => ?_⟩
    obtain ⟨y35, h35, f35⟩ := hd 9 35 (by decide) (by decide)
    replace f35 : y35 = (.bool true) := f35
    subst y35
    have e35 := eval_of h35
    obtain ⟨y36, h36, f36⟩ := hd 10 36 (by decide) (by decide)
    replace f36 : y36 = (.pointer (some ⟨pb, 0, none⟩)) := f36
    subst y36
    have e36 := eval_of h36
    obtain ⟨y38, h38, f38⟩ := hd 12 38 (by decide) (by decide)
    replace f38 : y38 = (.int .u64 id) := f38
    subst y38
    have e38 := eval_of h38
    refine goes_ Try.func21 (by kernel_rfl) rfl #[.pointer (some ⟨pb, 0, none⟩), .int .u64 id] (wanted_on rfl rfl rfl h35) rfl rfl (by simp [e36, e38]) ?_
    refine (times_calls id w (hP w hG.1) hid).mono ?_
    rintro e w' ⟨rfl, rfl⟩
    exact ⟨_, rfl, hK _ _ rfl rfl⟩
  case s14 =>
    refine ⟨_, rfl, fun b a w hG hb hoff hd hs K hK => ?_⟩
    have h8 := (hs 8 (by decide)).trans z8
    have e8 := eval_of h8
    obtain ⟨y35, h35, f35⟩ := hd 9 35 (by decide) (by decide)
    replace f35 : y35 = (.bool true) := f35
    subst y35
    have e35 := eval_of h35
    refine value_ (v := (.agg #[.int .i64 number, .slice A l.length c])) (wanted_on rfl rfl rfl h35) rfl ?_ (hK _ _ rfl rfl)
    have hc0 := (blk_cell (hG.2.2.1) 0).trans rfl
    have hc1 := (blk_cell (hG.2.2.1) 1).trans rfl
    have hu := Try.underlying29
    clear hG
    clear hd hs hK hoff
    clear e8
    clear e35
    go_simp
  case s15 =>
    refine ⟨_, rfl, fun b a w hG hb hoff hd hs K hK => ?_⟩
    have h5 := (hs 5 (by decide)).trans z5
    have e5 := eval_of h5
    obtain ⟨y35, h35, f35⟩ := hd 9 35 (by decide) (by decide)
    replace f35 : y35 = (.bool true) := f35
    subst y35
    have e35 := eval_of h35
    refine value_ (v := (.pointer (some ⟨nb, 0, none⟩))) (wanted_on rfl rfl rfl h35) rfl ?_ (hK _ _ rfl rfl)
    clear hd hs hK hoff
    clear e5
    clear e35
    go_simp
  case s16 =>
    refine ⟨_, rfl, fun b a w hG hb hoff hd hs K hK => ?_⟩
    obtain ⟨y35, h35, f35⟩ := hd 9 35 (by decide) (by decide)
    replace f35 : y35 = (.bool true) := f35
    subst y35
    have e35 := eval_of h35
    obtain ⟨y41, h41, f41⟩ := hd 15 41 (by decide) (by decide)
    replace f41 : y41 = (.pointer (some ⟨nb, 0, none⟩)) := f41
    subst y41
    have e41 := eval_of h41
    refine value_ (v := (.int .u64 id)) (wanted_on rfl rfl rfl h35) rfl ?_ (hK _ _ rfl rfl)
    have hc := hG.2.2.2.1
    clear hG
    clear hd hs hK hoff
    clear e35
    clear e41
    go_simp
  case s17 =>
    refine ⟨_, rfl, fun b a w hG hb hoff hd hs K hK => ?_⟩
    obtain ⟨y35, h35, f35⟩ := hd 9 35 (by decide) (by decide)
    replace f35 : y35 = (.bool true) := f35
    subst y35
    have e35 := eval_of h35
    obtain ⟨y40, h40, f40⟩ := hd 14 40 (by decide) (by decide)
    replace f40 : y40 = (.agg #[.int .i64 number, .slice A l.length c]) := f40
    subst y40
    have e40 := eval_of h40
    obtain ⟨y42, h42, f42⟩ := hd 16 42 (by decide) (by decide)
    replace f42 : y42 = (.int .u64 id) := f42
    subst y42
    have e42 := eval_of h42
    refine goes_ Try.func22 (by kernel_rfl) rfl #[.agg #[.int .i64 number, .slice A l.length c], .int .u64 id] (wanted_on rfl rfl rfl h35) rfl rfl (by simp [e40, e42]) ?_
    refine (PPartyPlays.curfewref37_Times.calls (l.length + 1) number A c l id (cnt l id) w (hR w hG.1).2.2 (hR w hG.1).2.1 (times_f _ _ _ _ (by omega) (by omega))).mono ?_
    rintro e w' ⟨rfl, hb1⟩
    exact ⟨_, rfl, hK _ _ hb1 rfl⟩
  case s18 =>
    refine ⟨_, rfl, fun b a w hG hb hoff hd hs K hK => ?_⟩
    obtain ⟨y35, h35, f35⟩ := hd 9 35 (by decide) (by decide)
    replace f35 : y35 = (.bool true) := f35
    subst y35
    have e35 := eval_of h35
    obtain ⟨y39, h39, f39⟩ := hd 13 39 (by decide) (by decide)
    replace f39 : y39 = (.int .i64 (cnt l id)) := f39
    subst y39
    have e39 := eval_of h39
    obtain ⟨y43, h43, f43⟩ := hd 17 43 (by decide) (by decide)
    replace f43 : y43 = (.int .i64 (cnt l id)) := f43
    subst y43
    have e43 := eval_of h43
    refine value_ (v := (.bool true)) (wanted_on rfl rfl rfl h35) rfl ?_ (hK _ _ rfl rfl)
    clear hd hs hK hoff
    clear e35
    clear e39
    clear e43
    go_simp
  case s19 =>
    refine ⟨_, rfl, fun b a w hG hb hoff hd hs K hK => ?_⟩
    obtain ⟨y35, h35, f35⟩ := hd 9 35 (by decide) (by decide)
    replace f35 : y35 = (.bool true) := f35
    subst y35
    have e35 := eval_of h35
    obtain ⟨y44, h44, f44⟩ := hd 18 44 (by decide) (by decide)
    replace f44 : y44 = (.bool true) := f44
    subst y44
    have e44 := eval_of h44
    refine value_ (v := (.bool true)) rfl rfl ?_ (hK _ _ rfl rfl)
    clear hd hs hK hoff
    clear e35
    clear e44
    go_simp
  case s20 =>
    refine ⟨_, rfl, fun b a w hG hb hoff hd hs K hK => ?_⟩
    obtain ⟨y45, h45, f45⟩ := hd 19 45 (by decide) (by decide)
    replace f45 : y45 = (.bool true) := f45
    subst y45
    have e45 := eval_of h45
    refine value_ (v := (.bool true)) rfl rfl ?_ (hK _ _ rfl rfl)
    clear hd hs hK hoff
    clear e45
    go_simp
  case s21 =>
    refine ⟨_, rfl, fun b a w hG hb hoff hd hs K hK => ?_⟩
    have h0 := (hs 0 (by decide)).trans z0
    have e0 := eval_of h0
    obtain ⟨y46, h46, f46⟩ := hd 20 46 (by decide) (by decide)
    replace f46 : y46 = (.bool true) := f46
    subst y46
    have e46 := eval_of h46
    refine value_ (v := (.pointer (some ⟨pb, 0, none⟩))) (wanted_on rfl rfl rfl h46) rfl ?_ (hK _ _ rfl rfl)
    clear hd hs hK hoff
    clear e0
    clear e46
    go_simp
  case s22 =>
    refine ⟨_, rfl, fun b a w hG hb hoff hd hs K hK => ?_⟩
    obtain ⟨y46, h46, f46⟩ := hd 20 46 (by decide) (by decide)
    replace f46 : y46 = (.bool true) := f46
    subst y46
    have e46 := eval_of h46
    obtain ⟨y47, h47, f47⟩ := hd 21 47 (by decide) (by decide)
    replace f47 : y47 = (.pointer (some ⟨pb, 0, none⟩)) := f47
    subst y47
    have e47 := eval_of h47
    refine goes_ Try.func54 (by kernel_rfl) rfl #[.pointer (some ⟨pb, 0, none⟩)] (wanted_on rfl rfl rfl h46) rfl rfl (by simp [e47]) ?_
    refine (mostH w (hP w hG.1)).mono ?_
    rintro e w' ⟨rfl, hb1⟩
    exact ⟨_, rfl, hK _ _ hb1 rfl⟩
  case s23 =>
    refine ⟨_, rfl, fun b a w hG hb hoff hd hs K hK => ?_⟩
    have h8 := (hs 8 (by decide)).trans z8
    have e8 := eval_of h8
    obtain ⟨y46, h46, f46⟩ := hd 20 46 (by decide) (by decide)
    replace f46 : y46 = (.bool true) := f46
    subst y46
    have e46 := eval_of h46
    refine value_ (v := (.agg #[.int .i64 number, .slice A l.length c])) (wanted_on rfl rfl rfl h46) rfl ?_ (hK _ _ rfl rfl)
    have hc0 := (blk_cell (hG.2.2.1) 0).trans rfl
    have hc1 := (blk_cell (hG.2.2.1) 1).trans rfl
    have hu := Try.underlying29
    clear hG
    clear hd hs hK hoff
    clear e8
    clear e46
    go_simp
  case s24 =>
    refine ⟨_, rfl, fun b a w hG hb hoff hd hs K hK => ?_⟩
    obtain ⟨y46, h46, f46⟩ := hd 20 46 (by decide) (by decide)
    replace f46 : y46 = (.bool true) := f46
    subst y46
    have e46 := eval_of h46
    obtain ⟨y49, h49, f49⟩ := hd 23 49 (by decide) (by decide)
    replace f49 : y49 = (.agg #[.int .i64 number, .slice A l.length c]) := f49
    subst y49
    have e49 := eval_of h49
    refine goes_ Try.func73 (by kernel_rfl) rfl #[.agg #[.int .i64 number, .slice A l.length c]] (wanted_on rfl rfl rfl h46) rfl rfl (by simp [e49]) ?_
    refine (PPartyPlays.curfewref37_Most.calls (2 * l.length + 1) number A c l (mostL (cnt l) l) w (hR w hG.1).2.2 (hR w hG.1).2.1 (most_f _ _ _ (by omega) (by omega))).mono ?_
    rintro e w' ⟨rfl, hb1⟩
    exact ⟨_, rfl, hK _ _ hb1 rfl⟩
  case s25 =>
    refine ⟨_, rfl, fun b a w hG hb hoff hd hs K hK => ?_⟩
    obtain ⟨y46, h46, f46⟩ := hd 20 46 (by decide) (by decide)
    replace f46 : y46 = (.bool true) := f46
    subst y46
    have e46 := eval_of h46
    obtain ⟨y48, h48, f48⟩ := hd 22 48 (by decide) (by decide)
    replace f48 : y48 = (.int .i64 (mostL (cnt l) l)) := f48
    subst y48
    have e48 := eval_of h48
    obtain ⟨y50, h50, f50⟩ := hd 24 50 (by decide) (by decide)
    replace f50 : y50 = (.int .i64 (mostL (cnt l) l)) := f50
    subst y50
    have e50 := eval_of h50
    refine value_ (v := (.bool true)) (wanted_on rfl rfl rfl h46) rfl ?_ (hK _ _ rfl rfl)
    clear hd hs hK hoff
    clear e46
    clear e48
    clear e50
    go_simp
  case s26 =>
    refine ⟨_, rfl, fun b a w hG hb hoff hd hs K hK => ?_⟩
    obtain ⟨y46, h46, f46⟩ := hd 20 46 (by decide) (by decide)
    replace f46 : y46 = (.bool true) := f46
    subst y46
    have e46 := eval_of h46
    obtain ⟨y51, h51, f51⟩ := hd 25 51 (by decide) (by decide)
    replace f51 : y51 = (.bool true) := f51
    subst y51
    have e51 := eval_of h51
    refine value_ (v := (.bool true)) rfl rfl ?_ (hK _ _ rfl rfl)
    clear hd hs hK hoff
    clear e46
    clear e51
    go_simp
  case s27 =>
    refine ⟨_, rfl, fun b a w hG hb hoff hd hs K hK => ?_⟩
    obtain ⟨y52, h52, f52⟩ := hd 26 52 (by decide) (by decide)
    replace f52 : y52 = (.bool true) := f52
    subst y52
    have e52 := eval_of h52
    refine value_ (v := (.bool true)) rfl rfl ?_ (hK _ _ rfl rfl)
    clear hd hs hK hoff
    clear e52
    go_simp
  case s28 =>
    refine ⟨_, rfl, fun b a w hG hb hoff hd hs K hK => ?_⟩
    have h0 := (hs 0 (by decide)).trans z0
    have e0 := eval_of h0
    obtain ⟨y53, h53, f53⟩ := hd 27 53 (by decide) (by decide)
    replace f53 : y53 = (.bool true) := f53
    subst y53
    have e53 := eval_of h53
    refine value_ (v := (.pointer (some ⟨pb, 0, none⟩))) (wanted_on rfl rfl rfl h53) rfl ?_ (hK _ _ rfl rfl)
    clear hd hs hK hoff
    clear e0
    clear e53
    go_simp
  case s29 =>
    refine ⟨_, rfl, fun b a w hG hb hoff hd hs K hK => ?_⟩
    obtain ⟨y53, h53, f53⟩ := hd 27 53 (by decide) (by decide)
    replace f53 : y53 = (.bool true) := f53
    subst y53
    have e53 := eval_of h53
    obtain ⟨y54, h54, f54⟩ := hd 28 54 (by decide) (by decide)
    replace f54 : y54 = (.pointer (some ⟨pb, 0, none⟩)) := f54
    subst y54
    have e54 := eval_of h54
    refine goes_ Try.func25 (by kernel_rfl) rfl #[.pointer (some ⟨pb, 0, none⟩)] (wanted_on rfl rfl rfl h53) rfl rfl (by simp [e54]) ?_
    refine (did_calls w (hP w hG.1)).mono ?_
    rintro e w' ⟨v, rfl, ho, hb1⟩
    exact ⟨_, rfl, hK _ _ hb1 (Kd.R_lower (Kd.R_mono (Kd.R_bound ho) (fun k hk => by have := hk.2.1; have := hG.1.1; omega)) (Nat.le_trans hbase0 hG.1.1))⟩
  case s30 =>
    refine ⟨_, rfl, fun b a w hG hb hoff hd hs K hK => ?_⟩
    have h8 := (hs 8 (by decide)).trans z8
    have e8 := eval_of h8
    obtain ⟨y53, h53, f53⟩ := hd 27 53 (by decide) (by decide)
    replace f53 : y53 = (.bool true) := f53
    subst y53
    have e53 := eval_of h53
    refine value_ (v := (.agg #[.int .i64 number, .slice A l.length c])) (wanted_on rfl rfl rfl h53) rfl ?_ (hK _ _ rfl rfl)
    have hc0 := (blk_cell (hG.2.2.1) 0).trans rfl
    have hc1 := (blk_cell (hG.2.2.1) 1).trans rfl
    have hu := Try.underlying29
    clear hG
    clear hd hs hK hoff
    clear e8
    clear e53
    go_simp
  case s31 =>
    refine ⟨_, rfl, fun b a w hG hb hoff hd hs K hK => ?_⟩
    obtain ⟨y53, h53, f53⟩ := hd 27 53 (by decide) (by decide)
    replace f53 : y53 = (.bool true) := f53
    subst y53
    have e53 := eval_of h53
    obtain ⟨y56, h56, f56⟩ := hd 30 56 (by decide) (by decide)
    replace f56 : y56 = (.agg #[.int .i64 number, .slice A l.length c]) := f56
    subst y56
    have e56 := eval_of h56
    refine goes_ Try.func74 (by kernel_rfl) rfl #[.agg #[.int .i64 number, .slice A l.length c]] (wanted_on rfl rfl rfl h53) rfl rfl (by simp [e56]) ?_
    refine (PPartyPlays.curfewref37_Did.calls (2 * l.length + 1) number A c l (dedup l) w (hR w hG.1).2.2 (hR w hG.1).2.1 (did_f _ _ _ (by omega) (by omega))).mono ?_
    rintro e w' ⟨v, rfl, ho, hb1⟩
    exact ⟨_, rfl, hK _ _ hb1 (Kd.R_lower (Kd.R_mono (Kd.R_bound ho) (fun k hk => by have := hk.2.1; have := hG.1.1; omega)) (Nat.le_trans hbase0 hG.1.1))⟩
  case s32 =>
    refine ⟨_, rfl, fun b a w hG hb hoff hd hs K hK => ?_⟩
    obtain ⟨y53, h53, f53⟩ := hd 27 53 (by decide) (by decide)
    replace f53 : y53 = (.bool true) := f53
    subst y53
    have e53 := eval_of h53
    obtain ⟨v55, h55, f55⟩ := hd 29 55 (by decide) (by decide)
    have e55 := eval_of h55
    obtain ⟨v57, h57, f57⟩ := hd 31 57 (by decide) (by decide)
    have e57 := eval_of h57
    obtain ⟨A1, c1, ev1, hl1, hr1⟩ := Kd.R_reads f55
    obtain ⟨A2, c2, ev2, hl2, hr2⟩ := Kd.R_reads f57
    refine goes_ Try.func24 (by kernel_rfl) rfl #[.slice A1 (dedup l).length c1, .slice A2 (dedup l).length c2] (wanted_on rfl rfl rfl h53) rfl rfl (by simp [e55, e57, ev1, ev2]) ?_
    refine (PPartyPlays.curfewref37_Same.calls ((dedup l).length + 1) A1 c1 (dedup l) A2 c2 (dedup l) true w hr1 hl1 hr2 hl2 (by rw [same_f _ _ _ (by have := Pl.dedup_length l; omega) (by omega)]; simp)).mono ?_
    rintro e w' ⟨rfl, hd1⟩
    exact ⟨_, rfl, hK _ _ hd1.below rfl⟩
  case s33 =>
    refine ⟨_, rfl, fun b a w hG hb hoff hd hs K hK => ?_⟩
    obtain ⟨y53, h53, f53⟩ := hd 27 53 (by decide) (by decide)
    replace f53 : y53 = (.bool true) := f53
    subst y53
    have e53 := eval_of h53
    obtain ⟨y58, h58, f58⟩ := hd 32 58 (by decide) (by decide)
    replace f58 : y58 = (.bool true) := f58
    subst y58
    have e58 := eval_of h58
    refine value_ (v := (.bool true)) rfl rfl ?_ (hK _ _ rfl rfl)
    clear hd hs hK hoff
    clear e53
    clear e58
    go_simp
  case s34 =>
    refine ⟨_, rfl, fun b a w hG hb hoff hd hs K hK => ?_⟩
    have h6 := (hs 6 (by decide)).trans z6
    have e6 := eval_of h6
    obtain ⟨y26, h26, f26⟩ := hd 0 26 (by decide) (by decide)
    replace f26 : y26 = (.agg #[.int .i64 number, .slice A l.length c]) := f26
    subst y26
    have e26 := eval_of h26
    have hb1 := hG.2.2.2.2 hb
    have hc0 := (blk_cell hb1 0).trans rfl
    have hc1 := (blk_cell hb1 1).trans rfl
    have hz0 := blk_frozen hb1 0
    have hz1 := blk_frozen hb1 1
    have hu := Try.underlying29
    refine skip_ (w1 := (w.setCell ⟨rb, 0, none⟩ (.int .i64 number)).setCell ⟨rb, 1, none⟩ (.slice A l.length c)) rfl rfl ?_ (hK undef _ ⟨_, _, rfl⟩ ?_)
    · clear hd hs hK hoff hG hb1
      clear e26 e6
      go_simp
    · have := blk_set (blk_set hb1 0 (.int .i64 number)) 1 (.slice A l.length c)
      exact this
  case s35 =>
    refine ⟨_, rfl, fun b a w hG hb hoff hd hs K hK => ?_⟩
    obtain ⟨y59, h59, f59⟩ := hd 33 59 (by decide) (by decide)
    replace f59 : y59 = (.bool true) := f59
    subst y59
    have e59 := eval_of h59
    refine value_ (v := (.bool true)) rfl rfl ?_ (hK _ _ rfl rfl)
    clear hd hs hK hoff
    clear e59
    go_simp
  case hend =>
    intro b v w hb hG hv
    have f0 := hv 0 (by decide)
    have f1 := hv 1 (by decide)
    have f2 := hv 2 (by decide)
    have f3 := hv 3 (by decide)
    have f4 := hv 4 (by decide)
    have f5 := hv 5 (by decide)
    have f6 := hv 6 (by decide)
    have f7 := hv 7 (by decide)
    have f8 := hv 8 (by decide)
    have f9 := hv 9 (by decide)
    have f10 := hv 10 (by decide)
    have f11 := hv 11 (by decide)
    have f12 := hv 12 (by decide)
    have f13 := hv 13 (by decide)
    have f14 := hv 14 (by decide)
    have f15 := hv 15 (by decide)
    have f16 := hv 16 (by decide)
    have f17 := hv 17 (by decide)
    have f18 := hv 18 (by decide)
    have f19 := hv 19 (by decide)
    have f20 := hv 20 (by decide)
    have f21 := hv 21 (by decide)
    have f22 := hv 22 (by decide)
    have f23 := hv 23 (by decide)
    have f24 := hv 24 (by decide)
    have f25 := hv 25 (by decide)
    have f26 := hv 26 (by decide)
    have f27 := hv 27 (by decide)
    have f28 := hv 28 (by decide)
    have f29 := hv 29 (by decide)
    have f30 := hv 30 (by decide)
    have f31 := hv 31 (by decide)
    have f32 := hv 32 (by decide)
    have f33 := hv 33 (by decide)
    have f34 := hv 34 (by decide)
    have f35 := hv 35 (by decide)
    have := hend (v 29) (v 31) (v 34) w b hb hG f29 f31 f34
    have g0 : v 0 = (.agg #[.int .i64 number, .slice A l.length c]) := f0
    have g1 : v 1 = (.bool first) := f1
    have g2 : v 2 = (.bool first) := f2
    have g3 : v 3 = (.bool true) := f3
    have g4 : v 4 = (.bool true) := f4
    have g5 : v 5 = (.int .i64 e) := f5
    have g6 : v 6 = (.int .i64 e) := f6
    have g7 : v 7 = (.bool true) := f7
    have g8 : v 8 = (.bool true) := f8
    have g9 : v 9 = (.bool true) := f9
    have g10 : v 10 = (.pointer (some ⟨pb, 0, none⟩)) := f10
    have g11 : v 11 = (.pointer (some ⟨nb, 0, none⟩)) := f11
    have g12 : v 12 = (.int .u64 id) := f12
    have g13 : v 13 = (.int .i64 (cnt l id)) := f13
    have g14 : v 14 = (.agg #[.int .i64 number, .slice A l.length c]) := f14
    have g15 : v 15 = (.pointer (some ⟨nb, 0, none⟩)) := f15
    have g16 : v 16 = (.int .u64 id) := f16
    have g17 : v 17 = (.int .i64 (cnt l id)) := f17
    have g18 : v 18 = (.bool true) := f18
    have g19 : v 19 = (.bool true) := f19
    have g20 : v 20 = (.bool true) := f20
    have g21 : v 21 = (.pointer (some ⟨pb, 0, none⟩)) := f21
    have g22 : v 22 = (.int .i64 (mostL (cnt l) l)) := f22
    have g23 : v 23 = (.agg #[.int .i64 number, .slice A l.length c]) := f23
    have g24 : v 24 = (.int .i64 (mostL (cnt l) l)) := f24
    have g25 : v 25 = (.bool true) := f25
    have g26 : v 26 = (.bool true) := f26
    have g27 : v 27 = (.bool true) := f27
    have g28 : v 28 = (.pointer (some ⟨pb, 0, none⟩)) := f28
    have g30 : v 30 = (.agg #[.int .i64 number, .slice A l.length c]) := f30
    have g32 : v 32 = (.bool true) := f32
    have g33 : v 33 = (.bool true) := f33
    have g35 : v 35 = (.bool true) := f35
    have e : (r20x3.L.map fun e => (e.2, v e.1)) = [(26, (.agg #[.int .i64 number, .slice A l.length c])), (27, (.bool first)), (28, (.bool first)), (29, (.bool true)), (30, (.bool true)), (31, (.int .i64 e)), (32, (.int .i64 e)), (33, (.bool true)), (34, (.bool true)), (35, (.bool true)), (36, (.pointer (some ⟨pb, 0, none⟩))), (37, (.pointer (some ⟨nb, 0, none⟩))), (38, (.int .u64 id)), (39, (.int .i64 (cnt l id))), (40, (.agg #[.int .i64 number, .slice A l.length c])), (41, (.pointer (some ⟨nb, 0, none⟩))), (42, (.int .u64 id)), (43, (.int .i64 (cnt l id))), (44, (.bool true)), (45, (.bool true)), (46, (.bool true)), (47, (.pointer (some ⟨pb, 0, none⟩))), (48, (.int .i64 (mostL (cnt l) l))), (49, (.agg #[.int .i64 number, .slice A l.length c])), (50, (.int .i64 (mostL (cnt l) l))), (51, (.bool true)), (52, (.bool true)), (53, (.bool true)), (54, (.pointer (some ⟨pb, 0, none⟩))), (55, v 29), (56, (.agg #[.int .i64 number, .slice A l.length c])), (57, v 31), (58, (.bool true)), (59, (.bool true)), (7, (.bool true))] := by
      simp only [r20x3.L, List.map_cons, List.map_nil, g0, g1, g2, g3, g4, g5, g6, g7, g8, g9, g10, g11, g12, g13, g14, g15, g16, g17, g18, g19, g20, g21, g22, g23, g24, g25, g26, g27, g28, g30, g32, g33, g35]
    rw [e]
    exact this

end Go.Proofs.Ytbjbejjieibldaa.Pa
