/- A plan's Between; the search of a plan's sums; the region of open order in Nth. -/
import Derived.Test.YtbjbejjieibldaaVh
namespace Go.Proofs.Ytbjbejjieibldaa.Va
open Go.RowKit Go.Proofs.YtbjbejjieibldaaW.PrintWords Go.Proofs.YtbjbejjieibldaaW.PrintLast Go.Proofs.YtbjbejjieibldaaW.PrintMore Go.Proofs.Ytbjbejjieibldaa.PWeekCounts Go.Proofs.Ytbjbejjieibldaa.Rg Go.Proofs.Ytbjbejjieibldaa.La
open Go.Proofs.Ytbjbejjieibldaa
set_option linter.unusedVariables false
set_option linter.unusedSimpArgs false

theorem less_f (a b : Int) : cmp_Less_int64.f a b = some (decide (a < b)) := by simp [cmp_Less_int64.f, cmp_isNaN_int64.f]
theorem nan_f (a : Int) : slices_isNaN_int64.f a = some false := by simp [slices_isNaN_int64.f]
theorem wrap_nat (m : Nat) (h : m ≤ 2000) : wrap64 ((m : Int) + 1) = ((m + 1 : Nat) : Int) := by unfold wrap64; omega
theorem bs_l0 (x : List Int) (a : Int) (hu : ∀ i j : Nat, i < j → j < x.length → rd x (i : Int) ≤ rd x (j : Int)) (hl : x.length ≤ 1000) : ∀ (d lo hi k : Nat), hi - lo ≤ d → d < k → lo ≤ hi → hi ≤ x.length → (∀ j : Nat, j < lo → rd x (j : Int) < a) → (∀ j : Nat, hi ≤ j → j < x.length → a ≤ rd x (j : Int)) →
    ∃ (r : Nat) (b : Bool), slices_BinarySearch_int64_int64.l0 k x a (x.length : Int) (lo : Int) (hi : Int) = some ((r : Int), b) ∧ r ≤ x.length ∧ (∀ j : Nat, j < r → rd x (j : Int) < a) ∧ ∀ j : Nat, r ≤ j → j < x.length → a ≤ rd x (j : Int) := by
  intro d
  induction d with
  | zero =>
    intro lo hi k hd hk hle hhi ha hb
    obtain ⟨k, rfl⟩ : ∃ m, k = m + 1 := ⟨k - 1, by omega⟩
    have he : lo = hi := by omega
    subst he
    simp only [slices_BinarySearch_int64_int64.l0]
    rw [if_neg (by omega)]
    by_cases h : lo < x.length
    · rw [if_pos (by omega), if_pos (by omega), if_pos (by omega)]
      by_cases h2 : rd x (lo : Int) = a
      · rw [if_pos h2]
        exact ⟨lo, _, rfl, hhi, ha, hb⟩
      · rw [if_neg h2, nan_f]
        exact ⟨lo, _, rfl, hhi, ha, hb⟩
    · rw [if_neg (by omega)]
      exact ⟨lo, _, rfl, hhi, ha, hb⟩
  | succ d ih =>
    intro lo hi k hd hk hle hhi ha hb
    by_cases he : lo = hi
    · exact (fun h => by
        obtain ⟨k, rfl⟩ : ∃ m, k = m + 1 := ⟨k - 1, by omega⟩
        subst he
        simp only [slices_BinarySearch_int64_int64.l0]
        rw [if_neg (by omega)]
        by_cases h : lo < x.length
        · rw [if_pos (by omega), if_pos (by omega), if_pos (by omega)]
          by_cases h2 : rd x (lo : Int) = a
          · rw [if_pos h2]
            exact ⟨lo, _, rfl, hhi, ha, hb⟩
          · rw [if_neg h2, nan_f]
            exact ⟨lo, _, rfl, hhi, ha, hb⟩
        · rw [if_neg (by omega)]
          exact ⟨lo, _, rfl, hhi, ha, hb⟩) trivial
    · obtain ⟨k, rfl⟩ : ∃ m, k = m + 1 := ⟨k - 1, by omega⟩
      simp only [slices_BinarySearch_int64_int64.l0]
      have hm := mid_w lo hi x.length (by omega) hhi hl
      have hmid : lo ≤ (lo + hi) / 2 ∧ (lo + hi) / 2 < hi := by omega
      rw [hm]
      generalize (lo + hi) / 2 = m at hmid
      rw [if_pos (by omega), if_pos (by omega), if_pos (by omega), less_f, Option.bind_some]
      by_cases h : rd x (m : Int) < a
      · rw [if_pos (by simpa using h), wrap_nat m (by omega)]
        refine ih (m + 1) hi k (by omega) (by omega) (by omega) hhi (fun j hj => ?_) hb
        by_cases e : j = m
        · subst e; exact h
        · exact Int.lt_of_le_of_lt (hu j m (by omega) (by omega)) h
      · rw [if_neg (by simpa using h)]
        refine ih lo m k (by omega) (by omega) (by omega) (by omega) ha (fun j hj hjl => ?_)
        by_cases e : j = m
        · subst e; omega
        · exact Int.le_trans (by omega) (hu m j (by omega) hjl)
theorem bs_f (x : List Int) (a : Int) (hu : ∀ i j : Nat, i < j → j < x.length → rd x (i : Int) ≤ rd x (j : Int)) (hl : x.length ≤ 1000) :
    ∃ (r : Nat) (b : Bool), slices_BinarySearch_int64_int64.f 2000 x a = some ((r : Int), b) ∧ r ≤ x.length ∧ (∀ j : Nat, j < r → rd x (j : Int) < a) ∧ ∀ j : Nat, r ≤ j → j < x.length → a ≤ rd x (j : Int) :=
  bs_l0 x a hu hl x.length 0 x.length 2000 (by omega) (by omega) (by omega) (by omega) (fun j hj => by omega) (fun j h1 h2 => by omega)
theorem lsum_take_mono {l : List Sp} (hg : Gd 604800 0 l) : ∀ (d i : Nat), lsum (l.take i) ≤ lsum (l.take (i + d)) := by
  intro d i
  induction d with
  | zero => exact Int.le_refl _
  | succ d ih =>
    by_cases h : i + d < l.length
    · have := lsum_take_succ l (i + d) h
      have h2 := hg.el (i + d) h
      rw [show i + (d + 1) = i + d + 1 by omega]
      omega
    · rw [List.take_of_length_le (i := i + (d + 1)) (by omega)]
      rw [List.take_of_length_le (i := i + d) (by omega)] at ih
      exact ih
/-- Where the second with r ahead lies. -/
theorem find_span {l : List Sp} (hg : Gd 604800 0 l) (hl : l.length ≤ 32) (r : Int) (h0 : 0 ≤ r) (h1 : r < lsum l) :
    ∃ (j : Nat) (b : Bool), slices_BinarySearch_int64_int64.f 2000 (sumsL l l.length) (r + 1) = some (((j + 1 : Nat) : Int), b) ∧ j < l.length ∧ posOf l r = (el l j).f0 + r - lsum (l.take j) := by
  obtain ⟨i, b, hf, hi, ha, hb⟩ := bs_f (sumsL l l.length) (r + 1) (fun i j hij hj => by
    rw [sumsL_length] at hj
    rw [sumsL_rd _ _ _ (by omega), sumsL_rd _ _ _ (by omega)]
    have := lsum_take_mono hg (j - i) i
    rwa [show i + (j - i) = j by omega] at this) (by rw [sumsL_length]; omega)
  rw [sumsL_length] at hi
  have h2 : lsum (l.take l.length) = lsum l := by rw [List.take_of_length_le (Nat.le_refl _)]
  have hi0 : i ≠ 0 := fun e => by
    subst e
    have := hb 0 (Nat.le_refl _) (by rw [sumsL_length]; omega)
    rw [sumsL_rd _ _ _ (Nat.zero_le _), List.take_zero, lsum_nil] at this
    omega
  have hin : i ≤ l.length := by
    rcases Nat.lt_or_ge l.length i with h | h
    · have := ha l.length h
      rw [sumsL_rd _ _ _ (Nat.le_refl _), h2] at this
      omega
    · exact h
  obtain ⟨j, rfl⟩ : ∃ j, i = j + 1 := ⟨i - 1, by omega⟩
  have a1 := ha j (by omega)
  have b1 := hb (j + 1) (Nat.le_refl _) (by rw [sumsL_length]; omega)
  rw [sumsL_rd _ _ _ (by omega)] at a1 b1
  exact ⟨j, b, hf, by omega, posOf_at hg (by omega) (by omega) (by omega)⟩
theorem untilP_bound {l : List Sp} (hg : Gd 604800 0 l) (t : Int) : 0 ≤ untilP l t ∧ untilP l t ≤ 2251799813894400 := by
  unfold untilP
  have hs := lsum_nonneg hg
  have hs2 := lsum_le (by omega) hg
  have hx : 0 ≤ max 0 (min t lastS) / 604800 ∧ max 0 (min t lastS) / 604800 ≤ 3723213977 := by unfold lastS; omega
  have h1 := bef_nonneg l (max 0 (min t lastS) % 604800)
  have h2 := bef_le hg (max 0 (min t lastS) % 604800)
  have h3 := Int.mul_nonneg hx.1 hs
  have h4 : max 0 (min t lastS) / 604800 * lsum l ≤ 3723213977 * 604800 := Int.mul_le_mul hx.2 (by omega) hs (by omega)
  omega

/-! ### region 12 of function 50 -/
def r50x12.T : Bool × List (List Nat × List Nat) := (true, [([], []), ([], []), ([0, 1], [0, 1]), ([2], [2]), ([], []), ([4], [4]), ([5], [5]), ([6], [6]), ([], []), ([8], [8]), ([7, 9], [7, 9]), ([10], [10]), ([11], [11]), ([3, 12], [3, 12]), ([], []), ([13, 14], [13, 14]), ([], []), ([16], [16]), ([17], [17]), ([18], [18]), ([19], [19]), ([], []), ([21], [21]), ([20, 22], [20, 22]), ([23], [23]), ([15, 24], [15, 24]), ([25, 20, 0, 1, 2, 3, 4, 5, 6, 7, 8, 9, 10, 11, 12, 13, 14, 15, 16, 17, 18, 19, 20, 21, 22, 23, 24, 25], [25])])
def r50x12.B : List Nat := [0, 0, 3, 7, 0, 16, 48, 112, 0, 256, 1008, 2032, 4080, 8191, 0, 32767, 0, 65536, 196608, 458752, 983040, 0, 2097152, 8323072, 16711680, 33554431, 67108863]
def r50x12.L : List (Nat × Tmp) := [(0, 41), (1, 42), (2, 43), (3, 44), (4, 45), (5, 46), (6, 47), (7, 48), (8, 49), (9, 50), (10, 51), (11, 52), (12, 53), (13, 54), (14, 55), (15, 56), (16, 57), (17, 58), (18, 59), (19, 60), (20, 61), (21, 62), (22, 63), (23, 64), (24, 65), (25, 66), (26, 10)]
theorem r50x12.tab : rtab .any (opsOf Try.f50 12) = r50x12.T := by kernel_rfl
theorem r50x12.bits : waitsOk r50x12.T.2 r50x12.B = true := by kernel_rfl
theorem r50x12.base : baseOk r50x12.T.2 (List.range 27) = true := by kernel_rfl
theorem r50x12.okl : okL (opsOf Try.f50 12) r50x12.L 70 = true := by kernel_rfl
def r50x12.F (pb cb : Nat) (ap : Addr) (c : Nat) (l : List Sp) (N j : Nat) (n tot q rest : Int) (W0 W : World) (i : Nat) : Value → World → Prop := match i with
  | 0 => fun v _ => v = (.int .i64 n)
  | 1 => fun v _ => v = (.int .i64 tot)
  | 2 => fun v _ => v = (.int .i64 q)
  | 3 => fun v _ => v = (.int .i64 (q * 604800))
  | 4 => fun v _ => v = (.pointer (some ⟨pb, 0, none⟩))
  | 5 => fun v _ => v = (.pointer (some ⟨pb, 0, none⟩))
  | 6 => fun v _ => v = (.pointer (some ⟨pb, 0, none⟩))
  | 7 => fun v _ => v = (.slice (some ap) l.length c)
  | 8 => fun v _ => v = (.int .i64 ((j + 1 : Nat) : Int))
  | 9 => fun v _ => v = (.int .i64 (j : Int))
  | 10 => fun v _ => v = (.pointer (some (ap.add (j * 2))))
  | 11 => fun v _ => v = (.pointer (some (ap.add (j * 2))))
  | 12 => fun v _ => v = (.int .i64 (el l j).f0)
  | 13 => fun v _ => v = (.int .i64 (q * 604800 + (el l j).f0))
  | 14 => fun v _ => v = (.int .i64 rest)
  | 15 => fun v _ => v = (.int .i64 (q * 604800 + (el l j).f0 + rest))
  | 16 => fun v _ => v = (.pointer (some ⟨pb, 0, none⟩))
  | 17 => fun v _ => v = (.pointer (some ⟨pb, 0, none⟩))
  | 18 => fun v _ => v = (.pointer (some ⟨pb, 1, none⟩))
  | 19 => fun v _ => v = (PB cb)
  | 20 => fun v w => SumR W0 w cb l v
  | 21 => fun v _ => v = (.int .i64 ((j + 1 : Nat) : Int))
  | 22 => fun v _ => v = (.int .i64 (j : Int))
  | 23 => fun v w => ∃ ad, v = .pointer (some ad) ∧ w.cell? ad = some (.int .i64 (lsum (l.take j)))
  | 24 => fun v _ => v = (.int .i64 (lsum (l.take j)))
  | 25 => fun v _ => v = (.int .i64 (q * 604800 + (el l j).f0 + rest - lsum (l.take j)))
  | 26 => fun v _ => v = (.int .i64 (q * 604800 + (el l j).f0 + rest - lsum (l.take j)))
  | _ => fun _ _ => True
def r50x12.St (pb cb : Nat) (ap : Addr) (c : Nat) (l : List Sp) (N j : Nat) (n tot q rest : Int) (W0 W : World) (i : Nat) : World → World → Prop := match i with
  | 20 => fun w w' => Turn W0 pb cb (some ap) c l 1 w w'
  | _ => fun w w' => w' = w
def r50x12.G (pb cb : Nat) (ap : Addr) (c : Nat) (l : List Sp) (N j : Nat) (n tot q rest : Int) (W0 W : World) : (Nat → Bool) → World → Prop := fun b w => Kept W w (fun k => k = cb) ∧ Wk W0 w pb cb (some ap) c l (N + if b 20 then 1 else 0)
set_option maxHeartbeats 4000000 in
set_option maxRecDepth 100000 in
theorem r50x12 (pb cb : Nat) (ap : Addr) (c : Nat) (l : List Sp) (N j : Nat) (n tot q rest : Int) (W0 W : World) (hN : N < 990000) (hj : j < l.length) (hl32 : l.length ≤ 32) (ht : 0 < tot) (hqd : n.tdiv tot = q) (hqw : wrap64 q = q) (hqw2 : IntKind.i64.wrap q = q) (hq : 0 ≤ q ∧ q ≤ 3723213977) (hr : 0 ≤ rest ∧ rest ≤ 604800) (hf : 0 ≤ (el l j).f0 ∧ (el l j).f0 ≤ 604800) (hsl : 0 ≤ lsum (l.take j) ∧ lsum (l.take j) ≤ 604800) {Q : Exit → Act → World → Prop} {a0 : Act} {w0 : World} (hz : a0.tmps.size = 70) (z0 : a0.tmps[0]? = some (.pointer (some ⟨pb, 0, none⟩))) (z1 : a0.tmps[1]? = some (.int .i64 n)) (z6 : a0.tmps[6]? = some (.int .i64 tot)) (z7 : a0.tmps[7]? = some (.int .i64 rest)) (z8 : a0.tmps[8]? = some (.int .i64 ((j + 1 : Nat) : Int))) (hG0 : (r50x12.G pb cb ap c l N j n tot q rest W0 W) (fun _ => false) w0.drew)
    (hend : ∀ (v61 : Value) (v64 : Value) (w : World) (b : Nat → Bool), (∀ i, i < 27 → b i = true) → (r50x12.G pb cb ap c l N j n tot q rest W0 W) b w → r50x12.F pb cb ap c l N j n tot q rest W0 W 20 v61 w → r50x12.F pb cb ap c l N j n tot q rest W0 W 23 v64 w → Q .normal (putAll a0 [(41, (.int .i64 n)), (42, (.int .i64 tot)), (43, (.int .i64 q)), (44, (.int .i64 (q * 604800))), (45, (.pointer (some ⟨pb, 0, none⟩))), (46, (.pointer (some ⟨pb, 0, none⟩))), (47, (.pointer (some ⟨pb, 0, none⟩))), (48, (.slice (some ap) l.length c)), (49, (.int .i64 ((j + 1 : Nat) : Int))), (50, (.int .i64 (j : Int))), (51, (.pointer (some (ap.add (j * 2))))), (52, (.pointer (some (ap.add (j * 2))))), (53, (.int .i64 (el l j).f0)), (54, (.int .i64 (q * 604800 + (el l j).f0))), (55, (.int .i64 rest)), (56, (.int .i64 (q * 604800 + (el l j).f0 + rest))), (57, (.pointer (some ⟨pb, 0, none⟩))), (58, (.pointer (some ⟨pb, 0, none⟩))), (59, (.pointer (some ⟨pb, 1, none⟩))), (60, (PB cb)), (61, v61), (62, (.int .i64 ((j + 1 : Nat) : Int))), (63, (.int .i64 (j : Int))), (64, v64), (65, (.int .i64 (lsum (l.take j)))), (66, (.int .i64 (q * 604800 + (el l j).f0 + rest - lsum (l.take j)))), (10, (.int .i64 (q * 604800 + (el l j).f0 + rest - lsum (l.take j))))]) w) :
    (Code.region 12 (opsOf Try.f50 12) true).wp Try.prog Q a0 w0 := by
  refine region_lit (ops' := #[_, _, _, _, _, _, _, _, _, _, _, _, _, _, _, _, _, _, _, _, _, _, _, _, _, _, _]) rfl ?_
  refine region_facts (n := 27) (T := r50x12.T) (B := r50x12.B) r50x12.L (r50x12.G pb cb ap c l N j n tot q rest W0 W) (r50x12.St pb cb ap c l N j n tot q rest W0 W) (r50x12.F pb cb ap c l N j n tot q rest W0 W) (by kernel_rfl) (by kernel_rfl) r50x12.tab r50x12.bits r50x12.base (by rw [hz]; exact r50x12.okl) hG0 ?hSt ?hF ((all_cons ?s0 (all_cons ?s1 (all_cons ?s2 (all_cons ?s3 (all_cons ?s4 (all_cons ?s5 (all_cons ?s6 (all_cons ?s7 (all_cons ?s8 (all_cons ?s9 (all_cons ?s10 (all_cons ?s11 (all_cons ?s12 (all_cons ?s13 (all_cons ?s14 (all_cons ?s15 (all_cons ?s16 (all_cons ?s17 (all_cons ?s18 (all_cons ?s19 (all_cons ?s20 (all_cons ?s21 (all_cons ?s22 (all_cons ?s23 (all_cons ?s24 (all_cons ?s25 (all_cons ?s26 all_nil)))))))))))))))))))))))))))) ?hend
  case hSt =>
    intro i b w w' hi hb hoff hG hst
    match i, hi, hb, hoff, hst with
    | 0, _, hb, hoff, hst =>
      obtain rfl : w' = w := hst
      obtain ⟨g1, g2⟩ := hG
      refine ⟨g1, ?_⟩
      rw [up_ne (by decide : (20 : Nat) ≠ _)]
      exact g2
    | 1, _, hb, hoff, hst =>
      obtain rfl : w' = w := hst
      obtain ⟨g1, g2⟩ := hG
      refine ⟨g1, ?_⟩
      rw [up_ne (by decide : (20 : Nat) ≠ _)]
      exact g2
    | 2, _, hb, hoff, hst =>
      obtain rfl : w' = w := hst
      obtain ⟨g1, g2⟩ := hG
      refine ⟨g1, ?_⟩
      rw [up_ne (by decide : (20 : Nat) ≠ _)]
      exact g2
    | 3, _, hb, hoff, hst =>
      obtain rfl : w' = w := hst
      obtain ⟨g1, g2⟩ := hG
      refine ⟨g1, ?_⟩
      rw [up_ne (by decide : (20 : Nat) ≠ _)]
      exact g2
    | 4, _, hb, hoff, hst =>
      obtain rfl : w' = w := hst
      obtain ⟨g1, g2⟩ := hG
      refine ⟨g1, ?_⟩
      rw [up_ne (by decide : (20 : Nat) ≠ _)]
      exact g2
    | 5, _, hb, hoff, hst =>
      obtain rfl : w' = w := hst
      obtain ⟨g1, g2⟩ := hG
      refine ⟨g1, ?_⟩
      rw [up_ne (by decide : (20 : Nat) ≠ _)]
      exact g2
    | 6, _, hb, hoff, hst =>
      obtain rfl : w' = w := hst
      obtain ⟨g1, g2⟩ := hG
      refine ⟨g1, ?_⟩
      rw [up_ne (by decide : (20 : Nat) ≠ _)]
      exact g2
    | 7, _, hb, hoff, hst =>
      obtain rfl : w' = w := hst
      obtain ⟨g1, g2⟩ := hG
      refine ⟨g1, ?_⟩
      rw [up_ne (by decide : (20 : Nat) ≠ _)]
      exact g2
    | 8, _, hb, hoff, hst =>
      obtain rfl : w' = w := hst
      obtain ⟨g1, g2⟩ := hG
      refine ⟨g1, ?_⟩
      rw [up_ne (by decide : (20 : Nat) ≠ _)]
      exact g2
    | 9, _, hb, hoff, hst =>
      obtain rfl : w' = w := hst
      obtain ⟨g1, g2⟩ := hG
      refine ⟨g1, ?_⟩
      rw [up_ne (by decide : (20 : Nat) ≠ _)]
      exact g2
    | 10, _, hb, hoff, hst =>
      obtain rfl : w' = w := hst
      obtain ⟨g1, g2⟩ := hG
      refine ⟨g1, ?_⟩
      rw [up_ne (by decide : (20 : Nat) ≠ _)]
      exact g2
    | 11, _, hb, hoff, hst =>
      obtain rfl : w' = w := hst
      obtain ⟨g1, g2⟩ := hG
      refine ⟨g1, ?_⟩
      rw [up_ne (by decide : (20 : Nat) ≠ _)]
      exact g2
    | 12, _, hb, hoff, hst =>
      obtain rfl : w' = w := hst
      obtain ⟨g1, g2⟩ := hG
      refine ⟨g1, ?_⟩
      rw [up_ne (by decide : (20 : Nat) ≠ _)]
      exact g2
    | 13, _, hb, hoff, hst =>
      obtain rfl : w' = w := hst
      obtain ⟨g1, g2⟩ := hG
      refine ⟨g1, ?_⟩
      rw [up_ne (by decide : (20 : Nat) ≠ _)]
      exact g2
    | 14, _, hb, hoff, hst =>
      obtain rfl : w' = w := hst
      obtain ⟨g1, g2⟩ := hG
      refine ⟨g1, ?_⟩
      rw [up_ne (by decide : (20 : Nat) ≠ _)]
      exact g2
    | 15, _, hb, hoff, hst =>
      obtain rfl : w' = w := hst
      obtain ⟨g1, g2⟩ := hG
      refine ⟨g1, ?_⟩
      rw [up_ne (by decide : (20 : Nat) ≠ _)]
      exact g2
    | 16, _, hb, hoff, hst =>
      obtain rfl : w' = w := hst
      obtain ⟨g1, g2⟩ := hG
      refine ⟨g1, ?_⟩
      rw [up_ne (by decide : (20 : Nat) ≠ _)]
      exact g2
    | 17, _, hb, hoff, hst =>
      obtain rfl : w' = w := hst
      obtain ⟨g1, g2⟩ := hG
      refine ⟨g1, ?_⟩
      rw [up_ne (by decide : (20 : Nat) ≠ _)]
      exact g2
    | 18, _, hb, hoff, hst =>
      obtain rfl : w' = w := hst
      obtain ⟨g1, g2⟩ := hG
      refine ⟨g1, ?_⟩
      rw [up_ne (by decide : (20 : Nat) ≠ _)]
      exact g2
    | 19, _, hb, hoff, hst =>
      obtain rfl : w' = w := hst
      obtain ⟨g1, g2⟩ := hG
      refine ⟨g1, ?_⟩
      rw [up_ne (by decide : (20 : Nat) ≠ _)]
      exact g2
    | 20, _, hb, hoff, hst =>
      obtain ⟨g1, g2⟩ := hG
      have hst' : Turn W0 pb cb (some ap) c l 1 w w' := hst
      refine ⟨g1.then_ hst'.1 (fun k hk => .inl hk), ?_⟩
      rw [up_self]
      rw [hb] at g2
      have := hst'.2 _ g2
      simpa using this
    | 21, _, hb, hoff, hst =>
      obtain rfl : w' = w := hst
      obtain ⟨g1, g2⟩ := hG
      refine ⟨g1, ?_⟩
      rw [up_ne (by decide : (20 : Nat) ≠ _)]
      exact g2
    | 22, _, hb, hoff, hst =>
      obtain rfl : w' = w := hst
      obtain ⟨g1, g2⟩ := hG
      refine ⟨g1, ?_⟩
      rw [up_ne (by decide : (20 : Nat) ≠ _)]
      exact g2
    | 23, _, hb, hoff, hst =>
      obtain rfl : w' = w := hst
      obtain ⟨g1, g2⟩ := hG
      refine ⟨g1, ?_⟩
      rw [up_ne (by decide : (20 : Nat) ≠ _)]
      exact g2
    | 24, _, hb, hoff, hst =>
      obtain rfl : w' = w := hst
      obtain ⟨g1, g2⟩ := hG
      refine ⟨g1, ?_⟩
      rw [up_ne (by decide : (20 : Nat) ≠ _)]
      exact g2
    | 25, _, hb, hoff, hst =>
      obtain rfl : w' = w := hst
      obtain ⟨g1, g2⟩ := hG
      refine ⟨g1, ?_⟩
      rw [up_ne (by decide : (20 : Nat) ≠ _)]
      exact g2
    | 26, _, hb, hoff, hst =>
      obtain rfl : w' = w := hst
      obtain ⟨g1, g2⟩ := hG
      refine ⟨g1, ?_⟩
      rw [up_ne (by decide : (20 : Nat) ≠ _)]
      exact g2
    | i + 27, hi, _, _, _ => exact absurd hi (by omega)
  case hF =>
    intro i j b v w w' hij hi hj hb hbj hoff hG hst hf
    match i, hi, hij, hb, hoff, hst with
    | 0, _, hij, hb, hoff, hst =>
      obtain rfl : w' = w := hst
      exact hf
    | 1, _, hij, hb, hoff, hst =>
      obtain rfl : w' = w := hst
      exact hf
    | 2, _, hij, hb, hoff, hst =>
      obtain rfl : w' = w := hst
      exact hf
    | 3, _, hij, hb, hoff, hst =>
      obtain rfl : w' = w := hst
      exact hf
    | 4, _, hij, hb, hoff, hst =>
      obtain rfl : w' = w := hst
      exact hf
    | 5, _, hij, hb, hoff, hst =>
      obtain rfl : w' = w := hst
      exact hf
    | 6, _, hij, hb, hoff, hst =>
      obtain rfl : w' = w := hst
      exact hf
    | 7, _, hij, hb, hoff, hst =>
      obtain rfl : w' = w := hst
      exact hf
    | 8, _, hij, hb, hoff, hst =>
      obtain rfl : w' = w := hst
      exact hf
    | 9, _, hij, hb, hoff, hst =>
      obtain rfl : w' = w := hst
      exact hf
    | 10, _, hij, hb, hoff, hst =>
      obtain rfl : w' = w := hst
      exact hf
    | 11, _, hij, hb, hoff, hst =>
      obtain rfl : w' = w := hst
      exact hf
    | 12, _, hij, hb, hoff, hst =>
      obtain rfl : w' = w := hst
      exact hf
    | 13, _, hij, hb, hoff, hst =>
      obtain rfl : w' = w := hst
      exact hf
    | 14, _, hij, hb, hoff, hst =>
      obtain rfl : w' = w := hst
      exact hf
    | 15, _, hij, hb, hoff, hst =>
      obtain rfl : w' = w := hst
      exact hf
    | 16, _, hij, hb, hoff, hst =>
      obtain rfl : w' = w := hst
      exact hf
    | 17, _, hij, hb, hoff, hst =>
      obtain rfl : w' = w := hst
      exact hf
    | 18, _, hij, hb, hoff, hst =>
      obtain rfl : w' = w := hst
      exact hf
    | 19, _, hij, hb, hoff, hst =>
      obtain rfl : w' = w := hst
      exact hf
    | 20, _, hij, hb, hoff, hst =>
      match j, hj, hij, hbj, hf with
      | 0, _, hij, hbj, hf => 
        exact hf
      | 1, _, hij, hbj, hf => 
        exact hf
      | 2, _, hij, hbj, hf => 
        exact hf
      | 3, _, hij, hbj, hf => 
        exact hf
      | 4, _, hij, hbj, hf => 
        exact hf
      | 5, _, hij, hbj, hf => 
        exact hf
      | 6, _, hij, hbj, hf => 
        exact hf
      | 7, _, hij, hbj, hf => 
        exact hf
      | 8, _, hij, hbj, hf => 
        exact hf
      | 9, _, hij, hbj, hf => 
        exact hf
      | 10, _, hij, hbj, hf => 
        exact hf
      | 11, _, hij, hbj, hf => 
        exact hf
      | 12, _, hij, hbj, hf => 
        exact hf
      | 13, _, hij, hbj, hf => 
        exact hf
      | 14, _, hij, hbj, hf => 
        exact hf
      | 15, _, hij, hbj, hf => 
        exact hf
      | 16, _, hij, hbj, hf => 
        exact hf
      | 17, _, hij, hbj, hf => 
        exact hf
      | 18, _, hij, hbj, hf => 
        exact hf
      | 19, _, hij, hbj, hf => 
        exact hf
      | 20, _, hij, hbj, hf => exact absurd rfl hij
      | 21, _, hij, hbj, hf => 
        exact hf
      | 22, _, hij, hbj, hf => 
        exact hf
      | 23, _, hij, hbj, hf => exact absurd hbj (by rw [hoff 23 (by decide) (by decide)]; decide)
      | 24, _, hij, hbj, hf => exact absurd hbj (by rw [hoff 24 (by decide) (by decide)]; decide)
      | 25, _, hij, hbj, hf => exact absurd hbj (by rw [hoff 25 (by decide) (by decide)]; decide)
      | 26, _, hij, hbj, hf => exact absurd hbj (by rw [hoff 26 (by decide) (by decide)]; decide)
      | j + 27, hj, _, _, _ => exact absurd hj (by omega)
    | 21, _, hij, hb, hoff, hst =>
      obtain rfl : w' = w := hst
      exact hf
    | 22, _, hij, hb, hoff, hst =>
      obtain rfl : w' = w := hst
      exact hf
    | 23, _, hij, hb, hoff, hst =>
      obtain rfl : w' = w := hst
      exact hf
    | 24, _, hij, hb, hoff, hst =>
      obtain rfl : w' = w := hst
      exact hf
    | 25, _, hij, hb, hoff, hst =>
      obtain rfl : w' = w := hst
      exact hf
    | 26, _, hij, hb, hoff, hst =>
      obtain rfl : w' = w := hst
      exact hf
    | i + 27, hi, _, _, _, _ => exact absurd hi (by omega)
  case s0 =>
    refine ⟨_, rfl, fun b a w hG hb hoff hd hs K hK => ?_⟩
    have h1 := (hs 1 (by decide)).trans z1
    have e1 := eval_of h1
    refine value_ (v := (.int .i64 n)) rfl rfl ?_ (hK _ _ rfl rfl)
    clear hd hs hK hoff
    clear e1
    go_simp
  case s1 =>
    refine ⟨_, rfl, fun b a w hG hb hoff hd hs K hK => ?_⟩
    have h6 := (hs 6 (by decide)).trans z6
    have e6 := eval_of h6
    refine value_ (v := (.int .i64 tot)) rfl rfl ?_ (hK _ _ rfl rfl)
    clear hd hs hK hoff
    clear e6
    go_simp
  case s2 =>
    refine ⟨_, rfl, fun b a w hG hb hoff hd hs K hK => ?_⟩
    obtain ⟨y41, h41, f41⟩ := hd 0 41 (by decide) (by decide)
    replace f41 : y41 = (.int .i64 n) := f41
    subst y41
    have e41 := eval_of h41
    obtain ⟨y42, h42, f42⟩ := hd 1 42 (by decide) (by decide)
    replace f42 : y42 = (.int .i64 tot) := f42
    subst y42
    have e42 := eval_of h42
    refine value_ (v := (.int .i64 q)) rfl rfl ?_ (hK _ _ rfl rfl)
    clear hG
    have ht0 : ¬ tot = 0 := by omega
    clear hd hs hK hoff
    clear e41
    clear e42
    go_simp
  case s3 =>
    refine ⟨_, rfl, fun b a w hG hb hoff hd hs K hK => ?_⟩
    obtain ⟨y43, h43, f43⟩ := hd 2 43 (by decide) (by decide)
    replace f43 : y43 = (.int .i64 q) := f43
    subst y43
    have e43 := eval_of h43
    refine value_ (v := (.int .i64 (q * 604800))) rfl rfl ?_ (hK _ _ rfl rfl)
    clear hG
    clear hd hs hK hoff
    clear e43
    go_simp
    exact IntWalk.i64_in _ (by omega)
  case s4 =>
    refine ⟨_, rfl, fun b a w hG hb hoff hd hs K hK => ?_⟩
    have h0 := (hs 0 (by decide)).trans z0
    have e0 := eval_of h0
    refine value_ (v := (.pointer (some ⟨pb, 0, none⟩))) rfl rfl ?_ (hK _ _ rfl rfl)
    clear hd hs hK hoff
    clear e0
    go_simp
  case s5 =>
    refine ⟨_, rfl, fun b a w hG hb hoff hd hs K hK => ?_⟩
    obtain ⟨y45, h45, f45⟩ := hd 4 45 (by decide) (by decide)
    replace f45 : y45 = (.pointer (some ⟨pb, 0, none⟩)) := f45
    subst y45
    have e45 := eval_of h45
    refine value_ (v := (.pointer (some ⟨pb, 0, none⟩))) rfl rfl ?_ (hK _ _ rfl rfl)
    clear hd hs hK hoff
    clear e45
    go_simp
  case s6 =>
    refine ⟨_, rfl, fun b a w hG hb hoff hd hs K hK => ?_⟩
    obtain ⟨y46, h46, f46⟩ := hd 5 46 (by decide) (by decide)
    replace f46 : y46 = (.pointer (some ⟨pb, 0, none⟩)) := f46
    subst y46
    have e46 := eval_of h46
    refine value_ (v := (.pointer (some ⟨pb, 0, none⟩))) rfl rfl ?_ (hK _ _ rfl rfl)
    clear hd hs hK hoff
    clear e46
    go_simp
  case s7 =>
    refine ⟨_, rfl, fun b a w hG hb hoff hd hs K hK => ?_⟩
    obtain ⟨y47, h47, f47⟩ := hd 6 47 (by decide) (by decide)
    replace f47 : y47 = (.pointer (some ⟨pb, 0, none⟩)) := f47
    subst y47
    have e47 := eval_of h47
    refine value_ (v := (.slice (some ap) l.length c)) rfl rfl ?_ (hK _ _ rfl rfl)
    have hc := (blk_cell hG.2.blk 0).trans rfl
    clear hG
    clear hd hs hK hoff
    clear e47
    go_simp
  case s8 =>
    refine ⟨_, rfl, fun b a w hG hb hoff hd hs K hK => ?_⟩
    have h8 := (hs 8 (by decide)).trans z8
    have e8 := eval_of h8
    refine value_ (v := (.int .i64 ((j + 1 : Nat) : Int))) rfl rfl ?_ (hK _ _ rfl rfl)
    clear hd hs hK hoff
    clear e8
    go_simp
  case s9 =>
    refine ⟨_, rfl, fun b a w hG hb hoff hd hs K hK => ?_⟩
    obtain ⟨y49, h49, f49⟩ := hd 8 49 (by decide) (by decide)
    replace f49 : y49 = (.int .i64 ((j + 1 : Nat) : Int)) := f49
    subst y49
    have e49 := eval_of h49
    refine value_ (v := (.int .i64 (j : Int))) rfl rfl ?_ (hK _ _ rfl rfl)
    clear hG
    clear hd hs hK hoff
    clear e49
    go_simp
    refine (IntWalk.i64_in _ (by omega)).trans ?_
    omega
  case s10 =>
    refine ⟨_, rfl, fun b a w hG hb hoff hd hs K hK => ?_⟩
    obtain ⟨y48, h48, f48⟩ := hd 7 48 (by decide) (by decide)
    replace f48 : y48 = (.slice (some ap) l.length c) := f48
    subst y48
    have e48 := eval_of h48
    obtain ⟨y50, h50, f50⟩ := hd 9 50 (by decide) (by decide)
    replace f50 : y50 = (.int .i64 (j : Int)) := f50
    subst y50
    have e50 := eval_of h50
    refine value_ (v := (.pointer (some (ap.add (j * 2))))) rfl rfl ?_ (hK _ _ rfl rfl)
    clear hG
    have hjl2 : (j : Int) < (l.length : Int) := by omega
    clear hd hs hK hoff
    clear e48
    clear e50
    go_simp
  case s11 =>
    refine ⟨_, rfl, fun b a w hG hb hoff hd hs K hK => ?_⟩
    obtain ⟨y51, h51, f51⟩ := hd 10 51 (by decide) (by decide)
    replace f51 : y51 = (.pointer (some (ap.add (j * 2)))) := f51
    subst y51
    have e51 := eval_of h51
    refine value_ (v := (.pointer (some (ap.add (j * 2))))) rfl rfl ?_ (hK _ _ rfl rfl)
    clear hG
    clear hd hs hK hoff
    clear e51
    go_simp
  case s12 =>
    refine ⟨_, rfl, fun b a w hG hb hoff hd hs K hK => ?_⟩
    obtain ⟨y52, h52, f52⟩ := hd 11 52 (by decide) (by decide)
    replace f52 : y52 = (.pointer (some (ap.add (j * 2)))) := f52
    subst y52
    have e52 := eval_of h52
    refine value_ (v := (.int .i64 (el l j).f0)) rfl rfl ?_ (hK _ _ rfl rfl)
    obtain ⟨ap2, e2, x0, x1⟩ := at_T151 hG.2.cells (j : Int) (by omega) (by omega)
    cases e2
    rw [rd_el] at x0
    simp only [Int.toNat_natCast] at x0
    clear hG x1
    generalize (el l j).f0 = z at *
    clear hd hs hK hoff
    clear e52
    go_simp
  case s13 =>
    refine ⟨_, rfl, fun b a w hG hb hoff hd hs K hK => ?_⟩
    obtain ⟨y44, h44, f44⟩ := hd 3 44 (by decide) (by decide)
    replace f44 : y44 = (.int .i64 (q * 604800)) := f44
    subst y44
    have e44 := eval_of h44
    obtain ⟨y53, h53, f53⟩ := hd 12 53 (by decide) (by decide)
    replace f53 : y53 = (.int .i64 (el l j).f0) := f53
    subst y53
    have e53 := eval_of h53
    refine value_ (v := (.int .i64 (q * 604800 + (el l j).f0))) rfl rfl ?_ (hK _ _ rfl rfl)
    clear hG
    generalize (el l j).f0 = z at *
    clear hd hs hK hoff
    clear e44
    clear e53
    go_simp
    exact IntWalk.i64_in _ (by omega)
  case s14 =>
    refine ⟨_, rfl, fun b a w hG hb hoff hd hs K hK => ?_⟩
    have h7 := (hs 7 (by decide)).trans z7
    have e7 := eval_of h7
    refine value_ (v := (.int .i64 rest)) rfl rfl ?_ (hK _ _ rfl rfl)
    clear hd hs hK hoff
    clear e7
    go_simp
  case s15 =>
    refine ⟨_, rfl, fun b a w hG hb hoff hd hs K hK => ?_⟩
    obtain ⟨y54, h54, f54⟩ := hd 13 54 (by decide) (by decide)
    replace f54 : y54 = (.int .i64 (q * 604800 + (el l j).f0)) := f54
    subst y54
    have e54 := eval_of h54
    obtain ⟨y55, h55, f55⟩ := hd 14 55 (by decide) (by decide)
    replace f55 : y55 = (.int .i64 rest) := f55
    subst y55
    have e55 := eval_of h55
    refine value_ (v := (.int .i64 (q * 604800 + (el l j).f0 + rest))) rfl rfl ?_ (hK _ _ rfl rfl)
    clear hG
    generalize (el l j).f0 = z at *
    clear hd hs hK hoff
    clear e54
    clear e55
    go_simp
    exact IntWalk.i64_in _ (by omega)
  case s16 =>
    refine ⟨_, rfl, fun b a w hG hb hoff hd hs K hK => ?_⟩
    have h0 := (hs 0 (by decide)).trans z0
    have e0 := eval_of h0
    refine value_ (v := (.pointer (some ⟨pb, 0, none⟩))) rfl rfl ?_ (hK _ _ rfl rfl)
    clear hd hs hK hoff
    clear e0
    go_simp
  case s17 =>
    refine ⟨_, rfl, fun b a w hG hb hoff hd hs K hK => ?_⟩
    obtain ⟨y57, h57, f57⟩ := hd 16 57 (by decide) (by decide)
    replace f57 : y57 = (.pointer (some ⟨pb, 0, none⟩)) := f57
    subst y57
    have e57 := eval_of h57
    refine value_ (v := (.pointer (some ⟨pb, 0, none⟩))) rfl rfl ?_ (hK _ _ rfl rfl)
    clear hd hs hK hoff
    clear e57
    go_simp
  case s18 =>
    refine ⟨_, rfl, fun b a w hG hb hoff hd hs K hK => ?_⟩
    obtain ⟨y58, h58, f58⟩ := hd 17 58 (by decide) (by decide)
    replace f58 : y58 = (.pointer (some ⟨pb, 0, none⟩)) := f58
    subst y58
    have e58 := eval_of h58
    refine value_ (v := (.pointer (some ⟨pb, 1, none⟩))) rfl rfl ?_ (hK _ _ rfl rfl)
    clear hd hs hK hoff
    clear e58
    go_simp
  case s19 =>
    refine ⟨_, rfl, fun b a w hG hb hoff hd hs K hK => ?_⟩
    obtain ⟨y59, h59, f59⟩ := hd 18 59 (by decide) (by decide)
    replace f59 : y59 = (.pointer (some ⟨pb, 1, none⟩)) := f59
    subst y59
    have e59 := eval_of h59
    refine value_ (v := (PB cb)) rfl rfl ?_ (hK _ _ rfl rfl)
    have hc := (blk_cell hG.2.blk 1).trans rfl
    clear hG
    clear hd hs hK hoff
    clear e59
    go_simp
  case s20 =>
    refine ⟨_, rfl, fun b a w hG hb hoff hd hs K hK => ?_⟩
    obtain ⟨y60, h60, f60⟩ := hd 19 60 (by decide) (by decide)
    replace f60 : y60 = (PB cb) := f60
    subst y60
    have e60 := eval_of h60
    have hW := hG.2
    refine goes_ Try.func87 (by kernel_rfl) rfl #[PB cb] rfl rfl rfl (by simp [e60]) ?_
    refine (hW.get ?hn).mono ?_
    case hn => split <;> omega
    rintro e w' ⟨v, rfl, hs2, hw2, hk2⟩
    exact ⟨_, rfl, hK _ _ (hW.turn hw2 hk2) hs2⟩
  case s21 =>
    refine ⟨_, rfl, fun b a w hG hb hoff hd hs K hK => ?_⟩
    have h8 := (hs 8 (by decide)).trans z8
    have e8 := eval_of h8
    refine value_ (v := (.int .i64 ((j + 1 : Nat) : Int))) rfl rfl ?_ (hK _ _ rfl rfl)
    clear hd hs hK hoff
    clear e8
    go_simp
  case s22 =>
    refine ⟨_, rfl, fun b a w hG hb hoff hd hs K hK => ?_⟩
    obtain ⟨y62, h62, f62⟩ := hd 21 62 (by decide) (by decide)
    replace f62 : y62 = (.int .i64 ((j + 1 : Nat) : Int)) := f62
    subst y62
    have e62 := eval_of h62
    refine value_ (v := (.int .i64 (j : Int))) rfl rfl ?_ (hK _ _ rfl rfl)
    clear hG
    clear hd hs hK hoff
    clear e62
    go_simp
    refine (IntWalk.i64_in _ (by omega)).trans ?_
    omega
  case s23 =>
    refine ⟨_, rfl, fun b a w hG hb hoff hd hs K hK => ?_⟩
    obtain ⟨v61, h61, f61⟩ := hd 20 61 (by decide) (by decide)
    have e61 := eval_of h61
    obtain ⟨y63, h63, f63⟩ := hd 22 63 (by decide) (by decide)
    replace f63 : y63 = (.int .i64 (j : Int)) := f63
    subst y63
    have e63 := eval_of h63
    obtain ⟨ad, nn, c2, hv, hin, hx⟩ := SumR.at_ f61 j (by omega)
    subst hv
    have hin2 : (j : Int) < (nn : Int) := by omega
    refine value_ (v := .pointer (some (ad.add j))) rfl rfl ?_ (hK _ _ rfl ⟨_, rfl, hx⟩)
    clear hd hs hK hoff hG f61 hx
    go_simp
  case s24 =>
    refine ⟨_, rfl, fun b a w hG hb hoff hd hs K hK => ?_⟩
    obtain ⟨v64, h64, f64⟩ := hd 23 64 (by decide) (by decide)
    have e64 := eval_of h64
    obtain ⟨ad, hv, hx⟩ := f64
    subst hv
    refine value_ (v := .int .i64 (lsum (l.take j))) rfl rfl ?_ (hK _ _ rfl rfl)
    clear hd hs hK hoff hG
    go_simp
  case s25 =>
    refine ⟨_, rfl, fun b a w hG hb hoff hd hs K hK => ?_⟩
    obtain ⟨y56, h56, f56⟩ := hd 15 56 (by decide) (by decide)
    replace f56 : y56 = (.int .i64 (q * 604800 + (el l j).f0 + rest)) := f56
    subst y56
    have e56 := eval_of h56
    obtain ⟨y65, h65, f65⟩ := hd 24 65 (by decide) (by decide)
    replace f65 : y65 = (.int .i64 (lsum (l.take j))) := f65
    subst y65
    have e65 := eval_of h65
    refine value_ (v := (.int .i64 (q * 604800 + (el l j).f0 + rest - lsum (l.take j)))) rfl rfl ?_ (hK _ _ rfl rfl)
    clear hG
    generalize (el l j).f0 = z at *
    clear hd hs hK hoff
    clear e56
    clear e65
    go_simp
    exact IntWalk.i64_in _ (by omega)
  case s26 =>
    refine ⟨_, rfl, fun b a w hG hb hoff hd hs K hK => ?_⟩
    obtain ⟨y66, h66, f66⟩ := hd 25 66 (by decide) (by decide)
    replace f66 : y66 = (.int .i64 (q * 604800 + (el l j).f0 + rest - lsum (l.take j))) := f66
    subst y66
    have e66 := eval_of h66
    refine value_ (v := (.int .i64 (q * 604800 + (el l j).f0 + rest - lsum (l.take j)))) rfl rfl ?_ (hK _ _ rfl rfl)
    clear hd hs hK hoff
    clear e66
    go_simp
  case hend =>
    intro b v w hb hG hv
    have f0 := hv 0 (by decide)
    have f1 := hv 1 (by decide)
    have f2 := hv 2 (by decide)
    have f3 := hv 3 (by decide)
    have f4 := hv 4 (by decide)
    have f5 := hv 5 (by decide)
    have f6 := hv 6 (by decide)
    have f7 := hv 7 (by decide)
    have f8 := hv 8 (by decide)
    have f9 := hv 9 (by decide)
    have f10 := hv 10 (by decide)
    have f11 := hv 11 (by decide)
    have f12 := hv 12 (by decide)
    have f13 := hv 13 (by decide)
    have f14 := hv 14 (by decide)
    have f15 := hv 15 (by decide)
    have f16 := hv 16 (by decide)
    have f17 := hv 17 (by decide)
    have f18 := hv 18 (by decide)
    have f19 := hv 19 (by decide)
    have f20 := hv 20 (by decide)
    have f21 := hv 21 (by decide)
    have f22 := hv 22 (by decide)
    have f23 := hv 23 (by decide)
    have f24 := hv 24 (by decide)
    have f25 := hv 25 (by decide)
    have f26 := hv 26 (by decide)
    have := hend (v 20) (v 23) w b hb hG f20 f23
    have gv0 : v 0 = (.int .i64 n) := f0
    have gv1 : v 1 = (.int .i64 tot) := f1
    have gv2 : v 2 = (.int .i64 q) := f2
    have gv3 : v 3 = (.int .i64 (q * 604800)) := f3
    have gv4 : v 4 = (.pointer (some ⟨pb, 0, none⟩)) := f4
    have gv5 : v 5 = (.pointer (some ⟨pb, 0, none⟩)) := f5
    have gv6 : v 6 = (.pointer (some ⟨pb, 0, none⟩)) := f6
    have gv7 : v 7 = (.slice (some ap) l.length c) := f7
    have gv8 : v 8 = (.int .i64 ((j + 1 : Nat) : Int)) := f8
    have gv9 : v 9 = (.int .i64 (j : Int)) := f9
    have gv10 : v 10 = (.pointer (some (ap.add (j * 2)))) := f10
    have gv11 : v 11 = (.pointer (some (ap.add (j * 2)))) := f11
    have gv12 : v 12 = (.int .i64 (el l j).f0) := f12
    have gv13 : v 13 = (.int .i64 (q * 604800 + (el l j).f0)) := f13
    have gv14 : v 14 = (.int .i64 rest) := f14
    have gv15 : v 15 = (.int .i64 (q * 604800 + (el l j).f0 + rest)) := f15
    have gv16 : v 16 = (.pointer (some ⟨pb, 0, none⟩)) := f16
    have gv17 : v 17 = (.pointer (some ⟨pb, 0, none⟩)) := f17
    have gv18 : v 18 = (.pointer (some ⟨pb, 1, none⟩)) := f18
    have gv19 : v 19 = (PB cb) := f19
    have gv21 : v 21 = (.int .i64 ((j + 1 : Nat) : Int)) := f21
    have gv22 : v 22 = (.int .i64 (j : Int)) := f22
    have gv24 : v 24 = (.int .i64 (lsum (l.take j))) := f24
    have gv25 : v 25 = (.int .i64 (q * 604800 + (el l j).f0 + rest - lsum (l.take j))) := f25
    have gv26 : v 26 = (.int .i64 (q * 604800 + (el l j).f0 + rest - lsum (l.take j))) := f26
    have e : (r50x12.L.map fun e => (e.2, v e.1)) = [(41, (.int .i64 n)), (42, (.int .i64 tot)), (43, (.int .i64 q)), (44, (.int .i64 (q * 604800))), (45, (.pointer (some ⟨pb, 0, none⟩))), (46, (.pointer (some ⟨pb, 0, none⟩))), (47, (.pointer (some ⟨pb, 0, none⟩))), (48, (.slice (some ap) l.length c)), (49, (.int .i64 ((j + 1 : Nat) : Int))), (50, (.int .i64 (j : Int))), (51, (.pointer (some (ap.add (j * 2))))), (52, (.pointer (some (ap.add (j * 2))))), (53, (.int .i64 (el l j).f0)), (54, (.int .i64 (q * 604800 + (el l j).f0))), (55, (.int .i64 rest)), (56, (.int .i64 (q * 604800 + (el l j).f0 + rest))), (57, (.pointer (some ⟨pb, 0, none⟩))), (58, (.pointer (some ⟨pb, 0, none⟩))), (59, (.pointer (some ⟨pb, 1, none⟩))), (60, (PB cb)), (61, v 20), (62, (.int .i64 ((j + 1 : Nat) : Int))), (63, (.int .i64 (j : Int))), (64, v 23), (65, (.int .i64 (lsum (l.take j)))), (66, (.int .i64 (q * 604800 + (el l j).f0 + rest - lsum (l.take j)))), (10, (.int .i64 (q * 604800 + (el l j).f0 + rest - lsum (l.take j))))] := by
      simp only [r50x12.L, List.map_cons, List.map_nil, gv0, gv1, gv2, gv3, gv4, gv5, gv6, gv7, gv8, gv9, gv10, gv11, gv12, gv13, gv14, gv15, gv16, gv17, gv18, gv19, gv21, gv22, gv24, gv25, gv26]
    rw [e]
    exact this

attribute [local go_sem] max2_mx min2_mn max_two min_two
/-- Between. -/
theorem Wk.between {W0 w : World} {pb cb : Nat} {A : Option Addr} {c : Nat} {l : List Sp} {N : Nat} (h : Wk W0 w pb cb A c l N) (hN : N < 980000) (x y : Int) :
    Calls Try.prog 52 #[PB pb, .int .i64 x, .int .i64 y] w fun e w' => e = .returned (.int .i64 (betP l x y)) ∧ Wk W0 w' pb cb A c l (N + 4) := by
  have H := Aside0.mk h
  have h1 := untilP_bound h.good x
  have h2 := untilP_bound h.good y
  have hw : IntKind.i64.wrap (untilP l y - untilP l x) = untilP l y - untilP l x := IntWalk.i64_in _ (by omega)
  have hw2 : wrap64 (untilP l y - untilP l x) = untilP l y - untilP l x := by unfold wrap64; omega
  have hm := hmf
  clear h h1 h2
  go_enter Try.func52, Try.ntmps52
  go_wp2_with (go_at_call 51; first
    | (refine (H.out.until_ (by omega) y).mono ?_; rintro e w1 ⟨rfl, hw⟩; have H1 := Aside0.mk hw; clear hw H)
    | (refine (H1.out.until_ (by omega) x).mono ?_; rintro e w2 ⟨rfl, hw⟩; have H2 := Aside0.mk hw; clear hw H1))
  go_ret
  refine ⟨ret_i ?_, H2.out⟩
  unfold betP mx
  split <;> omega

end Go.Proofs.Ytbjbejjieibldaa.Va
