/- A plan's sums: the region of open order in its loop. -/
import Derived.Test.YtbjbejjieibldaaVc
import Derived.Test.YtbjbejjieibldaaRk
namespace Go.Proofs.Ytbjbejjieibldaa.Va
open Go.RowKit Go.Proofs.YtbjbejjieibldaaW.PrintWords Go.Proofs.YtbjbejjieibldaaW.PrintLast Go.Proofs.YtbjbejjieibldaaW.PrintMore Go.Proofs.Ytbjbejjieibldaa.PWeekCounts Go.Proofs.Ytbjbejjieibldaa.Rg Go.Proofs.Ytbjbejjieibldaa.La
open Go.Proofs.Ytbjbejjieibldaa
set_option linter.unusedVariables false
set_option linter.unusedSimpArgs false

theorem info2 : (Try.prog.info? 2).map (fun i => (i.zero, i.size, i.bytes)) = some (some (.int .i64 0), 1, 8) := by kernel_rfl

/-! ### region 5 of function 84 -/
def r84x5.T : Bool × List (List Nat × List Nat) := (true, [([], []), ([], []), ([], []), ([1, 2], [1, 2]), ([3], [3]), ([], []), ([5], [5]), ([4, 6], [4, 6]), ([], []), ([8], [8]), ([7, 9], [7, 9]), ([10], [10]), ([0, 11], [0, 11]), ([12, 12, 0, 1, 2, 3, 4, 5, 6, 7, 8, 9, 10, 11, 12], [0, 1, 12])])
def r84x5.B : List Nat := [0, 0, 0, 6, 14, 0, 32, 126, 0, 256, 1022, 2046, 4095, 8191]
def r84x5.L : List (Nat × Tmp) := [(0, 23), (1, 24), (2, 25), (3, 26), (4, 27), (5, 28), (6, 29), (7, 30), (8, 31), (9, 32), (10, 33), (11, 34), (12, 35), (13, 3)]
theorem r84x5.tab : rtab .any (opsOf Try.f84 5) = r84x5.T := by kernel_rfl
theorem r84x5.bits : waitsOk r84x5.T.2 r84x5.B = true := by kernel_rfl
theorem r84x5.base : baseOk r84x5.T.2 (List.range 14) = true := by kernel_rfl
theorem r84x5.okl : okL (opsOf Try.f84 5) r84x5.L 38 = true := by kernel_rfl
def r84x5.F (sb : Nat) (ad : Addr) (c k : Nat) (xs : List Int) (x y : Int) (base : Nat) (W0 W : World) (i : Nat) : Value → World → Prop := match i with
  | 0 => fun v _ => v = (.slice (some ad) xs.length c)
  | 1 => fun v _ => v = (.slice (some ad) xs.length c)
  | 2 => fun v _ => v = (.int .i64 (k : Int))
  | 3 => fun v _ => v = (.pointer (some (ad.add k)))
  | 4 => fun v _ => v = (.int .i64 (rd xs (k : Int)))
  | 5 => fun v _ => v = (.pointer (some ⟨sb, 1, none⟩))
  | 6 => fun v _ => v = (.int .i64 y)
  | 7 => fun v _ => v = (.int .i64 (rd xs (k : Int) + y))
  | 8 => fun v _ => v = (.pointer (some ⟨sb, 0, none⟩))
  | 9 => fun v _ => v = (.int .i64 x)
  | 10 => fun v _ => v = (.int .i64 (rd xs (k : Int) + y - x))
  | 11 => fun v w => Kd.R (Kd.int .i64) 2 w base (fun k => W.heap.size ≤ k) v [rd xs (k : Int) + y - x]
  | 12 => fun v w => Kd.R (Kd.int .i64) 2 w base (fun k => k ≠ sb) v (xs ++ [rd xs (k : Int) + y - x])
  | 13 => fun v w => Kd.R (Kd.int .i64) 2 w base (fun k => k ≠ sb) v (xs ++ [rd xs (k : Int) + y - x])
  | _ => fun _ _ => True
def r84x5.St (sb : Nat) (ad : Addr) (c k : Nat) (xs : List Int) (x y : Int) (base : Nat) (W0 W : World) (i : Nat) : World → World → Prop := match i with
  | 11 => fun w w' => Below w.heap.size w w'
  | 12 => fun w w' => w.grownBy w' (some ad.block)
  | _ => fun w w' => w' = w
def r84x5.G (sb : Nat) (ad : Addr) (c k : Nat) (xs : List Int) (x y : Int) (base : Nat) (W0 W : World) : (Nat → Bool) → World → Prop := fun b w => Below base W0 w ∧ W.heap.size ≤ w.heap.size ∧ w.heap[sb]? = some (.cells #[.int .i64 x, .int .i64 y] 151 (0, 0)) ∧ (b 12 = false → Kd.R (Kd.int .i64) 2 w base (fun k => k ≠ sb) (.slice (some ad) xs.length c) xs)
set_option maxHeartbeats 4000000 in
set_option maxRecDepth 100000 in
theorem r84x5 (sb : Nat) (ad : Addr) (c k : Nat) (xs : List Int) (x y : Int) (base : Nat) (W0 W : World) (hbase0 : base ≤ W.heap.size) (hkl : k < xs.length) (hxl : xs.length ≤ 1000) (hadb : base ≤ ad.block ∧ ad.block ≠ sb ∧ ad.block < W.heap.size) (hx1 : 0 ≤ rd xs (k : Int) ∧ rd xs (k : Int) ≤ 1000000) (hx2 : 0 ≤ x ∧ x ≤ 1000000) (hx3 : 0 ≤ y ∧ y ≤ 1000000) {Q : Exit → Act → World → Prop} {a0 : Act} {w0 : World} (hz : a0.tmps.size = 38) (z3 : a0.tmps[3]? = some (.slice (some ad) xs.length c)) (z4 : a0.tmps[4]? = some (.int .i64 (k : Int))) (z5 : a0.tmps[5]? = some (.pointer (some ⟨sb, 0, none⟩))) (hG0 : (r84x5.G sb ad c k xs x y base W0 W) (fun _ => false) w0.drew)
    (hend : ∀ (v34 : Value) (v35 : Value) (v3 : Value) (w : World) (b : Nat → Bool), (∀ i, i < 14 → b i = true) → (r84x5.G sb ad c k xs x y base W0 W) b w → r84x5.F sb ad c k xs x y base W0 W 11 v34 w → r84x5.F sb ad c k xs x y base W0 W 12 v35 w → r84x5.F sb ad c k xs x y base W0 W 13 v3 w → Q .normal (putAll a0 [(23, (.slice (some ad) xs.length c)), (24, (.slice (some ad) xs.length c)), (25, (.int .i64 (k : Int))), (26, (.pointer (some (ad.add k)))), (27, (.int .i64 (rd xs (k : Int)))), (28, (.pointer (some ⟨sb, 1, none⟩))), (29, (.int .i64 y)), (30, (.int .i64 (rd xs (k : Int) + y))), (31, (.pointer (some ⟨sb, 0, none⟩))), (32, (.int .i64 x)), (33, (.int .i64 (rd xs (k : Int) + y - x))), (34, v34), (35, v35), (3, v3)]) w) :
    (Code.region 5 (opsOf Try.f84 5) true).wp Try.prog Q a0 w0 := by
  refine region_lit (ops' := #[_, _, _, _, _, _, _, _, _, _, _, _, _, _]) rfl ?_
  refine region_factsL (n := 14) (T := r84x5.T) (B := r84x5.B) r84x5.L (r84x5.G sb ad c k xs x y base W0 W) (r84x5.St sb ad c k xs x y base W0 W) (r84x5.F sb ad c k xs x y base W0 W) (by kernel_rfl) (by kernel_rfl) r84x5.tab r84x5.bits r84x5.base (by rw [hz]; exact r84x5.okl) hG0 ?hSt ?hF ((all_cons ?s0 (all_cons ?s1 (all_cons ?s2 (all_cons ?s3 (all_cons ?s4 (all_cons ?s5 (all_cons ?s6 (all_cons ?s7 (all_cons ?s8 (all_cons ?s9 (all_cons ?s10 (all_cons ?s11 (all_cons ?s12 (all_cons ?s13 all_nil))))))))))))))) ?hend
  case hSt =>
    intro i b w w' hi hb hoff hG hst
    match i, hi, hb, hoff, hst with
    | 0, _, hb, hoff, hst =>
      obtain rfl : w' = w := hst
      obtain ⟨g1, g2, g3, g4⟩ := hG
      exact ⟨g1, g2, g3, fun h => g4 (by rw [up_ne (by decide)] at h; exact h)⟩
    | 1, _, hb, hoff, hst =>
      obtain rfl : w' = w := hst
      obtain ⟨g1, g2, g3, g4⟩ := hG
      exact ⟨g1, g2, g3, fun h => g4 (by rw [up_ne (by decide)] at h; exact h)⟩
    | 2, _, hb, hoff, hst =>
      obtain rfl : w' = w := hst
      obtain ⟨g1, g2, g3, g4⟩ := hG
      exact ⟨g1, g2, g3, fun h => g4 (by rw [up_ne (by decide)] at h; exact h)⟩
    | 3, _, hb, hoff, hst =>
      obtain rfl : w' = w := hst
      obtain ⟨g1, g2, g3, g4⟩ := hG
      exact ⟨g1, g2, g3, fun h => g4 (by rw [up_ne (by decide)] at h; exact h)⟩
    | 4, _, hb, hoff, hst =>
      obtain rfl : w' = w := hst
      obtain ⟨g1, g2, g3, g4⟩ := hG
      exact ⟨g1, g2, g3, fun h => g4 (by rw [up_ne (by decide)] at h; exact h)⟩
    | 5, _, hb, hoff, hst =>
      obtain rfl : w' = w := hst
      obtain ⟨g1, g2, g3, g4⟩ := hG
      exact ⟨g1, g2, g3, fun h => g4 (by rw [up_ne (by decide)] at h; exact h)⟩
    | 6, _, hb, hoff, hst =>
      obtain rfl : w' = w := hst
      obtain ⟨g1, g2, g3, g4⟩ := hG
      exact ⟨g1, g2, g3, fun h => g4 (by rw [up_ne (by decide)] at h; exact h)⟩
    | 7, _, hb, hoff, hst =>
      obtain rfl : w' = w := hst
      obtain ⟨g1, g2, g3, g4⟩ := hG
      exact ⟨g1, g2, g3, fun h => g4 (by rw [up_ne (by decide)] at h; exact h)⟩
    | 8, _, hb, hoff, hst =>
      obtain rfl : w' = w := hst
      obtain ⟨g1, g2, g3, g4⟩ := hG
      exact ⟨g1, g2, g3, fun h => g4 (by rw [up_ne (by decide)] at h; exact h)⟩
    | 9, _, hb, hoff, hst =>
      obtain rfl : w' = w := hst
      obtain ⟨g1, g2, g3, g4⟩ := hG
      exact ⟨g1, g2, g3, fun h => g4 (by rw [up_ne (by decide)] at h; exact h)⟩
    | 10, _, hb, hoff, hst =>
      obtain rfl : w' = w := hst
      obtain ⟨g1, g2, g3, g4⟩ := hG
      exact ⟨g1, g2, g3, fun h => g4 (by rw [up_ne (by decide)] at h; exact h)⟩
    | 11, _, hb, hoff, hst =>
      obtain ⟨g1, g2, g3, g4⟩ := hG
      have hst' : Below w.heap.size w w' := hst
      exact ⟨below_then g1 (Nat.le_trans hbase0 g2) hst', Nat.le_trans g2 hst'.size, blk_below g3 hst', fun h => Kd.R_below (g4 (by rw [up_ne (by decide)] at h; exact h)) hst'⟩
    | 12, _, hb, hoff, hst =>
      obtain ⟨g1, g2, g3, g4⟩ := hG
      have hst' : w.grownBy w' (some ad.block) := hst
      refine ⟨g1.grown hst' (Nat.le_trans hbase0 g2) (fun k hk => by cases hk; exact hadb.1), Nat.le_trans g2 hst'.size, blk_grown g3 hst' (fun e => hadb.2.1 (Option.some.inj e).symm), fun h => ?_⟩
      rw [up_self] at h; cases h
    | 13, _, hb, hoff, hst =>
      obtain rfl : w' = w := hst
      obtain ⟨g1, g2, g3, g4⟩ := hG
      exact ⟨g1, g2, g3, fun h => g4 (by rw [up_ne (by decide)] at h; exact h)⟩
    | i + 14, hi, _, _, _ => exact absurd hi (by omega)
  case hF =>
    intro i j b v w w' hij hi hj hb hbj hoff hG hst hf
    match i, hi, hij, hb, hoff, hst with
    | 0, _, hij, hb, hoff, hst =>
      obtain rfl : w' = w := hst
      exact hf
    | 1, _, hij, hb, hoff, hst =>
      obtain rfl : w' = w := hst
      exact hf
    | 2, _, hij, hb, hoff, hst =>
      obtain rfl : w' = w := hst
      exact hf
    | 3, _, hij, hb, hoff, hst =>
      obtain rfl : w' = w := hst
      exact hf
    | 4, _, hij, hb, hoff, hst =>
      obtain rfl : w' = w := hst
      exact hf
    | 5, _, hij, hb, hoff, hst =>
      obtain rfl : w' = w := hst
      exact hf
    | 6, _, hij, hb, hoff, hst =>
      obtain rfl : w' = w := hst
      exact hf
    | 7, _, hij, hb, hoff, hst =>
      obtain rfl : w' = w := hst
      exact hf
    | 8, _, hij, hb, hoff, hst =>
      obtain rfl : w' = w := hst
      exact hf
    | 9, _, hij, hb, hoff, hst =>
      obtain rfl : w' = w := hst
      exact hf
    | 10, _, hij, hb, hoff, hst =>
      obtain rfl : w' = w := hst
      exact hf
    | 11, _, hij, hb, hoff, hst =>
      match j, hj, hij, hbj, hf with
      | 0, _, hij, hbj, hf => 
        exact hf
      | 1, _, hij, hbj, hf => 
        exact hf
      | 2, _, hij, hbj, hf => 
        exact hf
      | 3, _, hij, hbj, hf => 
        exact hf
      | 4, _, hij, hbj, hf => 
        exact hf
      | 5, _, hij, hbj, hf => 
        exact hf
      | 6, _, hij, hbj, hf => 
        exact hf
      | 7, _, hij, hbj, hf => 
        exact hf
      | 8, _, hij, hbj, hf => 
        exact hf
      | 9, _, hij, hbj, hf => 
        exact hf
      | 10, _, hij, hbj, hf => 
        exact hf
      | 11, _, hij, hbj, hf => exact absurd rfl hij
      | 12, _, hij, hbj, hf => exact absurd hbj (by rw [hoff 12 (by decide) (by decide)]; decide)
      | 13, _, hij, hbj, hf => exact absurd hbj (by rw [hoff 13 (by decide) (by decide)]; decide)
      | j + 14, hj, _, _, _ => exact absurd hj (by omega)
    | 12, _, hij, hb, hoff, hst =>
      match j, hj, hij, hbj, hf with
      | 0, _, hij, hbj, hf => 
        exact hf
      | 1, _, hij, hbj, hf => 
        exact hf
      | 2, _, hij, hbj, hf => 
        exact hf
      | 3, _, hij, hbj, hf => 
        exact hf
      | 4, _, hij, hbj, hf => 
        exact hf
      | 5, _, hij, hbj, hf => 
        exact hf
      | 6, _, hij, hbj, hf => 
        exact hf
      | 7, _, hij, hbj, hf => 
        exact hf
      | 8, _, hij, hbj, hf => 
        exact hf
      | 9, _, hij, hbj, hf => 
        exact hf
      | 10, _, hij, hbj, hf => 
        exact hf
      | 11, _, hij, hbj, hf => 
        exact Kd.R_grown hf hst (fun k hk e => by have := Option.some.inj e; have := hadb.2.2; omega)
      | 12, _, hij, hbj, hf => exact absurd rfl hij
      | 13, _, hij, hbj, hf => exact absurd hbj (by rw [hoff 13 (by decide) (by decide)]; decide)
      | j + 14, hj, _, _, _ => exact absurd hj (by omega)
    | 13, _, hij, hb, hoff, hst =>
      obtain rfl : w' = w := hst
      exact hf
    | i + 14, hi, _, _, _, _ => exact absurd hi (by omega)
  case s0 =>
    refine ⟨_, rfl, fun b a w hG hb hoff hd hs hl0 K hK => ?_⟩
    have h3 := (hl0 13 3 (by decide) (hoff 13 (by decide) (by decide))).trans z3
    have e3 := eval_of h3
    clear hl0
    refine value_ (v := (.slice (some ad) xs.length c)) rfl rfl ?_ (hK _ _ rfl rfl)
    clear hd hs hK hoff
    clear e3
    go_simp
  case s1 =>
    refine ⟨_, rfl, fun b a w hG hb hoff hd hs hl0 K hK => ?_⟩
    have h3 := (hl0 13 3 (by decide) (hoff 13 (by decide) (by decide))).trans z3
    have e3 := eval_of h3
    clear hl0
    refine value_ (v := (.slice (some ad) xs.length c)) rfl rfl ?_ (hK _ _ rfl rfl)
    clear hd hs hK hoff
    clear e3
    go_simp
  case s2 =>
    refine ⟨_, rfl, fun b a w hG hb hoff hd hs hl0 K hK => ?_⟩
    have h4 := (hs 4 (by decide)).trans z4
    have e4 := eval_of h4
    clear hl0
    refine value_ (v := (.int .i64 (k : Int))) rfl rfl ?_ (hK _ _ rfl rfl)
    clear hd hs hK hoff
    clear e4
    go_simp
  case s3 =>
    refine ⟨_, rfl, fun b a w hG hb hoff hd hs hl0 K hK => ?_⟩
    obtain ⟨y24, h24, f24⟩ := hd 1 24 (by decide) (by decide)
    replace f24 : y24 = (.slice (some ad) xs.length c) := f24
    subst y24
    have e24 := eval_of h24
    obtain ⟨y25, h25, f25⟩ := hd 2 25 (by decide) (by decide)
    replace f25 : y25 = (.int .i64 (k : Int)) := f25
    subst y25
    have e25 := eval_of h25
    clear hl0
    refine value_ (v := (.pointer (some (ad.add k)))) rfl rfl ?_ (hK _ _ rfl rfl)
    clear hG
    have hkl : (k : Int) < (xs.length : Int) := by omega
    clear hd hs hK hoff
    clear e24
    clear e25
    go_simp
  case s4 =>
    refine ⟨_, rfl, fun b a w hG hb hoff hd hs hl0 K hK => ?_⟩
    obtain ⟨y26, h26, f26⟩ := hd 3 26 (by decide) (by decide)
    replace f26 : y26 = (.pointer (some (ad.add k))) := f26
    subst y26
    have e26 := eval_of h26
    clear hl0
    refine value_ (v := (.int .i64 (rd xs (k : Int)))) rfl rfl ?_ (hK _ _ rfl rfl)
    have hc : w.cell? (ad.add k) = some (.int .i64 (rd xs (k : Int))) := by
      obtain ⟨ad2, e2, hx⟩ := Kd.at_int (Kd.R_reads' (hG.2.2.2 (hoff 12 (by decide) (by decide)))).2.2 (k : Int) (by omega) (by omega)
      cases e2
      simpa using hx
    clear hG
    clear hd hs hK hoff
    clear e26
    go_simp
  case s5 =>
    refine ⟨_, rfl, fun b a w hG hb hoff hd hs hl0 K hK => ?_⟩
    have h5 := (hs 5 (by decide)).trans z5
    have e5 := eval_of h5
    clear hl0
    refine value_ (v := (.pointer (some ⟨sb, 1, none⟩))) rfl rfl ?_ (hK _ _ rfl rfl)
    clear hd hs hK hoff
    clear e5
    go_simp
  case s6 =>
    refine ⟨_, rfl, fun b a w hG hb hoff hd hs hl0 K hK => ?_⟩
    obtain ⟨y28, h28, f28⟩ := hd 5 28 (by decide) (by decide)
    replace f28 : y28 = (.pointer (some ⟨sb, 1, none⟩)) := f28
    subst y28
    have e28 := eval_of h28
    clear hl0
    refine value_ (v := (.int .i64 y)) rfl rfl ?_ (hK _ _ rfl rfl)
    have hc := (blk_cell hG.2.2.1 1).trans rfl
    clear hG
    clear hd hs hK hoff
    clear e28
    go_simp
  case s7 =>
    refine ⟨_, rfl, fun b a w hG hb hoff hd hs hl0 K hK => ?_⟩
    obtain ⟨y27, h27, f27⟩ := hd 4 27 (by decide) (by decide)
    replace f27 : y27 = (.int .i64 (rd xs (k : Int))) := f27
    subst y27
    have e27 := eval_of h27
    obtain ⟨y29, h29, f29⟩ := hd 6 29 (by decide) (by decide)
    replace f29 : y29 = (.int .i64 y) := f29
    subst y29
    have e29 := eval_of h29
    clear hl0
    refine value_ (v := (.int .i64 (rd xs (k : Int) + y))) rfl rfl ?_ (hK _ _ rfl rfl)
    clear hG
    clear hd hs hK hoff
    clear e27
    clear e29
    go_simp
    exact IntWalk.i64_in _ (by omega)
  case s8 =>
    refine ⟨_, rfl, fun b a w hG hb hoff hd hs hl0 K hK => ?_⟩
    have h5 := (hs 5 (by decide)).trans z5
    have e5 := eval_of h5
    clear hl0
    refine value_ (v := (.pointer (some ⟨sb, 0, none⟩))) rfl rfl ?_ (hK _ _ rfl rfl)
    clear hd hs hK hoff
    clear e5
    go_simp
  case s9 =>
    refine ⟨_, rfl, fun b a w hG hb hoff hd hs hl0 K hK => ?_⟩
    obtain ⟨y31, h31, f31⟩ := hd 8 31 (by decide) (by decide)
    replace f31 : y31 = (.pointer (some ⟨sb, 0, none⟩)) := f31
    subst y31
    have e31 := eval_of h31
    clear hl0
    refine value_ (v := (.int .i64 x)) rfl rfl ?_ (hK _ _ rfl rfl)
    have hc := (blk_cell hG.2.2.1 0).trans rfl
    clear hG
    clear hd hs hK hoff
    clear e31
    go_simp
  case s10 =>
    refine ⟨_, rfl, fun b a w hG hb hoff hd hs hl0 K hK => ?_⟩
    obtain ⟨y30, h30, f30⟩ := hd 7 30 (by decide) (by decide)
    replace f30 : y30 = (.int .i64 (rd xs (k : Int) + y)) := f30
    subst y30
    have e30 := eval_of h30
    obtain ⟨y32, h32, f32⟩ := hd 9 32 (by decide) (by decide)
    replace f32 : y32 = (.int .i64 x) := f32
    subst y32
    have e32 := eval_of h32
    clear hl0
    refine value_ (v := (.int .i64 (rd xs (k : Int) + y - x))) rfl rfl ?_ (hK _ _ rfl rfl)
    clear hG
    clear hd hs hK hoff
    clear e30
    clear e32
    go_simp
    exact IntWalk.i64_in _ (by omega)
  case s11 =>
    refine ⟨_, rfl, fun b a w hG hb hoff hd hs hl0 K hK => ?_⟩
    obtain ⟨y33, h33, f33⟩ := hd 10 33 (by decide) (by decide)
    replace f33 : y33 = (.int .i64 (rd xs (k : Int) + y - x)) := f33
    subst y33
    have e33 := eval_of h33
    clear hl0
    obtain ⟨g1, g2, g3, g4⟩ := hG
    have hbase : base ≤ w.heap.size := Nat.le_trans hbase0 g2
    refine Kd.R_lit_step (Kd.int .i64) (w0 := w) base 2 rfl (N := 34) rfl (xs := [rd xs (k : Int) + y - x]) (inner := [.int .i64 (rd xs (k : Int) + y - x)]) (ok := fun k => W.heap.size ≤ k) (okp := fun _ => False) ?hr (Kd.reps_scalar [rd xs (k : Int) + y - x]) (fun _ h => h.elim) g2 (Below.refl _ _) hbase (by simp) (fun v1 w1 ho hb1 hg hn => ?_)
    case hr => clear hd hs hK hoff g1 g2 g3 g4; (first | (go_simp; done) | (go_simp; rfl))
    exact hK _ _ (below_of_grown hg) ho
  case s12 =>
    refine ⟨_, rfl, fun b a w hG hb hoff hd hs hl0 K hK => ?_⟩
    obtain ⟨y23, h23, f23⟩ := hd 0 23 (by decide) (by decide)
    replace f23 : y23 = (.slice (some ad) xs.length c) := f23
    subst y23
    have e23 := eval_of h23
    obtain ⟨v34, h34, f34⟩ := hd 11 34 (by decide) (by decide)
    have e34 := eval_of h34
    clear hl0
    obtain ⟨g1, g2, g3, g4⟩ := hG
    have hbase : base ≤ w.heap.size := Nat.le_trans hbase0 g2
    have hR := g4 hb
    have hsb := blk_lt g3
    obtain ⟨A3, c3, e3, hl3, hr3⟩ := Kd.R_reads f34
    refine Kd.R_append_rows_step (Kd.int .i64) (w0 := w) base rfl (.tmp 23) (.tmp 34) 103 2 (.int .i64 0) 8 rfl Try.underlying103 info2 rfl (by decide) (by omega) (.slice (some ad) xs.length c) xs [rd xs (k : Int) + y - x] A3 1 c3 (fun k => k ≠ sb) (fun _ => False) e23 (e34.trans e3) hR hr3 (fun _ _ h => h) (fun _ h => h.elim) (fun k hk => by omega) (Below.refl _ _) hbase (by omega) (fun v1 w1 ho hb1 hg hat => ?_)
    exact hK _ _ hg ho
  case s13 =>
    refine ⟨_, rfl, fun b a w hG hb hoff hd hs hl0 K hK => ?_⟩
    obtain ⟨v35, h35, f35⟩ := hd 12 35 (by decide) (by decide)
    have e35 := eval_of h35
    clear hl0
    refine value_ (v := v35) rfl rfl ?_ (hK _ _ rfl f35)
    clear hd hs hK hoff hG f35
    go_simp
  case hend =>
    intro b v w hb hG hv
    have f0 := hv 0 (by decide)
    have f1 := hv 1 (by decide)
    have f2 := hv 2 (by decide)
    have f3 := hv 3 (by decide)
    have f4 := hv 4 (by decide)
    have f5 := hv 5 (by decide)
    have f6 := hv 6 (by decide)
    have f7 := hv 7 (by decide)
    have f8 := hv 8 (by decide)
    have f9 := hv 9 (by decide)
    have f10 := hv 10 (by decide)
    have f11 := hv 11 (by decide)
    have f12 := hv 12 (by decide)
    have f13 := hv 13 (by decide)
    have := hend (v 11) (v 12) (v 13) w b hb hG f11 f12 f13
    have gv0 : v 0 = (.slice (some ad) xs.length c) := f0
    have gv1 : v 1 = (.slice (some ad) xs.length c) := f1
    have gv2 : v 2 = (.int .i64 (k : Int)) := f2
    have gv3 : v 3 = (.pointer (some (ad.add k))) := f3
    have gv4 : v 4 = (.int .i64 (rd xs (k : Int))) := f4
    have gv5 : v 5 = (.pointer (some ⟨sb, 1, none⟩)) := f5
    have gv6 : v 6 = (.int .i64 y) := f6
    have gv7 : v 7 = (.int .i64 (rd xs (k : Int) + y)) := f7
    have gv8 : v 8 = (.pointer (some ⟨sb, 0, none⟩)) := f8
    have gv9 : v 9 = (.int .i64 x) := f9
    have gv10 : v 10 = (.int .i64 (rd xs (k : Int) + y - x)) := f10
    have e : (r84x5.L.map fun e => (e.2, v e.1)) = [(23, (.slice (some ad) xs.length c)), (24, (.slice (some ad) xs.length c)), (25, (.int .i64 (k : Int))), (26, (.pointer (some (ad.add k)))), (27, (.int .i64 (rd xs (k : Int)))), (28, (.pointer (some ⟨sb, 1, none⟩))), (29, (.int .i64 y)), (30, (.int .i64 (rd xs (k : Int) + y))), (31, (.pointer (some ⟨sb, 0, none⟩))), (32, (.int .i64 x)), (33, (.int .i64 (rd xs (k : Int) + y - x))), (34, v 11), (35, v 12), (3, v 13)] := by
      simp only [r84x5.L, List.map_cons, List.map_nil, gv0, gv1, gv2, gv3, gv4, gv5, gv6, gv7, gv8, gv9, gv10]
    rw [e]
    exact this

end Go.Proofs.Ytbjbejjieibldaa.Va
