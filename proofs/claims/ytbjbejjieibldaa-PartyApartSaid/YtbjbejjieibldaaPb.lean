/- The two regions of open order in the party's Hear. -/
import Derived.Test.YtbjbejjieibldaaPa
namespace Go.Proofs.Ytbjbejjieibldaa.Pa
open Go.RowKit Go.Proofs.YtbjbejjieibldaaW.PrintWords Go.Proofs.YtbjbejjieibldaaW.PrintLast Go.Proofs.YtbjbejjieibldaaW.PrintMore Go.Maps Go.Proofs.Ytbjbejjieibldaa.Rg
set_option linter.unusedVariables false
set_option linter.unusedSimpArgs false

/-! ### region 8 of function 23 -/
def r23x8.T : Bool × List (List Nat × List Nat) := (true, [([], []), ([], []), ([1], [1]), ([2], [2]), ([3], [3]), ([], []), ([5], [5]), ([6], [6]), ([4, 7], [4, 7]), ([0, 0, 1, 2, 3, 4, 5, 6, 7, 8], [0]), ([9, 0, 1, 2, 3, 4, 5, 6, 7, 8], [9]), ([10, 8, 8, 0, 1, 2, 3, 4, 5, 6, 7, 8], [8, 10])])
def r23x8.B : List Nat := [0, 0, 2, 6, 14, 0, 32, 96, 254, 511, 1023, 2047]
def r23x8.L : List (Nat × Tmp) := [(0, 32), (1, 33), (2, 34), (3, 35), (4, 36), (5, 37), (6, 38), (7, 39), (8, 40), (9, 41), (10, 42)]
theorem r23x8.tab : rtab .any (opsOf Try.f23 8) = r23x8.T := by kernel_rfl
theorem r23x8.bits : waitsOk r23x8.T.2 r23x8.B = true := by kernel_rfl
theorem r23x8.base : baseOk r23x8.T.2 (List.range 12) = true := by kernel_rfl
theorem r23x8.okl : okL (opsOf Try.f23 8) r23x8.L 55 = true := by kernel_rfl
def r23x8.F (pb mb gb : Nat) (number id : Int) (v0 : Value) (did : List Int) (base : Nat) (ok : Nat → Prop) (W : World) (i : Nat) : Value → World → Prop := match i with
  | 0 => fun v _ => v = (.pointer (some ⟨pb, 0, none⟩))
  | 1 => fun v _ => v = (.pointer (some ⟨pb, 0, none⟩))
  | 2 => fun v _ => v = (.pointer (some ⟨pb, 0, none⟩))
  | 3 => fun v _ => v = (.pointer (some ⟨pb, 2, none⟩))
  | 4 => fun v _ => v = v0
  | 5 => fun v _ => v = (.pointer (some ⟨gb, 0, none⟩))
  | 6 => fun v _ => v = (.int .u64 id)
  | 7 => fun v w => Kd.R (Kd.int .u64) 23 w base (fun k => some k ≠ v0.ownBlock ∧ k ≠ pb) v [id]
  | 8 => fun v w => Kd.R (Kd.int .u64) 23 w base (fun k => (ok k ∨ W.heap.size ≤ k) ∧ k ≠ pb) v (did ++ [id])
  | 9 => fun v _ => v = (.pointer (some ⟨pb, 0, none⟩))
  | 10 => fun v _ => v = (.pointer (some ⟨pb, 2, none⟩))
  | 11 => fun v w => w.heap[pb]? = some (.cells #[.int .i64 number, .map (some mb), v] 100 (0, 0)) ∧ Kd.R (Kd.int .u64) 23 w base (fun k => (ok k ∨ W.heap.size ≤ k) ∧ k ≠ pb) v (did ++ [id])
  | _ => fun _ _ => True
def r23x8.St (pb mb gb : Nat) (number id : Int) (v0 : Value) (did : List Int) (base : Nat) (ok : Nat → Prop) (W : World) (i : Nat) : World → World → Prop := match i with
  | 7 => fun w w' => Below w.heap.size w w'
  | 8 => fun w w' => w.grownBy w' v0.ownBlock
  | 11 => fun w w' => ∃ u, w' = w.setCell ⟨pb, 2, none⟩ u
  | _ => fun w w' => w' = w
def r23x8.G (pb mb gb : Nat) (number id : Int) (v0 : Value) (did : List Int) (base : Nat) (ok : Nat → Prop) (W : World) : (Nat → Bool) → World → Prop := fun b w => Kept W w (fun k => k = pb ∨ some k = v0.ownBlock) ∧ (b 11 = false → w.heap[pb]? = some (.cells #[.int .i64 number, .map (some mb), v0] 100 (0, 0))) ∧ w.cell? ⟨gb, 0, none⟩ = some (.int .u64 id) ∧ (b 8 = false → Kd.R (Kd.int .u64) 23 w base (fun k => ok k ∧ k ≠ pb) v0 did) ∧ Below base W w
set_option maxHeartbeats 4000000 in
set_option maxRecDepth 100000 in
theorem r23x8 (pb mb gb : Nat) (number id : Int) (v0 : Value) (did : List Int) (base : Nat) (ok : Nat → Prop) (W : World) (hbase0 : base ≤ W.heap.size) (hpb : pb < W.heap.size) (hv0 : ∀ k, v0.ownBlock = some k → k < W.heap.size ∧ base ≤ k ∧ k ≠ pb ∧ k ≠ gb) (hgb : gb < W.heap.size ∧ gb ≠ pb) (hbp : base ≤ pb) (hdl : did.length ≤ 1000) {Q : Exit → Act → World → Prop} {a0 : Act} {w0 : World} (hz : a0.tmps.size = 55) (z0 : a0.tmps[0]? = some (.pointer (some ⟨pb, 0, none⟩))) (z3 : a0.tmps[3]? = some (.pointer (some ⟨gb, 0, none⟩))) (hG0 : (r23x8.G pb mb gb number id v0 did base ok W) (fun _ => false) w0.drew)
    (hend : ∀ (v39 : Value) (v40 : Value) (v11 : Value) (w : World) (b : Nat → Bool), (∀ i, i < 12 → b i = true) → (r23x8.G pb mb gb number id v0 did base ok W) b w → r23x8.F pb mb gb number id v0 did base ok W 7 v39 w → r23x8.F pb mb gb number id v0 did base ok W 8 v40 w → r23x8.F pb mb gb number id v0 did base ok W 11 v11 w → Q .normal (putAll a0 [(32, (.pointer (some ⟨pb, 0, none⟩))), (33, (.pointer (some ⟨pb, 0, none⟩))), (34, (.pointer (some ⟨pb, 0, none⟩))), (35, (.pointer (some ⟨pb, 2, none⟩))), (36, v0), (37, (.pointer (some ⟨gb, 0, none⟩))), (38, (.int .u64 id)), (39, v39), (40, v40), (41, (.pointer (some ⟨pb, 0, none⟩))), (42, (.pointer (some ⟨pb, 2, none⟩)))]) w) :
    (Code.region 8 (opsOf Try.f23 8) true).wp Try.prog Q a0 w0 := by
  refine region_lit (ops' := #[_, _, _, _, _, _, _, _, _, _, _, _]) rfl ?_
  refine region_facts (n := 12) (T := r23x8.T) (B := r23x8.B) r23x8.L (r23x8.G pb mb gb number id v0 did base ok W) (r23x8.St pb mb gb number id v0 did base ok W) (r23x8.F pb mb gb number id v0 did base ok W) (by kernel_rfl) (by kernel_rfl) r23x8.tab r23x8.bits r23x8.base (by rw [hz]; exact r23x8.okl) hG0 ?hSt ?hF ((all_cons ?s0 (all_cons ?s1 (all_cons ?s2 (all_cons ?s3 (all_cons ?s4 (all_cons ?s5 (all_cons ?s6 (all_cons ?s7 (all_cons ?s8 (all_cons ?s9 (all_cons ?s10 (all_cons ?s11 all_nil))))))))))))) ?hend
  case hSt =>
    intro i b w w' hi hb hoff hG hst
    match i, hi, hb, hoff, hst with
    | 0, _, hb, hoff, hst =>
      obtain rfl : w' = w := hst
      obtain ⟨h1, h2, h3, h4, h5⟩ := hG
      exact ⟨h1, fun h => h2 (by rw [up_ne (by decide)] at h; exact h), h3, fun h => h4 (by rw [up_ne (by decide)] at h; exact h), h5⟩
    | 1, _, hb, hoff, hst =>
      obtain rfl : w' = w := hst
      obtain ⟨h1, h2, h3, h4, h5⟩ := hG
      exact ⟨h1, fun h => h2 (by rw [up_ne (by decide)] at h; exact h), h3, fun h => h4 (by rw [up_ne (by decide)] at h; exact h), h5⟩
    | 2, _, hb, hoff, hst =>
      obtain rfl : w' = w := hst
      obtain ⟨h1, h2, h3, h4, h5⟩ := hG
      exact ⟨h1, fun h => h2 (by rw [up_ne (by decide)] at h; exact h), h3, fun h => h4 (by rw [up_ne (by decide)] at h; exact h), h5⟩
    | 3, _, hb, hoff, hst =>
      obtain rfl : w' = w := hst
      obtain ⟨h1, h2, h3, h4, h5⟩ := hG
      exact ⟨h1, fun h => h2 (by rw [up_ne (by decide)] at h; exact h), h3, fun h => h4 (by rw [up_ne (by decide)] at h; exact h), h5⟩
    | 4, _, hb, hoff, hst =>
      obtain rfl : w' = w := hst
      obtain ⟨h1, h2, h3, h4, h5⟩ := hG
      exact ⟨h1, fun h => h2 (by rw [up_ne (by decide)] at h; exact h), h3, fun h => h4 (by rw [up_ne (by decide)] at h; exact h), h5⟩
    | 5, _, hb, hoff, hst =>
      obtain rfl : w' = w := hst
      obtain ⟨h1, h2, h3, h4, h5⟩ := hG
      exact ⟨h1, fun h => h2 (by rw [up_ne (by decide)] at h; exact h), h3, fun h => h4 (by rw [up_ne (by decide)] at h; exact h), h5⟩
    | 6, _, hb, hoff, hst =>
      obtain rfl : w' = w := hst
      obtain ⟨h1, h2, h3, h4, h5⟩ := hG
      exact ⟨h1, fun h => h2 (by rw [up_ne (by decide)] at h; exact h), h3, fun h => h4 (by rw [up_ne (by decide)] at h; exact h), h5⟩
    | 7, _, hb, hoff, hst =>
      obtain ⟨h1, h2, h3, h4, h5⟩ := hG
      have hst : Below w.heap.size w w' := hst
      exact ⟨h1.below hst, fun hb11 => blk_below (h2 (by rw [up_ne (by decide)] at hb11; exact hb11)) hst, pw_cell_below hst h3, fun hb8 => Kd.R_below (h4 (by rw [up_ne (by decide)] at hb8; exact hb8)) hst, below_then h5 (Nat.le_trans hbase0 h1.1) hst⟩
    | 8, _, hb, hoff, hst =>
      obtain ⟨h1, h2, h3, h4, h5⟩ := hG
      have hst : w.grownBy w' v0.ownBlock := hst
      refine ⟨Kept.of_grown hst h1 (fun k hk => .inl (.inr hk.symm)), fun hb11 => ?_, ?_, fun hb8 => ?_, ?_⟩
      · exact blk_grown (h2 (by rw [up_ne (by decide)] at hb11; exact hb11)) hst (fun e => (hv0 pb e.symm).2.2.1 rfl)
      · exact cell_grown hst h3 (fun e => (hv0 gb e.symm).2.2.2 rfl)
      · rw [up_self] at hb8; cases hb8
      · exact h5.grown hst (Nat.le_trans hbase0 h1.1) (fun k hk => (hv0 k hk).2.1)
    | 9, _, hb, hoff, hst =>
      obtain rfl : w' = w := hst
      obtain ⟨h1, h2, h3, h4, h5⟩ := hG
      exact ⟨h1, fun h => h2 (by rw [up_ne (by decide)] at h; exact h), h3, fun h => h4 (by rw [up_ne (by decide)] at h; exact h), h5⟩
    | 10, _, hb, hoff, hst =>
      obtain rfl : w' = w := hst
      obtain ⟨h1, h2, h3, h4, h5⟩ := hG
      exact ⟨h1, fun h => h2 (by rw [up_ne (by decide)] at h; exact h), h3, fun h => h4 (by rw [up_ne (by decide)] at h; exact h), h5⟩
    | 11, _, hb, hoff, hst =>
      obtain ⟨h1, h2, h3, h4, h5⟩ := hG
      obtain ⟨u, rfl⟩ : ∃ u, w' = w.setCell ⟨pb, 2, none⟩ u := hst
      refine ⟨h1.setCell (.inl (.inl rfl)) u, fun hb11 => ?_, ?_, fun hb8 => ?_, h5.setCell hbp u⟩
      · rw [up_self] at hb11; cases hb11
      · rw [World.cell?_setCell_other _ _ _ _ (fun e => hgb.2 (congrArg Addr.block e).symm)]; exact h3
      · rw [up_ne (by decide)] at hb8
        exact Kd.R_far (p := ⟨pb, 2, none⟩) (h4 hb8) (fun k hk => hk.2) u
    | i + 12, hi, _, _, _ => exact absurd hi (by omega)
  case hF =>
    intro i j b v w w' hij hi hj hb hbj hoff hG hst hf
    match i, hi, hij, hb, hoff, hst with
    | 0, _, hij, hb, hoff, hst =>
      obtain rfl : w' = w := hst
      exact hf
    | 1, _, hij, hb, hoff, hst =>
      obtain rfl : w' = w := hst
      exact hf
    | 2, _, hij, hb, hoff, hst =>
      obtain rfl : w' = w := hst
      exact hf
    | 3, _, hij, hb, hoff, hst =>
      obtain rfl : w' = w := hst
      exact hf
    | 4, _, hij, hb, hoff, hst =>
      obtain rfl : w' = w := hst
      exact hf
    | 5, _, hij, hb, hoff, hst =>
      obtain rfl : w' = w := hst
      exact hf
    | 6, _, hij, hb, hoff, hst =>
      obtain rfl : w' = w := hst
      exact hf
    | 7, _, hij, hb, hoff, hst =>
      match j, hj, hij, hbj, hf with
      | 0, _, hij, hbj, hf => 
        exact hf
      | 1, _, hij, hbj, hf => 
        exact hf
      | 2, _, hij, hbj, hf => 
        exact hf
      | 3, _, hij, hbj, hf => 
        exact hf
      | 4, _, hij, hbj, hf => 
        exact hf
      | 5, _, hij, hbj, hf => 
        exact hf
      | 6, _, hij, hbj, hf => 
        exact hf
      | 7, _, hij, hbj, hf => exact absurd rfl hij
      | 8, _, hij, hbj, hf => exact absurd hbj (by rw [hoff 8 (by decide) (by decide)]; decide)
      | 9, _, hij, hbj, hf => exact absurd hbj (by rw [hoff 9 (by decide) (by decide)]; decide)
      | 10, _, hij, hbj, hf => exact absurd hbj (by rw [hoff 10 (by decide) (by decide)]; decide)
      | 11, _, hij, hbj, hf => exact absurd hbj (by rw [hoff 11 (by decide) (by decide)]; decide)
      | j + 12, hj, _, _, _ => exact absurd hj (by omega)
    | 8, _, hij, hb, hoff, hst =>
      match j, hj, hij, hbj, hf with
      | 0, _, hij, hbj, hf => 
        exact hf
      | 1, _, hij, hbj, hf => 
        exact hf
      | 2, _, hij, hbj, hf => 
        exact hf
      | 3, _, hij, hbj, hf => 
        exact hf
      | 4, _, hij, hbj, hf => 
        exact hf
      | 5, _, hij, hbj, hf => 
        exact hf
      | 6, _, hij, hbj, hf => 
        exact hf
      | 7, _, hij, hbj, hf => 
        exact Kd.R_grown hf hst (fun k hk => hk.1)
      | 8, _, hij, hbj, hf => exact absurd rfl hij
      | 9, _, hij, hbj, hf => exact absurd hbj (by rw [hoff 9 (by decide) (by decide)]; decide)
      | 10, _, hij, hbj, hf => exact absurd hbj (by rw [hoff 10 (by decide) (by decide)]; decide)
      | 11, _, hij, hbj, hf => exact absurd hbj (by rw [hoff 11 (by decide) (by decide)]; decide)
      | j + 12, hj, _, _, _ => exact absurd hj (by omega)
    | 9, _, hij, hb, hoff, hst =>
      obtain rfl : w' = w := hst
      exact hf
    | 10, _, hij, hb, hoff, hst =>
      obtain rfl : w' = w := hst
      exact hf
    | 11, _, hij, hb, hoff, hst =>
      match j, hj, hij, hbj, hf with
      | 0, _, hij, hbj, hf => 
        exact hf
      | 1, _, hij, hbj, hf => 
        exact hf
      | 2, _, hij, hbj, hf => 
        exact hf
      | 3, _, hij, hbj, hf => 
        exact hf
      | 4, _, hij, hbj, hf => 
        exact hf
      | 5, _, hij, hbj, hf => 
        exact hf
      | 6, _, hij, hbj, hf => 
        exact hf
      | 7, _, hij, hbj, hf => 
        obtain ⟨u, rfl⟩ : ∃ u, w' = w.setCell ⟨pb, 2, none⟩ u := hst
        exact Kd.R_far (p := ⟨pb, 2, none⟩) hf (fun k hk => hk.2) u
      | 8, _, hij, hbj, hf => 
        obtain ⟨u, rfl⟩ : ∃ u, w' = w.setCell ⟨pb, 2, none⟩ u := hst
        exact Kd.R_far (p := ⟨pb, 2, none⟩) hf (fun k hk => hk.2) u
      | 9, _, hij, hbj, hf => 
        exact hf
      | 10, _, hij, hbj, hf => 
        exact hf
      | 11, _, hij, hbj, hf => exact absurd rfl hij
      | j + 12, hj, _, _, _ => exact absurd hj (by omega)
    | i + 12, hi, _, _, _, _ => exact absurd hi (by omega)
  case s0 =>
    refine ⟨_, rfl, fun b a w hG hb hoff hd hs K hK => ?_⟩
    have h0 := (hs 0 (by decide)).trans z0
    have e0 := eval_of h0
    refine value_ (v := (.pointer (some ⟨pb, 0, none⟩))) rfl rfl ?_ (hK _ _ rfl rfl)
    clear hd hs hK hoff
    clear e0
    go_simp
  case s1 =>
    refine ⟨_, rfl, fun b a w hG hb hoff hd hs K hK => ?_⟩
    have h0 := (hs 0 (by decide)).trans z0
    have e0 := eval_of h0
    refine value_ (v := (.pointer (some ⟨pb, 0, none⟩))) rfl rfl ?_ (hK _ _ rfl rfl)
    clear hd hs hK hoff
    clear e0
    go_simp
  case s2 =>
    refine ⟨_, rfl, fun b a w hG hb hoff hd hs K hK => ?_⟩
    obtain ⟨y33, h33, f33⟩ := hd 1 33 (by decide) (by decide)
    replace f33 : y33 = (.pointer (some ⟨pb, 0, none⟩)) := f33
    subst y33
    have e33 := eval_of h33
    refine value_ (v := (.pointer (some ⟨pb, 0, none⟩))) rfl rfl ?_ (hK _ _ rfl rfl)
    clear hd hs hK hoff
    clear e33
    go_simp
  case s3 =>
    refine ⟨_, rfl, fun b a w hG hb hoff hd hs K hK => ?_⟩
    obtain ⟨y34, h34, f34⟩ := hd 2 34 (by decide) (by decide)
    replace f34 : y34 = (.pointer (some ⟨pb, 0, none⟩)) := f34
    subst y34
    have e34 := eval_of h34
    refine value_ (v := (.pointer (some ⟨pb, 2, none⟩))) rfl rfl ?_ (hK _ _ rfl rfl)
    clear hd hs hK hoff
    clear e34
    go_simp
  case s4 =>
    refine ⟨_, rfl, fun b a w hG hb hoff hd hs K hK => ?_⟩
    obtain ⟨y35, h35, f35⟩ := hd 3 35 (by decide) (by decide)
    replace f35 : y35 = (.pointer (some ⟨pb, 2, none⟩)) := f35
    subst y35
    have e35 := eval_of h35
    refine value_ (v := v0) rfl rfl ?_ (hK _ _ rfl rfl)
    obtain ⟨hk, hb1, hn, hr⟩ := hG
    have hc := (blk_cell (hb1 (hoff 11 (by decide) (by decide))) 2).trans rfl
    clear hn hr hb1
    clear hd hs hK hoff
    clear e35
    go_simp
  case s5 =>
    refine ⟨_, rfl, fun b a w hG hb hoff hd hs K hK => ?_⟩
    have h3 := (hs 3 (by decide)).trans z3
    have e3 := eval_of h3
    refine value_ (v := (.pointer (some ⟨gb, 0, none⟩))) rfl rfl ?_ (hK _ _ rfl rfl)
    clear hd hs hK hoff
    clear e3
    go_simp
  case s6 =>
    refine ⟨_, rfl, fun b a w hG hb hoff hd hs K hK => ?_⟩
    obtain ⟨y37, h37, f37⟩ := hd 5 37 (by decide) (by decide)
    replace f37 : y37 = (.pointer (some ⟨gb, 0, none⟩)) := f37
    subst y37
    have e37 := eval_of h37
    refine value_ (v := (.int .u64 id)) rfl rfl ?_ (hK _ _ rfl rfl)
    have hc := hG.2.2.1
    clear hG
    clear hd hs hK hoff
    clear e37
    go_simp
  case s7 =>
    refine ⟨_, rfl, fun b a w hG hb hoff hd hs K hK => ?_⟩
    obtain ⟨y38, h38, f38⟩ := hd 6 38 (by decide) (by decide)
    replace f38 : y38 = (.int .u64 id) := f38
    subst y38
    have e38 := eval_of h38
    have hbase : base ≤ w.heap.size := Nat.le_trans hbase0 hG.1.1
    refine Kd.R_lit_step (Kd.int .u64) (w0 := w) base 23 rfl (N := 39) rfl (xs := [id]) (inner := [.int .u64 id]) (ok := fun k => w.heap.size ≤ k) (okp := fun _ => False) ?hr (Kd.reps_scalar [id]) (fun _ h => h.elim) (Nat.le_refl _) (Below.refl _ _) hbase (by simp) (fun v1 w1 ho hb1 hg hn => ?_)
    case hr => clear hd hs hK hoff hG; (first | (go_simp; done) | (go_simp; rfl))
    refine hK _ _ (below_of_grown hg) ?_
    refine Kd.R_mono ho (fun k hk => ⟨?_, ?_⟩)
    · intro e; have := (hv0 k e.symm).1; have := hG.1.1; omega
    · have := hG.1.1; omega
  case s8 =>
    refine ⟨_, rfl, fun b a w hG hb hoff hd hs K hK => ?_⟩
    obtain ⟨y36, h36, f36⟩ := hd 4 36 (by decide) (by decide)
    replace f36 : y36 = v0 := f36
    subst y36
    have e36 := eval_of h36
    obtain ⟨v39, h39, f39⟩ := hd 7 39 (by decide) (by decide)
    have e39 := eval_of h39
    have hbase : base ≤ w.heap.size := Nat.le_trans hbase0 hG.1.1
    have hlt := Nat.lt_of_lt_of_le hpb hG.1.1
    obtain ⟨ad, c, e, hr⟩ : ∃ ad c, v39 = .slice (some ad) 1 c ∧ (Kd.int .u64).C w (some ad) 1 [id] := by
      obtain ⟨A, c, e, hl, hr⟩ := Kd.R_reads f39
      obtain ⟨ad, hA, _⟩ := hr.2.2 (by simp)
      subst hA
      exact ⟨ad, c, e, hr⟩
    refine Kd.R_append_rows_step (Kd.int .u64) (w0 := w) base rfl (.tmp 36) (.tmp 39) 27 23 (.int .u64 0) 8 rfl Try.underlying27 info23 rfl (by decide) (by omega) v0 did [id] (some ad) 1 c (fun k => (ok k ∨ W.heap.size ≤ k) ∧ k ≠ pb) (fun _ => False) e36 (e39.trans e) ?_ hr (fun _ _ h => h) (fun _ h => h.elim) (fun k hk => ⟨.inr (Nat.le_trans hG.1.1 hk), by omega⟩) (Below.refl _ _) hbase (by omega) (fun v1 w1 ho hb1 hg hat => ?_)
    · exact Kd.R_mono (hG.2.2.2.1 (by first | exact hb)) (fun k hk => ⟨.inl hk.1, hk.2⟩)
    · exact hK _ _ hg ho
  case s9 =>
    refine ⟨_, rfl, fun b a w hG hb hoff hd hs K hK => ?_⟩
    obtain ⟨y32, h32, f32⟩ := hd 0 32 (by decide) (by decide)
    replace f32 : y32 = (.pointer (some ⟨pb, 0, none⟩)) := f32
    subst y32
    have e32 := eval_of h32
    refine value_ (v := (.pointer (some ⟨pb, 0, none⟩))) rfl rfl ?_ (hK _ _ rfl rfl)
    clear hd hs hK hoff
    clear e32
    go_simp
  case s10 =>
    refine ⟨_, rfl, fun b a w hG hb hoff hd hs K hK => ?_⟩
    obtain ⟨y41, h41, f41⟩ := hd 9 41 (by decide) (by decide)
    replace f41 : y41 = (.pointer (some ⟨pb, 0, none⟩)) := f41
    subst y41
    have e41 := eval_of h41
    refine value_ (v := (.pointer (some ⟨pb, 2, none⟩))) rfl rfl ?_ (hK _ _ rfl rfl)
    clear hd hs hK hoff
    clear e41
    go_simp
  case s11 =>
    refine ⟨_, rfl, fun b a w hG hb hoff hd hs K hK => ?_⟩
    obtain ⟨v40, h40, f40⟩ := hd 8 40 (by decide) (by decide)
    have e40 := eval_of h40
    obtain ⟨y42, h42, f42⟩ := hd 10 42 (by decide) (by decide)
    replace f42 : y42 = (.pointer (some ⟨pb, 2, none⟩)) := f42
    subst y42
    have e42 := eval_of h42
    obtain ⟨y36, h36, f36⟩ := hd 4 36 (by decide) (by decide)
    replace f36 : y36 = v0 := f36
    subst y36
    have e36 := eval_of h36
    obtain ⟨A, c, hv, _, _⟩ := Kd.R_reads f40
    have hb1 := hG.2.1 hb
    have hc := (blk_cell hb1 2).trans rfl
    have hz := blk_frozen hb1 2
    subst hv
    refine skip_ (w1 := w.setCell ⟨pb, 2, none⟩ (.slice A (did ++ [id]).length c)) rfl rfl ?_ (hK (.slice A (did ++ [id]).length c) _ ⟨_, rfl⟩ ⟨?_, ?_⟩)
    · clear hd hs hK hoff hG f40 e36 e40 e42
      go_simp
    · exact blk_set hb1 2 _
    · exact Kd.R_far (p := ⟨pb, 2, none⟩) f40 (fun k hk => hk.2) _
  case hend =>
    intro b v w hb hG hv
    have f0 := hv 0 (by decide)
    have f1 := hv 1 (by decide)
    have f2 := hv 2 (by decide)
    have f3 := hv 3 (by decide)
    have f4 := hv 4 (by decide)
    have f5 := hv 5 (by decide)
    have f6 := hv 6 (by decide)
    have f7 := hv 7 (by decide)
    have f8 := hv 8 (by decide)
    have f9 := hv 9 (by decide)
    have f10 := hv 10 (by decide)
    have f11 := hv 11 (by decide)
    have := hend (v 7) (v 8) (v 11) w b hb hG f7 f8 f11
    have g0 : v 0 = (.pointer (some ⟨pb, 0, none⟩)) := f0
    have g1 : v 1 = (.pointer (some ⟨pb, 0, none⟩)) := f1
    have g2 : v 2 = (.pointer (some ⟨pb, 0, none⟩)) := f2
    have g3 : v 3 = (.pointer (some ⟨pb, 2, none⟩)) := f3
    have g4 : v 4 = v0 := f4
    have g5 : v 5 = (.pointer (some ⟨gb, 0, none⟩)) := f5
    have g6 : v 6 = (.int .u64 id) := f6
    have g9 : v 9 = (.pointer (some ⟨pb, 0, none⟩)) := f9
    have g10 : v 10 = (.pointer (some ⟨pb, 2, none⟩)) := f10
    have e : (r23x8.L.map fun e => (e.2, v e.1)) = [(32, (.pointer (some ⟨pb, 0, none⟩))), (33, (.pointer (some ⟨pb, 0, none⟩))), (34, (.pointer (some ⟨pb, 0, none⟩))), (35, (.pointer (some ⟨pb, 2, none⟩))), (36, v0), (37, (.pointer (some ⟨gb, 0, none⟩))), (38, (.int .u64 id)), (39, v 7), (40, v 8), (41, (.pointer (some ⟨pb, 0, none⟩))), (42, (.pointer (some ⟨pb, 2, none⟩)))] := by
      simp only [r23x8.L, List.map_cons, List.map_nil, g0, g1, g2, g3, g4, g5, g6, g9, g10]
    rw [e]
    exact this

/-! ### region 9 of function 23 -/
def r23x9.T : Bool × List (List Nat × List Nat) := (true, [([], []), ([0], [0]), ([1], [1]), ([2], [2]), ([], []), ([4], [4]), ([], []), ([], []), ([7], [7]), ([6, 8], [6, 8]), ([9], [9]), ([3, 5, 10, 9, 0, 1, 2, 3, 4, 5, 6, 7, 8, 9, 10], [3, 5, 10])])
def r23x9.B : List Nat := [0, 1, 3, 7, 0, 16, 0, 0, 128, 448, 960, 2047]
def r23x9.L : List (Nat × Tmp) := [(0, 43), (1, 44), (2, 45), (3, 46), (4, 47), (5, 48), (6, 49), (7, 50), (8, 51), (9, 52), (10, 53)]
theorem r23x9.tab : rtab .any (opsOf Try.f23 9) = r23x9.T := by kernel_rfl
theorem r23x9.bits : waitsOk r23x9.T.2 r23x9.B = true := by kernel_rfl
theorem r23x9.base : baseOk r23x9.T.2 (List.range 12) = true := by kernel_rfl
theorem r23x9.okl : okL (opsOf Try.f23 9) r23x9.L 55 = true := by kernel_rfl
def r23x9.F (pb mb gb : Nat) (number id : Int) (v : Value) (did : List Int) (base : Nat) (ok : Nat → Prop) (times : Int → Int) (n : Nat) (D : DataW Unit) (W : World) (i : Nat) : Value → World → Prop := match i with
  | 0 => fun v _ => v = (.pointer (some ⟨pb, 0, none⟩))
  | 1 => fun v _ => v = (.pointer (some ⟨pb, 0, none⟩))
  | 2 => fun v _ => v = (.pointer (some ⟨pb, 1, none⟩))
  | 3 => fun v _ => v = (.map (some mb))
  | 4 => fun v _ => v = (.pointer (some ⟨gb, 0, none⟩))
  | 5 => fun v _ => v = (.int .u64 id)
  | 6 => fun v _ => v = (.func (.func 21) #[.pointer (some ⟨pb, 0, none⟩)] #[])
  | 7 => fun v _ => v = (.pointer (some ⟨gb, 0, none⟩))
  | 8 => fun v _ => v = (.int .u64 id)
  | 9 => fun v _ => v = (.int .i64 (times id))
  | 10 => fun v _ => v = (.int .i64 (times id + 1))
  | 11 => fun _ w => w.ownsMap Try.prog 23 (plainElem Try.prog 3) mb (n + 1) (D.put (.int .u64 id) (.lit (.int .i64 (times id + 1))))
  | _ => fun _ _ => True
def r23x9.St (pb mb gb : Nat) (number id : Int) (v : Value) (did : List Int) (base : Nat) (ok : Nat → Prop) (times : Int → Int) (n : Nat) (D : DataW Unit) (W : World) (i : Nat) : World → World → Prop := match i with
  | 11 => fun w w' => w.grownBy w' (some mb)
  | _ => fun w w' => w' = w
def r23x9.G (pb mb gb : Nat) (number id : Int) (v : Value) (did : List Int) (base : Nat) (ok : Nat → Prop) (times : Int → Int) (n : Nat) (D : DataW Unit) (W : World) : (Nat → Bool) → World → Prop := fun b w => Kept W w (fun k => k = mb) ∧ w.heap[pb]? = some (.cells #[.int .i64 number, .map (some mb), v] 100 (0, 0)) ∧ w.cell? ⟨gb, 0, none⟩ = some (.int .u64 id) ∧ Kd.R (Kd.int .u64) 23 w base (fun k => ok k ∧ k ≠ pb) v did ∧ (b 11 = false → w.ownsMap Try.prog 23 (plainElem Try.prog 3) mb n D) ∧ Below base W w
set_option maxHeartbeats 4000000 in
set_option maxRecDepth 100000 in
theorem r23x9 (pb mb gb : Nat) (number id : Int) (v : Value) (did : List Int) (base : Nat) (ok : Nat → Prop) (times : Int → Int) (n : Nat) (D : DataW Unit) (W : World) (hbm : base ≤ mb) (hid : U id) (ht : 0 ≤ times id ∧ times id ≤ 1000) (hn : n ≤ 1000) (hpm : pb ≠ mb) (hgm : gb ≠ mb) (hvm : ∀ k, v.ownBlock = some k → k ≠ mb) (hbase0 : base ≤ W.heap.size) (hst : ∀ w : World, w.heap[pb]? = some (.cells #[.int .i64 number, .map (some mb), v] 100 (0, 0)) → Kd.R (Kd.int .u64) 23 w base (fun k => ok k ∧ k ≠ pb) v did → w.ownsMap Try.prog 23 (plainElem Try.prog 3) mb n D → IsP w base ok pb number did times (n + 1)) {Q : Exit → Act → World → Prop} {a0 : Act} {w0 : World} (hz : a0.tmps.size = 55) (z0 : a0.tmps[0]? = some (.pointer (some ⟨pb, 0, none⟩))) (z3 : a0.tmps[3]? = some (.pointer (some ⟨gb, 0, none⟩))) (z6 : a0.tmps[6]? = some (.func (.func 21) #[.pointer (some ⟨pb, 0, none⟩)] #[])) (hG0 : (r23x9.G pb mb gb number id v did base ok times n D W) (fun _ => false) w0.drew)
    (hend : ∀ (v11 : Value) (w : World) (b : Nat → Bool), (∀ i, i < 12 → b i = true) → (r23x9.G pb mb gb number id v did base ok times n D W) b w → r23x9.F pb mb gb number id v did base ok times n D W 11 v11 w → Q .normal (putAll a0 [(43, (.pointer (some ⟨pb, 0, none⟩))), (44, (.pointer (some ⟨pb, 0, none⟩))), (45, (.pointer (some ⟨pb, 1, none⟩))), (46, (.map (some mb))), (47, (.pointer (some ⟨gb, 0, none⟩))), (48, (.int .u64 id)), (49, (.func (.func 21) #[.pointer (some ⟨pb, 0, none⟩)] #[])), (50, (.pointer (some ⟨gb, 0, none⟩))), (51, (.int .u64 id)), (52, (.int .i64 (times id))), (53, (.int .i64 (times id + 1)))]) w) :
    (Code.region 9 (opsOf Try.f23 9) true).wp Try.prog Q a0 w0 := by
  refine region_lit (ops' := #[_, _, _, _, _, _, _, _, _, _, _, _]) rfl ?_
  refine region_facts (n := 12) (T := r23x9.T) (B := r23x9.B) r23x9.L (r23x9.G pb mb gb number id v did base ok times n D W) (r23x9.St pb mb gb number id v did base ok times n D W) (r23x9.F pb mb gb number id v did base ok times n D W) (by kernel_rfl) (by kernel_rfl) r23x9.tab r23x9.bits r23x9.base (by rw [hz]; exact r23x9.okl) hG0 ?hSt ?hF ((all_cons ?s0 (all_cons ?s1 (all_cons ?s2 (all_cons ?s3 (all_cons ?s4 (all_cons ?s5 (all_cons ?s6 (all_cons ?s7 (all_cons ?s8 (all_cons ?s9 (all_cons ?s10 (all_cons ?s11 all_nil))))))))))))) ?hend
  case hSt =>
    intro i b w w' hi hb hoff hG hst
    match i, hi, hb, hoff, hst with
    | 0, _, hb, hoff, hst =>
      obtain rfl : w' = w := hst
      obtain ⟨h1, h2, h3, h4, h5, h6⟩ := hG
      exact ⟨h1, h2, h3, h4, fun h => h5 (by rw [up_ne (by decide)] at h; exact h), h6⟩
    | 1, _, hb, hoff, hst =>
      obtain rfl : w' = w := hst
      obtain ⟨h1, h2, h3, h4, h5, h6⟩ := hG
      exact ⟨h1, h2, h3, h4, fun h => h5 (by rw [up_ne (by decide)] at h; exact h), h6⟩
    | 2, _, hb, hoff, hst =>
      obtain rfl : w' = w := hst
      obtain ⟨h1, h2, h3, h4, h5, h6⟩ := hG
      exact ⟨h1, h2, h3, h4, fun h => h5 (by rw [up_ne (by decide)] at h; exact h), h6⟩
    | 3, _, hb, hoff, hst =>
      obtain rfl : w' = w := hst
      obtain ⟨h1, h2, h3, h4, h5, h6⟩ := hG
      exact ⟨h1, h2, h3, h4, fun h => h5 (by rw [up_ne (by decide)] at h; exact h), h6⟩
    | 4, _, hb, hoff, hst =>
      obtain rfl : w' = w := hst
      obtain ⟨h1, h2, h3, h4, h5, h6⟩ := hG
      exact ⟨h1, h2, h3, h4, fun h => h5 (by rw [up_ne (by decide)] at h; exact h), h6⟩
    | 5, _, hb, hoff, hst =>
      obtain rfl : w' = w := hst
      obtain ⟨h1, h2, h3, h4, h5, h6⟩ := hG
      exact ⟨h1, h2, h3, h4, fun h => h5 (by rw [up_ne (by decide)] at h; exact h), h6⟩
    | 6, _, hb, hoff, hst =>
      obtain rfl : w' = w := hst
      obtain ⟨h1, h2, h3, h4, h5, h6⟩ := hG
      exact ⟨h1, h2, h3, h4, fun h => h5 (by rw [up_ne (by decide)] at h; exact h), h6⟩
    | 7, _, hb, hoff, hst =>
      obtain rfl : w' = w := hst
      obtain ⟨h1, h2, h3, h4, h5, h6⟩ := hG
      exact ⟨h1, h2, h3, h4, fun h => h5 (by rw [up_ne (by decide)] at h; exact h), h6⟩
    | 8, _, hb, hoff, hst =>
      obtain rfl : w' = w := hst
      obtain ⟨h1, h2, h3, h4, h5, h6⟩ := hG
      exact ⟨h1, h2, h3, h4, fun h => h5 (by rw [up_ne (by decide)] at h; exact h), h6⟩
    | 9, _, hb, hoff, hst =>
      obtain rfl : w' = w := hst
      obtain ⟨h1, h2, h3, h4, h5, h6⟩ := hG
      exact ⟨h1, h2, h3, h4, fun h => h5 (by rw [up_ne (by decide)] at h; exact h), h6⟩
    | 10, _, hb, hoff, hst =>
      obtain rfl : w' = w := hst
      obtain ⟨h1, h2, h3, h4, h5, h6⟩ := hG
      exact ⟨h1, h2, h3, h4, fun h => h5 (by rw [up_ne (by decide)] at h; exact h), h6⟩
    | 11, _, hb, hoff, hst =>
      obtain ⟨h1, h2, h3, h4, h5, h6⟩ := hG
      have hst' : w.grownBy w' (some mb) := hst
      refine ⟨Kept.of_grown hst' h1 (fun k hk => .inl (Option.some.inj hk).symm), blk_grown h2 hst' (fun e => hpm (Option.some.inj e)), cell_grown hst' h3 (fun e => hgm (Option.some.inj e)), ?_, fun hb11 => ?_, h6.grown hst' (Nat.le_trans hbase0 h1.1) (fun k hk => by cases hk; exact hbm)⟩
      · exact Kd.R_grown1 h4 rfl hst' (fun e => hvm mb e.symm rfl)
      · rw [up_self] at hb11; cases hb11
    | i + 12, hi, _, _, _ => exact absurd hi (by omega)
  case hF =>
    intro i j b v w w' hij hi hj hb hbj hoff hG hst hf
    match i, hi, hij, hb, hoff, hst with
    | 0, _, hij, hb, hoff, hst =>
      obtain rfl : w' = w := hst
      exact hf
    | 1, _, hij, hb, hoff, hst =>
      obtain rfl : w' = w := hst
      exact hf
    | 2, _, hij, hb, hoff, hst =>
      obtain rfl : w' = w := hst
      exact hf
    | 3, _, hij, hb, hoff, hst =>
      obtain rfl : w' = w := hst
      exact hf
    | 4, _, hij, hb, hoff, hst =>
      obtain rfl : w' = w := hst
      exact hf
    | 5, _, hij, hb, hoff, hst =>
      obtain rfl : w' = w := hst
      exact hf
    | 6, _, hij, hb, hoff, hst =>
      obtain rfl : w' = w := hst
      exact hf
    | 7, _, hij, hb, hoff, hst =>
      obtain rfl : w' = w := hst
      exact hf
    | 8, _, hij, hb, hoff, hst =>
      obtain rfl : w' = w := hst
      exact hf
    | 9, _, hij, hb, hoff, hst =>
      obtain rfl : w' = w := hst
      exact hf
    | 10, _, hij, hb, hoff, hst =>
      obtain rfl : w' = w := hst
      exact hf
    | 11, _, hij, hb, hoff, hst =>
      match j, hj, hij, hbj, hf with
      | 0, _, hij, hbj, hf => 
        exact hf
      | 1, _, hij, hbj, hf => 
        exact hf
      | 2, _, hij, hbj, hf => 
        exact hf
      | 3, _, hij, hbj, hf => 
        exact hf
      | 4, _, hij, hbj, hf => 
        exact hf
      | 5, _, hij, hbj, hf => 
        exact hf
      | 6, _, hij, hbj, hf => 
        exact hf
      | 7, _, hij, hbj, hf => 
        exact hf
      | 8, _, hij, hbj, hf => 
        exact hf
      | 9, _, hij, hbj, hf => 
        exact hf
      | 10, _, hij, hbj, hf => 
        exact hf
      | 11, _, hij, hbj, hf => exact absurd rfl hij
      | j + 12, hj, _, _, _ => exact absurd hj (by omega)
    | i + 12, hi, _, _, _, _ => exact absurd hi (by omega)
  case s0 =>
    refine ⟨_, rfl, fun b a w hG hb hoff hd hs K hK => ?_⟩
    have h0 := (hs 0 (by decide)).trans z0
    have e0 := eval_of h0
    refine value_ (v := (.pointer (some ⟨pb, 0, none⟩))) rfl rfl ?_ (hK _ _ rfl rfl)
    clear hd hs hK hoff
    clear e0
    go_simp
  case s1 =>
    refine ⟨_, rfl, fun b a w hG hb hoff hd hs K hK => ?_⟩
    obtain ⟨y43, h43, f43⟩ := hd 0 43 (by decide) (by decide)
    replace f43 : y43 = (.pointer (some ⟨pb, 0, none⟩)) := f43
    subst y43
    have e43 := eval_of h43
    refine value_ (v := (.pointer (some ⟨pb, 0, none⟩))) rfl rfl ?_ (hK _ _ rfl rfl)
    clear hd hs hK hoff
    clear e43
    go_simp
  case s2 =>
    refine ⟨_, rfl, fun b a w hG hb hoff hd hs K hK => ?_⟩
    obtain ⟨y44, h44, f44⟩ := hd 1 44 (by decide) (by decide)
    replace f44 : y44 = (.pointer (some ⟨pb, 0, none⟩)) := f44
    subst y44
    have e44 := eval_of h44
    refine value_ (v := (.pointer (some ⟨pb, 1, none⟩))) rfl rfl ?_ (hK _ _ rfl rfl)
    clear hd hs hK hoff
    clear e44
    go_simp
  case s3 =>
    refine ⟨_, rfl, fun b a w hG hb hoff hd hs K hK => ?_⟩
    obtain ⟨y45, h45, f45⟩ := hd 2 45 (by decide) (by decide)
    replace f45 : y45 = (.pointer (some ⟨pb, 1, none⟩)) := f45
    subst y45
    have e45 := eval_of h45
    refine value_ (v := (.map (some mb))) rfl rfl ?_ (hK _ _ rfl rfl)
    have hc := (blk_cell hG.2.1 1).trans rfl
    clear hG
    clear hd hs hK hoff
    clear e45
    go_simp
  case s4 =>
    refine ⟨_, rfl, fun b a w hG hb hoff hd hs K hK => ?_⟩
    have h3 := (hs 3 (by decide)).trans z3
    have e3 := eval_of h3
    refine value_ (v := (.pointer (some ⟨gb, 0, none⟩))) rfl rfl ?_ (hK _ _ rfl rfl)
    clear hd hs hK hoff
    clear e3
    go_simp
  case s5 =>
    refine ⟨_, rfl, fun b a w hG hb hoff hd hs K hK => ?_⟩
    obtain ⟨y47, h47, f47⟩ := hd 4 47 (by decide) (by decide)
    replace f47 : y47 = (.pointer (some ⟨gb, 0, none⟩)) := f47
    subst y47
    have e47 := eval_of h47
    refine value_ (v := (.int .u64 id)) rfl rfl ?_ (hK _ _ rfl rfl)
    have hc := hG.2.2.1
    clear hG
    clear hd hs hK hoff
    clear e47
    go_simp
  case s6 =>
    refine ⟨_, rfl, fun b a w hG hb hoff hd hs K hK => ?_⟩
    have h6 := (hs 6 (by decide)).trans z6
    have e6 := eval_of h6
    refine value_ (v := (.func (.func 21) #[.pointer (some ⟨pb, 0, none⟩)] #[])) rfl rfl ?_ (hK _ _ rfl rfl)
    clear hd hs hK hoff
    clear e6
    go_simp
  case s7 =>
    refine ⟨_, rfl, fun b a w hG hb hoff hd hs K hK => ?_⟩
    have h3 := (hs 3 (by decide)).trans z3
    have e3 := eval_of h3
    refine value_ (v := (.pointer (some ⟨gb, 0, none⟩))) rfl rfl ?_ (hK _ _ rfl rfl)
    clear hd hs hK hoff
    clear e3
    go_simp
  case s8 =>
    refine ⟨_, rfl, fun b a w hG hb hoff hd hs K hK => ?_⟩
    obtain ⟨y50, h50, f50⟩ := hd 7 50 (by decide) (by decide)
    replace f50 : y50 = (.pointer (some ⟨gb, 0, none⟩)) := f50
    subst y50
    have e50 := eval_of h50
    refine value_ (v := (.int .u64 id)) rfl rfl ?_ (hK _ _ rfl rfl)
    have hc := hG.2.2.1
    clear hG
    clear hd hs hK hoff
    clear e50
    go_simp
  case s9 =>
    refine ⟨_, rfl, fun b a w hG hb hoff hd hs K hK => ?_⟩
    obtain ⟨y49, h49, f49⟩ := hd 6 49 (by decide) (by decide)
    replace f49 : y49 = (.func (.func 21) #[.pointer (some ⟨pb, 0, none⟩)] #[]) := f49
    subst y49
    have e49 := eval_of h49
    obtain ⟨y51, h51, f51⟩ := hd 8 51 (by decide) (by decide)
    replace f51 : y51 = (.int .u64 id) := f51
    subst y51
    have e51 := eval_of h51
    have he := enters_ (P := Try.prog) Try.func21 (by kernel_rfl) rfl #[.pointer (some ⟨pb, 0, none⟩), .int .u64 id] w
    refine call_ 21 #[.pointer (some ⟨pb, 0, none⟩), .int .u64 id] rfl rfl ?_ ?_
    · clear hd hs hK hoff hG hst
      clear e49 e51
      go_simp
    · refine (times_calls id w (hst w hG.2.1 hG.2.2.2.1 (hG.2.2.2.2.1 (hoff 11 (by decide) (by decide)))) hid).mono ?_
      rintro e w' ⟨rfl, rfl⟩
      exact ⟨_, rfl, hK _ _ rfl rfl⟩
  case s10 =>
    refine ⟨_, rfl, fun b a w hG hb hoff hd hs K hK => ?_⟩
    obtain ⟨y52, h52, f52⟩ := hd 9 52 (by decide) (by decide)
    replace f52 : y52 = (.int .i64 (times id)) := f52
    subst y52
    have e52 := eval_of h52
    refine value_ (v := (.int .i64 (times id + 1))) rfl rfl ?_ (hK _ _ rfl rfl)
    have hw : IntKind.i64.wrap (times id + 1) = times id + 1 := IntWalk.i64_in _ (by omega)
    clear hG
    clear hd hs hK hoff
    clear e52
    go_simp
  case s11 =>
    refine ⟨_, rfl, fun b a w hG hb hoff hd hs K hK => ?_⟩
    obtain ⟨y46, h46, f46⟩ := hd 3 46 (by decide) (by decide)
    replace f46 : y46 = (.map (some mb)) := f46
    subst y46
    have e46 := eval_of h46
    obtain ⟨y48, h48, f48⟩ := hd 5 48 (by decide) (by decide)
    replace f48 : y48 = (.int .u64 id) := f48
    subst y48
    have e48 := eval_of h48
    obtain ⟨y53, h53, f53⟩ := hd 10 53 (by decide) (by decide)
    replace f53 : y53 = (.int .i64 (times id + 1)) := f53
    subst y53
    have e53 := eval_of h53
    obtain ⟨w', hrun, hown, hg⟩ := World.ownsMap.update (hG.2.2.2.2.1 hb) law23 Try.underlying98 (by unfold maxLen; omega) (keyOf_int_mk Try.underlying23 hid) (plainElem_int Try.underlying3 (a := times id + 1) (WalkArith.wf_i64 (by omega)))
    refine skip_ (w1 := w') rfl rfl ?_ (hK undef _ hg hown)
    clear hd hs hK hoff hG hg hown hst
    clear e46 e48 e53
    go_simp
  case hend =>
    intro b v w hb hG hv
    have f0 := hv 0 (by decide)
    have f1 := hv 1 (by decide)
    have f2 := hv 2 (by decide)
    have f3 := hv 3 (by decide)
    have f4 := hv 4 (by decide)
    have f5 := hv 5 (by decide)
    have f6 := hv 6 (by decide)
    have f7 := hv 7 (by decide)
    have f8 := hv 8 (by decide)
    have f9 := hv 9 (by decide)
    have f10 := hv 10 (by decide)
    have f11 := hv 11 (by decide)
    have := hend (v 11) w b hb hG f11
    have g0 : v 0 = (.pointer (some ⟨pb, 0, none⟩)) := f0
    have g1 : v 1 = (.pointer (some ⟨pb, 0, none⟩)) := f1
    have g2 : v 2 = (.pointer (some ⟨pb, 1, none⟩)) := f2
    have g3 : v 3 = (.map (some mb)) := f3
    have g4 : v 4 = (.pointer (some ⟨gb, 0, none⟩)) := f4
    have g5 : v 5 = (.int .u64 id) := f5
    have g6 : v 6 = (.func (.func 21) #[.pointer (some ⟨pb, 0, none⟩)] #[]) := f6
    have g7 : v 7 = (.pointer (some ⟨gb, 0, none⟩)) := f7
    have g8 : v 8 = (.int .u64 id) := f8
    have g9 : v 9 = (.int .i64 (times id)) := f9
    have g10 : v 10 = (.int .i64 (times id + 1)) := f10
    have e : (r23x9.L.map fun e => (e.2, v e.1)) = [(43, (.pointer (some ⟨pb, 0, none⟩))), (44, (.pointer (some ⟨pb, 0, none⟩))), (45, (.pointer (some ⟨pb, 1, none⟩))), (46, (.map (some mb))), (47, (.pointer (some ⟨gb, 0, none⟩))), (48, (.int .u64 id)), (49, (.func (.func 21) #[.pointer (some ⟨pb, 0, none⟩)] #[])), (50, (.pointer (some ⟨gb, 0, none⟩))), (51, (.int .u64 id)), (52, (.int .i64 (times id))), (53, (.int .i64 (times id + 1)))] := by
      simp only [r23x9.L, List.map_cons, List.map_nil, g0, g1, g2, g3, g4, g5, g6, g7, g8, g9, g10]
    rw [e]
    exact this

end Go.Proofs.Ytbjbejjieibldaa.Pa
