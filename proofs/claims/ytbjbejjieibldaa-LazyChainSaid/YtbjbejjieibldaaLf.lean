/- Tables: the region of open order in Rows. -/
import Derived.Test.YtbjbejjieibldaaLe
namespace Go.Proofs.Ytbjbejjieibldaa.La
open Go.RowKit Go.Proofs.YtbjbejjieibldaaW.PrintWords Go.Proofs.YtbjbejjieibldaaW.PrintLast Go.Proofs.YtbjbejjieibldaaW.PrintMore Go.Proofs.Ytbjbejjieibldaa.Rg
open Go.Proofs.Ytbjbejjieibldaa
set_option linter.unusedVariables false
set_option linter.unusedSimpArgs false

/-- A pointer to a block. -/
abbrev PB (b : Nat) : Value := .pointer (some ⟨b, 0, none⟩)
def kp : Kd Nat := Kd.scalar PB (fun _ => rfl)
theorem info106 : (Try.prog.info? 106).map (fun i => (i.zero, i.size, i.bytes)) = some (some (.pointer none), 1, 8) := by kernel_rfl
abbrev FV (g5 g3 g6 : Nat) : Value := .func (.func 100) #[] #[PB g5, PB g3, PB g6]
theorem repsP (x : Nat) (w : World) (base : Nat) (ok : Nat → Prop) : Reps (kp.M w base ok) kp.sz [x] [PB x] := by
  have := Reps.snoc (Reps.none (kp.M w base ok) kp.sz) (show kp.M w base ok x [PB x] from rfl) rfl
  simpa using this

/-! ### region 7 of function 67 -/
def r67x7.T : Bool × List (List Nat × List Nat) := (true, [([], []), ([], []), ([1], [1]), ([2], [2]), ([3], [3]), ([], []), ([5], [5]), ([6], [6]), ([4, 7, 6], [4, 7]), ([0, 0, 1, 2, 3, 4, 5, 6, 7, 8], [0]), ([9, 0, 1, 2, 3, 4, 5, 6, 7, 8], [9]), ([10, 8, 8, 0, 1, 2, 3, 4, 5, 6, 7, 8], [8, 10])])
def r67x7.B : List Nat := [0, 0, 2, 6, 14, 0, 32, 96, 254, 511, 1023, 2047]
def r67x7.L : List (Nat × Tmp) := [(0, 20), (1, 21), (2, 22), (3, 23), (4, 24), (5, 25), (6, 26), (7, 27), (8, 28), (9, 29), (10, 30)]
theorem r67x7.tab : rtab .any (opsOf Try.f67 7) = r67x7.T := by kernel_rfl
theorem r67x7.bits : waitsOk r67x7.T.2 r67x7.B = true := by kernel_rfl
theorem r67x7.base : baseOk r67x7.T.2 (List.range 12) = true := by kernel_rfl
theorem r67x7.okl : okL (opsOf Try.f67 7) r67x7.L 33 = true := by kernel_rfl
def r67x7.F (tb g5 g3 g6 : Nat) (A : Option Addr) (c : Nat) (cbs : List Nat) (made : Int) (base : Nat) (okr : Nat → Prop) (W : World) (i : Nat) : Value → World → Prop := match i with
  | 0 => fun v _ => v = (.pointer (some ⟨tb, 0, none⟩))
  | 1 => fun v _ => v = (.pointer (some ⟨tb, 0, none⟩))
  | 2 => fun v _ => v = (.pointer (some ⟨tb, 0, none⟩))
  | 3 => fun v _ => v = (.pointer (some ⟨tb, 0, none⟩))
  | 4 => fun v _ => v = (.slice A cbs.length c)
  | 5 => fun v _ => v = (FV g5 g3 g6)
  | 6 => fun v w => ∃ cb, v = PB cb ∧ W.heap.size ≤ cb ∧ w.heap[cb]? = some (CB 126 0 0 0 0 (FV g5 g3 g6) (.int .i64 0))
  | 7 => fun v w => ∃ cb, Kd.R kp 106 w base (fun k => W.heap.size ≤ k ∧ k ≠ cb) v [cb] ∧ W.heap.size ≤ cb ∧ w.heap[cb]? = some (CB 126 0 0 0 0 (FV g5 g3 g6) (.int .i64 0))
  | 8 => fun v w => ∃ cb, Kd.R kp 106 w base (fun k => okr k ∨ (W.heap.size ≤ k ∧ k ≠ cb)) v (cbs ++ [cb]) ∧ W.heap.size ≤ cb ∧ w.heap[cb]? = some (CB 126 0 0 0 0 (FV g5 g3 g6) (.int .i64 0))
  | 9 => fun v _ => v = (.pointer (some ⟨tb, 0, none⟩))
  | 10 => fun v _ => v = (.pointer (some ⟨tb, 0, none⟩))
  | 11 => fun v w => ∃ cb, w.heap[tb]? = some (.cells #[v, .int .i64 made] 162 (0, 0)) ∧ Kd.R kp 106 w base (fun k => okr k ∨ (W.heap.size ≤ k ∧ k ≠ cb)) v (cbs ++ [cb]) ∧ W.heap.size ≤ cb ∧ w.heap[cb]? = some (CB 126 0 0 0 0 (FV g5 g3 g6) (.int .i64 0))
  | _ => fun _ _ => True
def r67x7.St (tb g5 g3 g6 : Nat) (A : Option Addr) (c : Nat) (cbs : List Nat) (made : Int) (base : Nat) (okr : Nat → Prop) (W : World) (i : Nat) : World → World → Prop := match i with
  | 6 => fun w w' => Below w.heap.size w w'
  | 7 => fun w w' => Below w.heap.size w w'
  | 8 => fun w w' => w.grownBy w' (Value.ownBlock (.slice A cbs.length c))
  | 11 => fun w w' => ∃ u, w' = w.setCell ⟨tb, 0, none⟩ u
  | _ => fun w w' => w' = w
def r67x7.G (tb g5 g3 g6 : Nat) (A : Option Addr) (c : Nat) (cbs : List Nat) (made : Int) (base : Nat) (okr : Nat → Prop) (W : World) : (Nat → Bool) → World → Prop := fun b w => Kept W w (fun k => k = tb ∨ some k = Value.ownBlock (.slice A cbs.length c)) ∧ w.heap[g5]? = some (.cells #[PB tb] 127 (0, 0)) ∧ (b 11 = false → w.heap[tb]? = some (.cells #[(.slice A cbs.length c), .int .i64 made] 162 (0, 0))) ∧ (b 8 = false → Kd.R kp 106 w base okr (.slice A cbs.length c) cbs) ∧ Below base W w
set_option maxHeartbeats 4000000 in
set_option maxRecDepth 100000 in
theorem r67x7 (tb g5 g3 g6 : Nat) (A : Option Addr) (c : Nat) (cbs : List Nat) (made : Int) (base : Nat) (okr : Nat → Prop) (W : World) (hbase0 : base ≤ W.heap.size) (htl : tb < W.heap.size) (hbt : base ≤ tb) (h5t : g5 ≠ tb) (hv0 : ∀ k, Value.ownBlock (.slice A cbs.length c) = some k → k < W.heap.size ∧ base ≤ k ∧ k ≠ tb ∧ k ≠ g5) (hot : ¬ okr tb) (hcl : cbs.length ≤ 100000) {Q : Exit → Act → World → Prop} {a0 : Act} {w0 : World} (hz : a0.tmps.size = 33) (z3 : a0.tmps[3]? = some (.pointer (some ⟨g3, 0, none⟩))) (z5 : a0.tmps[5]? = some (.pointer (some ⟨g5, 0, none⟩))) (z6 : a0.tmps[6]? = some (.pointer (some ⟨g6, 0, none⟩))) (hG0 : (r67x7.G tb g5 g3 g6 A c cbs made base okr W) (fun _ => false) w0.drew)
    (hend : ∀ (v26 : Value) (v27 : Value) (v28 : Value) (v11 : Value) (w : World) (b : Nat → Bool), (∀ i, i < 12 → b i = true) → (r67x7.G tb g5 g3 g6 A c cbs made base okr W) b w → r67x7.F tb g5 g3 g6 A c cbs made base okr W 6 v26 w → r67x7.F tb g5 g3 g6 A c cbs made base okr W 7 v27 w → r67x7.F tb g5 g3 g6 A c cbs made base okr W 8 v28 w → r67x7.F tb g5 g3 g6 A c cbs made base okr W 11 v11 w → Q .normal (putAll a0 [(20, (.pointer (some ⟨tb, 0, none⟩))), (21, (.pointer (some ⟨tb, 0, none⟩))), (22, (.pointer (some ⟨tb, 0, none⟩))), (23, (.pointer (some ⟨tb, 0, none⟩))), (24, (.slice A cbs.length c)), (25, (FV g5 g3 g6)), (26, v26), (27, v27), (28, v28), (29, (.pointer (some ⟨tb, 0, none⟩))), (30, (.pointer (some ⟨tb, 0, none⟩)))]) w) :
    (Code.region 7 (opsOf Try.f67 7) true).wp Try.prog Q a0 w0 := by
  refine region_lit (ops' := #[_, _, _, _, _, _, _, _, _, _, _, _]) rfl ?_
  refine region_facts (n := 12) (T := r67x7.T) (B := r67x7.B) r67x7.L (r67x7.G tb g5 g3 g6 A c cbs made base okr W) (r67x7.St tb g5 g3 g6 A c cbs made base okr W) (r67x7.F tb g5 g3 g6 A c cbs made base okr W) (by kernel_rfl) (by kernel_rfl) r67x7.tab r67x7.bits r67x7.base (by rw [hz]; exact r67x7.okl) hG0 ?hSt ?hF ((all_cons ?s0 (all_cons ?s1 (all_cons ?s2 (all_cons ?s3 (all_cons ?s4 (all_cons ?s5 (all_cons ?s6 (all_cons ?s7 (all_cons ?s8 (all_cons ?s9 (all_cons ?s10 (all_cons ?s11 all_nil))))))))))))) ?hend
  case hSt =>
    intro i b w w' hi hb hoff hG hst
    match i, hi, hb, hoff, hst with
    | 0, _, hb, hoff, hst =>
      obtain rfl : w' = w := hst
      obtain ⟨hk, h5, ht, hr, hbl⟩ := hG
      exact ⟨hk, h5, fun h => ht (by rw [up_ne (by decide)] at h; exact h), fun h => hr (by rw [up_ne (by decide)] at h; exact h), hbl⟩
    | 1, _, hb, hoff, hst =>
      obtain rfl : w' = w := hst
      obtain ⟨hk, h5, ht, hr, hbl⟩ := hG
      exact ⟨hk, h5, fun h => ht (by rw [up_ne (by decide)] at h; exact h), fun h => hr (by rw [up_ne (by decide)] at h; exact h), hbl⟩
    | 2, _, hb, hoff, hst =>
      obtain rfl : w' = w := hst
      obtain ⟨hk, h5, ht, hr, hbl⟩ := hG
      exact ⟨hk, h5, fun h => ht (by rw [up_ne (by decide)] at h; exact h), fun h => hr (by rw [up_ne (by decide)] at h; exact h), hbl⟩
    | 3, _, hb, hoff, hst =>
      obtain rfl : w' = w := hst
      obtain ⟨hk, h5, ht, hr, hbl⟩ := hG
      exact ⟨hk, h5, fun h => ht (by rw [up_ne (by decide)] at h; exact h), fun h => hr (by rw [up_ne (by decide)] at h; exact h), hbl⟩
    | 4, _, hb, hoff, hst =>
      obtain rfl : w' = w := hst
      obtain ⟨hk, h5, ht, hr, hbl⟩ := hG
      exact ⟨hk, h5, fun h => ht (by rw [up_ne (by decide)] at h; exact h), fun h => hr (by rw [up_ne (by decide)] at h; exact h), hbl⟩
    | 5, _, hb, hoff, hst =>
      obtain rfl : w' = w := hst
      obtain ⟨hk, h5, ht, hr, hbl⟩ := hG
      exact ⟨hk, h5, fun h => ht (by rw [up_ne (by decide)] at h; exact h), fun h => hr (by rw [up_ne (by decide)] at h; exact h), hbl⟩
    | 6, _, hb, hoff, hst =>
      obtain ⟨hk, h5, ht, hr, hbl⟩ := hG
      have hst' : Below w.heap.size w w' := hst
      exact ⟨hk.below hst', blk_below h5 hst', fun h => blk_below (ht (by rw [up_ne (by decide)] at h; exact h)) hst', fun h => Kd.R_below (hr (by rw [up_ne (by decide)] at h; exact h)) hst', below_then hbl (Nat.le_trans hbase0 hk.1) hst'⟩
    | 7, _, hb, hoff, hst =>
      obtain ⟨hk, h5, ht, hr, hbl⟩ := hG
      have hst' : Below w.heap.size w w' := hst
      exact ⟨hk.below hst', blk_below h5 hst', fun h => blk_below (ht (by rw [up_ne (by decide)] at h; exact h)) hst', fun h => Kd.R_below (hr (by rw [up_ne (by decide)] at h; exact h)) hst', below_then hbl (Nat.le_trans hbase0 hk.1) hst'⟩
    | 8, _, hb, hoff, hst =>
      obtain ⟨hk, h5, ht, hr, hbl⟩ := hG
      have hst' : w.grownBy w' (Value.ownBlock (.slice A cbs.length c)) := hst
      refine ⟨Kept.of_grown hst' hk (fun k hk => .inl (.inr hk.symm)), blk_grown h5 hst' (fun e => (hv0 g5 e.symm).2.2.2 rfl), fun h => blk_grown (ht (by rw [up_ne (by decide)] at h; exact h)) hst' (fun e => (hv0 tb e.symm).2.2.1 rfl), fun h => ?_, hbl.grown hst' (Nat.le_trans hbase0 hk.1) (fun k hk => (hv0 k hk).2.1)⟩
      rw [up_self] at h; cases h
    | 9, _, hb, hoff, hst =>
      obtain rfl : w' = w := hst
      obtain ⟨hk, h5, ht, hr, hbl⟩ := hG
      exact ⟨hk, h5, fun h => ht (by rw [up_ne (by decide)] at h; exact h), fun h => hr (by rw [up_ne (by decide)] at h; exact h), hbl⟩
    | 10, _, hb, hoff, hst =>
      obtain rfl : w' = w := hst
      obtain ⟨hk, h5, ht, hr, hbl⟩ := hG
      exact ⟨hk, h5, fun h => ht (by rw [up_ne (by decide)] at h; exact h), fun h => hr (by rw [up_ne (by decide)] at h; exact h), hbl⟩
    | 11, _, hb, hoff, hst =>
      obtain ⟨hk, h5, ht, hr, hbl⟩ := hG
      obtain ⟨u, rfl⟩ : ∃ u, w' = w.setCell ⟨tb, 0, none⟩ u := hst
      refine ⟨hk.setCell (p := ⟨tb, 0, none⟩) (.inl (.inl rfl)) u, blk_far h5 (by exact h5t) u, fun h => ?_, fun h => Kd.R_far (p := ⟨tb, 0, none⟩) (hr (by rw [up_ne (by decide)] at h; exact h)) (fun k hk e => hot (by have e : k = tb := e; exact e ▸ hk)) u, hbl.setCell (p := ⟨tb, 0, none⟩) hbt u⟩
      rw [up_self] at h; cases h
    | i + 12, hi, _, _, _ => exact absurd hi (by omega)
  case hF =>
    intro i j b v w w' hij hi hj hb hbj hoff hG hst hf
    match i, hi, hij, hb, hoff, hst with
    | 0, _, hij, hb, hoff, hst =>
      obtain rfl : w' = w := hst
      exact hf
    | 1, _, hij, hb, hoff, hst =>
      obtain rfl : w' = w := hst
      exact hf
    | 2, _, hij, hb, hoff, hst =>
      obtain rfl : w' = w := hst
      exact hf
    | 3, _, hij, hb, hoff, hst =>
      obtain rfl : w' = w := hst
      exact hf
    | 4, _, hij, hb, hoff, hst =>
      obtain rfl : w' = w := hst
      exact hf
    | 5, _, hij, hb, hoff, hst =>
      obtain rfl : w' = w := hst
      exact hf
    | 6, _, hij, hb, hoff, hst =>
      match j, hj, hij, hbj, hf with
      | 0, _, hij, hbj, hf => 
        exact hf
      | 1, _, hij, hbj, hf => 
        exact hf
      | 2, _, hij, hbj, hf => 
        exact hf
      | 3, _, hij, hbj, hf => 
        exact hf
      | 4, _, hij, hbj, hf => 
        exact hf
      | 5, _, hij, hbj, hf => 
        exact hf
      | 6, _, hij, hbj, hf => exact absurd rfl hij
      | 7, _, hij, hbj, hf => exact absurd hbj (by rw [hoff 7 (by decide) (by decide)]; decide)
      | 8, _, hij, hbj, hf => exact absurd hbj (by rw [hoff 8 (by decide) (by decide)]; decide)
      | 9, _, hij, hbj, hf => exact absurd hbj (by rw [hoff 9 (by decide) (by decide)]; decide)
      | 10, _, hij, hbj, hf => exact absurd hbj (by rw [hoff 10 (by decide) (by decide)]; decide)
      | 11, _, hij, hbj, hf => exact absurd hbj (by rw [hoff 11 (by decide) (by decide)]; decide)
      | j + 12, hj, _, _, _ => exact absurd hj (by omega)
    | 7, _, hij, hb, hoff, hst =>
      match j, hj, hij, hbj, hf with
      | 0, _, hij, hbj, hf => 
        exact hf
      | 1, _, hij, hbj, hf => 
        exact hf
      | 2, _, hij, hbj, hf => 
        exact hf
      | 3, _, hij, hbj, hf => 
        exact hf
      | 4, _, hij, hbj, hf => 
        exact hf
      | 5, _, hij, hbj, hf => 
        exact hf
      | 6, _, hij, hbj, hf => 
        obtain ⟨cb, a, b2, c2⟩ := hf
        exact ⟨cb, a, b2, blk_below c2 hst⟩
      | 7, _, hij, hbj, hf => exact absurd rfl hij
      | 8, _, hij, hbj, hf => exact absurd hbj (by rw [hoff 8 (by decide) (by decide)]; decide)
      | 9, _, hij, hbj, hf => exact absurd hbj (by rw [hoff 9 (by decide) (by decide)]; decide)
      | 10, _, hij, hbj, hf => exact absurd hbj (by rw [hoff 10 (by decide) (by decide)]; decide)
      | 11, _, hij, hbj, hf => exact absurd hbj (by rw [hoff 11 (by decide) (by decide)]; decide)
      | j + 12, hj, _, _, _ => exact absurd hj (by omega)
    | 8, _, hij, hb, hoff, hst =>
      match j, hj, hij, hbj, hf with
      | 0, _, hij, hbj, hf => 
        exact hf
      | 1, _, hij, hbj, hf => 
        exact hf
      | 2, _, hij, hbj, hf => 
        exact hf
      | 3, _, hij, hbj, hf => 
        exact hf
      | 4, _, hij, hbj, hf => 
        exact hf
      | 5, _, hij, hbj, hf => 
        exact hf
      | 6, _, hij, hbj, hf => 
        obtain ⟨cb, a, b2, c2⟩ := hf
        exact ⟨cb, a, b2, blk_grown c2 hst (fun e => by have := (hv0 cb e.symm).1; omega)⟩
      | 7, _, hij, hbj, hf => 
        obtain ⟨cb, a, b2, c2⟩ := hf
        exact ⟨cb, Kd.R_grown a hst (fun k hk e => by have := (hv0 k e.symm).1; have := hk.1; omega), b2, blk_grown c2 hst (fun e => by have := (hv0 cb e.symm).1; omega)⟩
      | 8, _, hij, hbj, hf => exact absurd rfl hij
      | 9, _, hij, hbj, hf => exact absurd hbj (by rw [hoff 9 (by decide) (by decide)]; decide)
      | 10, _, hij, hbj, hf => exact absurd hbj (by rw [hoff 10 (by decide) (by decide)]; decide)
      | 11, _, hij, hbj, hf => exact absurd hbj (by rw [hoff 11 (by decide) (by decide)]; decide)
      | j + 12, hj, _, _, _ => exact absurd hj (by omega)
    | 9, _, hij, hb, hoff, hst =>
      obtain rfl : w' = w := hst
      exact hf
    | 10, _, hij, hb, hoff, hst =>
      obtain rfl : w' = w := hst
      exact hf
    | 11, _, hij, hb, hoff, hst =>
      match j, hj, hij, hbj, hf with
      | 0, _, hij, hbj, hf => 
        exact hf
      | 1, _, hij, hbj, hf => 
        exact hf
      | 2, _, hij, hbj, hf => 
        exact hf
      | 3, _, hij, hbj, hf => 
        exact hf
      | 4, _, hij, hbj, hf => 
        exact hf
      | 5, _, hij, hbj, hf => 
        exact hf
      | 6, _, hij, hbj, hf => 
        obtain ⟨u, rfl⟩ : ∃ u, w' = w.setCell ⟨tb, 0, none⟩ u := hst
        obtain ⟨cb, a, b2, c2⟩ := hf
        exact ⟨cb, a, b2, blk_far c2 (by show cb ≠ tb; omega) u⟩
      | 7, _, hij, hbj, hf => 
        obtain ⟨u, rfl⟩ : ∃ u, w' = w.setCell ⟨tb, 0, none⟩ u := hst
        obtain ⟨cb, a, b2, c2⟩ := hf
        exact ⟨cb, Kd.R_far (p := ⟨tb, 0, none⟩) a (fun k hk e => by have e : k = tb := e; have := hk.1; omega) u, b2, blk_far c2 (by show cb ≠ tb; omega) u⟩
      | 8, _, hij, hbj, hf => 
        obtain ⟨u, rfl⟩ : ∃ u, w' = w.setCell ⟨tb, 0, none⟩ u := hst
        obtain ⟨cb, a, b2, c2⟩ := hf
        exact ⟨cb, Kd.R_far (p := ⟨tb, 0, none⟩) a (fun k hk e => by have e : k = tb := e; rcases hk with h | h; (exact hot (e ▸ h)); have := h.1; omega) u, b2, blk_far c2 (by show cb ≠ tb; omega) u⟩
      | 9, _, hij, hbj, hf => 
        exact hf
      | 10, _, hij, hbj, hf => 
        exact hf
      | 11, _, hij, hbj, hf => exact absurd rfl hij
      | j + 12, hj, _, _, _ => exact absurd hj (by omega)
    | i + 12, hi, _, _, _, _ => exact absurd hi (by omega)
  case s0 =>
    refine ⟨_, rfl, fun b a w hG hb hoff hd hs K hK => ?_⟩
    have h5 := (hs 5 (by decide)).trans z5
    have e5 := eval_of h5
    refine value_ (v := (.pointer (some ⟨tb, 0, none⟩))) rfl rfl ?_ (hK _ _ rfl rfl)
    have hc := (blk_cell hG.2.1 0).trans rfl
    clear hG
    clear hd hs hK hoff
    clear e5
    go_simp
  case s1 =>
    refine ⟨_, rfl, fun b a w hG hb hoff hd hs K hK => ?_⟩
    have h5 := (hs 5 (by decide)).trans z5
    have e5 := eval_of h5
    refine value_ (v := (.pointer (some ⟨tb, 0, none⟩))) rfl rfl ?_ (hK _ _ rfl rfl)
    have hc := (blk_cell hG.2.1 0).trans rfl
    clear hG
    clear hd hs hK hoff
    clear e5
    go_simp
  case s2 =>
    refine ⟨_, rfl, fun b a w hG hb hoff hd hs K hK => ?_⟩
    obtain ⟨y21, h21, f21⟩ := hd 1 21 (by decide) (by decide)
    replace f21 : y21 = (.pointer (some ⟨tb, 0, none⟩)) := f21
    subst y21
    have e21 := eval_of h21
    refine value_ (v := (.pointer (some ⟨tb, 0, none⟩))) rfl rfl ?_ (hK _ _ rfl rfl)
    clear hd hs hK hoff
    clear e21
    go_simp
  case s3 =>
    refine ⟨_, rfl, fun b a w hG hb hoff hd hs K hK => ?_⟩
    obtain ⟨y22, h22, f22⟩ := hd 2 22 (by decide) (by decide)
    replace f22 : y22 = (.pointer (some ⟨tb, 0, none⟩)) := f22
    subst y22
    have e22 := eval_of h22
    refine value_ (v := (.pointer (some ⟨tb, 0, none⟩))) rfl rfl ?_ (hK _ _ rfl rfl)
    clear hd hs hK hoff
    clear e22
    go_simp
  case s4 =>
    refine ⟨_, rfl, fun b a w hG hb hoff hd hs K hK => ?_⟩
    obtain ⟨y23, h23, f23⟩ := hd 3 23 (by decide) (by decide)
    replace f23 : y23 = (.pointer (some ⟨tb, 0, none⟩)) := f23
    subst y23
    have e23 := eval_of h23
    refine value_ (v := (.slice A cbs.length c)) rfl rfl ?_ (hK _ _ rfl rfl)
    have hc := (blk_cell (hG.2.2.1 (hoff 11 (by decide) (by decide))) 0).trans rfl
    clear hG
    clear hd hs hK hoff
    clear e23
    go_simp
  case s5 =>
    refine ⟨_, rfl, fun b a w hG hb hoff hd hs K hK => ?_⟩
    have h3 := (hs 3 (by decide)).trans z3
    have e3 := eval_of h3
    have h5 := (hs 5 (by decide)).trans z5
    have e5 := eval_of h5
    have h6 := (hs 6 (by decide)).trans z6
    have e6 := eval_of h6
    refine value_ (v := (FV g5 g3 g6)) rfl rfl ?_ (hK _ _ rfl rfl)
    have hm := hmf
    clear hG
    clear hd hs hK hoff
    clear e3
    clear e5
    clear e6
    go_simp
  case s6 =>
    refine ⟨_, rfl, fun b a w hG hb hoff hd hs K hK => ?_⟩
    obtain ⟨y25, h25, f25⟩ := hd 5 25 (by decide) (by decide)
    replace f25 : y25 = (FV g5 g3 g6) := f25
    subst y25
    have e25 := eval_of h25
    obtain ⟨hk, h5, ht, hr, hbl⟩ := hG
    have hle := hk.1
    refine goes_ Try.func56 (by kernel_rfl) rfl #[FV g5 g3 g6] rfl rfl rfl (by simp [e25]) ?_
    refine (newFunIn _ _ _ w).mono ?_
    rintro e w' ⟨cb, rfl, hcb, hc, hb2⟩
    exact ⟨_, rfl, hK _ _ hb2 ⟨cb, rfl, by omega, hc⟩⟩
  case s7 =>
    refine ⟨_, rfl, fun b a w hG hb hoff hd hs K hK => ?_⟩
    obtain ⟨v26, h26, f26⟩ := hd 6 26 (by decide) (by decide)
    have e26 := eval_of h26
    obtain ⟨cb, hv, hcb, hcc⟩ := f26
    subst hv
    obtain ⟨hk, h5, ht, hr, hbl⟩ := hG
    have hbase : base ≤ w.heap.size := Nat.le_trans hbase0 hk.1
    have hlt := blk_lt hcc
    have hle := hk.1
    refine Kd.R_lit_step kp (w0 := w) base 106 rfl (N := 27) rfl (xs := [cb]) (inner := [PB cb]) (ok := fun k => W.heap.size ≤ k ∧ k ≠ cb) (okp := fun _ => False) ?hr (repsP cb w base _) (fun _ h => h.elim) ⟨hle, by omega⟩ (Below.refl _ _) hbase (by simp) (fun v1 w1 ho hb1 hg hn => ?_)
    case hr => clear hd hs hK hoff hk h5 ht hr hbl; (first | (go_simp; done) | (go_simp; rfl))
    exact hK _ _ (below_of_grown hg) ⟨cb, ho, hcb, blk_below hcc (below_of_grown hg)⟩
  case s8 =>
    refine ⟨_, rfl, fun b a w hG hb hoff hd hs K hK => ?_⟩
    obtain ⟨y24, h24, f24⟩ := hd 4 24 (by decide) (by decide)
    replace f24 : y24 = (.slice A cbs.length c) := f24
    subst y24
    have e24 := eval_of h24
    obtain ⟨v27, h27, f27⟩ := hd 7 27 (by decide) (by decide)
    have e27 := eval_of h27
    obtain ⟨cb, hrow, hcb, hcc⟩ := f27
    obtain ⟨hk, h5, ht, hr, hbl⟩ := hG
    have hbase : base ≤ w.heap.size := Nat.le_trans hbase0 hk.1
    have hlt := blk_lt hcc
    have hle := hk.1
    obtain ⟨A3, c3, e3, hl3, hr3⟩ := Kd.R_reads hrow
    refine Kd.R_append_rows_step kp (w0 := w) base rfl (.tmp 24) (.tmp 27) 105 106 (.pointer none) 8 rfl Try.underlying105 info106 rfl (by decide) (by omega) (.slice A cbs.length c) cbs [cb] A3 1 c3 (fun k => okr k ∨ (W.heap.size ≤ k ∧ k ≠ cb)) (fun _ => False) e24 (e27.trans e3) (Kd.R_mono (hr hb) (fun k hk => .inl hk)) hr3 (fun _ _ h => h) (fun _ h => h.elim) (fun k hk => .inr ⟨Nat.le_trans hle hk, by omega⟩) (Below.refl _ _) hbase (by omega) (fun v1 w1 ho hb1 hg hat => ?_)
    exact hK _ _ hg ⟨cb, ho, hcb, blk_grown hcc hg (fun e => by have := (hv0 cb e.symm).1; omega)⟩
  case s9 =>
    refine ⟨_, rfl, fun b a w hG hb hoff hd hs K hK => ?_⟩
    obtain ⟨y20, h20, f20⟩ := hd 0 20 (by decide) (by decide)
    replace f20 : y20 = (.pointer (some ⟨tb, 0, none⟩)) := f20
    subst y20
    have e20 := eval_of h20
    refine value_ (v := (.pointer (some ⟨tb, 0, none⟩))) rfl rfl ?_ (hK _ _ rfl rfl)
    clear hd hs hK hoff
    clear e20
    go_simp
  case s10 =>
    refine ⟨_, rfl, fun b a w hG hb hoff hd hs K hK => ?_⟩
    obtain ⟨y29, h29, f29⟩ := hd 9 29 (by decide) (by decide)
    replace f29 : y29 = (.pointer (some ⟨tb, 0, none⟩)) := f29
    subst y29
    have e29 := eval_of h29
    refine value_ (v := (.pointer (some ⟨tb, 0, none⟩))) rfl rfl ?_ (hK _ _ rfl rfl)
    clear hd hs hK hoff
    clear e29
    go_simp
  case s11 =>
    refine ⟨_, rfl, fun b a w hG hb hoff hd hs K hK => ?_⟩
    obtain ⟨v28, h28, f28⟩ := hd 8 28 (by decide) (by decide)
    have e28 := eval_of h28
    obtain ⟨y30, h30, f30⟩ := hd 10 30 (by decide) (by decide)
    replace f30 : y30 = (.pointer (some ⟨tb, 0, none⟩)) := f30
    subst y30
    have e30 := eval_of h30
    obtain ⟨cb, hrow, hcb, hcc⟩ := f28
    obtain ⟨hk, h5, ht, hr, hbl⟩ := hG
    obtain ⟨A4, c4, hv, _, _⟩ := Kd.R_reads hrow
    have htt := ht hb
    have hc := (blk_cell htt 0).trans rfl
    have hz := blk_frozen htt 0
    subst hv
    refine skip_ (w1 := w.setCell ⟨tb, 0, none⟩ (.slice A4 (cbs ++ [cb]).length c4)) rfl rfl ?_ (hK (.slice A4 (cbs ++ [cb]).length c4) _ ⟨_, rfl⟩ ⟨cb, ?_, ?_, hcb, ?_⟩)
    · clear hd hs hK hoff hk h5 ht hr hbl hrow hcc htt
      go_simp
    · exact blk_set htt 0 _
    · exact Kd.R_far (p := ⟨tb, 0, none⟩) hrow (fun k hk e => by have e : k = tb := e; rcases hk with h | h; (exact hot (e ▸ h)); have := h.1; omega) _
    · exact blk_far hcc (by show cb ≠ tb; omega) _
  case hend =>
    intro b v w hb hG hv
    have f0 := hv 0 (by decide)
    have f1 := hv 1 (by decide)
    have f2 := hv 2 (by decide)
    have f3 := hv 3 (by decide)
    have f4 := hv 4 (by decide)
    have f5 := hv 5 (by decide)
    have f6 := hv 6 (by decide)
    have f7 := hv 7 (by decide)
    have f8 := hv 8 (by decide)
    have f9 := hv 9 (by decide)
    have f10 := hv 10 (by decide)
    have f11 := hv 11 (by decide)
    have := hend (v 6) (v 7) (v 8) (v 11) w b hb hG f6 f7 f8 f11
    have gv0 : v 0 = (.pointer (some ⟨tb, 0, none⟩)) := f0
    have gv1 : v 1 = (.pointer (some ⟨tb, 0, none⟩)) := f1
    have gv2 : v 2 = (.pointer (some ⟨tb, 0, none⟩)) := f2
    have gv3 : v 3 = (.pointer (some ⟨tb, 0, none⟩)) := f3
    have gv4 : v 4 = (.slice A cbs.length c) := f4
    have gv5 : v 5 = (FV g5 g3 g6) := f5
    have gv9 : v 9 = (.pointer (some ⟨tb, 0, none⟩)) := f9
    have gv10 : v 10 = (.pointer (some ⟨tb, 0, none⟩)) := f10
    have e : (r67x7.L.map fun e => (e.2, v e.1)) = [(20, (.pointer (some ⟨tb, 0, none⟩))), (21, (.pointer (some ⟨tb, 0, none⟩))), (22, (.pointer (some ⟨tb, 0, none⟩))), (23, (.pointer (some ⟨tb, 0, none⟩))), (24, (.slice A cbs.length c)), (25, (FV g5 g3 g6)), (26, v 6), (27, v 7), (28, v 8), (29, (.pointer (some ⟨tb, 0, none⟩))), (30, (.pointer (some ⟨tb, 0, none⟩)))] := by
      simp only [r67x7.L, List.map_cons, List.map_nil, gv0, gv1, gv2, gv3, gv4, gv5, gv9, gv10]
    rw [e]
    exact this

end Go.Proofs.Ytbjbejjieibldaa.La
