/- The reference's Hear, its argument's row only read: the region in which it appends. -/
import Derived.Test.YtbjbejjieibldaaPf
import Derived.Test.YtbjbejjieibldaaRh
namespace Go.Proofs.Ytbjbejjieibldaa.Pa
open Go.RowKit Go.Proofs.YtbjbejjieibldaaW.PrintWords Go.Proofs.YtbjbejjieibldaaW.PrintLast Go.Proofs.YtbjbejjieibldaaW.PrintMore Go.Maps Go.Proofs.Ytbjbejjieibldaa.Rg
open Go.Proofs.Ytbjbejjieibldaa
set_option linter.unusedVariables false
set_option linter.unusedSimpArgs false

/-- Own blocks apart. -/
def NeOwn (u v : Value) : Prop := ∀ k, u.ownBlock = some k → v.ownBlock ≠ some k
/-- A row of the call's own, its blocks new since W. -/
def NR (W w : World) (v : Value) (xs : List Int) : Prop := Kd.R (Kd.int .u64) 23 w W.heap.size (fun _ => True) v xs
theorem NR.lt {W w : World} {v : Value} {xs : List Int} (h : NR W w v xs) (k : Nat) (hk : v.ownBlock = some k) : W.heap.size ≤ k ∧ k < w.heap.size := by
  have := (Kd.R_bound h).1 k hk
  exact ⟨this.2.1, this.2.2.1⟩

/-- From W on: block xb alone written among W's, and nothing below base. -/
def KB (xb base : Nat) (W w : World) : Prop := Kept W w (fun k => k = xb) ∧ Below base W w ∧ base ≤ xb ∧ base ≤ W.heap.size
theorem KB.below {xb base : Nat} {W w w' : World} (h : KB xb base W w) (hb : Below w.heap.size w w') : KB xb base W w' := ⟨h.1.below hb, below_then h.2.1 (Nat.le_trans h.2.2.2 h.1.1) hb, h.2.2⟩
theorem KB.of_grown {xb base : Nat} {W w w' : World} {row : Option Nat} (hg : w.grownBy w' row) (h : KB xb base W w) (hr : ∀ k, row = some k → W.heap.size ≤ k) : KB xb base W w' :=
  ⟨Kept.of_grown hg h.1 (fun k hk => .inr (hr k hk)), h.2.1.grown hg (Nat.le_trans h.2.2.2 h.1.1) (fun k hk => Nat.le_trans h.2.2.2 (hr k hk)), h.2.2⟩
theorem KB.setCell {xb base : Nat} {W w : World} (h : KB xb base W w) (u : Value) : KB xb base W (w.setCell ⟨xb, 1, none⟩ u) :=
  ⟨h.1.setCell (p := ⟨xb, 1, none⟩) (.inl rfl) u, h.2.1.setCell (p := ⟨xb, 1, none⟩) h.2.2.1 u, h.2.2⟩
theorem below_W {W w : World} (h : W.heap.size ≤ w.heap.size) : Below W.heap.size w w := Below.refl _ _
theorem farN {W w : World} {v : Value} {xs : List Int} {xb : Nat} (h : NR W w v xs) (hx : xb < W.heap.size) (u : Value) : NR W (w.setCell ⟨xb, 1, none⟩ u) v xs :=
  Kd.R_mono (Kd.R_far (p := ⟨xb, 1, none⟩) (Kd.R_mono (Kd.R_bound h) (ok' := fun k => W.heap.size ≤ k) (fun k hk => hk.2.1)) (fun k hk e => by have hk : W.heap.size ≤ k := hk; have e : k = xb := e; omega) u) (fun _ _ => trivial)

/-! ### region 4 of function 72 -/
def r72x4.T : Bool × List (List Nat × List Nat) := (true, [([], []), ([], []), ([1], [1]), ([0, 2], [0, 2]), ([], []), ([4], [4]), ([5], [5]), ([3, 6, 3], [3, 6]), ([0, 1, 2, 3, 4, 5, 6, 7], []), ([8, 7, 7, 0, 1, 2, 3, 4, 5, 6, 7], [7, 8])])
def r72x4.B : List Nat := [0, 0, 2, 7, 0, 16, 48, 127, 255, 511]
def r72x4.L : List (Nat × Tmp) := [(0, 24), (1, 25), (2, 26), (3, 27), (4, 28), (5, 29), (6, 30), (7, 31), (8, 32)]
theorem r72x4.tab : rtab .any (opsOf Try.f72 4) = r72x4.T := by kernel_rfl
theorem r72x4.bits : waitsOk r72x4.T.2 r72x4.B = true := by kernel_rfl
theorem r72x4.base : baseOk r72x4.T.2 (List.range 10) = true := by kernel_rfl
theorem r72x4.okl : okL (opsOf Try.f72 4) r72x4.L 35 = true := by kernel_rfl
def r72x4.F (xb nb : Nat) (number id : Int) (A : Option Addr) (c : Nat) (l : List Int) (base : Nat) (W : World) (i : Nat) : Value → World → Prop := match i with
  | 0 => fun _ _ => True
  | 1 => fun v _ => v = (.pointer (some ⟨xb, 1, none⟩))
  | 2 => fun v _ => v = (.slice A l.length c)
  | 3 => fun _ _ => True
  | 4 => fun v _ => v = (.pointer (some ⟨nb, 0, none⟩))
  | 5 => fun v _ => v = (.int .u64 id)
  | 6 => fun _ _ => True
  | 7 => fun _ _ => True
  | 8 => fun v _ => v = (.pointer (some ⟨xb, 1, none⟩))
  | 9 => fun _ _ => True
  | _ => fun _ _ => True
def r72x4.St (xb nb : Nat) (number id : Int) (A : Option Addr) (c : Nat) (l : List Int) (base : Nat) (W : World) (i : Nat) : (Nat → Value) → World → World → Prop := match i with
  | 0 => fun _ _ _ => True
  | 3 => fun _ _ _ => True
  | 6 => fun _ _ _ => True
  | 7 => fun _ _ _ => True
  | 9 => fun _ _ _ => True
  | _ => fun _ w w' => w' = w
def r72x4.G (xb nb : Nat) (number id : Int) (A : Option Addr) (c : Nat) (l : List Int) (base : Nat) (W : World) : (Nat → Bool) → (Nat → Value) → World → Prop := fun b v w => KB xb base W w ∧ (b 9 = false → w.heap[xb]? = some (.cells #[.int .i64 number, .slice A l.length c] 29 (0, 0))) ∧ w.cell? ⟨nb, 0, none⟩ = some (.int .u64 id) ∧ (b 0 = true → b 3 = false → NR W w (v 0) []) ∧ (b 3 = true → b 7 = false → NR W w (v 3) l) ∧ (b 6 = true → b 7 = false → NR W w (v 6) [id]) ∧ (b 0 = true → b 3 = false → b 6 = true → NeOwn (v 0) (v 6)) ∧ (b 3 = true → b 7 = false → b 6 = true → NeOwn (v 3) (v 6)) ∧ (b 7 = true → NR W w (v 7) (l ++ [id])) ∧ (b 9 = true → w.heap[xb]? = some (.cells #[.int .i64 number, v 7] 29 (0, 0)))
set_option maxHeartbeats 4000000 in
set_option maxRecDepth 100000 in
theorem r72x4 (xb nb : Nat) (number id : Int) (A : Option Addr) (c : Nat) (l : List Int) (base : Nat) (W : World) (hxl : xb < W.heap.size) (hnl : nb < W.heap.size) (hxn : nb ≠ xb) (hll : l.length < 1000000) (hC : ∀ w, Kept W w (fun k => k = xb) → Kd.C (Kd.int .u64) w A l.length l) {Q : Exit → Act → World → Prop} {a0 : Act} {w0 : World} (hz : a0.tmps.size = 35) (z2 : a0.tmps[2]? = some (.pointer (some ⟨xb, 0, none⟩))) (z3 : a0.tmps[3]? = some (.pointer (some ⟨nb, 0, none⟩))) (hG0 : (r72x4.G xb nb number id A c l base W) (fun _ => false) (fun _ => undef) w0.drew)
    (hend : ∀ (v : Nat → Value) (w : World) (b : Nat → Bool), (∀ i, i < 10 → b i = true) → (r72x4.G xb nb number id A c l base W) b v w → r72x4.F xb nb number id A c l base W 0 (v 0) w → r72x4.F xb nb number id A c l base W 3 (v 3) w → r72x4.F xb nb number id A c l base W 6 (v 6) w → r72x4.F xb nb number id A c l base W 7 (v 7) w → r72x4.F xb nb number id A c l base W 9 (v 9) w → Q .normal (putAll a0 [(24, v 0), (25, (.pointer (some ⟨xb, 1, none⟩))), (26, (.slice A l.length c)), (27, v 3), (28, (.pointer (some ⟨nb, 0, none⟩))), (29, (.int .u64 id)), (30, v 6), (31, v 7), (32, (.pointer (some ⟨xb, 1, none⟩)))]) w) :
    (Code.region 4 (opsOf Try.f72 4) true).wp Try.prog Q a0 w0 := by
  refine region_lit (ops' := #[_, _, _, _, _, _, _, _, _, _]) rfl ?_
  refine region_factsV (n := 10) (T := r72x4.T) (B := r72x4.B) r72x4.L (r72x4.G xb nb number id A c l base W) (r72x4.St xb nb number id A c l base W) (r72x4.F xb nb number id A c l base W) (by kernel_rfl) (by kernel_rfl) r72x4.tab r72x4.bits r72x4.base (by rw [hz]; exact r72x4.okl) hG0 ?hF ((all_cons ?s0 (all_cons ?s1 (all_cons ?s2 (all_cons ?s3 (all_cons ?s4 (all_cons ?s5 (all_cons ?s6 (all_cons ?s7 (all_cons ?s8 (all_cons ?s9 all_nil))))))))))) ?hend
  case hF =>
    intro i j b v w w' hij hi hj hb hbj hoff hG hst hf
    match i, hi, hij, hb, hoff, hst with
    | 0, _, hij, hb, hoff, hst =>
      match j, hj, hij, hbj, hf with
      | 0, _, hij, hbj, hf => exact absurd rfl hij
      | 1, _, hij, hbj, hf => 
        exact hf
      | 2, _, hij, hbj, hf => 
        exact hf
      | 3, _, hij, hbj, hf => exact absurd hbj (by rw [hoff 3 (by decide) (by decide)]; decide)
      | 4, _, hij, hbj, hf => 
        exact hf
      | 5, _, hij, hbj, hf => 
        exact hf
      | 6, _, hij, hbj, hf => 
        exact hf
      | 7, _, hij, hbj, hf => exact absurd hbj (by rw [hoff 7 (by decide) (by decide)]; decide)
      | 8, _, hij, hbj, hf => exact absurd hbj (by rw [hoff 8 (by decide) (by decide)]; decide)
      | 9, _, hij, hbj, hf => exact absurd hbj (by rw [hoff 9 (by decide) (by decide)]; decide)
      | j + 10, hj, _, _, _ => exact absurd hj (by omega)
    | 1, _, hij, hb, hoff, hst =>
      obtain rfl : w' = w := hst
      exact hf
    | 2, _, hij, hb, hoff, hst =>
      obtain rfl : w' = w := hst
      exact hf
    | 3, _, hij, hb, hoff, hst =>
      match j, hj, hij, hbj, hf with
      | 0, _, hij, hbj, hf => 
        exact hf
      | 1, _, hij, hbj, hf => 
        exact hf
      | 2, _, hij, hbj, hf => 
        exact hf
      | 3, _, hij, hbj, hf => exact absurd rfl hij
      | 4, _, hij, hbj, hf => 
        exact hf
      | 5, _, hij, hbj, hf => 
        exact hf
      | 6, _, hij, hbj, hf => 
        exact hf
      | 7, _, hij, hbj, hf => exact absurd hbj (by rw [hoff 7 (by decide) (by decide)]; decide)
      | 8, _, hij, hbj, hf => exact absurd hbj (by rw [hoff 8 (by decide) (by decide)]; decide)
      | 9, _, hij, hbj, hf => exact absurd hbj (by rw [hoff 9 (by decide) (by decide)]; decide)
      | j + 10, hj, _, _, _ => exact absurd hj (by omega)
    | 4, _, hij, hb, hoff, hst =>
      obtain rfl : w' = w := hst
      exact hf
    | 5, _, hij, hb, hoff, hst =>
      obtain rfl : w' = w := hst
      exact hf
    | 6, _, hij, hb, hoff, hst =>
      match j, hj, hij, hbj, hf with
      | 0, _, hij, hbj, hf => 
        exact hf
      | 1, _, hij, hbj, hf => 
        exact hf
      | 2, _, hij, hbj, hf => 
        exact hf
      | 3, _, hij, hbj, hf => 
        exact hf
      | 4, _, hij, hbj, hf => 
        exact hf
      | 5, _, hij, hbj, hf => 
        exact hf
      | 6, _, hij, hbj, hf => exact absurd rfl hij
      | 7, _, hij, hbj, hf => exact absurd hbj (by rw [hoff 7 (by decide) (by decide)]; decide)
      | 8, _, hij, hbj, hf => exact absurd hbj (by rw [hoff 8 (by decide) (by decide)]; decide)
      | 9, _, hij, hbj, hf => exact absurd hbj (by rw [hoff 9 (by decide) (by decide)]; decide)
      | j + 10, hj, _, _, _ => exact absurd hj (by omega)
    | 7, _, hij, hb, hoff, hst =>
      match j, hj, hij, hbj, hf with
      | 0, _, hij, hbj, hf => 
        exact hf
      | 1, _, hij, hbj, hf => 
        exact hf
      | 2, _, hij, hbj, hf => 
        exact hf
      | 3, _, hij, hbj, hf => 
        exact hf
      | 4, _, hij, hbj, hf => 
        exact hf
      | 5, _, hij, hbj, hf => 
        exact hf
      | 6, _, hij, hbj, hf => 
        exact hf
      | 7, _, hij, hbj, hf => exact absurd rfl hij
      | 8, _, hij, hbj, hf => exact absurd hbj (by rw [hoff 8 (by decide) (by decide)]; decide)
      | 9, _, hij, hbj, hf => exact absurd hbj (by rw [hoff 9 (by decide) (by decide)]; decide)
      | j + 10, hj, _, _, _ => exact absurd hj (by omega)
    | 8, _, hij, hb, hoff, hst =>
      obtain rfl : w' = w := hst
      exact hf
    | 9, _, hij, hb, hoff, hst =>
      match j, hj, hij, hbj, hf with
      | 0, _, hij, hbj, hf => 
        exact hf
      | 1, _, hij, hbj, hf => 
        exact hf
      | 2, _, hij, hbj, hf => 
        exact hf
      | 3, _, hij, hbj, hf => 
        exact hf
      | 4, _, hij, hbj, hf => 
        exact hf
      | 5, _, hij, hbj, hf => 
        exact hf
      | 6, _, hij, hbj, hf => 
        exact hf
      | 7, _, hij, hbj, hf => 
        exact hf
      | 8, _, hij, hbj, hf => 
        exact hf
      | 9, _, hij, hbj, hf => exact absurd rfl hij
      | j + 10, hj, _, _, _ => exact absurd hj (by omega)
    | i + 10, hi, _, _, _, _ => exact absurd hi (by omega)
  case s0 =>
    refine ⟨_, rfl, fun b v a w hG hb hoff hd hs K hK => ?_⟩
    obtain ⟨g1, g2, g3, g4, g5, g6, g7, g8, g9, g10⟩ := hG
    have hbase : W.heap.size ≤ w.heap.size := g1.1.1
    refine Kd.R_lit_step (Kd.int .u64) (w0 := w) W.heap.size 23 rfl (N := 24) rfl (xs := ([] : List Int)) (inner := []) (ok := fun _ => True) (okp := fun _ => False) ?hr (Reps.none _ _) (fun _ h => h.elim) trivial (below_W hbase) hbase (by simp) (fun v1 w1 ho hb1 hg hn => ?_)
    case hr => clear hd hs hK hoff; (first | (go_simp; done) | (go_simp; rfl))
    have hst := below_of_grown hg
    obtain ⟨b0, hb0, hb0l⟩ := hn
    refine hK _ _ trivial trivial ⟨g1.below hst, fun h => blk_below (g2 (by rw [up_ne (by decide)] at h; exact h)) hst, pw_cell_below hst g3, fun h h2 => ?_, fun h h2 => ?_, fun h h2 => ?_, fun h h2 h3 => ?_, fun h h2 h3 => ?_, fun h => ?_, fun h => ?_⟩
    · rw [sv_self]; exact ho
    · rw [up_ne (by decide), hoff 3 (by decide) (by decide)] at h; cases h
    · rw [sv_ne (by decide)]; exact Kd.R_below (g6 (by rw [up_ne (by decide)] at h; exact h) (by rw [up_ne (by decide)] at h2; exact h2)) hst
    · rw [sv_self, sv_ne (by decide)]; intro k hk e; rw [hb0] at hk; cases hk; have := ((g6 (by rw [up_ne (by decide)] at h3; exact h3) (hoff 7 (by decide) (by decide))).lt _ e).2; omega
    · rw [up_ne (by decide), hoff 3 (by decide) (by decide)] at h; cases h
    · rw [up_ne (by decide), hoff 7 (by decide) (by decide)] at h; cases h
    · rw [up_ne (by decide), hoff 9 (by decide) (by decide)] at h; cases h
  case s1 =>
    refine ⟨_, rfl, fun b v a w hG hb hoff hd hs K hK => ?_⟩
    have h2 := (hs 2 (by decide)).trans z2
    have e2 := eval_of h2
    refine value_ (v := (.pointer (some ⟨xb, 1, none⟩))) rfl rfl ?_ (hK _ _ rfl rfl ?_)
    rotate_left
    · clear hK hs hd
      obtain ⟨g1, g2, g3, g4, g5, g6, g7, g8, g9, g10⟩ := hG
      refine ⟨g1, fun h => g2 (by rw [up_ne (by decide)] at h; exact h), g3, fun h h2 => ?_, fun h h2 => ?_, fun h h2 => ?_, fun h h2 h3 => ?_, fun h h2 h3 => ?_, fun h => ?_, fun h => ?_⟩
      · rw [sv_ne (by decide)]; exact g4 (by rw [up_ne (by decide)] at h; exact h) (by rw [up_ne (by decide)] at h2; exact h2)
      · rw [sv_ne (by decide)]; exact g5 (by rw [up_ne (by decide)] at h; exact h) (by rw [up_ne (by decide)] at h2; exact h2)
      · rw [sv_ne (by decide)]; exact g6 (by rw [up_ne (by decide)] at h; exact h) (by rw [up_ne (by decide)] at h2; exact h2)
      · rw [sv_ne (by decide), sv_ne (by decide)]; exact g7 (by rw [up_ne (by decide)] at h; exact h) (by rw [up_ne (by decide)] at h2; exact h2) (by rw [up_ne (by decide)] at h3; exact h3)
      · rw [sv_ne (by decide), sv_ne (by decide)]; exact g8 (by rw [up_ne (by decide)] at h; exact h) (by rw [up_ne (by decide)] at h2; exact h2) (by rw [up_ne (by decide)] at h3; exact h3)
      · rw [sv_ne (by decide)]; exact g9 (by rw [up_ne (by decide)] at h; exact h)
      · rw [sv_ne (by decide)]; exact g10 (by rw [up_ne (by decide)] at h; exact h)
    clear hd hs hK hoff
    clear e2
    go_simp
  case s2 =>
    refine ⟨_, rfl, fun b v a w hG hb hoff hd hs K hK => ?_⟩
    obtain ⟨b25, h25, f25⟩ := hd 1 25 (by decide) (by decide)
    replace f25 : v 1 = (.pointer (some ⟨xb, 1, none⟩)) := f25
    rw [f25] at h25
    have e25 := eval_of h25
    refine value_ (v := (.slice A l.length c)) rfl rfl ?_ (hK _ _ rfl rfl ?_)
    rotate_left
    · clear hK hs hd
      obtain ⟨g1, g2, g3, g4, g5, g6, g7, g8, g9, g10⟩ := hG
      refine ⟨g1, fun h => g2 (by rw [up_ne (by decide)] at h; exact h), g3, fun h h2 => ?_, fun h h2 => ?_, fun h h2 => ?_, fun h h2 h3 => ?_, fun h h2 h3 => ?_, fun h => ?_, fun h => ?_⟩
      · rw [sv_ne (by decide)]; exact g4 (by rw [up_ne (by decide)] at h; exact h) (by rw [up_ne (by decide)] at h2; exact h2)
      · rw [sv_ne (by decide)]; exact g5 (by rw [up_ne (by decide)] at h; exact h) (by rw [up_ne (by decide)] at h2; exact h2)
      · rw [sv_ne (by decide)]; exact g6 (by rw [up_ne (by decide)] at h; exact h) (by rw [up_ne (by decide)] at h2; exact h2)
      · rw [sv_ne (by decide), sv_ne (by decide)]; exact g7 (by rw [up_ne (by decide)] at h; exact h) (by rw [up_ne (by decide)] at h2; exact h2) (by rw [up_ne (by decide)] at h3; exact h3)
      · rw [sv_ne (by decide), sv_ne (by decide)]; exact g8 (by rw [up_ne (by decide)] at h; exact h) (by rw [up_ne (by decide)] at h2; exact h2) (by rw [up_ne (by decide)] at h3; exact h3)
      · rw [sv_ne (by decide)]; exact g9 (by rw [up_ne (by decide)] at h; exact h)
      · rw [sv_ne (by decide)]; exact g10 (by rw [up_ne (by decide)] at h; exact h)
    have hc := (blk_cell (hG.2.1 (hoff 9 (by decide) (by decide))) 1).trans rfl
    clear hG
    clear hd hs hK hoff
    clear e25
    clear f25
    go_simp
  case s3 =>
    refine ⟨_, rfl, fun b v a w hG hb hoff hd hs K hK => ?_⟩
    obtain ⟨b24, h24, f24⟩ := hd 0 24 (by decide) (by decide)
    have e24 := eval_of h24
    obtain ⟨b26, h26, f26⟩ := hd 2 26 (by decide) (by decide)
    replace f26 : v 2 = (.slice A l.length c) := f26
    rw [f26] at h26
    have e26 := eval_of h26
    obtain ⟨g1, g2, g3, g4, g5, g6, g7, g8, g9, g10⟩ := hG
    have hbase : W.heap.size ≤ w.heap.size := g1.1.1
    have h0 := g4 b24 hb
    refine Kd.R_append_rows_step (Kd.int .u64) (w0 := w) W.heap.size rfl (.tmp 24) (.tmp 26) 27 23 (.int .u64 0) 8 rfl Try.underlying27 info23 rfl (by decide) (by omega) (v 0) [] l A l.length c (fun _ => True) (fun _ => False) e24 e26 h0 (hC w g1.1) (fun _ _ h => h) (fun _ h => h.elim) (fun _ _ => trivial) (below_W hbase) hbase (by simp; omega) (fun v1 w1 ho hb1 hg hat => ?_)
    rw [List.nil_append] at ho
    have hlt := h0.lt
    refine hK _ _ trivial trivial ⟨KB.of_grown hg g1 (fun k hk => (hlt k hk).1), fun h => blk_grown (g2 (by rw [up_ne (by decide)] at h; exact h)) hg (fun e => by have := (hlt xb e.symm).1; omega), cell_grown hg g3 (fun e => by have := (hlt nb e.symm).1; omega), fun h h2 => ?_, fun h h2 => ?_, fun h h2 => ?_, fun h h2 h3 => ?_, fun h h2 h3 => ?_, fun h => ?_, fun h => ?_⟩
    · rw [up_self] at h2; cases h2
    · rw [sv_self]; exact ho
    · rw [sv_ne (by decide)]; have h6 := g6 (by rw [up_ne (by decide)] at h; exact h) (hoff 7 (by decide) (by decide)); exact Kd.R_grown2 h6 rfl hg (fun k hk e => g7 b24 hb (by rw [up_ne (by decide)] at h; exact h) k hk e.symm)
    · rw [up_self] at h2; cases h2
    · rw [sv_self, sv_ne (by decide)]; intro k hk e; rcases hat with hat | ⟨b0, hb0, hb0l⟩; (exact g7 b24 hb (by rw [up_ne (by decide)] at h3; exact h3) k (hat ▸ hk) e); (rw [hb0] at hk; cases hk; have := ((g6 (by rw [up_ne (by decide)] at h3; exact h3) (hoff 7 (by decide) (by decide))).lt _ e).2; omega)
    · rw [up_ne (by decide), hoff 7 (by decide) (by decide)] at h; cases h
    · rw [up_ne (by decide), hoff 9 (by decide) (by decide)] at h; cases h
  case s4 =>
    refine ⟨_, rfl, fun b v a w hG hb hoff hd hs K hK => ?_⟩
    have h3 := (hs 3 (by decide)).trans z3
    have e3 := eval_of h3
    refine value_ (v := (.pointer (some ⟨nb, 0, none⟩))) rfl rfl ?_ (hK _ _ rfl rfl ?_)
    rotate_left
    · clear hK hs hd
      obtain ⟨g1, g2, g3, g4, g5, g6, g7, g8, g9, g10⟩ := hG
      refine ⟨g1, fun h => g2 (by rw [up_ne (by decide)] at h; exact h), g3, fun h h2 => ?_, fun h h2 => ?_, fun h h2 => ?_, fun h h2 h3 => ?_, fun h h2 h3 => ?_, fun h => ?_, fun h => ?_⟩
      · rw [sv_ne (by decide)]; exact g4 (by rw [up_ne (by decide)] at h; exact h) (by rw [up_ne (by decide)] at h2; exact h2)
      · rw [sv_ne (by decide)]; exact g5 (by rw [up_ne (by decide)] at h; exact h) (by rw [up_ne (by decide)] at h2; exact h2)
      · rw [sv_ne (by decide)]; exact g6 (by rw [up_ne (by decide)] at h; exact h) (by rw [up_ne (by decide)] at h2; exact h2)
      · rw [sv_ne (by decide), sv_ne (by decide)]; exact g7 (by rw [up_ne (by decide)] at h; exact h) (by rw [up_ne (by decide)] at h2; exact h2) (by rw [up_ne (by decide)] at h3; exact h3)
      · rw [sv_ne (by decide), sv_ne (by decide)]; exact g8 (by rw [up_ne (by decide)] at h; exact h) (by rw [up_ne (by decide)] at h2; exact h2) (by rw [up_ne (by decide)] at h3; exact h3)
      · rw [sv_ne (by decide)]; exact g9 (by rw [up_ne (by decide)] at h; exact h)
      · rw [sv_ne (by decide)]; exact g10 (by rw [up_ne (by decide)] at h; exact h)
    clear hd hs hK hoff
    clear e3
    go_simp
  case s5 =>
    refine ⟨_, rfl, fun b v a w hG hb hoff hd hs K hK => ?_⟩
    obtain ⟨b28, h28, f28⟩ := hd 4 28 (by decide) (by decide)
    replace f28 : v 4 = (.pointer (some ⟨nb, 0, none⟩)) := f28
    rw [f28] at h28
    have e28 := eval_of h28
    refine value_ (v := (.int .u64 id)) rfl rfl ?_ (hK _ _ rfl rfl ?_)
    rotate_left
    · clear hK hs hd
      obtain ⟨g1, g2, g3, g4, g5, g6, g7, g8, g9, g10⟩ := hG
      refine ⟨g1, fun h => g2 (by rw [up_ne (by decide)] at h; exact h), g3, fun h h2 => ?_, fun h h2 => ?_, fun h h2 => ?_, fun h h2 h3 => ?_, fun h h2 h3 => ?_, fun h => ?_, fun h => ?_⟩
      · rw [sv_ne (by decide)]; exact g4 (by rw [up_ne (by decide)] at h; exact h) (by rw [up_ne (by decide)] at h2; exact h2)
      · rw [sv_ne (by decide)]; exact g5 (by rw [up_ne (by decide)] at h; exact h) (by rw [up_ne (by decide)] at h2; exact h2)
      · rw [sv_ne (by decide)]; exact g6 (by rw [up_ne (by decide)] at h; exact h) (by rw [up_ne (by decide)] at h2; exact h2)
      · rw [sv_ne (by decide), sv_ne (by decide)]; exact g7 (by rw [up_ne (by decide)] at h; exact h) (by rw [up_ne (by decide)] at h2; exact h2) (by rw [up_ne (by decide)] at h3; exact h3)
      · rw [sv_ne (by decide), sv_ne (by decide)]; exact g8 (by rw [up_ne (by decide)] at h; exact h) (by rw [up_ne (by decide)] at h2; exact h2) (by rw [up_ne (by decide)] at h3; exact h3)
      · rw [sv_ne (by decide)]; exact g9 (by rw [up_ne (by decide)] at h; exact h)
      · rw [sv_ne (by decide)]; exact g10 (by rw [up_ne (by decide)] at h; exact h)
    have hc := hG.2.2.1
    clear hG
    clear hd hs hK hoff
    clear e28
    clear f28
    go_simp
  case s6 =>
    refine ⟨_, rfl, fun b v a w hG hb hoff hd hs K hK => ?_⟩
    obtain ⟨b29, h29, f29⟩ := hd 5 29 (by decide) (by decide)
    replace f29 : v 5 = (.int .u64 id) := f29
    rw [f29] at h29
    have e29 := eval_of h29
    obtain ⟨g1, g2, g3, g4, g5, g6, g7, g8, g9, g10⟩ := hG
    have hbase : W.heap.size ≤ w.heap.size := g1.1.1
    refine Kd.R_lit_step (Kd.int .u64) (w0 := w) W.heap.size 23 rfl (N := 30) rfl (xs := [id]) (inner := [.int .u64 id]) (ok := fun _ => True) (okp := fun _ => False) ?hr (Kd.reps_scalar [id]) (fun _ h => h.elim) trivial (below_W hbase) hbase (by simp) (fun v1 w1 ho hb1 hg hn => ?_)
    case hr => clear hd hs hK hoff; (first | (go_simp; done) | (go_simp; rfl))
    have hst := below_of_grown hg
    obtain ⟨b0, hb0, hb0l⟩ := hn
    refine hK _ _ trivial trivial ⟨g1.below hst, fun h => blk_below (g2 (by rw [up_ne (by decide)] at h; exact h)) hst, pw_cell_below hst g3, fun h h2 => ?_, fun h h2 => ?_, fun h h2 => ?_, fun h h2 h3 => ?_, fun h h2 h3 => ?_, fun h => ?_, fun h => ?_⟩
    · rw [sv_ne (by decide)]; exact Kd.R_below (g4 (by rw [up_ne (by decide)] at h; exact h) (by rw [up_ne (by decide)] at h2; exact h2)) hst
    · rw [sv_ne (by decide)]; exact Kd.R_below (g5 (by rw [up_ne (by decide)] at h; exact h) (by rw [up_ne (by decide)] at h2; exact h2)) hst
    · rw [sv_self]; exact ho
    · rw [sv_ne (by decide), sv_self]; intro k hk e; rw [hb0] at e; cases e; have := ((g4 (by rw [up_ne (by decide)] at h; exact h) (by rw [up_ne (by decide)] at h2; exact h2)).lt _ hk).2; omega
    · rw [sv_ne (by decide), sv_self]; intro k hk e; rw [hb0] at e; cases e; have := ((g5 (by rw [up_ne (by decide)] at h; exact h) (by rw [up_ne (by decide)] at h2; exact h2)).lt _ hk).2; omega
    · rw [up_ne (by decide), hoff 7 (by decide) (by decide)] at h; cases h
    · rw [up_ne (by decide), hoff 9 (by decide) (by decide)] at h; cases h
  case s7 =>
    refine ⟨_, rfl, fun b v a w hG hb hoff hd hs K hK => ?_⟩
    obtain ⟨b27, h27, f27⟩ := hd 3 27 (by decide) (by decide)
    have e27 := eval_of h27
    obtain ⟨b30, h30, f30⟩ := hd 6 30 (by decide) (by decide)
    have e30 := eval_of h30
    obtain ⟨g1, g2, g3, g4, g5, g6, g7, g8, g9, g10⟩ := hG
    have hbase : W.heap.size ≤ w.heap.size := g1.1.1
    have h3 := g5 b27 hb
    have h6 := g6 b30 hb
    obtain ⟨A6, c6, e6, hl6, hr6⟩ := Kd.R_reads h6
    refine Kd.R_append_rows_step (Kd.int .u64) (w0 := w) W.heap.size rfl (.tmp 27) (.tmp 30) 27 23 (.int .u64 0) 8 rfl Try.underlying27 info23 rfl (by decide) (by omega) (v 3) l [id] A6 1 c6 (fun _ => True) (fun _ => False) e27 (e30.trans e6) h3 hr6 (fun _ _ h => h) (fun _ h => h.elim) (fun _ _ => trivial) (below_W hbase) hbase (by omega) (fun v1 w1 ho hb1 hg hat => ?_)
    have hlt := h3.lt
    refine hK _ _ trivial trivial ⟨KB.of_grown hg g1 (fun k hk => (hlt k hk).1), fun h => blk_grown (g2 (by rw [up_ne (by decide)] at h; exact h)) hg (fun e => by have := (hlt xb e.symm).1; omega), cell_grown hg g3 (fun e => by have := (hlt nb e.symm).1; omega), fun h h2 => ?_, fun h h2 => ?_, fun h h2 => ?_, fun h h2 h3 => ?_, fun h h2 h3 => ?_, fun h => ?_, fun h => ?_⟩
    · rw [up_ne (by decide), b27] at h2; cases h2
    · rw [up_self] at h2; cases h2
    · rw [up_self] at h2; cases h2
    · rw [up_ne (by decide), b27] at h2; cases h2
    · rw [up_self] at h2; cases h2
    · rw [sv_self]; exact ho
    · rw [up_ne (by decide), hoff 9 (by decide) (by decide)] at h; cases h
  case s8 =>
    refine ⟨_, rfl, fun b v a w hG hb hoff hd hs K hK => ?_⟩
    have h2 := (hs 2 (by decide)).trans z2
    have e2 := eval_of h2
    refine value_ (v := (.pointer (some ⟨xb, 1, none⟩))) rfl rfl ?_ (hK _ _ rfl rfl ?_)
    rotate_left
    · clear hK hs hd
      obtain ⟨g1, g2, g3, g4, g5, g6, g7, g8, g9, g10⟩ := hG
      refine ⟨g1, fun h => g2 (by rw [up_ne (by decide)] at h; exact h), g3, fun h h2 => ?_, fun h h2 => ?_, fun h h2 => ?_, fun h h2 h3 => ?_, fun h h2 h3 => ?_, fun h => ?_, fun h => ?_⟩
      · rw [sv_ne (by decide)]; exact g4 (by rw [up_ne (by decide)] at h; exact h) (by rw [up_ne (by decide)] at h2; exact h2)
      · rw [sv_ne (by decide)]; exact g5 (by rw [up_ne (by decide)] at h; exact h) (by rw [up_ne (by decide)] at h2; exact h2)
      · rw [sv_ne (by decide)]; exact g6 (by rw [up_ne (by decide)] at h; exact h) (by rw [up_ne (by decide)] at h2; exact h2)
      · rw [sv_ne (by decide), sv_ne (by decide)]; exact g7 (by rw [up_ne (by decide)] at h; exact h) (by rw [up_ne (by decide)] at h2; exact h2) (by rw [up_ne (by decide)] at h3; exact h3)
      · rw [sv_ne (by decide), sv_ne (by decide)]; exact g8 (by rw [up_ne (by decide)] at h; exact h) (by rw [up_ne (by decide)] at h2; exact h2) (by rw [up_ne (by decide)] at h3; exact h3)
      · rw [sv_ne (by decide)]; exact g9 (by rw [up_ne (by decide)] at h; exact h)
      · rw [sv_ne (by decide)]; exact g10 (by rw [up_ne (by decide)] at h; exact h)
    clear hd hs hK hoff
    clear e2
    go_simp
  case s9 =>
    refine ⟨_, rfl, fun b v a w hG hb hoff hd hs K hK => ?_⟩
    obtain ⟨b31, h31, f31⟩ := hd 7 31 (by decide) (by decide)
    have e31 := eval_of h31
    obtain ⟨b32, h32, f32⟩ := hd 8 32 (by decide) (by decide)
    replace f32 : v 8 = (.pointer (some ⟨xb, 1, none⟩)) := f32
    rw [f32] at h32
    have e32 := eval_of h32
    obtain ⟨b27, h27, f27⟩ := hd 3 27 (by decide) (by decide)
    have e27 := eval_of h27
    obtain ⟨g1, g2, g3, g4, g5, g6, g7, g8, g9, g10⟩ := hG
    have h7 := g9 b31
    obtain ⟨A7, c7, e7, _, _⟩ := Kd.R_reads h7
    have hcq := g2 hb
    have hc := (blk_cell hcq 1).trans rfl
    have hz := blk_frozen hcq 1
    rw [e7] at h31
    have e31b := eval_of h31
    refine skip_ (w1 := w.setCell ⟨xb, 1, none⟩ (.slice A7 (l ++ [id]).length c7)) rfl rfl ?_ (hK undef _ trivial trivial ⟨g1.setCell _, fun h => ?_, ?_, fun h h2 => ?_, fun h h2 => ?_, fun h h2 => ?_, fun h h2 h3 => ?_, fun h h2 h3 => ?_, fun h => ?_, fun h => ?_⟩)
    · clear hd hs hK hoff g1 g2 g3 g4 g5 g6 g7 g8 g9 g10 h7 e31 hcq
      go_simp
    · rw [up_self] at h; cases h
    · rw [World.cell?_setCell_other _ _ _ _ (fun e => hxn (congrArg Addr.block e).symm)]; exact g3
    · rw [up_ne (by decide), b27] at h2; cases h2
    · rw [up_ne (by decide), b31] at h2; cases h2
    · rw [up_ne (by decide), b31] at h2; cases h2
    · rw [up_ne (by decide), b27] at h2; cases h2
    · rw [up_ne (by decide), b31] at h2; cases h2
    · rw [sv_ne (by decide)]; exact farN h7 hxl _
    · rw [sv_ne (by decide), e7]; exact blk_set hcq 1 _
  case hend =>
    intro b v w hb hG hv
    have f0 := hv 0 (by decide)
    have f1 := hv 1 (by decide)
    have f2 := hv 2 (by decide)
    have f3 := hv 3 (by decide)
    have f4 := hv 4 (by decide)
    have f5 := hv 5 (by decide)
    have f6 := hv 6 (by decide)
    have f7 := hv 7 (by decide)
    have f8 := hv 8 (by decide)
    have f9 := hv 9 (by decide)
    have := hend v w b hb hG f0 f3 f6 f7 f9
    have gv1 : v 1 = (.pointer (some ⟨xb, 1, none⟩)) := f1
    have gv2 : v 2 = (.slice A l.length c) := f2
    have gv4 : v 4 = (.pointer (some ⟨nb, 0, none⟩)) := f4
    have gv5 : v 5 = (.int .u64 id) := f5
    have gv8 : v 8 = (.pointer (some ⟨xb, 1, none⟩)) := f8
    have e : (r72x4.L.map fun e => (e.2, v e.1)) = [(24, v 0), (25, (.pointer (some ⟨xb, 1, none⟩))), (26, (.slice A l.length c)), (27, v 3), (28, (.pointer (some ⟨nb, 0, none⟩))), (29, (.int .u64 id)), (30, v 6), (31, v 7), (32, (.pointer (some ⟨xb, 1, none⟩)))] := by
      simp only [r72x4.L, List.map_cons, List.map_nil, gv1, gv2, gv4, gv5, gv8]
    rw [e]
    exact this

end Go.Proofs.Ytbjbejjieibldaa.Pa
