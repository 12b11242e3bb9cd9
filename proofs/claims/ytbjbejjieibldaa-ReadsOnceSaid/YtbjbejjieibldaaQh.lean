/- ReadsPlays: the regions of open order. -/
import Derived.Test.YtbjbejjieibldaaQg
namespace Go.Proofs.Ytbjbejjieibldaa.Qa
open Go.RowKit Go.Proofs.YtbjbejjieibldaaW.PrintWords Go.Proofs.YtbjbejjieibldaaW.PrintLast Go.Proofs.YtbjbejjieibldaaW.PrintMore Go.Proofs.Ytbjbejjieibldaa.Rg
open Go.Proofs.Ytbjbejjieibldaa.PReadsPlays
set_option linter.unusedVariables false
set_option linter.unusedSimpArgs false

/-- A reference's queue's cells. -/
abbrev WC (begun sure : Int) (v : Value) : Obj := .cells #[.int .u64 begun, .int .u64 sure, v] 48 (0, 0)
/-- Behind Take or Drop: the queue, and the row that was taken. -/
def QT (W0 W : World) (qb : Nat) (begun sure : Int) (ok : Nat → Prop) (left taken : List S91) (w : World) (v : Value) : Prop :=
  ∃ okq oko vq, IsQ w W0.heap.size okq qb begun sure left vq ∧ Kd.R k91 91 w W0.heap.size oko v taken ∧ (∀ k, okq k → ¬ oko k) ∧ (∀ k, okq k → ok k ∨ W.heap.size ≤ k) ∧ (∀ k, oko k → W.heap.size ≤ k)
theorem QT.kept {W0 W : World} {qb : Nat} {begun sure : Int} {ok : Nat → Prop} {left taken : List S91} {w w' : World} {v : Value} {S : Nat → Prop} (h : QT W0 W qb begun sure ok left taken w v) (hk : Kept w w' S) (h1 : ∀ k, ok k → ¬ S k) (h2 : ∀ k, S k → k < W.heap.size) : QT W0 W qb begun sure ok left taken w' v := by
  obtain ⟨o1, o2, vq, a, b, c, d, e⟩ := h
  exact ⟨o1, o2, vq, a.kept hk (fun k hk hs => (d k hk).elim (fun h => h1 k h hs) (fun h => by have := h2 k hs; omega)), Kd.R_kept b hk (fun k hk hs => by have := e k hk; have := h2 k hs; omega), c, d, e⟩
theorem QT.below {W0 W : World} {qb : Nat} {begun sure : Int} {ok : Nat → Prop} {left taken : List S91} {w w' : World} {v : Value} (h : QT W0 W qb begun sure ok left taken w v) (hb : Below w.heap.size w w') : QT W0 W qb begun sure ok left taken w' v :=
  h.kept (Kept.of_below hb (fun _ => False)) (fun _ _ h => h) (fun _ h => h.elim)
theorem QT.of {W0 W w w' : World} {qb : Nat} {begun sure : Int} {ok : Nat → Prop} {left taken : List S91} {u v : Value} (hle : W.heap.size ≤ w.heap.size) (hb : W0.heap.size ≤ w.heap.size) (h : Parted W0 w w' qb begun sure ok u v taken left) : QT W0 W qb begun sure ok left taken w' u := by
  obtain ⟨o1, o2, a, b, c, d, e, f⟩ := h
  exact ⟨o1, fun k => o2 k ∧ W.heap.size ≤ k, v, a, Kd.R_lower (Kd.R_mono (Kd.R_bound b) (fun k hk => ⟨hk.1, Nat.le_trans hle hk.2.1⟩)) hb, fun k h1 h2 => c k h1 h2.1, fun k hk => (d k hk).imp id (fun h => Nat.le_trans hle h), fun k hk => hk.2⟩
/-- The queue behind what else was written. -/
theorem IsQ.again {W w : World} {base : Nat} {ok : Nat → Prop} {qb wb : Nat} {begun sure : Int} {l : List S91} {v : Value} (h : IsQ W base ok qb begun sure l v) (hw : ¬ ok wb) (hc : w.heap[qb]? = some (QC begun sure v)) (hk : Kept W w (fun k => k = qb ∨ k = wb)) : IsQ w base ok qb begun sure l v :=
  ⟨hc, h.mine, Kd.R_kept h.row hk (fun k hk hs => hs.elim hk.2 (fun e => hw (e ▸ hk.1))), h.b0, h.b1, h.s0, h.s1, h.len⟩

/-! ### region 15 of function 5 -/
def r5x15.T : Bool × List (List Nat × List Nat) := (true, [([], []), ([], []), ([1], [1]), ([], []), ([2, 3], [2, 3]), ([0, 2, 0], [0]), ([4, 5, 0, 1, 2, 3, 4, 5], [4])])
def r5x15.B : List Nat := [0, 0, 2, 0, 14, 7, 63]
def r5x15.L : List (Nat × Tmp) := [(0, 65), (1, 66), (2, 67), (3, 68), (4, 69), (6, 7)]
theorem r5x15.tab : rtab .any (opsOf Try.f5 15) = r5x15.T := by kernel_rfl
theorem r5x15.bits : waitsOk r5x15.T.2 r5x15.B = true := by kernel_rfl
theorem r5x15.base : baseOk r5x15.T.2 (List.range 7) = true := by kernel_rfl
theorem r5x15.okl : okL (opsOf Try.f5 15) r5x15.L 125 = true := by kernel_rfl
def r5x15.F (qb wb g8 : Nat) (begun sure x0 x1 : Int) (A2 : Option Addr) (n2 c2 : Nat) (v0 : Value) (W0 W : World) (i : Nat) : Value → World → Prop := match i with
  | 0 => fun v _ => v = (.agg #[.int .u64 x0, .int .u64 x1, .slice A2 n2 c2])
  | 1 => fun v _ => v = (.pointer (some ⟨qb, 0, none⟩))
  | 2 => fun v w => v = .int .u64 (beginOf begun) ∧ w.heap[qb]? = some (QC (beginOf begun) sure v0)
  | 3 => fun v _ => v = (.int .u64 (beginOf begun))
  | 4 => fun v _ => v = (.bool true)
  | 5 => fun _ w => w.heap[wb]? = some (WC x0 x1 (.slice A2 n2 c2))
  | 6 => fun v _ => v = (.bool true)
  | _ => fun _ _ => True
def r5x15.St (qb wb g8 : Nat) (begun sure x0 x1 : Int) (A2 : Option Addr) (n2 c2 : Nat) (v0 : Value) (W0 W : World) (i : Nat) : World → World → Prop := match i with
  | 2 => fun w w' => w' = w.setCell ⟨qb, 1, none⟩ (.int .u64 (beginOf begun))
  | 5 => fun w w' => w' = ((w.setCell ⟨wb, 0, none⟩ (.int .u64 x0)).setCell ⟨wb, 1, none⟩ (.int .u64 x1)).setCell ⟨wb, 2, none⟩ (.slice A2 n2 c2)
  | _ => fun w w' => w' = w
def r5x15.G (qb wb g8 : Nat) (begun sure x0 x1 : Int) (A2 : Option Addr) (n2 c2 : Nat) (v0 : Value) (W0 W : World) : (Nat → Bool) → World → Prop := fun b w => Kept W w (fun k => k = qb ∨ k = wb) ∧ Below W0.heap.size W0 w ∧ (b 2 = false → w.heap[qb]? = some (QC begun sure v0)) ∧ ∃ y0 y1 y2, w.heap[wb]? = some (.cells #[y0, y1, y2] 48 (0, 0))
set_option maxHeartbeats 4000000 in
set_option maxRecDepth 100000 in
theorem r5x15 (qb wb g8 : Nat) (begun sure x0 x1 : Int) (A2 : Option Addr) (n2 c2 : Nat) (v0 : Value) (W0 W : World) (hH8 : W.heap[g8]? = some (WC x0 x1 (.slice A2 n2 c2))) (hg8 : g8 ≠ qb ∧ g8 ≠ wb) (hqw : qb ≠ wb) (hqb0 : W0.heap.size ≤ qb) (hwb0 : W0.heap.size ≤ wb) (hb0 : 0 ≤ begun) (hb1 : begun ≤ BIG) {Q : Exit → Act → World → Prop} {a0 : Act} {w0 : World} (hz : a0.tmps.size = 125) (z3 : a0.tmps[3]? = some (.pointer (some ⟨qb, 0, none⟩))) (z4 : a0.tmps[4]? = some (.pointer (some ⟨wb, 0, none⟩))) (z8 : a0.tmps[8]? = some (.pointer (some ⟨g8, 0, none⟩))) (z9 : a0.tmps[9]? = some (.int .u64 (beginOf begun))) (hG0 : (r5x15.G qb wb g8 begun sure x0 x1 A2 n2 c2 v0 W0 W) (fun _ => false) w0.drew)
    (hend : ∀ (v67 : Value) (x5 : Value) (w : World) (b : Nat → Bool), (∀ i, i < 7 → b i = true) → (r5x15.G qb wb g8 begun sure x0 x1 A2 n2 c2 v0 W0 W) b w → r5x15.F qb wb g8 begun sure x0 x1 A2 n2 c2 v0 W0 W 2 v67 w → r5x15.F qb wb g8 begun sure x0 x1 A2 n2 c2 v0 W0 W 5 x5 w → Q .normal (putAll a0 [(65, (.agg #[.int .u64 x0, .int .u64 x1, .slice A2 n2 c2])), (66, (.pointer (some ⟨qb, 0, none⟩))), (67, v67), (68, (.int .u64 (beginOf begun))), (69, (.bool true)), (7, (.bool true))]) w) :
    (Code.region 15 (opsOf Try.f5 15) true).wp Try.prog Q a0 w0 := by
  refine region_lit (ops' := #[_, _, _, _, _, _, _]) rfl ?_
  refine region_facts (n := 7) (T := r5x15.T) (B := r5x15.B) r5x15.L (r5x15.G qb wb g8 begun sure x0 x1 A2 n2 c2 v0 W0 W) (r5x15.St qb wb g8 begun sure x0 x1 A2 n2 c2 v0 W0 W) (r5x15.F qb wb g8 begun sure x0 x1 A2 n2 c2 v0 W0 W) (by kernel_rfl) (by kernel_rfl) r5x15.tab r5x15.bits r5x15.base (by rw [hz]; exact r5x15.okl) hG0 ?hSt ?hF ((all_cons ?s0 (all_cons ?s1 (all_cons ?s2 (all_cons ?s3 (all_cons ?s4 (all_cons ?s5 (all_cons ?s6 all_nil)))))))) ?hend
  case hSt =>
    intro i b w w' hi hb hoff hG hst
    match i, hi, hb, hoff, hst with
    | 0, _, hb, hoff, hst =>
      obtain rfl : w' = w := hst
      obtain ⟨hk, hbl, hc, y0, y1, y2, hw⟩ := hG
      exact ⟨hk, hbl, fun h => hc (by first | exact h | (rw [up_ne (by decide)] at h; exact h)), y0, y1, y2, hw⟩
    | 1, _, hb, hoff, hst =>
      obtain rfl : w' = w := hst
      obtain ⟨hk, hbl, hc, y0, y1, y2, hw⟩ := hG
      exact ⟨hk, hbl, fun h => hc (by first | exact h | (rw [up_ne (by decide)] at h; exact h)), y0, y1, y2, hw⟩
    | 2, _, hb, hoff, hst =>
      obtain ⟨hk, hbl, hc, y0, y1, y2, hw⟩ := hG
      obtain rfl : w' = w.setCell ⟨qb, 1, none⟩ (.int .u64 (beginOf begun)) := hst
      refine ⟨hk.setCell (p := ⟨qb, 1, none⟩) (.inl (.inl rfl)) _, hbl.setCell (p := ⟨qb, 1, none⟩) hqb0 _, fun h => ?_, y0, y1, y2, blk_far hw (fun e => hqw e.symm) _⟩
      rw [up_self] at h; cases h
    | 3, _, hb, hoff, hst =>
      obtain rfl : w' = w := hst
      obtain ⟨hk, hbl, hc, y0, y1, y2, hw⟩ := hG
      exact ⟨hk, hbl, fun h => hc (by first | exact h | (rw [up_ne (by decide)] at h; exact h)), y0, y1, y2, hw⟩
    | 4, _, hb, hoff, hst =>
      obtain rfl : w' = w := hst
      obtain ⟨hk, hbl, hc, y0, y1, y2, hw⟩ := hG
      exact ⟨hk, hbl, fun h => hc (by first | exact h | (rw [up_ne (by decide)] at h; exact h)), y0, y1, y2, hw⟩
    | 5, _, hb, hoff, hst =>
      obtain ⟨hk, hbl, hc, y0, y1, y2, hw⟩ := hG
      obtain rfl : w' = ((w.setCell ⟨wb, 0, none⟩ (.int .u64 x0)).setCell ⟨wb, 1, none⟩ (.int .u64 x1)).setCell ⟨wb, 2, none⟩ (.slice A2 n2 c2) := hst
      refine ⟨hk.then_ (set3_kept rfl) (fun k hk => .inl (.inr hk)), set3_below hbl hwb0 rfl, fun h => ?_, _, _, _, set3_at hw rfl⟩
      exact blk_kept (hc (by rw [up_ne (by decide)] at h; exact h)) (set3_kept rfl) (fun e => hqw e)
    | 6, _, hb, hoff, hst =>
      obtain rfl : w' = w := hst
      obtain ⟨hk, hbl, hc, y0, y1, y2, hw⟩ := hG
      exact ⟨hk, hbl, fun h => hc (by first | exact h | (rw [up_ne (by decide)] at h; exact h)), y0, y1, y2, hw⟩
    | i + 7, hi, _, _, _ => exact absurd hi (by omega)
  case hF =>
    intro i j b v w w' hij hi hj hb hbj hoff hG hst hf
    match i, hi, hij, hb, hoff, hst with
    | 0, _, hij, hb, hoff, hst =>
      obtain rfl : w' = w := hst
      exact hf
    | 1, _, hij, hb, hoff, hst =>
      obtain rfl : w' = w := hst
      exact hf
    | 2, _, hij, hb, hoff, hst =>
      match j, hj, hij, hbj, hf with
      | 0, _, hij, hbj, hf => 
        exact hf
      | 1, _, hij, hbj, hf => 
        exact hf
      | 2, _, hij, hbj, hf => exact absurd rfl hij
      | 3, _, hij, hbj, hf => 
        exact hf
      | 4, _, hij, hbj, hf => exact absurd hbj (by rw [hoff 4 (by decide) (by decide)]; decide)
      | 5, _, hij, hbj, hf => exact absurd hbj (by rw [hoff 5 (by decide) (by decide)]; decide)
      | 6, _, hij, hbj, hf => exact absurd hbj (by rw [hoff 6 (by decide) (by decide)]; decide)
      | j + 7, hj, _, _, _ => exact absurd hj (by omega)
    | 3, _, hij, hb, hoff, hst =>
      obtain rfl : w' = w := hst
      exact hf
    | 4, _, hij, hb, hoff, hst =>
      obtain rfl : w' = w := hst
      exact hf
    | 5, _, hij, hb, hoff, hst =>
      match j, hj, hij, hbj, hf with
      | 0, _, hij, hbj, hf => 
        exact hf
      | 1, _, hij, hbj, hf => 
        exact hf
      | 2, _, hij, hbj, hf => 
        obtain rfl : w' = ((w.setCell ⟨wb, 0, none⟩ (.int .u64 x0)).setCell ⟨wb, 1, none⟩ (.int .u64 x1)).setCell ⟨wb, 2, none⟩ (.slice A2 n2 c2) := hst
        exact ⟨hf.1, blk_kept hf.2 (set3_kept rfl) (fun e => hqw e)⟩
      | 3, _, hij, hbj, hf => 
        exact hf
      | 4, _, hij, hbj, hf => 
        exact hf
      | 5, _, hij, hbj, hf => exact absurd rfl hij
      | 6, _, hij, hbj, hf => exact absurd hbj (by rw [hoff 6 (by decide) (by decide)]; decide)
      | j + 7, hj, _, _, _ => exact absurd hj (by omega)
    | 6, _, hij, hb, hoff, hst =>
      obtain rfl : w' = w := hst
      exact hf
    | i + 7, hi, _, _, _, _ => exact absurd hi (by omega)
  case s0 =>
    refine ⟨_, rfl, fun b a w hG hb hoff hd hs K hK => ?_⟩
    have h8 := (hs 8 (by decide)).trans z8
    have e8 := eval_of h8
    refine value_ (v := (.agg #[.int .u64 x0, .int .u64 x1, .slice A2 n2 c2])) rfl rfl ?_ (hK _ _ rfl rfl)
    have hk8 := blk_kept hH8 hG.1 (fun h => by rcases h with h | h <;> omega)
    have hc0 := (blk_cell hk8 0).trans rfl
    have hc1 := (blk_cell hk8 1).trans rfl
    have hc2 := (blk_cell hk8 2).trans rfl
    have hu := Try.underlying48
    clear hG hk8
    clear hd hs hK hoff
    clear e8
    go_simp
  case s1 =>
    refine ⟨_, rfl, fun b a w hG hb hoff hd hs K hK => ?_⟩
    have h3 := (hs 3 (by decide)).trans z3
    have e3 := eval_of h3
    refine value_ (v := (.pointer (some ⟨qb, 0, none⟩))) rfl rfl ?_ (hK _ _ rfl rfl)
    clear hd hs hK hoff
    clear e3
    go_simp
  case s2 =>
    refine ⟨_, rfl, fun b a w hG hb hoff hd hs K hK => ?_⟩
    obtain ⟨y66, h66, f66⟩ := hd 1 66 (by decide) (by decide)
    replace f66 : y66 = (.pointer (some ⟨qb, 0, none⟩)) := f66
    subst y66
    have e66 := eval_of h66
    obtain ⟨hk, hbl, hc, y0, y1, y2, hw⟩ := hG
    have hcq := hc hb
    refine goes_ Try.func29 (by kernel_rfl) rfl #[.pointer (some ⟨qb, 0, none⟩)] rfl rfl rfl (by simp [e66]) ?_
    refine (begin_calls qb begun sure _ w hcq hb0 hb1).mono ?_
    rintro e w' ⟨rfl, rfl⟩
    exact ⟨_, rfl, hK _ _ rfl ⟨rfl, blk_set hcq 1 _⟩⟩
  case s3 =>
    refine ⟨_, rfl, fun b a w hG hb hoff hd hs K hK => ?_⟩
    have h9 := (hs 9 (by decide)).trans z9
    have e9 := eval_of h9
    refine value_ (v := (.int .u64 (beginOf begun))) rfl rfl ?_ (hK _ _ rfl rfl)
    clear hd hs hK hoff
    clear e9
    go_simp
  case s4 =>
    refine ⟨_, rfl, fun b a w hG hb hoff hd hs K hK => ?_⟩
    obtain ⟨v67, h67, f67⟩ := hd 2 67 (by decide) (by decide)
    have e67 := eval_of h67
    obtain ⟨y68, h68, f68⟩ := hd 3 68 (by decide) (by decide)
    replace f68 : y68 = (.int .u64 (beginOf begun)) := f68
    subst y68
    have e68 := eval_of h68
    refine value_ (v := (.bool true)) rfl rfl ?_ (hK _ _ rfl rfl)
    obtain ⟨f67a, _⟩ := f67
    subst f67a
    clear hG
    clear hd hs hK hoff
    clear e67
    clear e68
    go_simp
  case s5 =>
    refine ⟨_, rfl, fun b a w hG hb hoff hd hs K hK => ?_⟩
    have h4 := (hs 4 (by decide)).trans z4
    have e4 := eval_of h4
    obtain ⟨y65, h65, f65⟩ := hd 0 65 (by decide) (by decide)
    replace f65 : y65 = (.agg #[.int .u64 x0, .int .u64 x1, .slice A2 n2 c2]) := f65
    subst y65
    have e65 := eval_of h65
    obtain ⟨hk, hbl, hc, y0, y1, y2, hw⟩ := hG
    have hc0 := (blk_cell hw 0).trans rfl
    have hc1 := (blk_cell hw 1).trans rfl
    have hc2 := (blk_cell hw 2).trans rfl
    have hz0 := blk_frozen hw 0
    have hz1 := blk_frozen hw 1
    have hz2 := blk_frozen hw 2
    have hu := Try.underlying48
    refine skip_ (w1 := ((w.setCell ⟨wb, 0, none⟩ (.int .u64 x0)).setCell ⟨wb, 1, none⟩ (.int .u64 x1)).setCell ⟨wb, 2, none⟩ (.slice A2 n2 c2)) rfl rfl ?_ (hK undef _ rfl ?_)
    · clear hd hs hK hoff hk hbl hc e65
      first | (go_simp; done) | (go_simp; rfl)
    · exact set3_at hw rfl
  case s6 =>
    refine ⟨_, rfl, fun b a w hG hb hoff hd hs K hK => ?_⟩
    obtain ⟨y69, h69, f69⟩ := hd 4 69 (by decide) (by decide)
    replace f69 : y69 = (.bool true) := f69
    subst y69
    have e69 := eval_of h69
    refine value_ (v := (.bool true)) rfl rfl ?_ (hK _ _ rfl rfl)
    clear hd hs hK hoff
    clear e69
    go_simp
  case hend =>
    intro b v w hb hG hv
    have f0 := hv 0 (by decide)
    have f1 := hv 1 (by decide)
    have f2 := hv 2 (by decide)
    have f3 := hv 3 (by decide)
    have f4 := hv 4 (by decide)
    have f5 := hv 5 (by decide)
    have f6 := hv 6 (by decide)
    have := hend (v 2) (v 5) w b hb hG f2 f5
    have gv0 : v 0 = (.agg #[.int .u64 x0, .int .u64 x1, .slice A2 n2 c2]) := f0
    have gv1 : v 1 = (.pointer (some ⟨qb, 0, none⟩)) := f1
    have gv3 : v 3 = (.int .u64 (beginOf begun)) := f3
    have gv4 : v 4 = (.bool true) := f4
    have gv6 : v 6 = (.bool true) := f6
    have e : (r5x15.L.map fun e => (e.2, v e.1)) = [(65, (.agg #[.int .u64 x0, .int .u64 x1, .slice A2 n2 c2])), (66, (.pointer (some ⟨qb, 0, none⟩))), (67, v 2), (68, (.int .u64 (beginOf begun))), (69, (.bool true)), (7, (.bool true))] := by
      simp only [r5x15.L, List.map_cons, List.map_nil, gv0, gv1, gv3, gv4, gv6]
    rw [e]
    exact this

/-! ### region 21 of function 5 -/
def r5x21.T : Bool × List (List Nat × List Nat) := (true, [([], []), ([], []), ([], []), ([2], [2]), ([1, 3], [1, 3]), ([4, 4], [4]), ([], []), ([5, 6, 5], [5, 6]), ([0, 7, 0], [0]), ([7, 8, 0, 1, 2, 3, 4, 5, 6, 7, 8], [7])])
def r5x21.B : List Nat := [0, 0, 0, 4, 14, 30, 0, 126, 255, 511]
def r5x21.L : List (Nat × Tmp) := [(0, 89), (1, 90), (2, 91), (3, 92), (4, 93), (5, 94), (6, 95), (7, 96), (9, 7)]
theorem r5x21.tab : rtab .any (opsOf Try.f5 21) = r5x21.T := by kernel_rfl
theorem r5x21.bits : waitsOk r5x21.T.2 r5x21.B = true := by kernel_rfl
theorem r5x21.base : baseOk r5x21.T.2 (List.range 10) = true := by kernel_rfl
theorem r5x21.okl : okL (opsOf Try.f5 21) r5x21.L 125 = true := by kernel_rfl
def r5x21.F (qb wb g6 g10 : Nat) (begun sure x0 x1 ap : Int) (A2 A3 : Option Addr) (n2 c2 n3 c3 : Nat) (v0 : Value) (l : List S91) (ok : Nat → Prop) (W0 W : World) (i : Nat) : Value → World → Prop := match i with
  | 0 => fun v _ => v = (.agg #[.int .u64 x0, .int .u64 x1, .slice A3 n3 c3])
  | 1 => fun v _ => v = (.pointer (some ⟨qb, 0, none⟩))
  | 2 => fun v _ => v = (.pointer (some ⟨g6, 1, none⟩))
  | 3 => fun v _ => v = (.int .u64 ap)
  | 4 => fun v w => QT W0 W qb begun sure ok (l.filter (fun x => !sureOf sure ap x)) (l.filter (sureOf sure ap)) w v
  | 5 => fun v w => Kd.R k147 147 w W0.heap.size (fun k => W.heap.size ≤ k) v (cvs (l.filter (sureOf sure ap)))
  | 6 => fun v _ => v = (.slice A2 n2 c2)
  | 7 => fun v _ => v = (.bool true)
  | 8 => fun _ w => w.heap[wb]? = some (WC x0 x1 (.slice A3 n3 c3))
  | 9 => fun v _ => v = (.bool true)
  | _ => fun _ _ => True
def r5x21.St (qb wb g6 g10 : Nat) (begun sure x0 x1 ap : Int) (A2 A3 : Option Addr) (n2 c2 n3 c3 : Nat) (v0 : Value) (l : List S91) (ok : Nat → Prop) (W0 W : World) (i : Nat) : World → World → Prop := match i with
  | 4 => fun w w' => Kept w w' (fun k => k = qb) ∧ Below W0.heap.size W0 w'
  | 5 => fun w w' => Below w.heap.size w w'
  | 7 => fun w w' => Below w.heap.size w w'
  | 8 => fun w w' => w' = ((w.setCell ⟨wb, 0, none⟩ (.int .u64 x0)).setCell ⟨wb, 1, none⟩ (.int .u64 x1)).setCell ⟨wb, 2, none⟩ (.slice A3 n3 c3)
  | _ => fun w w' => w' = w
def r5x21.G (qb wb g6 g10 : Nat) (begun sure x0 x1 ap : Int) (A2 A3 : Option Addr) (n2 c2 n3 c3 : Nat) (v0 : Value) (l : List S91) (ok : Nat → Prop) (W0 W : World) : (Nat → Bool) → World → Prop := fun b w => Kept W w (fun k => k = qb ∨ k = wb) ∧ Below W0.heap.size W0 w ∧ (b 4 = false → w.heap[qb]? = some (QC begun sure v0)) ∧ ∃ y0 y1 y2, w.heap[wb]? = some (.cells #[y0, y1, y2] 48 (0, 0))
set_option maxHeartbeats 4000000 in
set_option maxRecDepth 100000 in
theorem r5x21 (qb wb g6 g10 : Nat) (begun sure x0 x1 ap : Int) (A2 A3 : Option Addr) (n2 c2 n3 c3 : Nat) (v0 : Value) (l : List S91) (ok : Nat → Prop) (W0 W : World) {okr : Nat → Prop} {bb : Int} (hQ : IsQ W W0.heap.size ok qb begun sure l v0) (hnw : ¬ ok wb) (hH6 : W.heap[g6]? = some (.cells #[.int .i64 3, .int .u64 ap, .int .u64 bb] 50 (0, 0))) (hg6 : g6 ≠ qb ∧ g6 ≠ wb) (hH10 : W.heap[g10]? = some (WC x0 x1 (.slice A3 n3 c3))) (hg10 : g10 ≠ qb ∧ g10 ≠ wb) (hqw : qb ≠ wb) (hwl : wb < W.heap.size) (hwb0 : W0.heap.size ≤ wb) (htl : (l.filter (sureOf sure ap)).length ≤ 32) (hR : Kd.R k147 147 W W0.heap.size okr (.slice A2 n2 c2) (cvs (l.filter (sureOf sure ap)))) (hor : ∀ k, okr k → k ≠ qb ∧ k ≠ wb) {Q : Exit → Act → World → Prop} {a0 : Act} {w0 : World} (hz : a0.tmps.size = 125) (z3 : a0.tmps[3]? = some (.pointer (some ⟨qb, 0, none⟩))) (z4 : a0.tmps[4]? = some (.pointer (some ⟨wb, 0, none⟩))) (z6 : a0.tmps[6]? = some (.pointer (some ⟨g6, 0, none⟩))) (z10 : a0.tmps[10]? = some (.pointer (some ⟨g10, 0, none⟩))) (z11 : a0.tmps[11]? = some (.slice A2 n2 c2)) (hG0 : (r5x21.G qb wb g6 g10 begun sure x0 x1 ap A2 A3 n2 c2 n3 c3 v0 l ok W0 W) (fun _ => false) w0.drew)
    (hend : ∀ (v93 : Value) (v94 : Value) (x8 : Value) (w : World) (b : Nat → Bool), (∀ i, i < 10 → b i = true) → (r5x21.G qb wb g6 g10 begun sure x0 x1 ap A2 A3 n2 c2 n3 c3 v0 l ok W0 W) b w → r5x21.F qb wb g6 g10 begun sure x0 x1 ap A2 A3 n2 c2 n3 c3 v0 l ok W0 W 4 v93 w → r5x21.F qb wb g6 g10 begun sure x0 x1 ap A2 A3 n2 c2 n3 c3 v0 l ok W0 W 5 v94 w → r5x21.F qb wb g6 g10 begun sure x0 x1 ap A2 A3 n2 c2 n3 c3 v0 l ok W0 W 8 x8 w → Q .normal (putAll a0 [(89, (.agg #[.int .u64 x0, .int .u64 x1, .slice A3 n3 c3])), (90, (.pointer (some ⟨qb, 0, none⟩))), (91, (.pointer (some ⟨g6, 1, none⟩))), (92, (.int .u64 ap)), (93, v93), (94, v94), (95, (.slice A2 n2 c2)), (96, (.bool true)), (7, (.bool true))]) w) :
    (Code.region 21 (opsOf Try.f5 21) true).wp Try.prog Q a0 w0 := by
  refine region_lit (ops' := #[_, _, _, _, _, _, _, _, _, _]) rfl ?_
  refine region_facts (n := 10) (T := r5x21.T) (B := r5x21.B) r5x21.L (r5x21.G qb wb g6 g10 begun sure x0 x1 ap A2 A3 n2 c2 n3 c3 v0 l ok W0 W) (r5x21.St qb wb g6 g10 begun sure x0 x1 ap A2 A3 n2 c2 n3 c3 v0 l ok W0 W) (r5x21.F qb wb g6 g10 begun sure x0 x1 ap A2 A3 n2 c2 n3 c3 v0 l ok W0 W) (by kernel_rfl) (by kernel_rfl) r5x21.tab r5x21.bits r5x21.base (by rw [hz]; exact r5x21.okl) hG0 ?hSt ?hF ((all_cons ?s0 (all_cons ?s1 (all_cons ?s2 (all_cons ?s3 (all_cons ?s4 (all_cons ?s5 (all_cons ?s6 (all_cons ?s7 (all_cons ?s8 (all_cons ?s9 all_nil))))))))))) ?hend
  case hSt =>
    intro i b w w' hi hb hoff hG hst
    match i, hi, hb, hoff, hst with
    | 0, _, hb, hoff, hst =>
      obtain rfl : w' = w := hst
      obtain ⟨hk, hbl, hc, y0, y1, y2, hw⟩ := hG
      exact ⟨hk, hbl, fun h => hc (by first | exact h | (rw [up_ne (by decide)] at h; exact h)), y0, y1, y2, hw⟩
    | 1, _, hb, hoff, hst =>
      obtain rfl : w' = w := hst
      obtain ⟨hk, hbl, hc, y0, y1, y2, hw⟩ := hG
      exact ⟨hk, hbl, fun h => hc (by first | exact h | (rw [up_ne (by decide)] at h; exact h)), y0, y1, y2, hw⟩
    | 2, _, hb, hoff, hst =>
      obtain rfl : w' = w := hst
      obtain ⟨hk, hbl, hc, y0, y1, y2, hw⟩ := hG
      exact ⟨hk, hbl, fun h => hc (by first | exact h | (rw [up_ne (by decide)] at h; exact h)), y0, y1, y2, hw⟩
    | 3, _, hb, hoff, hst =>
      obtain rfl : w' = w := hst
      obtain ⟨hk, hbl, hc, y0, y1, y2, hw⟩ := hG
      exact ⟨hk, hbl, fun h => hc (by first | exact h | (rw [up_ne (by decide)] at h; exact h)), y0, y1, y2, hw⟩
    | 4, _, hb, hoff, hst =>
      obtain ⟨hk, hbl, hc, y0, y1, y2, hw⟩ := hG
      obtain ⟨hst1, hst2⟩ := hst
      refine ⟨hk.then_ hst1 (fun k hk => .inl (.inl hk)), hst2, fun h => ?_, y0, y1, y2, blk_kept hw hst1 (fun e => hqw e.symm)⟩
      rw [up_self] at h; cases h
    | 5, _, hb, hoff, hst =>
      obtain ⟨hk, hbl, hc, y0, y1, y2, hw⟩ := hG
      have hst' : Below w.heap.size w w' := hst
      exact ⟨hk.below hst', below_then hbl hbl.size hst', fun h => blk_below (hc (by rw [up_ne (by decide)] at h; exact h)) hst', y0, y1, y2, blk_below hw hst'⟩
    | 6, _, hb, hoff, hst =>
      obtain rfl : w' = w := hst
      obtain ⟨hk, hbl, hc, y0, y1, y2, hw⟩ := hG
      exact ⟨hk, hbl, fun h => hc (by first | exact h | (rw [up_ne (by decide)] at h; exact h)), y0, y1, y2, hw⟩
    | 7, _, hb, hoff, hst =>
      obtain ⟨hk, hbl, hc, y0, y1, y2, hw⟩ := hG
      have hst' : Below w.heap.size w w' := hst
      exact ⟨hk.below hst', below_then hbl hbl.size hst', fun h => blk_below (hc (by rw [up_ne (by decide)] at h; exact h)) hst', y0, y1, y2, blk_below hw hst'⟩
    | 8, _, hb, hoff, hst =>
      obtain ⟨hk, hbl, hc, y0, y1, y2, hw⟩ := hG
      obtain rfl : w' = ((w.setCell ⟨wb, 0, none⟩ (.int .u64 x0)).setCell ⟨wb, 1, none⟩ (.int .u64 x1)).setCell ⟨wb, 2, none⟩ (.slice A3 n3 c3) := hst
      refine ⟨hk.then_ (set3_kept rfl) (fun k hk => .inl (.inr hk)), set3_below hbl hwb0 rfl, fun h => ?_, _, _, _, set3_at hw rfl⟩
      exact blk_kept (hc (by rw [up_ne (by decide)] at h; exact h)) (set3_kept rfl) (fun e => hqw e)
    | 9, _, hb, hoff, hst =>
      obtain rfl : w' = w := hst
      obtain ⟨hk, hbl, hc, y0, y1, y2, hw⟩ := hG
      exact ⟨hk, hbl, fun h => hc (by first | exact h | (rw [up_ne (by decide)] at h; exact h)), y0, y1, y2, hw⟩
    | i + 10, hi, _, _, _ => exact absurd hi (by omega)
  case hF =>
    intro i j b v w w' hij hi hj hb hbj hoff hG hst hf
    match i, hi, hij, hb, hoff, hst with
    | 0, _, hij, hb, hoff, hst =>
      obtain rfl : w' = w := hst
      exact hf
    | 1, _, hij, hb, hoff, hst =>
      obtain rfl : w' = w := hst
      exact hf
    | 2, _, hij, hb, hoff, hst =>
      obtain rfl : w' = w := hst
      exact hf
    | 3, _, hij, hb, hoff, hst =>
      obtain rfl : w' = w := hst
      exact hf
    | 4, _, hij, hb, hoff, hst =>
      match j, hj, hij, hbj, hf with
      | 0, _, hij, hbj, hf => 
        exact hf
      | 1, _, hij, hbj, hf => 
        exact hf
      | 2, _, hij, hbj, hf => 
        exact hf
      | 3, _, hij, hbj, hf => 
        exact hf
      | 4, _, hij, hbj, hf => exact absurd rfl hij
      | 5, _, hij, hbj, hf => exact absurd hbj (by rw [hoff 5 (by decide) (by decide)]; decide)
      | 6, _, hij, hbj, hf => 
        exact hf
      | 7, _, hij, hbj, hf => exact absurd hbj (by rw [hoff 7 (by decide) (by decide)]; decide)
      | 8, _, hij, hbj, hf => exact absurd hbj (by rw [hoff 8 (by decide) (by decide)]; decide)
      | 9, _, hij, hbj, hf => exact absurd hbj (by rw [hoff 9 (by decide) (by decide)]; decide)
      | j + 10, hj, _, _, _ => exact absurd hj (by omega)
    | 5, _, hij, hb, hoff, hst =>
      match j, hj, hij, hbj, hf with
      | 0, _, hij, hbj, hf => 
        exact hf
      | 1, _, hij, hbj, hf => 
        exact hf
      | 2, _, hij, hbj, hf => 
        exact hf
      | 3, _, hij, hbj, hf => 
        exact hf
      | 4, _, hij, hbj, hf => 
        exact QT.below hf hst
      | 5, _, hij, hbj, hf => exact absurd rfl hij
      | 6, _, hij, hbj, hf => 
        exact hf
      | 7, _, hij, hbj, hf => exact absurd hbj (by rw [hoff 7 (by decide) (by decide)]; decide)
      | 8, _, hij, hbj, hf => exact absurd hbj (by rw [hoff 8 (by decide) (by decide)]; decide)
      | 9, _, hij, hbj, hf => exact absurd hbj (by rw [hoff 9 (by decide) (by decide)]; decide)
      | j + 10, hj, _, _, _ => exact absurd hj (by omega)
    | 6, _, hij, hb, hoff, hst =>
      obtain rfl : w' = w := hst
      exact hf
    | 7, _, hij, hb, hoff, hst =>
      match j, hj, hij, hbj, hf with
      | 0, _, hij, hbj, hf => 
        exact hf
      | 1, _, hij, hbj, hf => 
        exact hf
      | 2, _, hij, hbj, hf => 
        exact hf
      | 3, _, hij, hbj, hf => 
        exact hf
      | 4, _, hij, hbj, hf => 
        exact QT.below hf hst
      | 5, _, hij, hbj, hf => 
        exact Kd.R_below hf hst
      | 6, _, hij, hbj, hf => 
        exact hf
      | 7, _, hij, hbj, hf => exact absurd rfl hij
      | 8, _, hij, hbj, hf => exact absurd hbj (by rw [hoff 8 (by decide) (by decide)]; decide)
      | 9, _, hij, hbj, hf => exact absurd hbj (by rw [hoff 9 (by decide) (by decide)]; decide)
      | j + 10, hj, _, _, _ => exact absurd hj (by omega)
    | 8, _, hij, hb, hoff, hst =>
      match j, hj, hij, hbj, hf with
      | 0, _, hij, hbj, hf => 
        exact hf
      | 1, _, hij, hbj, hf => 
        exact hf
      | 2, _, hij, hbj, hf => 
        exact hf
      | 3, _, hij, hbj, hf => 
        exact hf
      | 4, _, hij, hbj, hf => 
        obtain rfl : w' = ((w.setCell ⟨wb, 0, none⟩ (.int .u64 x0)).setCell ⟨wb, 1, none⟩ (.int .u64 x1)).setCell ⟨wb, 2, none⟩ (.slice A3 n3 c3) := hst
        exact QT.kept hf (set3_kept rfl) (fun k hk e => hnw (by have e : k = wb := e; exact e ▸ hk)) (fun k e => by have e : k = wb := e; omega)
      | 5, _, hij, hbj, hf => 
        obtain rfl : w' = ((w.setCell ⟨wb, 0, none⟩ (.int .u64 x0)).setCell ⟨wb, 1, none⟩ (.int .u64 x1)).setCell ⟨wb, 2, none⟩ (.slice A3 n3 c3) := hst
        exact Kd.R_kept hf (set3_kept rfl) (fun k hk e => by have hk : W.heap.size ≤ k := hk; have e : k = wb := e; omega)
      | 6, _, hij, hbj, hf => 
        exact hf
      | 7, _, hij, hbj, hf => 
        exact hf
      | 8, _, hij, hbj, hf => exact absurd rfl hij
      | 9, _, hij, hbj, hf => exact absurd hbj (by rw [hoff 9 (by decide) (by decide)]; decide)
      | j + 10, hj, _, _, _ => exact absurd hj (by omega)
    | 9, _, hij, hb, hoff, hst =>
      obtain rfl : w' = w := hst
      exact hf
    | i + 10, hi, _, _, _, _ => exact absurd hi (by omega)
  case s0 =>
    refine ⟨_, rfl, fun b a w hG hb hoff hd hs K hK => ?_⟩
    have h10 := (hs 10 (by decide)).trans z10
    have e10 := eval_of h10
    refine value_ (v := (.agg #[.int .u64 x0, .int .u64 x1, .slice A3 n3 c3])) rfl rfl ?_ (hK _ _ rfl rfl)
    have hk8 := blk_kept hH10 hG.1 (fun h => by rcases h with h | h <;> omega)
    have hc0 := (blk_cell hk8 0).trans rfl
    have hc1 := (blk_cell hk8 1).trans rfl
    have hc2 := (blk_cell hk8 2).trans rfl
    have hu := Try.underlying48
    clear hG hk8
    clear hd hs hK hoff
    clear e10
    go_simp
  case s1 =>
    refine ⟨_, rfl, fun b a w hG hb hoff hd hs K hK => ?_⟩
    have h3 := (hs 3 (by decide)).trans z3
    have e3 := eval_of h3
    refine value_ (v := (.pointer (some ⟨qb, 0, none⟩))) rfl rfl ?_ (hK _ _ rfl rfl)
    clear hd hs hK hoff
    clear e3
    go_simp
  case s2 =>
    refine ⟨_, rfl, fun b a w hG hb hoff hd hs K hK => ?_⟩
    have h6 := (hs 6 (by decide)).trans z6
    have e6 := eval_of h6
    refine value_ (v := (.pointer (some ⟨g6, 1, none⟩))) rfl rfl ?_ (hK _ _ rfl rfl)
    clear hd hs hK hoff
    clear e6
    go_simp
  case s3 =>
    refine ⟨_, rfl, fun b a w hG hb hoff hd hs K hK => ?_⟩
    obtain ⟨y91, h91, f91⟩ := hd 2 91 (by decide) (by decide)
    replace f91 : y91 = (.pointer (some ⟨g6, 1, none⟩)) := f91
    subst y91
    have e91 := eval_of h91
    refine value_ (v := (.int .u64 ap)) rfl rfl ?_ (hK _ _ rfl rfl)
    have hk6 := blk_kept hH6 hG.1 (fun h => by rcases h with h | h <;> omega)
    have hc1 := (blk_cell hk6 1).trans rfl
    clear hG hk6
    clear hd hs hK hoff
    clear e91
    go_simp
  case s4 =>
    refine ⟨_, rfl, fun b a w hG hb hoff hd hs K hK => ?_⟩
    obtain ⟨y90, h90, f90⟩ := hd 1 90 (by decide) (by decide)
    replace f90 : y90 = (.pointer (some ⟨qb, 0, none⟩)) := f90
    subst y90
    have e90 := eval_of h90
    obtain ⟨y92, h92, f92⟩ := hd 3 92 (by decide) (by decide)
    replace f92 : y92 = (.int .u64 ap) := f92
    subst y92
    have e92 := eval_of h92
    obtain ⟨hk, hbl, hc, y0, y1, y2, hw⟩ := hG
    have hq := hQ.again hnw (hc hb) hk
    have hle := hk.1
    refine goes_ Try.func35 (by kernel_rfl) rfl #[.pointer (some ⟨qb, 0, none⟩), .int .u64 ap] rfl rfl rfl (by simp [e90, e92]) ?_
    refine (IsQ.take hq hbl ap).mono ?_
    rintro e w' ⟨u, v, rfl, hp⟩
    have hb2 := hbl.size
    refine ⟨_, rfl, hK _ _ ⟨?_, ?_⟩ (QT.of hle hb2 hp)⟩
    · obtain ⟨_, _, _, _, _, _, _, h⟩ := hp
      exact h
    · obtain ⟨_, _, _, _, _, _, h, _⟩ := hp
      exact h
  case s5 =>
    refine ⟨_, rfl, fun b a w hG hb hoff hd hs K hK => ?_⟩
    obtain ⟨v93, h93, f93⟩ := hd 4 93 (by decide) (by decide)
    have e93 := eval_of h93
    obtain ⟨hk, hbl, hc, y0, y1, y2, hw⟩ := hG
    obtain ⟨o1, o2, vq, q1, q2, q3, q4, q5⟩ := f93
    obtain ⟨A, c, ev, hlc, hC⟩ := Kd.R_reads q2
    refine goes_ Try.func34 (by kernel_rfl) rfl #[.slice A (l.filter (sureOf sure ap)).length c] rfl rfl rfl (by simp [e93, ev]) ?_
    refine (plain_calls A c (l.filter (sureOf sure ap)) w hC (by omega)).mono ?_
    rintro e w' ⟨v, rfl, hr, hb2⟩
    exact ⟨_, rfl, hK _ _ hb2 (Kd.R_lower (Kd.R_mono hr (fun k h => Nat.le_trans hk.1 h)) hbl.size)⟩
  case s6 =>
    refine ⟨_, rfl, fun b a w hG hb hoff hd hs K hK => ?_⟩
    have h11 := (hs 11 (by decide)).trans z11
    have e11 := eval_of h11
    refine value_ (v := (.slice A2 n2 c2)) rfl rfl ?_ (hK _ _ rfl rfl)
    clear hd hs hK hoff
    clear e11
    go_simp
  case s7 =>
    refine ⟨_, rfl, fun b a w hG hb hoff hd hs K hK => ?_⟩
    obtain ⟨v94, h94, f94⟩ := hd 5 94 (by decide) (by decide)
    have e94 := eval_of h94
    obtain ⟨y95, h95, f95⟩ := hd 6 95 (by decide) (by decide)
    replace f95 : y95 = (.slice A2 n2 c2) := f95
    subst y95
    have e95 := eval_of h95
    obtain ⟨hk, hbl, hc, y0, y1, y2, hw⟩ := hG
    obtain ⟨A, c, ev, hlc, hC⟩ := Kd.R_reads f94
    have hrw := Kd.R_reads' (Kd.R_kept hR hk (fun k hk hs => hs.elim (hor k hk).1 (hor k hk).2))
    refine goes_ Try.func33 (by kernel_rfl) rfl #[.slice A (cvs (l.filter (sureOf sure ap))).length c, .slice A2 n2 c2] rfl rfl rfl (by simp [e94, e95, ev]) ?_
    obtain ⟨hn2, hc2, hC2⟩ := hrw
    subst hn2
    refine (curfewref33_Same.calls _ A c (cvs (l.filter (sureOf sure ap))) A2 c2 (cvs (l.filter (sureOf sure ap))) true w hC hlc hC2 hc2 (same_f _ (by rw [cvs_length]; omega))).mono ?_
    rintro e w' ⟨rfl, hd2⟩
    exact ⟨_, rfl, hK _ _ hd2.below rfl⟩
  case s8 =>
    refine ⟨_, rfl, fun b a w hG hb hoff hd hs K hK => ?_⟩
    have h4 := (hs 4 (by decide)).trans z4
    have e4 := eval_of h4
    obtain ⟨y89, h89, f89⟩ := hd 0 89 (by decide) (by decide)
    replace f89 : y89 = (.agg #[.int .u64 x0, .int .u64 x1, .slice A3 n3 c3]) := f89
    subst y89
    have e89 := eval_of h89
    obtain ⟨hk, hbl, hc, y0, y1, y2, hw⟩ := hG
    have hc0 := (blk_cell hw 0).trans rfl
    have hc1 := (blk_cell hw 1).trans rfl
    have hc2 := (blk_cell hw 2).trans rfl
    have hz0 := blk_frozen hw 0
    have hz1 := blk_frozen hw 1
    have hz2 := blk_frozen hw 2
    have hu := Try.underlying48
    refine skip_ (w1 := ((w.setCell ⟨wb, 0, none⟩ (.int .u64 x0)).setCell ⟨wb, 1, none⟩ (.int .u64 x1)).setCell ⟨wb, 2, none⟩ (.slice A3 n3 c3)) rfl rfl ?_ (hK undef _ rfl ?_)
    · clear hd hs hK hoff hk hbl hc e89
      first | (go_simp; done) | (go_simp; rfl)
    · exact set3_at hw rfl
  case s9 =>
    refine ⟨_, rfl, fun b a w hG hb hoff hd hs K hK => ?_⟩
    obtain ⟨y96, h96, f96⟩ := hd 7 96 (by decide) (by decide)
    replace f96 : y96 = (.bool true) := f96
    subst y96
    have e96 := eval_of h96
    refine value_ (v := (.bool true)) rfl rfl ?_ (hK _ _ rfl rfl)
    clear hd hs hK hoff
    clear e96
    go_simp
  case hend =>
    intro b v w hb hG hv
    have f0 := hv 0 (by decide)
    have f1 := hv 1 (by decide)
    have f2 := hv 2 (by decide)
    have f3 := hv 3 (by decide)
    have f4 := hv 4 (by decide)
    have f5 := hv 5 (by decide)
    have f6 := hv 6 (by decide)
    have f7 := hv 7 (by decide)
    have f8 := hv 8 (by decide)
    have f9 := hv 9 (by decide)
    have := hend (v 4) (v 5) (v 8) w b hb hG f4 f5 f8
    have gv0 : v 0 = (.agg #[.int .u64 x0, .int .u64 x1, .slice A3 n3 c3]) := f0
    have gv1 : v 1 = (.pointer (some ⟨qb, 0, none⟩)) := f1
    have gv2 : v 2 = (.pointer (some ⟨g6, 1, none⟩)) := f2
    have gv3 : v 3 = (.int .u64 ap) := f3
    have gv6 : v 6 = (.slice A2 n2 c2) := f6
    have gv7 : v 7 = (.bool true) := f7
    have gv9 : v 9 = (.bool true) := f9
    have e : (r5x21.L.map fun e => (e.2, v e.1)) = [(89, (.agg #[.int .u64 x0, .int .u64 x1, .slice A3 n3 c3])), (90, (.pointer (some ⟨qb, 0, none⟩))), (91, (.pointer (some ⟨g6, 1, none⟩))), (92, (.int .u64 ap)), (93, v 4), (94, v 5), (95, (.slice A2 n2 c2)), (96, (.bool true)), (7, (.bool true))] := by
      simp only [r5x21.L, List.map_cons, List.map_nil, gv0, gv1, gv2, gv3, gv6, gv7, gv9]
    rw [e]
    exact this

/-! ### region 23 of function 5 -/
def r5x23.T : Bool × List (List Nat × List Nat) := (true, [([], []), ([0], [0]), ([1, 1], [1]), ([], []), ([3], [3]), ([2, 4, 2], [2, 4]), ([5, 5, 0, 1, 2, 3, 4, 5], [5])])
def r5x23.B : List Nat := [0, 1, 3, 0, 8, 31, 63]
def r5x23.L : List (Nat × Tmp) := [(0, 99), (1, 100), (2, 101), (3, 102), (4, 103), (5, 104), (6, 7)]
theorem r5x23.tab : rtab .any (opsOf Try.f5 23) = r5x23.T := by kernel_rfl
theorem r5x23.bits : waitsOk r5x23.T.2 r5x23.B = true := by kernel_rfl
theorem r5x23.base : baseOk r5x23.T.2 (List.range 7) = true := by kernel_rfl
theorem r5x23.okl : okL (opsOf Try.f5 23) r5x23.L 125 = true := by kernel_rfl
def r5x23.F (qb wb : Nat) (begun sure x0 x1 : Int) (A2 : Option Addr) (n2 c2 : Nat) (v0 : Value) (l : List S91) (ok : Nat → Prop) (W0 W : World) (i : Nat) : Value → World → Prop := match i with
  | 0 => fun v _ => v = (.pointer (some ⟨qb, 0, none⟩))
  | 1 => fun v w => QT W0 W qb begun sure ok ([]) (l) w v
  | 2 => fun v w => Kd.R k147 147 w W0.heap.size (fun k => W.heap.size ≤ k) v (cvs (l))
  | 3 => fun v _ => v = (.pointer (some ⟨wb, 2, none⟩))
  | 4 => fun v _ => v = (.slice A2 n2 c2)
  | 5 => fun v _ => v = (.bool true)
  | 6 => fun v _ => v = (.bool true)
  | _ => fun _ _ => True
def r5x23.St (qb wb : Nat) (begun sure x0 x1 : Int) (A2 : Option Addr) (n2 c2 : Nat) (v0 : Value) (l : List S91) (ok : Nat → Prop) (W0 W : World) (i : Nat) : World → World → Prop := match i with
  | 1 => fun w w' => Kept w w' (fun k => k = qb) ∧ Below W0.heap.size W0 w'
  | 2 => fun w w' => Below w.heap.size w w'
  | 5 => fun w w' => Below w.heap.size w w'
  | _ => fun w w' => w' = w
def r5x23.G (qb wb : Nat) (begun sure x0 x1 : Int) (A2 : Option Addr) (n2 c2 : Nat) (v0 : Value) (l : List S91) (ok : Nat → Prop) (W0 W : World) : (Nat → Bool) → World → Prop := fun b w => Kept W w (fun k => k = qb ∨ k = wb) ∧ Below W0.heap.size W0 w ∧ (b 1 = false → w.heap[qb]? = some (QC begun sure v0)) ∧ w.heap[wb]? = some (WC x0 x1 (.slice A2 n2 c2))
set_option maxHeartbeats 4000000 in
set_option maxRecDepth 100000 in
theorem r5x23 (qb wb : Nat) (begun sure x0 x1 : Int) (A2 : Option Addr) (n2 c2 : Nat) (v0 : Value) (l : List S91) (ok : Nat → Prop) (W0 W : World) {okr : Nat → Prop} (hQ : IsQ W W0.heap.size ok qb begun sure l v0) (hnw : ¬ ok wb) (hqw : qb ≠ wb) (hwl : wb < W.heap.size) (hwb0 : W0.heap.size ≤ wb) (htl : l.length ≤ 32) (hR : Kd.R k147 147 W W0.heap.size okr (.slice A2 n2 c2) (cvs (l))) (hor : ∀ k, okr k → k ≠ qb ∧ k ≠ wb) {Q : Exit → Act → World → Prop} {a0 : Act} {w0 : World} (hz : a0.tmps.size = 125) (z3 : a0.tmps[3]? = some (.pointer (some ⟨qb, 0, none⟩))) (z4 : a0.tmps[4]? = some (.pointer (some ⟨wb, 0, none⟩))) (hG0 : (r5x23.G qb wb begun sure x0 x1 A2 n2 c2 v0 l ok W0 W) (fun _ => false) w0.drew)
    (hend : ∀ (v100 : Value) (v101 : Value) (w : World) (b : Nat → Bool), (∀ i, i < 7 → b i = true) → (r5x23.G qb wb begun sure x0 x1 A2 n2 c2 v0 l ok W0 W) b w → r5x23.F qb wb begun sure x0 x1 A2 n2 c2 v0 l ok W0 W 1 v100 w → r5x23.F qb wb begun sure x0 x1 A2 n2 c2 v0 l ok W0 W 2 v101 w → Q .normal (putAll a0 [(99, (.pointer (some ⟨qb, 0, none⟩))), (100, v100), (101, v101), (102, (.pointer (some ⟨wb, 2, none⟩))), (103, (.slice A2 n2 c2)), (104, (.bool true)), (7, (.bool true))]) w) :
    (Code.region 23 (opsOf Try.f5 23) true).wp Try.prog Q a0 w0 := by
  refine region_lit (ops' := #[_, _, _, _, _, _, _]) rfl ?_
  refine region_facts (n := 7) (T := r5x23.T) (B := r5x23.B) r5x23.L (r5x23.G qb wb begun sure x0 x1 A2 n2 c2 v0 l ok W0 W) (r5x23.St qb wb begun sure x0 x1 A2 n2 c2 v0 l ok W0 W) (r5x23.F qb wb begun sure x0 x1 A2 n2 c2 v0 l ok W0 W) (by kernel_rfl) (by kernel_rfl) r5x23.tab r5x23.bits r5x23.base (by rw [hz]; exact r5x23.okl) hG0 ?hSt ?hF ((all_cons ?s0 (all_cons ?s1 (all_cons ?s2 (all_cons ?s3 (all_cons ?s4 (all_cons ?s5 (all_cons ?s6 all_nil)))))))) ?hend
  case hSt =>
    intro i b w w' hi hb hoff hG hst
    match i, hi, hb, hoff, hst with
    | 0, _, hb, hoff, hst =>
      obtain rfl : w' = w := hst
      obtain ⟨hk, hbl, hc, hw⟩ := hG
      exact ⟨hk, hbl, fun h => hc (by first | exact h | (rw [up_ne (by decide)] at h; exact h)), hw⟩
    | 1, _, hb, hoff, hst =>
      obtain ⟨hk, hbl, hc, hw⟩ := hG
      obtain ⟨hst1, hst2⟩ := hst
      refine ⟨hk.then_ hst1 (fun k hk => .inl (.inl hk)), hst2, fun h => ?_, blk_kept hw hst1 (fun e => hqw e.symm)⟩
      rw [up_self] at h; cases h
    | 2, _, hb, hoff, hst =>
      obtain ⟨hk, hbl, hc, hw⟩ := hG
      have hst' : Below w.heap.size w w' := hst
      exact ⟨hk.below hst', below_then hbl hbl.size hst', fun h => blk_below (hc (by rw [up_ne (by decide)] at h; exact h)) hst', blk_below hw hst'⟩
    | 3, _, hb, hoff, hst =>
      obtain rfl : w' = w := hst
      obtain ⟨hk, hbl, hc, hw⟩ := hG
      exact ⟨hk, hbl, fun h => hc (by first | exact h | (rw [up_ne (by decide)] at h; exact h)), hw⟩
    | 4, _, hb, hoff, hst =>
      obtain rfl : w' = w := hst
      obtain ⟨hk, hbl, hc, hw⟩ := hG
      exact ⟨hk, hbl, fun h => hc (by first | exact h | (rw [up_ne (by decide)] at h; exact h)), hw⟩
    | 5, _, hb, hoff, hst =>
      obtain ⟨hk, hbl, hc, hw⟩ := hG
      have hst' : Below w.heap.size w w' := hst
      exact ⟨hk.below hst', below_then hbl hbl.size hst', fun h => blk_below (hc (by rw [up_ne (by decide)] at h; exact h)) hst', blk_below hw hst'⟩
    | 6, _, hb, hoff, hst =>
      obtain rfl : w' = w := hst
      obtain ⟨hk, hbl, hc, hw⟩ := hG
      exact ⟨hk, hbl, fun h => hc (by first | exact h | (rw [up_ne (by decide)] at h; exact h)), hw⟩
    | i + 7, hi, _, _, _ => exact absurd hi (by omega)
  case hF =>
    intro i j b v w w' hij hi hj hb hbj hoff hG hst hf
    match i, hi, hij, hb, hoff, hst with
    | 0, _, hij, hb, hoff, hst =>
      obtain rfl : w' = w := hst
      exact hf
    | 1, _, hij, hb, hoff, hst =>
      match j, hj, hij, hbj, hf with
      | 0, _, hij, hbj, hf => 
        exact hf
      | 1, _, hij, hbj, hf => exact absurd rfl hij
      | 2, _, hij, hbj, hf => exact absurd hbj (by rw [hoff 2 (by decide) (by decide)]; decide)
      | 3, _, hij, hbj, hf => 
        exact hf
      | 4, _, hij, hbj, hf => 
        exact hf
      | 5, _, hij, hbj, hf => exact absurd hbj (by rw [hoff 5 (by decide) (by decide)]; decide)
      | 6, _, hij, hbj, hf => exact absurd hbj (by rw [hoff 6 (by decide) (by decide)]; decide)
      | j + 7, hj, _, _, _ => exact absurd hj (by omega)
    | 2, _, hij, hb, hoff, hst =>
      match j, hj, hij, hbj, hf with
      | 0, _, hij, hbj, hf => 
        exact hf
      | 1, _, hij, hbj, hf => 
        exact QT.below hf hst
      | 2, _, hij, hbj, hf => exact absurd rfl hij
      | 3, _, hij, hbj, hf => 
        exact hf
      | 4, _, hij, hbj, hf => 
        exact hf
      | 5, _, hij, hbj, hf => exact absurd hbj (by rw [hoff 5 (by decide) (by decide)]; decide)
      | 6, _, hij, hbj, hf => exact absurd hbj (by rw [hoff 6 (by decide) (by decide)]; decide)
      | j + 7, hj, _, _, _ => exact absurd hj (by omega)
    | 3, _, hij, hb, hoff, hst =>
      obtain rfl : w' = w := hst
      exact hf
    | 4, _, hij, hb, hoff, hst =>
      obtain rfl : w' = w := hst
      exact hf
    | 5, _, hij, hb, hoff, hst =>
      match j, hj, hij, hbj, hf with
      | 0, _, hij, hbj, hf => 
        exact hf
      | 1, _, hij, hbj, hf => 
        exact QT.below hf hst
      | 2, _, hij, hbj, hf => 
        exact Kd.R_below hf hst
      | 3, _, hij, hbj, hf => 
        exact hf
      | 4, _, hij, hbj, hf => 
        exact hf
      | 5, _, hij, hbj, hf => exact absurd rfl hij
      | 6, _, hij, hbj, hf => exact absurd hbj (by rw [hoff 6 (by decide) (by decide)]; decide)
      | j + 7, hj, _, _, _ => exact absurd hj (by omega)
    | 6, _, hij, hb, hoff, hst =>
      obtain rfl : w' = w := hst
      exact hf
    | i + 7, hi, _, _, _, _ => exact absurd hi (by omega)
  case s0 =>
    refine ⟨_, rfl, fun b a w hG hb hoff hd hs K hK => ?_⟩
    have h3 := (hs 3 (by decide)).trans z3
    have e3 := eval_of h3
    refine value_ (v := (.pointer (some ⟨qb, 0, none⟩))) rfl rfl ?_ (hK _ _ rfl rfl)
    clear hd hs hK hoff
    clear e3
    go_simp
  case s1 =>
    refine ⟨_, rfl, fun b a w hG hb hoff hd hs K hK => ?_⟩
    obtain ⟨y99, h99, f99⟩ := hd 0 99 (by decide) (by decide)
    replace f99 : y99 = (.pointer (some ⟨qb, 0, none⟩)) := f99
    subst y99
    have e99 := eval_of h99
    obtain ⟨hk, hbl, hc, hw⟩ := hG
    have hq := hQ.again hnw (hc hb) hk
    have hle := hk.1
    refine goes_ Try.func36 (by kernel_rfl) rfl #[.pointer (some ⟨qb, 0, none⟩)] rfl rfl rfl (by simp [e99]) ?_
    refine (IsQ.drop hq hbl).mono ?_
    rintro e w' ⟨u, v, rfl, hp⟩
    have hb2 := hbl.size
    refine ⟨_, rfl, hK _ _ ⟨?_, ?_⟩ (QT.of hle hb2 hp)⟩
    · obtain ⟨_, _, _, _, _, _, _, h⟩ := hp
      exact h
    · obtain ⟨_, _, _, _, _, _, h, _⟩ := hp
      exact h
  case s2 =>
    refine ⟨_, rfl, fun b a w hG hb hoff hd hs K hK => ?_⟩
    obtain ⟨v100, h100, f100⟩ := hd 1 100 (by decide) (by decide)
    have e100 := eval_of h100
    obtain ⟨hk, hbl, hc, hw⟩ := hG
    obtain ⟨o1, o2, vq, q1, q2, q3, q4, q5⟩ := f100
    obtain ⟨A, c, ev, hlc, hC⟩ := Kd.R_reads q2
    refine goes_ Try.func34 (by kernel_rfl) rfl #[.slice A (l).length c] rfl rfl rfl (by simp [e100, ev]) ?_
    refine (plain_calls A c (l) w hC (by omega)).mono ?_
    rintro e w' ⟨v, rfl, hr, hb2⟩
    exact ⟨_, rfl, hK _ _ hb2 (Kd.R_lower (Kd.R_mono hr (fun k h => Nat.le_trans hk.1 h)) hbl.size)⟩
  case s3 =>
    refine ⟨_, rfl, fun b a w hG hb hoff hd hs K hK => ?_⟩
    have h4 := (hs 4 (by decide)).trans z4
    have e4 := eval_of h4
    refine value_ (v := (.pointer (some ⟨wb, 2, none⟩))) rfl rfl ?_ (hK _ _ rfl rfl)
    clear hd hs hK hoff
    clear e4
    go_simp
  case s4 =>
    refine ⟨_, rfl, fun b a w hG hb hoff hd hs K hK => ?_⟩
    obtain ⟨y102, h102, f102⟩ := hd 3 102 (by decide) (by decide)
    replace f102 : y102 = (.pointer (some ⟨wb, 2, none⟩)) := f102
    subst y102
    have e102 := eval_of h102
    refine value_ (v := (.slice A2 n2 c2)) rfl rfl ?_ (hK _ _ rfl rfl)
    have hc2 := (blk_cell hG.2.2.2 2).trans rfl
    clear hG
    clear hd hs hK hoff
    clear e102
    go_simp
  case s5 =>
    refine ⟨_, rfl, fun b a w hG hb hoff hd hs K hK => ?_⟩
    obtain ⟨v101, h101, f101⟩ := hd 2 101 (by decide) (by decide)
    have e101 := eval_of h101
    obtain ⟨y103, h103, f103⟩ := hd 4 103 (by decide) (by decide)
    replace f103 : y103 = (.slice A2 n2 c2) := f103
    subst y103
    have e103 := eval_of h103
    obtain ⟨hk, hbl, hc, hw⟩ := hG
    obtain ⟨A, c, ev, hlc, hC⟩ := Kd.R_reads f101
    have hrw := Kd.R_reads' (Kd.R_kept hR hk (fun k hk hs => hs.elim (hor k hk).1 (hor k hk).2))
    refine goes_ Try.func33 (by kernel_rfl) rfl #[.slice A (cvs (l)).length c, .slice A2 n2 c2] rfl rfl rfl (by simp [e101, e103, ev]) ?_
    obtain ⟨hn2, hc2, hC2⟩ := hrw
    subst hn2
    refine (curfewref33_Same.calls _ A c (cvs (l)) A2 c2 (cvs (l)) true w hC hlc hC2 hc2 (same_f _ (by rw [cvs_length]; omega))).mono ?_
    rintro e w' ⟨rfl, hd2⟩
    exact ⟨_, rfl, hK _ _ hd2.below rfl⟩
  case s6 =>
    refine ⟨_, rfl, fun b a w hG hb hoff hd hs K hK => ?_⟩
    obtain ⟨y104, h104, f104⟩ := hd 5 104 (by decide) (by decide)
    replace f104 : y104 = (.bool true) := f104
    subst y104
    have e104 := eval_of h104
    refine value_ (v := (.bool true)) rfl rfl ?_ (hK _ _ rfl rfl)
    clear hd hs hK hoff
    clear e104
    go_simp
  case hend =>
    intro b v w hb hG hv
    have f0 := hv 0 (by decide)
    have f1 := hv 1 (by decide)
    have f2 := hv 2 (by decide)
    have f3 := hv 3 (by decide)
    have f4 := hv 4 (by decide)
    have f5 := hv 5 (by decide)
    have f6 := hv 6 (by decide)
    have := hend (v 1) (v 2) w b hb hG f1 f2
    have gv0 : v 0 = (.pointer (some ⟨qb, 0, none⟩)) := f0
    have gv3 : v 3 = (.pointer (some ⟨wb, 2, none⟩)) := f3
    have gv4 : v 4 = (.slice A2 n2 c2) := f4
    have gv5 : v 5 = (.bool true) := f5
    have gv6 : v 6 = (.bool true) := f6
    have e : (r5x23.L.map fun e => (e.2, v e.1)) = [(99, (.pointer (some ⟨qb, 0, none⟩))), (100, v 1), (101, v 2), (102, (.pointer (some ⟨wb, 2, none⟩))), (103, (.slice A2 n2 c2)), (104, (.bool true)), (7, (.bool true))] := by
      simp only [r5x23.L, List.map_cons, List.map_nil, gv0, gv3, gv4, gv5, gv6]
    rw [e]
    exact this

end Go.Proofs.Ytbjbejjieibldaa.Qa
