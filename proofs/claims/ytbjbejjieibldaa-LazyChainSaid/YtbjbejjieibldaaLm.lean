/- LazyChain, walked. -/
import Derived.Test.YtbjbejjieibldaaLl
import Derived.Test.YtbjbejjieibldaaLt
namespace Go.Proofs.Ytbjbejjieibldaa.La
open Go.RowKit Go.Proofs.YtbjbejjieibldaaW.PrintWords Go.Proofs.YtbjbejjieibldaaW.PrintLast Go.Proofs.YtbjbejjieibldaaW.PrintMore Go.Maps Go.Proofs.Ytbjbejjieibldaa.Rg
open Go.Proofs.Ytbjbejjieibldaa
set_option linter.unusedVariables false

theorem xr_comm (x y : Int) : xr x y = xr y x := by
  unfold xr bits
  simp [BitVec.xor_comm]
theorem xr_zero (x : Int) (h : (Lit.int .i64 x).wf = true) : xr 0 x = x := by
  unfold xr bits
  simp only [Lit.wf, Bool.and_eq_true, decide_eq_true_eq] at h
  have hmin : IntKind.i64.min = -9223372036854775808 := rfl
  have hmax : IntKind.i64.max = 9223372036854775807 := rfl
  rw [hmin, hmax] at h
  simp
  have e : (2 : Int) ^ IntKind.i64.bits = 18446744073709551616 := rfl
  rw [e, IntKind.wrap_i64]
  omega
theorem tmod_nat (f : Int) (hf : 0 ≤ f) (n : Nat) : f.tmod (n : Int) = ((f.toNat % n : Nat) : Int) := by
  obtain ⟨m, rfl⟩ := Int.eq_ofNat_of_zero_le hf
  rw [Int.tmod_eq_emod_of_nonneg hf, Int.toNat_natCast]
  simp
/-- The xor of the first k numbers, as the law reckons it. -/
def Wn (l : List Int) : Nat → Int
  | 0 => 0
  | k + 1 => xr (Wn l k) (rd l (k : Int))
theorem wn_x (l : List Int) (h0 : (Lit.int .i64 (rd l 0)).wf = true) : ∀ k, Wn l (k + 1) = X l k := by
  intro k
  induction k with
  | zero => exact xr_zero _ h0
  | succ k ih =>
    show xr (Wn l (k + 1)) (rd l ((k + 1 : Nat) : Int)) = xr (rd l ((k + 1 : Nat) : Int)) (X l k)
    rw [ih, xr_comm]

/-- While the cells are laid: k of them stand. -/
structure BH (W0 w : World) (lo q2 q5 q6 gc gp n : Nat) (Al : Option Addr) (cl : Nat) (l : List Int) (cb g7 : Nat → Nat) (k : Nat) : Prop where
  b2 : w.heap[q2]? = some (.cells #[.slice Al n cl] 103 (0, 0))
  b5 : w.heap[q5]? = some (.cells #[.slice (some ⟨gc, 0, none⟩) n n] 104 (0, 0))
  b6 : w.heap[q6]? = some (.cells #[.slice (some ⟨gp, 0, none⟩) n n] 105 (0, 0))
  cal : Row w gc n (fun _ => 0)
  ptr : ∃ arr, w.heap[gp]? = some (.cells arr 106 (0, 0)) ∧ arr.size = n ∧ ∀ j, j < k → arr[j]? = some (PB (cb j))
  v7 : ∀ j, j < k → w.heap[g7 j]? = some (.cells #[.int .i64 j] 3 (0, 0))
  cell : ∀ j, j < k → w.heap[cb j]? = some (EMP q5 (g7 j) q2 q6)
  inj : ∀ i j, i < k → j < k → cb i = cb j → i = j
  low : ∀ j, j < k → lo ≤ cb j ∧ lo ≤ g7 j
  lows : q2 < lo ∧ q5 < lo ∧ q6 < lo ∧ gc < lo ∧ gp < lo ∧ lo ≤ w.heap.size
  gps : gp ≠ q2 ∧ gp ≠ q5 ∧ gp ≠ q6 ∧ gp ≠ gc
  base : W0.heap.size ≤ gp
  below : Below W0.heap.size W0 w
theorem BH.step {W0 w w1 w2 : World} {lo q2 q5 q6 gc gp n : Nat} {Al : Option Addr} {cl : Nat} {l : List Int} {cb g7 : Nat → Nat} {k g c : Nat} (h : BH W0 w lo q2 q5 q6 gc gp n Al cl l cb g7 k) (hkn : k < n) (hg : g = w.heap.size) (hb1 : Below w.heap.size w w1) (hg7 : w1.heap[g]? = some (.cells #[.int .i64 k] 3 (0, 0)))
    {arr : Array Value} (harr : w.heap[gp]? = some (.cells arr 106 (0, 0))) (hk : Kept w1 w2 (fun k => k = gp)) (hp : w2.heap[gp]? = some (.cells (arr.setIfInBounds k (PB c)) 106 (0, 0))) (hc : w1.heap.size ≤ c) (hcc : w2.heap[c]? = some (EMP q5 g q2 q6)) (hB : Below W0.heap.size W0 w2) :
    BH W0 w2 lo q2 q5 q6 gc gp n Al cl l (fun j => if j = k then c else cb j) (fun j => if j = k then g else g7 j) (k + 1) := by
  obtain ⟨arr', p1, p2, p3⟩ := h.ptr
  rw [harr] at p1
  cases p1
  obtain ⟨l1, l2, l3, l4, l5, l6⟩ := h.lows
  obtain ⟨e1, e2, e3, e4⟩ := h.gps
  have s1 := hb1.size
  have s2 := hk.1
  have lg := blk_lt hg7
  have kp : ∀ q o, w.heap[q]? = some o → q ≠ gp → w2.heap[q]? = some o := fun q o hq hne => blk_kept (blk_below hq hb1) hk hne
  have lts : ∀ j, j < k → cb j < w.heap.size ∧ g7 j < w.heap.size := fun j hj => ⟨blk_lt (h.cell j hj), blk_lt (h.v7 j hj)⟩
  refine ⟨kp _ _ h.b2 (fun e => e1 e.symm), kp _ _ h.b5 (fun e => e2 e.symm), kp _ _ h.b6 (fun e => e3 e.symm), (h.cal.kept (Kept.of_below hb1 (fun _ => False)) (fun h => h)).kept hk (fun e => e4 e.symm), ⟨_, hp, by simp [p2], fun j hj => ?_⟩, fun j hj => ?_, fun j hj => ?_, fun i j hi hj e => ?_, fun j hj => ?_, ⟨l1, l2, l3, l4, l5, by omega⟩, h.gps, h.base, hB⟩
  · by_cases ej : j = k
    · subst ej
      rw [if_pos rfl, Array.getElem?_setIfInBounds_self_of_lt (by omega)]
    · rw [if_neg ej, Array.getElem?_setIfInBounds_ne (fun e => ej e.symm)]
      exact p3 j (by omega)
  · by_cases ej : j = k
    · subst ej
      rw [if_pos rfl]
      exact blk_kept hg7 hk (by omega)
    · rw [if_neg ej]
      have := h.low j (by omega)
      exact kp _ _ (h.v7 j (by omega)) (by omega)
  · by_cases ej : j = k
    · subst ej
      rw [if_pos rfl, if_pos rfl]
      exact hcc
    · rw [if_neg ej, if_neg ej]
      have := h.low j (by omega)
      exact kp _ _ (h.cell j (by omega)) (by omega)
  · by_cases ei : i = k <;> by_cases ej : j = k
    · omega
    · rw [if_pos ei, if_neg ej] at e
      have := (lts j (by omega)).1
      omega
    · rw [if_neg ei, if_pos ej] at e
      have := (lts i (by omega)).1
      omega
    · rw [if_neg ei, if_neg ej] at e
      exact h.inj i j (by omega) (by omega) e
  · by_cases ej : j = k
    · rw [if_pos ej, if_pos ej]
      omega
    · rw [if_neg ej, if_neg ej]
      exact h.low j (by omega)
theorem BH.done {W0 w : World} {lo q2 q5 q6 gc gp n : Nat} {Al : Option Addr} {cl : Nat} {l : List Int} {cb g7 : Nat → Nat} (h : BH W0 w lo q2 q5 q6 gc gp n Al cl l cb g7 n) (hgcs : gc ≠ q2 ∧ gc ≠ q5 ∧ gc ≠ q6) (hl : Kd.C (Kd.int .i64) W0 Al n l) (hal : ∀ a, Al = some a → a.block < W0.heap.size) (hb : W0.heap.size ≤ gc) (hn : n ≤ 1000) :
    CH W0 w lo q2 q5 q6 gc gp n Al cl l cb g7 (fun j => EMP q5 (g7 j) q2 q6) (fun _ => 0) := by
  obtain ⟨l1, l2, l3, l4, l5, l6⟩ := h.lows
  refine ⟨h.b2, h.b5, h.b6, h.cal, h.ptr, h.v7, h.cell, h.inj, h.low, fun j k hj hk e => ?_, ⟨l1, l2, l3, l4, l5⟩, ⟨hgcs.1, hgcs.2.1, hgcs.2.2, fun e => h.gps.2.2.2 e.symm⟩, hl, hal, hb, hn, h.below⟩
  have h1 := h.v7 j hj
  rw [e, h.cell k hk] at h1
  cases h1

set_option maxHeartbeats 8000000 in
set_option maxRecDepth 100000 in
theorem lazychain_walk (Al : Option Addr) (cl : Nat) (l : List Int) (f : Int) (w : World) (hC : Kd.C (Kd.int .i64) w Al l.length l) (hU : ∀ x ∈ l, (Lit.int .i64 x).wf = true) (hf : 0 ≤ f ∧ f ≤ 255) (h63 : l.length ≤ 9223372036854775807) :
    Calls Try.prog 11 #[.slice Al l.length cl, .int .u8 f] w fun e w' => e = .returned (.bool true) ∧ Below w.heap.size w w' := by
  have hm := hmf
  have HC := Aside0.mk hC
  have HU := Aside0.mk hU
  clear hC hU
  by_cases hb0 : l.length = 0
  · have d1 : ((l.length : Int) == 0) = true := by rw [hb0]; rfl
    have d1' : (l.length == 0) = true := by rw [hb0]; rfl
    go_enter Try.func11, Try.ntmps11
    go_wp2_with (first
      | ((with_reducible refine gate_dst (N := 2) rfl ?_); refine box_event ?hg (N := 2) ?hd (cs := #[.slice Al l.length cl]) (t := 103) ?hr ?_; (case hd => rfl); (case hg => rfl); (case hr => first | (go_simp; done) | (go_simp; rfl)); intro q2 hg w1 hbox hb; have E2 := Aside0.mk hg; have K2 := Aside0.mk hbox; have B2 := Aside0.mk hb; clear hg hbox hb; have c2 := (blk_cell K2.out 0).trans rfl)
      | (go_at_call 55; refine (lives_calls _).mono ?_; rintro e w' ⟨rfl, hb⟩; have HB := Aside0.mk (below_then B2.out B2.out.size hb); clear hb))
    go_ret
    exact ⟨rfl, HB.out⟩
  · have d1 : ((l.length : Int) == 0) = false := by simp; intro h; exact hb0 (by simp [h])
    by_cases hb1 : 100 < l.length
    · have d2 : decide (100 < (l.length : Int)) = true := by simp; omega
      go_enter Try.func11, Try.ntmps11
      go_wp2_with (first
        | ((with_reducible refine gate_dst (N := 2) rfl ?_); refine box_event ?hg (N := 2) ?hd (cs := #[.slice Al l.length cl]) (t := 103) ?hr ?_; (case hd => rfl); (case hg => rfl); (case hr => first | (go_simp; done) | (go_simp; rfl)); intro q2 hg w1 hbox hb; have E2 := Aside0.mk hg; have K2 := Aside0.mk hbox; have B2 := Aside0.mk hb; clear hg hbox hb; have c2 := (blk_cell K2.out 0).trans rfl)
        | (go_at_call 55; refine (lives_calls _).mono ?_; rintro e w' ⟨rfl, hb⟩; have HB := Aside0.mk (below_then B2.out B2.out.size hb); clear hb))
      go_ret
      exact ⟨rfl, HB.out⟩
    · have d2 : decide (100 < (l.length : Int)) = false := by simp; omega
      have hn1 : l.length ≤ 100 := by omega
      have hn0 : 0 < l.length := by omega
      have hmake := print_make (P := Try.prog) 104 3 .i64 8 Try.underlying104 info3 (by omega) l.length (by omega)
      have hmakp := print_make_of (P := Try.prog) 105 106 (.pointer none) 8 Try.underlying105 info106 rfl (by omega) l.length (by omega)
      clear hb0 hb1 h63
      go_enter Try.func11, Try.ntmps11
      go_wp2_with (first
        | ((with_reducible refine gate_dst (N := 2) rfl ?_); refine box_event ?hg (N := 2) ?hd (cs := #[.slice Al l.length cl]) (t := 103) ?hr ?_; (case hd => rfl); (case hg => rfl); (case hr => first | (go_simp; done) | (go_simp; rfl)); intro q2 hg w1 hbox hb; have E2 := Aside0.mk hg; have K2 := Aside0.mk hbox; have B2 := Aside0.mk hb; clear hg hbox hb; have c2 := (blk_cell K2.out 0).trans rfl)
        | ((with_reducible refine gate_dst (N := 24) rfl ?_); refine value_event (v := .slice (some ⟨w1.heap.size, 0, none⟩) l.length l.length) (w1 := w1.alloc (.cells (madeCells #[.int .i64 0] l.length) 3)) rfl ?hr ?_; (case hr => first | (go_simp; done) | (go_simp; rfl)); intro w2 hw; have K3 : Aside0 (Row w2 w1.heap.size l.length (fun _ => 0) ∧ Below w1.heap.size w1 w2) := ⟨by rw [hw]; exact ⟨Row.made w1 _, below_alloc (Below.refl _ _) _⟩⟩; clear hw)
        | ((with_reducible refine gate_dst (N := 5) rfl ?_); refine box_event ?hg (N := 5) ?hd (cs := #[.slice none 0 0]) (t := 104) ?hr ?_; (case hd => rfl); (case hg => rfl); (case hr => first | (go_simp; done) | (go_simp; rfl)); intro q5 hg w3 hbox hb; have E5 := Aside0.mk hg; have K5 := Aside0.mk hbox; have B5 := Aside0.mk hb; clear hg hbox hb; have z0 := blk_frozen K5.out 0; have y0 := (blk_cell K5.out 0).trans rfl)
        | ((with_reducible refine gate_op (Op.store 104 (.tmp 5) (.tmp 24)) rfl ?_); refine skip_event (w1 := w3.setCell ⟨q5, 0, none⟩ (.slice (some ⟨w1.heap.size, 0, none⟩) l.length l.length)) rfl rfl ?hr ?_; (case hr => first | (go_simp; done) | (go_simp; rfl)); intro w4 hw; have K4 : Aside0 (w4.heap[q5]? = some (.cells #[.slice (some ⟨w1.heap.size, 0, none⟩) l.length l.length] 104 (0, 0)) ∧ Below w2.heap.size w2 w4) := ⟨by rw [hw]; exact ⟨(setb K5.out 0 _).1, (setb K5.out 0 _).2.2 _ _ (Nat.le_of_eq E5.out.symm) B5.out⟩⟩; clear hw z0 y0 c2; have K24 := Aside0.mk (blk_below (blk_below K2.out K3.out.2) K4.out.2); have c2 := (blk_cell K24.out 0).trans rfl)
        | ((with_reducible refine gate_dst (N := 27) rfl ?_); refine value_event (v := .slice (some ⟨w4.heap.size, 0, none⟩) l.length l.length) (w1 := w4.alloc (.cells (madeCells #[.pointer none] l.length) 106)) rfl ?hr ?_; (case hr => first | (go_simp; done) | (go_simp; rfl)); intro w5 hw; have K6p : Aside0 (w5.heap[w4.heap.size]? = some (.cells (madeCells #[.pointer none] l.length) 106 (0, 0)) ∧ Below w4.heap.size w4 w5) := ⟨by rw [hw]; exact ⟨blk_new _ _, below_alloc (Below.refl _ _) _⟩⟩; clear hw)
        | ((with_reducible refine gate_dst (N := 6) rfl ?_); refine box_event ?hg (N := 6) ?hd (cs := #[.slice none 0 0]) (t := 105) ?hr ?_; (case hd => rfl); (case hg => rfl); (case hr => first | (go_simp; done) | (go_simp; rfl)); intro q6 hg w6 hbox hb; have E6 := Aside0.mk hg; have K6 := Aside0.mk hbox; have B6 := Aside0.mk hb; clear hg hbox hb; have z0 := blk_frozen K6.out 0; have y0 := (blk_cell K6.out 0).trans rfl)
        | ((with_reducible refine gate_op (Op.store 105 (.tmp 6) (.tmp 27)) rfl ?_); refine skip_event (w1 := w6.setCell ⟨q6, 0, none⟩ (.slice (some ⟨w4.heap.size, 0, none⟩) l.length l.length)) rfl rfl ?hr ?_; (case hr => first | (go_simp; done) | (go_simp; rfl)); intro w7 hw; have K7 : Aside0 (w7.heap[q6]? = some (.cells #[.slice (some ⟨w4.heap.size, 0, none⟩) l.length l.length] 105 (0, 0)) ∧ Below w5.heap.size w5 w7) := ⟨by rw [hw]; exact ⟨(setb K6.out 0 _).1, (setb K6.out 0 _).2.2 _ _ (Nat.le_of_eq E6.out.symm) B6.out⟩⟩; clear hw z0 y0 c2; have c2 := (blk_cell (blk_below (blk_below K24.out K6p.out.2) K7.out.2) 0).trans rfl))
      have HG : Aside0 (w1.heap.size ≠ q2 ∧ w1.heap.size ≠ q5 ∧ w1.heap.size ≠ q6 ∧ w.heap.size ≤ w1.heap.size ∧ w4.heap.size ≠ w1.heap.size) := ⟨by
        have a1 := blk_lt K2.out
        have a2 := E5.out
        have a3 := E6.out
        have a4 := (K3.out.1).lt
        have a5 := K4.out.2.size
        have a6 := K6p.out.2.size
        have a7 := B2.out.size
        omega⟩
      have HBH : Aside0 (∃ cb g7, BH w w7 w7.heap.size q2 q5 q6 w1.heap.size w4.heap.size l.length Al cl l cb g7 0) := ⟨fun _ => 0, fun _ => 0, by
        have b47 := below_then K6p.out.2 K6p.out.2.size K7.out.2
        have l1 := blk_lt K24.out
        have l2 := blk_lt K4.out.1
        have l3 := blk_lt K7.out.1
        have l4 := blk_lt K6p.out.1
        have a4 := (K3.out.1).lt
        have a5 := K4.out.2.size
        have a6 := b47.size
        have a7 := B2.out.size
        have a8 := K3.out.2.size
        have a9 := K7.out.2.size
        have e5 := E5.out
        have e6 := E6.out
        have b24 := below_then K3.out.2 K3.out.2.size K4.out.2
        exact ⟨blk_below K24.out b47, blk_below K4.out.1 b47, K7.out.1, ((K3.out.1).kept (Kept.of_below K4.out.2 (fun _ => False)) (fun h => h)).kept (Kept.of_below b47 (fun _ => False)) (fun h => h), ⟨_, blk_below K6p.out.1 K7.out.2, by simp [size_madeCells], fun j hj => absurd hj (by omega)⟩, fun j hj => absurd hj (by omega), fun j hj => absurd hj (by omega), fun i j hi hj => absurd hi (by omega), fun j hj => absurd hj (by omega), ⟨by omega, by omega, l3, by omega, by omega, Nat.le_refl _⟩, ⟨by omega, by omega, by omega, HG.out.2.2.2.2⟩, by omega, below_then (below_then B2.out a7 b24) (by have := b24.size; omega) b47⟩⟩
      obtain ⟨gc, hgc⟩ : ∃ gc, gc = w1.heap.size := ⟨_, rfl⟩
      obtain ⟨gp, hgp⟩ : ∃ gp, gp = w4.heap.size := ⟨_, rfl⟩
      obtain ⟨lo, hlo⟩ : ∃ lo, lo = w7.heap.size := ⟨_, rfl⟩
      rw [← hgc, ← hgp, ← hlo] at HBH
      rw [← hgc, ← hgp] at HG
      rw [← hgc, ← hgp]
      clear K2 K3 K4 K24 K5 K6 K6p K7 B2 B5 B6 E2 E5 E6 hgc hgp hlo
      go_loopw [30] (fun i wr => ∃ k : Nat, k ≤ l.length ∧ i = .int .i64 k ∧ Aside0 (∃ cb g7, BH w wr lo q2 q5 q6 gc gp l.length Al cl l cb g7 k)) (fun i _ => l.length - (intOf i).toNat)
      case atStart => exact ⟨0, Nat.zero_le _, rfl, HBH⟩
      case round =>
        clear HBH
        obtain ⟨k, hk, rfl, HBH⟩ := hrel
        obtain ⟨cb, g7, hbh⟩ := HBH.out
        by_cases hlt : k < l.length
        · have HH := Aside0.mk hbh
          clear hbh HBH
          go_wp2_with (first
            | ((with_reducible refine gate_dst (N := 7) rfl ?_); refine box_event ?hg (N := 7) ?hd (cs := #[.int .i64 0]) (t := 3) ?hr ?_; (case hd => rfl); (case hg => rfl); (case hr => first | (go_simp; done) | (go_simp; rfl)); intro g hg w8 hbox hb; have E8 := Aside0.mk hg; have K8 := Aside0.mk hbox; have B8 := Aside0.mk hb; clear hg hbox hb; have c0 := (blk_cell K8.out 0).trans rfl; have z0 := blk_frozen K8.out 0)
            | ((with_reducible refine gate_op (Op.store 3 (.tmp 7) (.tmp 32)) rfl ?_); refine skip_event (w1 := w8.setCell ⟨g, 0, none⟩ (.int .i64 k)) rfl rfl ?hr ?_; (case hr => first | (go_simp; done) | (go_simp; rfl)); intro w9 hw; have K9 : Aside0 (w9.heap[g]? = some (.cells #[.int .i64 k] 3 (0, 0)) ∧ Below wr.heap.size wr w9) := ⟨by rw [hw]; exact ⟨(setb K8.out 0 _).1, (setb K8.out 0 _).2.2 _ _ (Nat.le_of_eq E8.out.symm) B8.out⟩⟩; clear hw c0 z0))
          obtain ⟨arr, p1, p2, p3⟩ := HH.out.ptr
          have hs := HH.out.below.size
          have hg9 := HH.out.gps
          have hl9 := HH.out.lows
          have hB9 := below_then HH.out.below hs K9.out.2
          have HP := Aside0.mk p1
          have q6b := blk_below HH.out.b6 K9.out.2
          have gpb := blk_below p1 K9.out.2
          have HP2 := Aside0.mk p2
          refine r11x8 q2 q5 q6 g gp k l.length arr w.heap.size w9 hB9.size (blk_lt (blk_below p1 K9.out.2)) HH.out.base (fun e => hg9.2.2.1 e.symm) (by have := E8.out; have := blk_lt p1; omega) hlt (by omega) ⟨_, Array.getElem?_eq_getElem (by omega)⟩ rfl rfl rfl rfl rfl ⟨Kept.refl _ _, q6b, K9.out.1, fun _ => gpb, below_drew (Below.refl _ _)⟩ (fun v36 v5 w10 b hb hG f36 f5 => ?_)
          have HX : Aside0 (∃ cb g7, BH w w10 lo q2 q5 q6 gc gp l.length Al cl l cb g7 (k + 1)) := ⟨by
            obtain ⟨c, t1, t2, t3, t4⟩ := f5
            exact ⟨_, _, HH.out.step hlt E8.out K9.out.2 K9.out.1 HP.out hG.1 t2 t3 t4 (hB9.trans hG.2.2.2.2)⟩⟩
          clear hG f36 f5 hb p1 p2 p3 hs hg9 hl9 hB9 q6b gpb
          simp only [putAll, Act.put, List.setIfInBounds_toArray, List.set_cons_zero, List.set_cons_succ]
          go_wp2
          go_roundw
          case rel => exact ⟨k + 1, by omega, by go_num, HX⟩
          case measure => simp [intOf]; omega
        · obtain rfl : k = l.length := by omega
          have hal : ∀ a, Al = some a → a.block < w.heap.size := fun a ha => by
            obtain ⟨ad, e, hx⟩ := Kd.at_int HC.out 0 (by omega) (by omega)
            rw [ha] at e
            cases e
            have := World.block_lt_of_cell? _ _ hx
            simpa [add_blk] using this
          have HCH := Aside0.mk (hbh.done ⟨HG.out.1, HG.out.2.1, HG.out.2.2.1⟩ HC.out hal HG.out.2.2.2.1 (by omega))
          obtain ⟨a, ha⟩ : ∃ a : Nat, a = f.toNat % l.length := ⟨_, rfl⟩
          have han : a < l.length := by rw [ha]; exact Nat.mod_lt _ hn0
          have hw : IntKind.i64.wrap f = f := IntWalk.i64_in _ (by omega)
          have hmod : f.tmod (l.length : Int) = (a : Int) := by
            rw [ha]; exact tmod_nat f hf.1 _
          have hwa : IntKind.i64.wrap (a : Int) = (a : Int) := IntWalk.i64_in _ (by omega)
          have c2 := (blk_cell HCH.out.b2 0).trans rfl
          have hne : ¬ (l.length : Int) = 0 := by omega
          clear hbh HBH hal ha
          go_wp2
          have HWF : Aside0 (∀ j, j < l.length → (Lit.int .i64 (rd l (j : Int))).wf = true) := ⟨fun j hj => HU.out _ (by unfold rd; rw [Int.toNat_natCast, List.getD_eq_getElem?_getD, List.getElem?_eq_getElem hj]; exact List.getElem_mem _)⟩
          go_loop [9, 10] (fun wn i => ∃ k : Nat, k ≤ a + 1 ∧ i = .int .i64 k ∧ wn = .int .i64 (Wn l k)) (fun _ i => a + 1 - (intOf i).toNat)
          case atStart => exact ⟨0, Nat.zero_le _, rfl, rfl⟩
          case round =>
            obtain ⟨k, hk, rfl, rfl⟩ := hrel
            by_cases hlt2 : k ≤ a
            · have hdk : decide ((k : Int) ≤ (a : Int)) = true := by simp; omega
              have hdk2 : decide (k ≤ a) = true := by simp; omega
              obtain ⟨ad, ea, hx⟩ := HCH.out.at_l k (by omega)
              subst ea
              have hwn : Wn l (k + 1) = xr (Wn l k) (rd l (k : Int)) := rfl
              have HWN := Aside0.mk hwn
              clear hwn
              go_wp2
              go_round
              case rel => exact ⟨k + 1, by omega, by go_num, by rw [HWN.out]; rfl⟩
              case measure => simp [intOf]; omega
            · obtain rfl : k = a + 1 := by omega
              have hdk : decide (((a + 1 : Nat) : Int) ≤ (a : Int)) = false := by simp; omega
              have hdk2 : decide (a + 1 ≤ a) = false := by simp
              rw [wn_x l (HWF.out 0 hn0)]
              have c6 := (blk_cell HCH.out.b6 0).trans rfl
              have cp := HCH.out.at_p a han
              have HB0 := Aside0.mk (fun k (hk : k < l.length) => HCH.out.cell k hk)
              go_wp2_with (go_at_call 58; first
                | (refine (chain a _ _ _ HCH.out han (fun j hj => ⟨rfl, rfl⟩)).mono ?_; rintro e w11 ⟨rfl, h11⟩; have H11 := Aside0.mk h11; clear h11 HCH c6 cp c2; have c6 := (blk_cell H11.out.b6 0).trans rfl; have cp := H11.out.at_p a han)
                | (refine (getFullIn (cb a) 1 (X l a) _ (by have := H11.out.cell a han; simpa [blkA] using this) (by omega)).mono ?_; rintro e w12 ⟨rfl, h1, h2⟩; have H12 := Aside0.mk (H11.out.set a han _ h2 h1); clear h1 h2 H11 c6 cp; have c2 := (blk_cell H12.out.b2 0).trans rfl))
              clear hdk hdk2 hw hmod hwa hmake hmakp
              go_loop [73] (fun i => ∃ k : Nat, k ≤ l.length ∧ i = .int .i64 k) (fun i => l.length - (intOf i).toNat)
              case atStart => exact ⟨0, Nat.zero_le _, rfl⟩
              case round =>
                obtain ⟨k, hk3, rfl⟩ := hrel
                by_cases hlt3 : k < l.length
                · by_cases hka : k ≤ a
                  · have hd1 : decide ((k : Int) ≤ (a : Int)) = true := by simp; omega
                    have hd2 : decide (k ≤ a) = true := by simp; omega
                    have cs1 : csA a (fun _ => 0) k = 1 := by unfold csA; rw [if_pos hka]
                    have ck := H12.out.cell k hlt3
                    have hcell : ∃ aa f, w12.heap[cb k]? = some (CB 126 1 0 1 aa f (.int .i64 (X l k))) := by
                      simp only [setf, blkA] at ck
                      by_cases e : k = a
                      · subst e; rw [if_pos rfl] at ck; exact ⟨_, _, ck⟩
                      · rw [if_neg e, if_pos hka] at ck; exact ⟨_, _, ck⟩
                    obtain ⟨aa, f2, hck⟩ := hcell
                    have HCK := Aside0.mk hck
                    obtain ⟨cc, zz⟩ := H12.out.cal.at_ k hlt3
                    rw [cs1] at cc
                    have c5 := (blk_cell H12.out.b5 0).trans rfl
                    have c6 := (blk_cell H12.out.b6 0).trans rfl
                    have cp := H12.out.at_p k hlt3
                    clear hck ck
                    go_wp2_with (go_at_call 59; refine (madeIn (cb k) 1 0 1 aa f2 (.int .i64 (X l k)) true rfl _ HCK.out).mono ?_; rintro e w' ⟨rfl, rfl⟩)
                    go_round
                    case rel => exact ⟨k + 1, by omega, by go_num⟩
                    case measure => simp [intOf]; omega
                  · have hd1 : decide ((k : Int) ≤ (a : Int)) = false := by simp; omega
                    have hd2 : decide (k ≤ a) = false := by simp; omega
                    have cs1 : csA a (fun _ => 0) k = 0 := by unfold csA; rw [if_neg hka]
                    have ck := H12.out.cell k hlt3
                    have hcell : ∃ aa f, w12.heap[cb k]? = some (CB 126 0 0 0 aa f (.int .i64 0)) := by
                      simp only [setf, blkA] at ck
                      rw [if_neg (by omega), if_neg hka] at ck; exact ⟨_, _, ck⟩
                    obtain ⟨aa, f2, hck⟩ := hcell
                    have HCK := Aside0.mk hck
                    obtain ⟨cc, zz⟩ := H12.out.cal.at_ k hlt3
                    rw [cs1] at cc
                    have c5 := (blk_cell H12.out.b5 0).trans rfl
                    have c6 := (blk_cell H12.out.b6 0).trans rfl
                    have cp := H12.out.at_p k hlt3
                    clear hck ck
                    go_wp2_with (go_at_call 59; refine (madeIn (cb k) 0 0 0 aa f2 (.int .i64 0) false rfl _ HCK.out).mono ?_; rintro e w' ⟨rfl, rfl⟩)
                    go_round
                    case rel => exact ⟨k + 1, by omega, by go_num⟩
                    case measure => simp [intOf]; omega
                · go_wp2_with (go_at_call 55; refine (lives_calls _).mono ?_; rintro e w13 ⟨rfl, hb⟩; have HB13 := Aside0.mk (below_then H12.out.below H12.out.below.size hb); clear hb)
                  go_ret
                  exact ⟨rfl, HB13.out⟩
end Go.Proofs.Ytbjbejjieibldaa.La
