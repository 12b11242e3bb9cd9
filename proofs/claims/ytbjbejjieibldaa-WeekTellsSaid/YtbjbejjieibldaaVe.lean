/- A plan's sums, walked; the plan's state; its cell asked. -/
import Derived.Test.YtbjbejjieibldaaVd
namespace Go.Proofs.Ytbjbejjieibldaa.Va
open Go.RowKit Go.Proofs.YtbjbejjieibldaaW.PrintWords Go.Proofs.YtbjbejjieibldaaW.PrintLast Go.Proofs.YtbjbejjieibldaaW.PrintMore Go.Proofs.Ytbjbejjieibldaa.PWeekCounts Go.Proofs.Ytbjbejjieibldaa.Rg Go.Proofs.Ytbjbejjieibldaa.La
open Go.Proofs.Ytbjbejjieibldaa
set_option linter.unusedVariables false

theorem Gd.take {h : Int} : ∀ {l : List Sp} {e : Int} (i : Nat), Gd h e l → Gd h e (l.take i)
  | [], _, i, _ => by simp [Gd]
  | s :: r, e, 0, _ => trivial
  | s :: r, e, i + 1, hg => ⟨hg.1, hg.2.1, hg.2.2.1, Gd.take i hg.2.2.2⟩
theorem Gd.el {h : Int} : ∀ {l : List Sp} {e : Int} (i : Nat), Gd h e l → i < l.length → e ≤ (el l i).f0 ∧ (el l i).f0 < (el l i).f1 ∧ (el l i).f1 ≤ h
  | [], _, i, _, hi => absurd hi (by simp)
  | s :: r, e, 0, hg, _ => ⟨hg.1, hg.2.1, hg.2.2.1⟩
  | s :: r, e, i + 1, hg, hi => by
    have := Gd.el (l := r) i hg.2.2.2 (by simpa using hi)
    have h1 := hg.1
    have h2 := hg.2.1
    refine ⟨?_, this.2⟩
    have h3 := this.1
    show e ≤ (r.getD i z151).f0
    exact Int.le_trans (Int.le_trans h1 (Int.le_of_lt h2)) h3
theorem Gd.ups {h : Int} : ∀ {l : List Sp} {e : Int}, Gd h e l → Ups l
  | [], _, _ => fun i j hij hj => absurd hj (by simp)
  | s :: r, e, hg => fun i j hij hj => by
    match i, j, hij, hj with
    | 0, j + 1, _, hj =>
      have := Gd.el (l := r) j hg.2.2.2 (by simpa using hj)
      show s.f1 ≤ (r.getD j z151).f1
      exact Int.le_trans this.1 (Int.le_of_lt this.2.1)
    | i + 1, j + 1, hij, hj => exact Gd.ups hg.2.2.2 i j (by omega) (by simpa using hj)
theorem lsum_take_bound {l : List Sp} (hg : Gd 604800 0 l) (i : Nat) : 0 ≤ lsum (l.take i) ∧ lsum (l.take i) ≤ 604800 :=
  ⟨lsum_nonneg (hg.take i), by have := lsum_le (by omega) (hg.take i); omega⟩

def sumsL (l : List Sp) (k : Nat) : List Int := (List.range (k + 1)).map fun i => lsum (l.take i)
theorem sumsL_length (l : List Sp) (k : Nat) : (sumsL l k).length = k + 1 := by simp [sumsL]
theorem sumsL_rd (l : List Sp) (k i : Nat) (h : i ≤ k) : rd (sumsL l k) (i : Int) = lsum (l.take i) := by
  simp [rd, sumsL, List.getD_eq_getElem?_getD, show i < k + 1 by omega]
theorem sumsL_succ (l : List Sp) (k : Nat) (h : k < l.length) : sumsL l (k + 1) = sumsL l k ++ [rd (sumsL l k) (k : Int) + (el l k).f1 - (el l k).f0] := by
  rw [sumsL_rd l k k (Nat.le_refl _)]
  unfold sumsL
  rw [List.range_succ, List.map_append, List.map_cons, List.map_nil, lsum_take_succ l k h]
  congr 2
  omega
/-- Behind k spans. -/
def SumSt (w wr : World) (l : List Sp) (v : Value) (k : Nat) : Prop := Kd.R (Kd.int .i64) 2 wr w.heap.size (fun _ => True) v (sumsL l k) ∧ Below w.heap.size w wr

theorem made_one (W w2 : World) (n : Nat) (hn : n ≤ 1000) (hw : w2 = W.alloc (.cells (madeCells #[.int .i64 0] (n + 1)) 2)) : Kd.R (Kd.int .i64) 2 w2 W.heap.size (fun _ => True) (.slice (some ⟨W.heap.size, 0, none⟩) 1 (n + 1)) [0] ∧ Below W.heap.size W w2 := by
  subst hw
  refine ⟨?_, below_alloc (Below.refl _ _) _⟩
  have h := own_made W W.heap.size 2 .i64 (n + 1) (Nat.le_refl _) (by omega)
  have h2 : Kd.R (Kd.int .i64) 2 (W.alloc (.cells (madeCells #[.int .i64 0] (n + 1)) 2)) W.heap.size (fun _ => True) (.slice (some ⟨W.heap.size, 0, none⟩) (n + 1) (n + 1)) (List.replicate (n + 1) 0) :=
    Kd.R_of_own (by rw [List.length_replicate]; exact h) (fun _ _ => trivial)
  have h3 := Kd.R_take h2 (m := 1) (by simp)
  simpa using h3

theorem r_ne {v : Value} {xs : List Int} {w1 w2 : World} {base sb : Nat} (h : Kd.R (Kd.int .i64) 2 w1 base (fun _ => True) v xs) (hb : Below w1.heap.size w1 w2) (hsb : w1.heap.size ≤ sb) : Kd.R (Kd.int .i64) 2 w2 base (fun k => k ≠ sb) v xs :=
  Kd.R_mono (Kd.R_below (Kd.R_bound h) hb) (fun k hk => by have := hk.2.2.1; omega)

set_option maxHeartbeats 2000000 in
set_option maxRecDepth 100000 in
theorem sums_calls (pb : Nat) (u : Value) (A : Option Addr) (c : Nat) (l : List Sp) (w : World) (h : w.heap[pb]? = some (.cells #[.slice A l.length c, u] 82 (0, 0))) (hr : Kd.C k151 w A l.length l) (hl : l.length ≤ 32) (hg : Gd 604800 0 l) :
    Calls Try.prog 84 #[PB pb] w fun e w' => ∃ (ad : Addr) (c2 : Nat), e = .returned (.slice (some ad) (l.length + 1) c2) ∧ Kd.R (Kd.int .i64) 2 w' w.heap.size (fun _ => True) (.slice (some ad) (l.length + 1) c2) (sumsL l l.length) ∧ Below w.heap.size w w' := by
  have c0 : w.cell? ⟨pb, 0, none⟩ = some (.slice A l.length c) := blk_cell h 0
  have hu151 := Try.underlying151
  have hmake : ∀ W : World, (Instr.makeSlice 103 (.int .i64 1) (.int .i64 ((l.length : Int) + 1))).run Try.prog W = .ok (.slice (some ⟨W.heap.size, 0, none⟩) 1 (l.length + 1)) (W.alloc (.cells (madeCells #[.int .i64 0] (l.length + 1)) 2)) := fun W => by
    obtain ⟨i0, hi, hzz⟩ := Option.map_eq_some_iff.1 info2
    simp only [Prod.mk.injEq] at hzz
    obtain ⟨hz0, hz1, hz2⟩ := hzz
    have := run_make (P := Try.prog) W 103 2 i0 (.int .i64 0) Try.underlying103 hi hz0 .i64 .i64 1 ((l.length : Int) + 1) (by omega) (by omega) (by rw [hz2]; omega) (by omega)
    rw [hz1, show ((l.length : Int) + 1).toNat = l.length + 1 by omega, Nat.mul_one, show (1 : Int).toNat = 1 from rfl] at this
    exact this
  have hca := (blk_cell (blk_alloc h (.cells (madeCells #[.int .i64 0] (l.length + 1)) 2)) 0).trans rfl
  have HR := Aside0.mk hr
  have HG := Aside0.mk hg
  clear hr hg h
  go_enter Try.func84, Try.ntmps84
  go_wp2
  clear hmake
  go_loopw [3, 18] (fun v i wr => ∃ k : Nat, k ≤ l.length ∧ i = .int .i64 (k : Int) ∧ Aside0 (SumSt w wr l v k)) (fun _ i _ => l.length - (intOf i).toNat)
  case atStart => exact ⟨0, Nat.zero_le _, rfl, ⟨by have := made_one w _ l.length (by omega) rfl; exact this⟩⟩
  case round =>
    obtain ⟨k, hk, rfl, HS⟩ := hrel
    by_cases hlt : k < l.length
    · obtain ⟨ad, c2, hv⟩ := Kd.R_slice1 HS.out.1 (by rw [sumsL_length]; omega)
      subst hv
      obtain ⟨ap, e1, x0, x1⟩ := at_T151 (Kd.C_below HR.out HS.out.2) (k : Int) (by omega) (by omega)
      cases e1
      rw [rd_el] at x0 x1
      simp only [Int.toNat_natCast] at x0 x1
      obtain ⟨s, hsd⟩ : ∃ s : Sp, s = el l k := ⟨_, rfl⟩
      have HSD := Aside0.mk hsd
      rw [← hsd] at x0 x1
      clear hsd
      go_wp2_with (first
        | ((with_reducible refine gate_dst (N := 5) rfl ?_); refine box_event ?hg (N := 5) ?hd (cs := #[.int .i64 0, .int .i64 0]) (t := 151) ?hr ?_; (case hd => rfl); (case hg => rfl); (case hr => first | (go_simp; done) | (go_simp; rfl)); intro g5 hg w2 hbox hb; have E5 := Aside0.mk hg; have K5 := Aside0.mk hbox; have B5 := Aside0.mk hb; clear hg hbox hb x0 x1; have c0 := (blk_cell K5.out 0).trans rfl; have z0 := blk_frozen K5.out 0; have c1 := (blk_cell K5.out 1).trans rfl; have z1 := blk_frozen K5.out 1)
        | ((with_reducible refine gate_op (Op.store 151 (.tmp 5) (.tmp 22)) rfl ?_); refine skip_event (w1 := (w2.setCell ⟨g5, 0, none⟩ (.int .i64 s.f0)).setCell ⟨g5, 1, none⟩ (.int .i64 s.f1)) rfl rfl ?hr ?_; (case hr => first | (go_simp; done) | (go_simp; rfl)); intro w3 hw; have K3 := Aside0.mk (set2_at K5.out hw); have B3 : Aside0 (Below wr.heap.size wr w3) := ⟨by rw [hw]; exact set2_below B5.out (by have := E5.out; omega) _ _⟩; clear hw c0 z0 c1 z1))
      have hlt5 := blk_lt K3.out
      have hR3 := r_ne HS.out.1 B3.out (sb := g5) (by have := E5.out; omega)
      have hob := hR3.1 ad.block rfl
      have hob2 := (Kd.R_bound HS.out.1).1 ad.block rfl
      have hel := HG.out.el k hlt
      have hsb := lsum_take_bound HG.out k
      refine r84x5 g5 ad c2 k (sumsL l k) s.f0 s.f1 w.heap.size w w3 (Nat.le_trans HS.out.2.size B3.out.size) (by rw [sumsL_length]; omega) (by rw [sumsL_length]; omega) ⟨hob2.2.1, hob, Nat.lt_of_lt_of_le hob2.2.2.1 B3.out.size⟩ (by rw [sumsL_rd _ _ _ (Nat.le_refl _)]; omega) (by rw [HSD.out]; omega) (by rw [HSD.out]; omega) rfl rfl rfl rfl ⟨below_drew (below_then HS.out.2 HS.out.2.size B3.out), Nat.le_refl _, K3.out, fun _ => Kd.R_drew hR3⟩ (fun v34 v35 v3 w4 b hb hG f34 f35 f3 => ?_)
      have HS4 : Aside0 (SumSt w w4 l v3 (k + 1)) := ⟨by
        have f3' : Kd.R (Kd.int .i64) 2 w4 w.heap.size (fun k => k ≠ g5) v3 (sumsL l k ++ [rd (sumsL l k) (k : Int) + s.f1 - s.f0]) := f3
        rw [HSD.out, ← sumsL_succ l k hlt] at f3'
        exact ⟨Kd.R_mono f3' (fun _ _ => trivial), hG.1⟩⟩
      clear hG f34 f35 f3 hb hR3 hob hob2 hel hsb hlt5
      simp only [putAll, Act.put, List.setIfInBounds_toArray, List.set_cons_zero, List.set_cons_succ]
      go_wp2
      go_roundw
      case rel => exact ⟨k + 1, by omega, by go_num, HS4⟩
      case measure => simp [intOf]; omega
    · obtain rfl : k = l.length := by omega
      obtain ⟨ad, c2, hv⟩ := Kd.R_slice1 HS.out.1 (by rw [sumsL_length]; omega)
      rw [sumsL_length] at hv
      subst hv
      go_wp2
      go_ret
      exact ⟨ad, c2, rfl, HS.out.1, HS.out.2⟩
end Go.Proofs.Ytbjbejjieibldaa.Va
