/- A plan's state; its cell asked; its row, and where a second is. -/
import Derived.Test.YtbjbejjieibldaaVe
namespace Go.Proofs.Ytbjbejjieibldaa.Va
open Go.RowKit Go.Proofs.YtbjbejjieibldaaW.PrintWords Go.Proofs.YtbjbejjieibldaaW.PrintLast Go.Proofs.YtbjbejjieibldaaW.PrintMore Go.Proofs.Ytbjbejjieibldaa.PWeekCounts Go.Proofs.Ytbjbejjieibldaa.Rg Go.Proofs.Ytbjbejjieibldaa.La
open Go.Proofs.Ytbjbejjieibldaa
set_option linter.unusedVariables false

/-- A plan's sums, a row of its own, not in the cell's block. -/
def SumR (W0 w : World) (cb : Nat) (l : List Sp) (v : Value) : Prop := Kd.R (Kd.int .i64) 2 w W0.heap.size (fun k => k ≠ cb) v (sumsL l l.length)
/-- A plan made by New behind W0, its cell asked N times. -/
structure Wk (W0 w : World) (pb cb : Nat) (A : Option Addr) (c : Nat) (l : List Sp) (N : Nat) : Prop where
  blk : w.heap[pb]? = some (.cells #[.slice A l.length c, PB cb] 82 (0, 0))
  row : Kd.R k151 151 w W0.heap.size (fun k => k ≠ cb ∧ k ≠ pb) (.slice A l.length c) l
  cell : w.heap[cb]? = some (CB 168 0 0 0 (N : Int) (.func (.func 84) #[PB pb] #[]) (.slice none 0 0)) ∨ ∃ v, w.heap[cb]? = some (CB 168 1 0 1 (N : Int) .nilFunc v) ∧ SumR W0 w cb l v
  ne : pb ≠ cb
  low : W0.heap.size ≤ pb ∧ W0.heap.size ≤ cb
  good : Gd 604800 0 l
  len : l.length ≤ 32
  below : Below W0.heap.size W0 w
section
variable {W0 w w' : World} {pb cb : Nat} {A : Option Addr} {c : Nat} {l : List Sp} {N : Nat}
theorem Wk.cells (h : Wk W0 w pb cb A c l N) : Kd.C k151 w A l.length l := (Kd.R_reads' h.row).2.2
theorem Wk.cap (h : Wk W0 w pb cb A c l N) : l.length ≤ c := (Kd.R_reads' h.row).2.1
theorem Wk.cblt (h : Wk W0 w pb cb A c l N) : cb < w.heap.size := by
  obtain hc | ⟨v, hc, _⟩ := h.cell
  · exact blk_lt hc
  · exact blk_lt hc
theorem Wk.later (h : Wk W0 w pb cb A c l N) (hb : Below w.heap.size w w') : Wk W0 w' pb cb A c l N := by
  refine ⟨blk_below h.blk hb, Kd.R_below h.row hb, ?_, h.ne, h.low, h.good, h.len, below_then h.below h.below.size hb⟩
  obtain hc | ⟨v, hc, hs⟩ := h.cell
  · exact .inl (blk_below hc hb)
  · exact .inr ⟨v, blk_below hc hb, Kd.R_below hs hb⟩
theorem Wk.same {M : Nat} (h : Wk W0 w pb cb A c l N) (h2 : Wk W0 w pb cb A c l M) : N = M := by
  have key : ∀ {d1 s1 m1 d2 s2 m2 : Int} {f1 v1 f2 v2 : Value}, w.heap[cb]? = some (CB 168 d1 s1 m1 (N : Int) f1 v1) → w.heap[cb]? = some (CB 168 d2 s2 m2 (M : Int) f2 v2) → N = M := by
    intro d1 s1 m1 d2 s2 m2 f1 v1 f2 v2 e1 e2
    have e := e1.symm.trans e2
    simp [CB] at e
    omega
  obtain hc | ⟨v, hc, _⟩ := h.cell
  · obtain hd | ⟨v2, hd, _⟩ := h2.cell
    · exact key hc hd
    · exact key hc hd
  · obtain hd | ⟨v2, hd, _⟩ := h2.cell
    · exact key hc hd
    · exact key hc hd
theorem SumR.kept {v : Value} (h : SumR W0 w cb l v) (hk : Kept w w' (fun k => k = cb)) : SumR W0 w' cb l v := Kd.R_kept h hk (fun k hk e => hk e)
/-- The cell made and asked once more. -/
theorem Wk.turned {v : Value} (h : Wk W0 w pb cb A c l N) (hk : Kept w w' (fun k => k = cb)) (hB : Below W0.heap.size W0 w') (hc : w'.heap[cb]? = some (CB 168 1 0 1 ((N : Int) + 1) .nilFunc v)) (hs : SumR W0 w' cb l v) : Wk W0 w' pb cb A c l (N + 1) :=
  ⟨blk_kept h.blk hk h.ne, Kd.R_kept h.row hk (fun k hk e => hk.1 e), (.inr ⟨v, hc, hs⟩), h.ne, h.low, h.good, h.len, hB⟩

theorem Wk.get (h : Wk W0 w pb cb A c l N) (hN : N < 1000000) : Calls Try.prog 87 #[PB cb] w fun e w' => ∃ v, e = .returned v ∧ SumR W0 w' cb l v ∧ Wk W0 w' pb cb A c l (N + 1) ∧ Kept w w' (fun k => k = cb) := by
  obtain hc | ⟨v, hc, hs⟩ := h.cell
  · have hcb := blk_lt hc
    refine (getSl84 cb N ⟨pb, 0, none⟩ none 0 0 (fun w2 v => (∃ (ad : Option Addr) (n c2 : Nat), v = .slice ad n c2) ∧ SumR W0 w2 cb l v ∧ Kept w w2 (fun k => k = cb) ∧ Below W0.heap.size W0 w2) w hc (by omega) (fun w1 ho hc1 => ?_) (fun w2 v hq => hq.1)).mono ?_
    · have hB1 := ho.2 _ _ h.low.2 h.below
      have hcb1 := blk_lt hc1
      refine (sums_calls pb (PB cb) A c l w1 (blk_kept h.blk ho.1 h.ne) ((Kd.R_reads' (Kd.R_kept h.row ho.1 (fun k hk e => hk.1 e))).2.2) h.len h.good).mono ?_
      rintro e w2 ⟨ad, c2, rfl, hR, hb⟩
      refine ⟨some ad, l.length + 1, c2, rfl, blk_below hc1 hb, ⟨_, _, _, rfl⟩, ?_, ho.1.below hb, below_then hB1 hB1.size hb⟩
      exact Kd.R_mono (Kd.R_bound (Kd.R_lower (Kd.R_mono (Kd.R_bound hR) (fun k hk => (show w1.heap.size ≤ k from hk.2.1))) hB1.size)) (fun k hk => by have := hk.1; omega)
    · rintro e w' ⟨v, w2, rfl, ⟨_, hs, hk, hB⟩, hc3, ho3⟩
      have hk3 := hk.then_ ho3.1 (fun k hk => .inl hk)
      exact ⟨v, rfl, hs.kept ho3.1, h.turned hk3 (ho3.2 _ _ h.low.2 hB) hc3 (hs.kept ho3.1), hk3⟩
  · obtain ⟨A2, c2, rfl⟩ := Kd.R_slice hs
    refine (getFullSl cb N A2 _ c2 w hc (by omega)).mono ?_
    rintro e w' ⟨rfl, hc3, ho3⟩
    exact ⟨_, rfl, hs.kept ho3.1, h.turned ho3.1 (ho3.2 _ _ h.low.2 h.below) hc3 (hs.kept ho3.1), ho3.1⟩

theorem Wk.made86 (h : Wk W0 w pb cb A c l N) : Calls Try.prog 86 #[PB pb] w fun e w' => e = .returned (.bool false) ∧ w = w' := none_some pb cb _ w h.blk
theorem Wk.at_ (h : Wk W0 w pb cb A c l N) (t : Int) : Calls Try.prog 89 #[PB pb, .int .i64 t] w fun e w' => ∃ i : Nat, e = .returned (.int .i64 (i : Int)) ∧ AtI l t i ∧ Wk W0 w' pb cb A c l N := by
  refine (at_calls pb (PB cb) A c l t w h.blk h.cells (by have := h.len; omega) h.good.ups).mono ?_
  rintro e w' ⟨i, rfl, ha, hb⟩
  exact ⟨i, rfl, ha, h.later hb⟩

/-- Row: the plan's own row told anew. -/
theorem Wk.rows (h : Wk W0 w pb cb A c l N) : Calls Try.prog 49 #[PB pb] w fun e w' => ∃ v, e = .returned v ∧ Kd.R k151 151 w' w.heap.size (fun _ => True) v l ∧ Wk W0 w' pb cb A c l N ∧ Below w.heap.size w w' := by
  have c0 : w.cell? ⟨pb, 0, none⟩ = some (.slice A l.length c) := blk_cell h.blk 0
  have H := Aside0.mk h
  clear h
  go_enter Try.func49, Try.ntmps49
  go_wp2_with (first
    | (go_at_call 86; refine (H.out.made86).mono ?_; rintro e w' ⟨rfl, rfl⟩)
    | (go_at_call 82; refine (cloneSp A c l _ H.out.cells (by have := H.out.len; omega)).mono ?_; rintro e w' ⟨v, rfl, ho, hb⟩; have HO := Aside0.mk ho; have HB := Aside0.mk hb; clear ho hb))
  go_ret
  exact ⟨_, rfl, HO.out, H.out.later HB.out, HB.out⟩

set_option maxHeartbeats 1000000 in
/-- Open. -/
theorem Wk.open_ (h : Wk W0 w pb cb A c l N) (t : Int) : Calls Try.prog 46 #[PB pb, .int .i64 t] w fun e w' => e = .returned (.bool (openP l t)) ∧ Wk W0 w' pb cb A c l N := by
  have c0 : w.cell? ⟨pb, 0, none⟩ = some (.slice A l.length c) := blk_cell h.blk 0
  have H := Aside0.mk h
  clear h
  by_cases h0 : t < 0
  · have d0 : decide (t < 0) = true := decide_eq_true h0
    have e : openP l t = false := by unfold openP; rw [decide_eq_false (by omega)]; rfl
    rw [e]
    go_enter Try.func46, Try.ntmps46
    go_wp2_with (go_at_call 86; refine (H.out.made86).mono ?_; rintro e w' ⟨rfl, rfl⟩)
    go_ret
    exact ⟨rfl, H.out⟩
  · have d0 : decide (t < 0) = false := decide_eq_false h0
    by_cases h1 : 2251799813685248 < t
    · have d1 : decide (2251799813685248 < t) = true := decide_eq_true h1
      have e : openP l t = false := by unfold openP lastS; rw [decide_eq_false (p := t ≤ _) (by omega)]; simp
      rw [e]
      go_enter Try.func46, Try.ntmps46
      go_wp2_with (go_at_call 86; refine (H.out.made86).mono ?_; rintro e w' ⟨rfl, rfl⟩)
      go_ret
      exact ⟨rfl, H.out⟩
    · have d1 : decide (2251799813685248 < t) = false := decide_eq_false h1
      have e : openP l t = hasL l (t % 604800) := by unfold openP lastS; rw [decide_eq_true (by omega), decide_eq_true (by omega)]; rfl
      rw [e]
      have hm : t.tmod 604800 = t % 604800 := Int.tmod_eq_emod_of_nonneg (by omega)
      have HX := Aside0.mk (fun i ha => has_at H.out.good (t := t % 604800) (i := i) ha)
      generalize t % 604800 = x at *
      go_enter Try.func46, Try.ntmps46
      go_wp2_with (first
        | (go_at_call 86; refine (H.out.made86).mono ?_; rintro e w' ⟨rfl, rfl⟩)
        | (go_at_call 89; refine (H.out.at_ x).mono ?_; rintro e w' ⟨i, rfl, ha, hw⟩; have HA := Aside0.mk (HX.out i ha); have HW := Aside0.mk hw; clear ha hw c0; have c0 : w'.cell? ⟨pb, 0, none⟩ = some (.slice A l.length c) := blk_cell HW.out.blk 0; rcases Nat.lt_or_ge i l.length with hi | hi; (have d2 : decide ((i : Int) < (l.length : Int)) = true := decide_eq_true (by omega); obtain ⟨ap, e1, x0, x1⟩ := at_T151 HW.out.cells (i : Int) (by omega) (by omega); cases e1; rw [rd_el] at x0 x1; simp only [Int.toNat_natCast] at x0 x1; obtain ⟨s, hsd⟩ : ∃ s : Sp, s = el l i := ⟨_, rfl⟩; have HSD := Aside0.mk hsd; rw [← hsd] at x0 x1; clear hsd); rotate_left; (have d2 : decide ((i : Int) < (l.length : Int)) = false := decide_eq_false (by omega))))
      · go_ret
        refine ⟨?_, HW.out⟩
        rw [HA.out, decide_eq_false (p := i < l.length) (by omega)]
        rfl
      · go_ret
        refine ⟨?_, HW.out⟩
        rw [HA.out, ← HSD.out, decide_eq_true hi]
        simp
end
end Go.Proofs.Ytbjbejjieibldaa.Va
