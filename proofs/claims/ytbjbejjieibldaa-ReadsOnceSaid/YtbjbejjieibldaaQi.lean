/- ReadsPlays, walked: whatever calls come in, the call answers true and leaves all that was there as it was. -/
import Derived.Test.YtbjbejjieibldaaQh
namespace Go.Proofs.Ytbjbejjieibldaa.Qa
open Go.RowKit Go.Proofs.YtbjbejjieibldaaW.PrintWords Go.Proofs.YtbjbejjieibldaaW.PrintLast Go.Proofs.YtbjbejjieibldaaW.PrintMore Go.Proofs.Ytbjbejjieibldaa.Rg
open Go.Proofs.Ytbjbejjieibldaa.PReadsPlays
set_option linter.unusedVariables false

/-- A call of the law's. -/
structure S50 where
  f0 : Int
  f1 : Int
  f2 : Int
def z50 : S50 := ⟨0, 0, 0⟩
def k50 : Kd S50 := Kd.iso (Kd.pair (Kd.int .i64) (Kd.pair (Kd.int .u64) (Kd.int .u64))) (fun x : S50 => (x.f0, x.f1, x.f2))
theorem k50_open {w : World} {x : S50} {cs : List Value} (h : k50.K w x cs) : cs = [.int .i64 x.f0, .int .u64 x.f1, .int .u64 x.f2] := by
  obtain ⟨_, _, rfl, rfl, ⟨_, _, rfl, rfl, rfl⟩⟩ := h
  exact rfl
theorem k50_mk (w : World) (x : S50) : k50.K w x [.int .i64 x.f0, .int .u64 x.f1, .int .u64 x.f2] := ⟨[.int .i64 x.f0], [.int .u64 x.f1, .int .u64 x.f2], rfl, rfl, ⟨[.int .u64 x.f1], [.int .u64 x.f2], rfl, rfl, rfl⟩⟩
def rd_T50 (xs : List S50) (i : Int) : S50 := xs.getD i.toNat z50
theorem at_T50 {w : World} {A : Option Addr} {n : Nat} {xs : List S50} (h : Kd.C k50 w A n xs) (i : Nat) (h1 : i < n) : ∃ ad , A = some ad ∧ w.cell? (ad.add (i * 3)) = some (.int .i64 (rd_T50 xs (i : Int)).f0) ∧ w.cell? ⟨(ad.add (i * 3)).block, (ad.add (i * 3)).off + 1, none⟩ = some (.int .u64 (rd_T50 xs (i : Int)).f1) ∧ w.cell? ⟨(ad.add (i * 3)).block, (ad.add (i * 3)).off + 2, none⟩ = some (.int .u64 (rd_T50 xs (i : Int)).f2) := by
  obtain ⟨ad, c, e, _, hK, hc0⟩ := Kd.C_get h z50 (i : Int) (by omega) (by omega)
  have hc : ∀ j u, c[j]? = some u → w.cell? (ad.add (i * 3 + j)) = some u := hc0
  obtain rfl := k50_open hK
  exact ⟨ad, e, hc 0 _ rfl, by rw [← add_field _ _ 1 (by omega)]; exact hc 1 _ rfl, by rw [← add_field _ _ 2 (by omega)]; exact hc 2 _ rfl⟩

/-- Both ways' states side by side: the queue at qb, the reference's in the variable wb. -/
structure RS (W0 w : World) (qb wb : Nat) (begun sure : Int) (l : List S91) (u v : Value) (ok1 ok2 : Nat → Prop) : Prop where
  q : IsQ w W0.heap.size ok1 qb begun sure l v
  cell : w.heap[wb]? = some (WC begun sure u)
  row : Kd.R k147 147 w W0.heap.size ok2 u (cvs l)
  apart : ∀ k, ok1 k → ¬ ok2 k
  out1 : ¬ ok1 wb
  out2 : ¬ ok2 wb
  below : Below W0.heap.size W0 w
  base : W0.heap.size ≤ wb
  b1 : ∀ k, ok1 k → k < w.heap.size
  b2 : ∀ k, ok2 k → k < w.heap.size
def RP (W0 w : World) (qb wb : Nat) : Prop := ∃ begun sure l u v ok1 ok2, RS W0 w qb wb begun sure l u v ok1 ok2
section
variable {W0 w w' : World} {qb wb : Nat} {begun sure : Int} {l : List S91} {u v : Value} {ok1 ok2 : Nat → Prop}
theorem RS.kept {S : Nat → Prop} (h : RS W0 w qb wb begun sure l u v ok1 ok2) (hk : Kept w w' S) (hb : Below W0.heap.size W0 w') (h1 : ∀ k, ok1 k → ¬ S k) (h2 : ∀ k, ok2 k → ¬ S k) (hg : ¬ S wb) : RS W0 w' qb wb begun sure l u v ok1 ok2 :=
  ⟨h.q.kept hk h1, blk_kept h.cell hk hg, Kd.R_kept h.row hk h2, h.apart, h.out1, h.out2, hb, h.base, fun k hk1 => Nat.lt_of_lt_of_le (h.b1 k hk1) hk.1, fun k hk2 => Nat.lt_of_lt_of_le (h.b2 k hk2) hk.1⟩
theorem RS.later (h : RS W0 w qb wb begun sure l u v ok1 ok2) (hb : Below w.heap.size w w') : RS W0 w' qb wb begun sure l u v ok1 ok2 :=
  h.kept (Kept.of_below hb (fun _ => False)) (below_then h.below h.below.size hb) (fun _ _ h => h) (fun _ _ h => h) (fun h => h)
theorem RS.qw (h : RS W0 w qb wb begun sure l u v ok1 ok2) : qb ≠ wb := fun e => h.out1 (e ▸ h.q.mine.2)
end
/-- The box of one call, written. -/
theorem RS.noted {W0 w w1 w2 : World} {qb wb g : Nat} {begun sure : Int} {l : List S91} {u v : Value} {ok1 ok2 : Nat → Prop} {y0 y1 y2 : Value} (h : RS W0 w qb wb begun sure l u v ok1 ok2) (hg : g = w.heap.size) (hb : Below w.heap.size w w1)
    (hw : w2 = ((w1.setCell ⟨g, 0, none⟩ y0).setCell ⟨g, 1, none⟩ y1).setCell ⟨g, 2, none⟩ y2) : RS W0 w2 qb wb begun sure l u v ok1 ok2 ∧ ¬ ok1 g ∧ ¬ ok2 g ∧ g ≠ wb :=
  ⟨h.later (set3_below hb (by omega) hw), fun h1 => by have := h.b1 g h1; omega, fun h2 => by have := h.b2 g h2; omega, fun e => by have := blk_lt h.cell; omega⟩

/-- Behind the reference's call (its row of reads: R2), a variable g for its queue made and written. -/
theorem RS.mid {W0 w w2 w3 w4 : World} {qb wb g g6 : Nat} {begun sure : Int} {l : List S91} {u v : Value} {ok1 ok2 : Nat → Prop} {y0 y1 y2 : Value} {o6 : Obj} (h : RS W0 w qb wb begun sure l u v ok1 ok2) (h6 : w.heap[g6]? = some o6) (h61 : ¬ ok2 g6) (hk : Kept w w2 ok2) (hB : Below W0.heap.size W0 w2) (E : g = w2.heap.size) (hb : Below w2.heap.size w2 w3)
    (hw : w4 = ((w3.setCell ⟨g, 0, none⟩ y0).setCell ⟨g, 1, none⟩ y1).setCell ⟨g, 2, none⟩ y2) :
    IsQ w4 W0.heap.size ok1 qb begun sure l v ∧ w4.heap[wb]? = some (WC begun sure u) ∧ w4.heap[g6]? = some o6 ∧ Below W0.heap.size W0 w4 ∧ g ≠ qb ∧ g ≠ wb ∧ Kept w2 w4 (fun k => k = g) ∧ w2.heap.size ≤ w4.heap.size ∧ w.heap.size ≤ w2.heap.size ∧ wb < w.heap.size ∧ qb < w.heap.size := by
  have k24 : Kept w2 w4 (fun k => k = g) := (Kept.of_below hb _).then_ (set3_kept hw) (fun k hk => .inl hk)
  have hq2 := h.q.kept hk h.apart
  have l1 := blk_lt h.cell
  have l2 := blk_lt h.q.cell
  have l6 := blk_lt h6
  have hs := hk.1
  refine ⟨hq2.kept k24 (fun k hk1 e => ?_), blk_kept (blk_kept h.cell hk h.out2) k24 (fun e => by have e : wb = g := e; omega), blk_kept (blk_kept h6 hk h61) k24 (fun e => by have e : g6 = g := e; omega), set3_below (below_then hB hB.size hb) (by have := hB.size; omega) hw, by omega, by omega, k24, k24.1, hs, l1, l2⟩
  have e : k = g := e
  have := h.b1 k hk1
  omega

/-- The states behind a round. -/
theorem RS.fin {W0 w w4 w5 : World} {qb wb : Nat} {begun sure : Int} {l l' : List S91} {begun' sure' : Int} {u v v' u' : Value} {ok1 ok2 okq okr : Nat → Prop} (h : RS W0 w qb wb begun sure l u v ok1 ok2) (hq : IsQ w5 W0.heap.size okq qb begun' sure' l' v') (hoq : ∀ k, okq k → ok1 k ∨ w4.heap.size ≤ k) (hc : w5.heap[wb]? = some (WC begun' sure' u'))
    (hr : Kd.R k147 147 w4 W0.heap.size okr u' (cvs l')) (hor : ∀ k, okr k → ok2 k ∨ w.heap.size ≤ k) (hk : Kept w4 w5 (fun k => k = qb ∨ k = wb)) (hB : Below W0.heap.size W0 w5) (hs : w.heap.size ≤ w4.heap.size) : ∃ o1 o2, RS W0 w5 qb wb begun' sure' l' u' v' o1 o2 := by
  have l1 := blk_lt h.cell
  have l2 := blk_lt h.q.cell
  have hs5 := hk.1
  have nq : ∀ k, okr k → k ≠ qb := fun k hk e => (hor k hk).elim (fun h2 => h.apart k (e ▸ h.q.mine.2) h2) (fun h2 => by omega)
  have nw : ∀ k, okr k → k ≠ wb := fun k hk e => (hor k hk).elim (fun h2 => h.out2 (e ▸ h2)) (fun h2 => by omega)
  refine ⟨_, fun k => okr k ∧ k < w4.heap.size, hq.bound, hc, Kd.R_kept (Kd.R_mono (Kd.R_bound hr) (fun k hk => ⟨hk.1, hk.2.2.1⟩)) hk (fun k hk hs => hs.elim (nq k hk.1) (nw k hk.1)), fun k h1 h2 => ?_, fun h1 => ?_, fun h2 => nw _ h2.1 rfl, hB, h.base, fun k hk => hk.2.2, fun k hk => Nat.lt_of_lt_of_le hk.2 hs5⟩
  · rcases hoq k h1.1 with h1 | h1
    · rcases hor k h2.1 with h2 | h2
      · exact h.apart k h1 h2
      · have := h.b1 k h1; omega
    · have := h2.2; omega
  · rcases hoq _ h1.1 with h1 | h1
    · exact h.out1 h1
    · omega
/-- The queue behind what was written: other numbers of rounds. -/
theorem IsQ.renum {W w : World} {base : Nat} {ok : Nat → Prop} {qb wb : Nat} {begun sure begun' sure' : Int} {l : List S91} {v : Value} (h : IsQ W base ok qb begun sure l v) (hw : ¬ ok wb) (hc : w.heap[qb]? = some (QC begun' sure' v)) (hk : Kept W w (fun k => k = qb ∨ k = wb)) (b0 : 0 ≤ begun') (b1 : begun' ≤ BIG) (s0 : 0 ≤ sure') (s1 : sure' ≤ begun') : IsQ w base ok qb begun' sure' l v :=
  ⟨hc, h.mine, Kd.R_kept h.row hk (fun k hk hs => hs.elim hk.2 (fun e => hw (e ▸ hk.1))), b0, b1, s0, s1, h.len⟩
/-- Behind Drop, both ways. -/
theorem RS.dropped {W0 w w4 w5 : World} {qb wb : Nat} {begun sure : Int} {l : List S91} {u v u0 y : Value} {ok1 ok2 : Nat → Prop} (h : RS W0 w qb wb begun sure l u v ok1 ok2) (hk : Kept w w4 (fun k => k = qb ∨ k = wb)) (hB : Below W0.heap.size W0 w4) (hc : w4.heap[wb]? = some (WC begun sure u0)) (hq : QT W0 w qb begun sure ok1 [] l w4 y) (hw : w5 = w4.setCell ⟨wb, 2, none⟩ (.slice none 0 0)) :
    ∃ vq o1 o2, RS W0 w5 qb wb begun sure [] (.slice none 0 0) vq o1 o2 := by
  obtain ⟨okq, oko, vq, q1, q2, q3, q4, q5⟩ := hq
  obtain ⟨s1, s2, s3⟩ := setq hc 2 (.slice none 0 0)
  rw [← hw] at s1 s2 s3
  have l1 := blk_lt h.cell
  have q1' : IsQ w5 W0.heap.size okq qb begun sure [] vq := q1.kept s2 (fun k hk e => by
    have e : k = wb := e
    rcases q4 k hk with h1 | h1
    · exact h.out1 (e ▸ h1)
    · omega)
  exact ⟨vq, h.fin (w4 := w) (okr := fun _ => False) q1' q4 s1 (Kd.R_nil _ _ _ _ _) (fun _ h => h.elim) (hk.then_ s2 (fun k hk => .inl (.inr hk))) (s3 _ _ h.base hB) (Nat.le_refl _)⟩
/-- Behind Ask, both ways. -/
theorem RS.asked {W0 w w2 w4 w7 w8 : World} {qb wb g : Nat} {begun sure begun' : Int} {l l' : List S91} {u v v' u' : Value} {ok1 ok2 : Nat → Prop} {X : Prop} (h : RS W0 w qb wb begun sure l u v ok1 ok2)
    (hM : IsQ w4 W0.heap.size ok1 qb begun sure l v ∧ w4.heap[wb]? = some (WC begun sure u) ∧ X ∧ Below W0.heap.size W0 w4 ∧ g ≠ qb ∧ g ≠ wb ∧ Kept w2 w4 (fun k => k = g) ∧ w2.heap.size ≤ w4.heap.size ∧ w.heap.size ≤ w2.heap.size ∧ wb < w.heap.size ∧ qb < w.heap.size)
    (hk2 : Kept w w2 ok2) (E : g = w2.heap.size) (hR : Kd.R k147 147 w2 W0.heap.size (fun k => ok2 k ∨ w.heap.size ≤ k) u' (cvs l')) (hq : IsQ w7 W0.heap.size (fun k => ok1 k ∨ w4.heap.size ≤ k) qb begun' sure l' v') (hB7 : Below W0.heap.size W0 w7) (hk7 : Kept w4 w7 (fun k => k = qb)) {u0 : Value} {b0 s0 : Int} (hc : w7.heap[wb]? = some (WC b0 s0 u0))
    (hw : w8 = ((w7.setCell ⟨wb, 0, none⟩ (.int .u64 begun')).setCell ⟨wb, 1, none⟩ (.int .u64 sure)).setCell ⟨wb, 2, none⟩ u') : ∃ o1 o2, RS W0 w8 qb wb begun' sure l' u' v' o1 o2 := by
  obtain ⟨m1, m2, m3, m4, m5, m6, m7, m8, m9, m10, m11⟩ := hM
  have k78 := set3_kept hw
  refine h.fin (w4 := w4) (okr := fun k => (ok2 k ∨ w.heap.size ≤ k) ∧ k < w2.heap.size) (hq.kept k78 (fun k hk e => ?_)) (fun k hk => hk) (set3_at hc hw) (Kd.R_kept (Kd.R_mono (Kd.R_bound hR) (fun k hk => ⟨hk.1, hk.2.2.1⟩)) m7 (fun k hk e => ?_)) (fun k hk => hk.1) ((hk7.mono (fun k hk => .inl hk)).then_ k78 (fun k hk => .inl (.inr hk))) (set3_below hB7 h.base hw) (by omega)
  · have e : k = wb := e
    rcases hk with h1 | h1
    · exact h.out1 (e ▸ h1)
    · omega
  · have e : k = g := e
    have := hk.2
    omega

set_option maxHeartbeats 8000000 in
set_option maxRecDepth 100000 in
theorem plays_walk (A : Option Addr) (c : Nat) (xs : List S50) (w : World) (hC : Kd.C k50 w A xs.length xs) (h63 : xs.length ≤ 9223372036854775807) :
    Calls Try.prog 5 #[.slice A xs.length c] w fun e w' => e = .returned (.bool true) ∧ Below w.heap.size w w' := by
  have HC := Aside0.mk hC
  have hu48 := Try.underlying48
  have hu50 := Try.underlying50
  clear hC
  by_cases hlen : 200 < xs.length
  · have d2 : decide (200 < (xs.length : Int)) = true := by simp; omega
    go_enter Try.func5, Try.ntmps5
    go_wp2_with (go_at_call 26; refine (lives_calls _).mono ?_; rintro e w' ⟨rfl, hb⟩; have HB2 := Aside0.mk hb; clear hb)
    go_ret
    exact ⟨rfl, HB2.out⟩
  · have d2 : decide (200 < (xs.length : Int)) = false := by simp; omega
    go_enter Try.func5, Try.ntmps5
    go_wp2_with (first
      | (go_at_call 27; refine (new_calls _).mono ?_; rintro e w1 ⟨qb, rfl, hq, hb⟩; have HQ := Aside0.mk hq; have HB := Aside0.mk hb; clear hq hb))
    have HRP : Aside0 (RP w (w1.alloc (.cells #[.int .u64 0, .int .u64 0, .slice none 0 0] 48)) qb w1.heap.size) := ⟨0, 0, [], .slice none 0 0, .slice none 0 0, _, (fun _ => False), HQ.out.bound.below (below_alloc (Below.refl _ _) _), blk_new _ _, Kd.R_nil _ _ _ _ _, fun _ _ h => h, fun h => by have := h.2.2; omega, fun h => h, HB.out.alloc HB.out.size _, HB.out.size, fun k hk => by have := hk.2.2; simp; omega, fun _ h => h.elim⟩
    clear HQ HB
    go_loopw [24] (fun i wr => ∃ k : Nat, k ≤ xs.length ∧ i = .int .i64 k ∧ Aside0 (RP w wr qb w1.heap.size)) (fun i _ => xs.length - (intOf i).toNat)
    case atStart => exact ⟨0, Nat.zero_le _, rfl, HRP⟩
    case round =>
      clear HRP
      obtain ⟨k, hk, rfl, HRP⟩ := hrel
      by_cases hlt : k < xs.length
      · obtain ⟨begun, sure, l, u, v, ok1, ok2, hrs⟩ := HRP.out
        have HR := Aside0.mk hrs
        obtain ⟨Au, cu, eu⟩ := Kd.R_slice hrs.row
        subst eu
        obtain ⟨ad, ea, x0, x1, x2⟩ := at_T50 (Kd.C_below HC.out hrs.below) k hlt
        cases ea
        generalize rd_T50 xs (k : Int) = y at x0 x1 x2
        clear hrs HRP
        by_cases k1 : y.f0 = 1
        · rw [k1] at x0
          clear k1
          go_wp2_with (first
            | ((with_reducible refine gate_dst (N := 6) rfl ?_); refine box_event ?hg (N := 6) ?hd (cs := #[.int .i64 0, .int .u64 0, .int .u64 0]) (t := 50) ?hr ?_; (case hd => rfl); (case hg => rfl); (case hr => first | (go_simp; done) | (go_simp; rfl)); intro g6 hg w2 hbox hb; have E6 := Aside0.mk hg; have K6 := Aside0.mk hbox; have B6 := Aside0.mk hb; clear hg hbox hb; have d0 := (blk_cell K6.out 0).trans rfl; have z0 := blk_frozen K6.out 0; have d1 := (blk_cell K6.out 1).trans rfl; have z1 := blk_frozen K6.out 1; have d2 := (blk_cell K6.out 2).trans rfl; have z2 := blk_frozen K6.out 2)
            | ((with_reducible refine gate_op (Op.store 50 (.tmp 6) (.tmp 27)) rfl ?_); refine skip_event (w1 := ((w2.setCell ⟨g6, 0, none⟩ (.int .i64 1)).setCell ⟨g6, 1, none⟩ (.int .u64 y.f1)).setCell ⟨g6, 2, none⟩ (.int .u64 y.f2)) rfl rfl ?hr ?_; (case hr => first | (go_simp; done) | (go_simp; rfl)); intro w3 hw3; obtain ⟨hr3, n1, n2, n3⟩ := RS.noted HR.out E6.out B6.out hw3; have HR3 := Aside0.mk hr3; have HN6 := Aside0.mk (And.intro n1 (And.intro n2 n3)); have K3 := Aside0.mk (set3_at K6.out hw3); clear hw3 hr3 n1 n2 n3 d0 z0 d1 z1 d2 z2 x0 x1 x2; have c0 := (blk_cell K3.out 0).trans rfl; have c1 := (blk_cell K3.out 1).trans rfl; have c2 := (blk_cell K3.out 2).trans rfl; have q0 := (blk_cell HR3.out.cell 0).trans rfl; have q1 := (blk_cell HR3.out.cell 1).trans rfl; have q2 := (blk_cell HR3.out.cell 2).trans rfl; clear K6 E6 B6 HR)
            | (go_at_call 28; refine (curfewref33_Begin.calls begun sure ok2 (.slice Au (cvs l).length cu) (cvs l) (beginOf begun) sure (cvs l) (beginOf begun) w _ HR3.out.below HR3.out.row (begin_f _ _ _ HR3.out.q.b0 HR3.out.q.b1)).mono ?_; rintro e w4 ⟨v4, rfl, ho, hb, hk4⟩; obtain ⟨A4, c4, e4⟩ := Kd.R_slice ho; subst e4; have HO4 := Aside0.mk ho; have HB4 := Aside0.mk hb; have HK4 := Aside0.mk hk4; clear ho hb hk4 q0 q1 q2 c0 c1 c2)
            | ((with_reducible refine gate_dst (N := 8) rfl ?_); refine box_event ?hg (N := 8) ?hd (cs := #[.int .u64 0, .int .u64 0, .slice none 0 0]) (t := 48) ?hr ?_; (case hd => rfl); (case hg => rfl); (case hr => first | (go_simp; done) | (go_simp; rfl)); intro g8 hg w5 hbox hb; have E8 := Aside0.mk hg; have K8 := Aside0.mk hbox; have B8 := Aside0.mk hb; clear hg hbox hb; have d0 := (blk_cell K8.out 0).trans rfl; have z0 := blk_frozen K8.out 0; have d1 := (blk_cell K8.out 1).trans rfl; have z1 := blk_frozen K8.out 1; have d2 := (blk_cell K8.out 2).trans rfl; have z2 := blk_frozen K8.out 2)
            | ((with_reducible refine gate_op (Op.store 48 (.tmp 8) (.tmp 63)) rfl ?_); refine skip_event (w1 := ((w5.setCell ⟨g8, 0, none⟩ (.int .u64 (beginOf begun))).setCell ⟨g8, 1, none⟩ (.int .u64 sure)).setCell ⟨g8, 2, none⟩ (.slice A4 (cvs l).length c4)) rfl rfl ?hr ?_; (case hr => first | (go_simp; done) | (go_simp; rfl)); intro w6 hw6; have M := Aside0.mk (RS.mid HR3.out K3.out HN6.out.2.1 HK4.out HB4.out E8.out B8.out hw6); have K82 := Aside0.mk (set3_at K8.out hw6); clear hw6 d0 z0 d1 z1 d2 z2))
          obtain ⟨m1, m2, m3, m4, m5, m6, m7, m8, m9, m10, m11⟩ := M.out
          refine r5x15 qb w1.heap.size g8 begun sure (beginOf begun) sure A4 (cvs l).length c4 v w w6 K82.out ⟨m5, m6⟩ HR3.out.qw HR3.out.q.mine.1 HR3.out.base HR3.out.q.b0 HR3.out.q.b1 rfl rfl rfl rfl rfl ⟨Kept.refl _ _, below_drew m4, fun _ => m1.cell, _, _, _, m2⟩ (fun v67 x5 w7 b hb hG f67 f5 => ?_)
          have hbe := beginOf_le HR3.out.q.b1
          obtain ⟨o1, o2, hs7⟩ := HR3.out.fin (w4 := w6) (w5 := w7) (m1.renum HR3.out.out1 f67.2 hG.1 (by have := HR3.out.q.b0; omega) hbe.1 HR3.out.q.s0 (by have := HR3.out.q.s1; omega)) (fun k hk => .inl hk) f5 (Kd.R_kept (Kd.R_mono (Kd.R_bound HO4.out) (ok' := fun k => (ok2 k ∨ w3.heap.size ≤ k) ∧ k < w4.heap.size) (fun k hk => ⟨hk.1, hk.2.2.1⟩)) m7 (fun k hk e => by have e : k = g8 := e; have := E8.out; have := hk.2; omega)) (fun k hk => hk.1) hG.1 hG.2.1 (by omega)
          have HS := Aside0.mk hs7
          clear hs7 hb hG f67 f5 hbe m1 m2 m3 m4 m5 m6 m7 m8 m9 m10 m11
          simp only [putAll, Act.put, List.setIfInBounds_toArray, List.set_cons_zero, List.set_cons_succ]
          have hc0 := (blk_cell HS.out.cell 0).trans rfl
          have hc2 := (blk_cell HS.out.cell 2).trans rfl
          have hcl := cvs_length (l)
          go_wp2
          go_quiet (first | (go_at_call 39; exact Calls.quiet_of_same ((HS.out.q.below (pw_below_drewN (Below.refl _ _) _)).round.mono (fun _ _ h => ⟨h.1, h.2.symm⟩))) | (go_at_call 40; exact Calls.quiet_of_same ((HS.out.q.below (pw_below_drewN (Below.refl _ _) _)).length.mono (fun _ _ h => ⟨h.1, h.2.symm⟩))))
          go_wp2
          go_roundw
          case rel => exact ⟨k + 1, by omega, by go_num, ⟨_, _, _, _, _, _, _, HS.out.later (by repeat (first | exact Below.refl _ _ | refine pw_below_drewN ?_ _ | refine below_drew ?_))⟩⟩
          case measure => simp [intOf]; omega
        · have e1 : (y.f0 == 1) = false := by simpa using k1
          by_cases k2 : y.f0 = 2
          · rw [k2] at x0
            clear k1 k2 e1
            go_wp2_with (first
              | ((with_reducible refine gate_dst (N := 6) rfl ?_); refine box_event ?hg (N := 6) ?hd (cs := #[.int .i64 0, .int .u64 0, .int .u64 0]) (t := 50) ?hr ?_; (case hd => rfl); (case hg => rfl); (case hr => first | (go_simp; done) | (go_simp; rfl)); intro g6 hg w2 hbox hb; have E6 := Aside0.mk hg; have K6 := Aside0.mk hbox; have B6 := Aside0.mk hb; clear hg hbox hb; have d0 := (blk_cell K6.out 0).trans rfl; have z0 := blk_frozen K6.out 0; have d1 := (blk_cell K6.out 1).trans rfl; have z1 := blk_frozen K6.out 1; have d2 := (blk_cell K6.out 2).trans rfl; have z2 := blk_frozen K6.out 2)
              | ((with_reducible refine gate_op (Op.store 50 (.tmp 6) (.tmp 27)) rfl ?_); refine skip_event (w1 := ((w2.setCell ⟨g6, 0, none⟩ (.int .i64 2)).setCell ⟨g6, 1, none⟩ (.int .u64 y.f1)).setCell ⟨g6, 2, none⟩ (.int .u64 y.f2)) rfl rfl ?hr ?_; (case hr => first | (go_simp; done) | (go_simp; rfl)); intro w3 hw3; obtain ⟨hr3, n1, n2, n3⟩ := RS.noted HR.out E6.out B6.out hw3; have HR3 := Aside0.mk hr3; have HN6 := Aside0.mk (And.intro n1 (And.intro n2 n3)); have K3 := Aside0.mk (set3_at K6.out hw3); clear hw3 hr3 n1 n2 n3 d0 z0 d1 z1 d2 z2 x0 x1 x2; have c0 := (blk_cell K3.out 0).trans rfl; have c1 := (blk_cell K3.out 1).trans rfl; have c2 := (blk_cell K3.out 2).trans rfl; have q0 := (blk_cell HR3.out.cell 0).trans rfl; have q1 := (blk_cell HR3.out.cell 1).trans rfl; have q2 := (blk_cell HR3.out.cell 2).trans rfl; clear K6 E6 B6 HR)
              | (go_at_call 30; refine (curfewref33_Confirm.calls begun sure ok2 (.slice Au (cvs l).length cu) (cvs l) y.f1 begun (confOf begun sure y.f1) (cvs l) w _ HR3.out.below HR3.out.row (confirm_f _ _ _ _)).mono ?_; rintro e w4 ⟨v4, rfl, ho, hb, hk4⟩; obtain ⟨A4, c4, e4⟩ := Kd.R_slice ho; subst e4; have HO4 := Aside0.mk ho; have HB4 := Aside0.mk hb; have KW4 := Aside0.mk (blk_kept HR3.out.cell hk4 HR3.out.out2); have K34 := Aside0.mk (blk_kept K3.out hk4 HN6.out.2.1); have Q4 := Aside0.mk (HR3.out.q.kept hk4 HR3.out.apart); have HK4 := Aside0.mk hk4; clear ho hb hk4 q0 q1 q2 c0 c1 c2; have d0 := (blk_cell KW4.out 0).trans rfl; have z0 := blk_frozen KW4.out 0; have d1 := (blk_cell KW4.out 1).trans rfl; have z1 := blk_frozen KW4.out 1; have d2 := (blk_cell KW4.out 2).trans rfl; have z2 := blk_frozen KW4.out 2)
              | ((with_reducible refine gate_op (Op.store 48 (.tmp 4) (.tmp 75)) rfl ?_); refine skip_event (w1 := ((w4.setCell ⟨w1.heap.size, 0, none⟩ (.int .u64 begun)).setCell ⟨w1.heap.size, 1, none⟩ (.int .u64 (confOf begun sure y.f1))).setCell ⟨w1.heap.size, 2, none⟩ (.slice A4 (cvs l).length c4)) rfl rfl ?hr ?_; (case hr => first | (go_simp; done) | (go_simp; rfl)); intro w5 hw5; have KW5 := Aside0.mk (set3_at KW4.out hw5); have HK5 := Aside0.mk (set3_kept hw5); have HB5 := Aside0.mk (set3_below HB4.out HR3.out.base hw5); have Q5 := Aside0.mk (Q4.out.kept HK5.out (fun k hk e => HR3.out.out1 (by have e : k = w1.heap.size := e; exact e ▸ hk))); have K35 := Aside0.mk (blk_kept K34.out HK5.out HN6.out.2.2); clear hw5 d0 d1 d2 z0 z1 z2; have c0 := (blk_cell K35.out 0).trans rfl; have c1 := (blk_cell K35.out 1).trans rfl; have c2 := (blk_cell K35.out 2).trans rfl)
              | (go_at_call 31; refine (Q5.out.confirm HB5.out y.f1).mono ?_; rintro e w6 ⟨rfl, hq, hb, hk6⟩; have Q6 := Aside0.mk hq; have HB6 := Aside0.mk hb; have HK6 := Aside0.mk hk6; clear hq hb hk6 c0 c1 c2; obtain ⟨o1, o2, hs7⟩ := HR3.out.fin (w4 := w5) (w5 := w6) Q6.out (fun k hk => .inl hk) (blk_kept KW5.out HK6.out (fun e => HR3.out.qw e.symm)) (Kd.R_kept (Kd.R_mono (Kd.R_bound HO4.out) (ok' := (fun k => (ok2 k ∨ w3.heap.size ≤ k) ∧ k < w4.heap.size)) (fun k hk => ⟨hk.1, hk.2.2.1⟩)) HK5.out (fun k hk e => by have e : k = w1.heap.size := e; have := blk_lt HR3.out.cell; rcases hk.1 with h | h; (exact HR3.out.out2 (e ▸ h)); omega)) (fun k hk => hk.1) (HK6.out.mono (fun k hk => .inl hk)) HB6.out (Nat.le_trans HK4.out.1 HK5.out.1); have HS := Aside0.mk hs7; clear hs7; have hc0 := (blk_cell HS.out.cell 0).trans rfl; have hc2 := (blk_cell HS.out.cell 2).trans rfl; have hcl := cvs_length l))
            go_quiet (first | (go_at_call 39; exact Calls.quiet_of_same ((HS.out.q.below (pw_below_drewN (Below.refl _ _) _)).round.mono (fun _ _ h => ⟨h.1, h.2.symm⟩))) | (go_at_call 40; exact Calls.quiet_of_same ((HS.out.q.below (pw_below_drewN (Below.refl _ _) _)).length.mono (fun _ _ h => ⟨h.1, h.2.symm⟩))))
            go_wp2
            go_roundw
            case rel => exact ⟨k + 1, by omega, by go_num, ⟨_, _, _, _, _, _, _, HS.out.later (by repeat (first | exact Below.refl _ _ | refine pw_below_drewN ?_ _ | refine below_drew ?_))⟩⟩
            case measure => simp [intOf]; omega
          · have e2 : (y.f0 == 2) = false := by simpa using k2
            by_cases k3 : y.f0 = 3
            · rw [k3] at x0
              clear k1 k2 k3 e1 e2
              go_wp2_with (first
                | ((with_reducible refine gate_dst (N := 6) rfl ?_); refine box_event ?hg (N := 6) ?hd (cs := #[.int .i64 0, .int .u64 0, .int .u64 0]) (t := 50) ?hr ?_; (case hd => rfl); (case hg => rfl); (case hr => first | (go_simp; done) | (go_simp; rfl)); intro g6 hg w2 hbox hb; have E6 := Aside0.mk hg; have K6 := Aside0.mk hbox; have B6 := Aside0.mk hb; clear hg hbox hb; have d0 := (blk_cell K6.out 0).trans rfl; have z0 := blk_frozen K6.out 0; have d1 := (blk_cell K6.out 1).trans rfl; have z1 := blk_frozen K6.out 1; have d2 := (blk_cell K6.out 2).trans rfl; have z2 := blk_frozen K6.out 2)
                | ((with_reducible refine gate_op (Op.store 50 (.tmp 6) (.tmp 27)) rfl ?_); refine skip_event (w1 := ((w2.setCell ⟨g6, 0, none⟩ (.int .i64 3)).setCell ⟨g6, 1, none⟩ (.int .u64 y.f1)).setCell ⟨g6, 2, none⟩ (.int .u64 y.f2)) rfl rfl ?hr ?_; (case hr => first | (go_simp; done) | (go_simp; rfl)); intro w3 hw3; obtain ⟨hr3, n1, n2, n3⟩ := RS.noted HR.out E6.out B6.out hw3; have HR3 := Aside0.mk hr3; have HN6 := Aside0.mk (And.intro n1 (And.intro n2 n3)); have K3 := Aside0.mk (set3_at K6.out hw3); clear hw3 hr3 n1 n2 n3 d0 z0 d1 z1 d2 z2 x0 x1 x2; have c0 := (blk_cell K3.out 0).trans rfl; have c1 := (blk_cell K3.out 1).trans rfl; have c2 := (blk_cell K3.out 2).trans rfl; have q0 := (blk_cell HR3.out.cell 0).trans rfl; have q1 := (blk_cell HR3.out.cell 1).trans rfl; have q2 := (blk_cell HR3.out.cell 2).trans rfl; clear K6 E6 B6 HR)
                | (go_at_call 32; refine (curfewref33_Take.calls ((l.length) + 1) begun sure Au cu (cvs l) y.f1 begun sure (cvs (l.filter (fun x => !sureOf sure y.f1 x))) (cvs (l.filter (sureOf sure y.f1))) _ (Kd.R_reads' HR3.out.row).2.2 (Kd.R_reads' HR3.out.row).2.1 (take_f _ _ _ _ (by have := HR3.out.q.len; omega))).mono ?_; rintro e w4 ⟨v4, v5, rfl, ho, ho2, hb⟩; obtain ⟨A4, c4, e4⟩ := Kd.R_slice ho; subst e4; obtain ⟨A5, c5, e5⟩ := Kd.R_slice ho2; subst e5; have HO4 := Aside0.mk ho; have HO5 := Aside0.mk ho2; have HB4 := Aside0.mk (below_then HR3.out.below HR3.out.below.size hb); have HK4 := Aside0.mk (Kept.of_below hb ok2); clear ho ho2 hb q0 q1 q2 c0 c1 c2)
                | ((with_reducible refine gate_dst (N := 10) rfl ?_); refine box_event ?hg (N := 10) ?hd (cs := #[.int .u64 0, .int .u64 0, .slice none 0 0]) (t := 48) ?hr ?_; (case hd => rfl); (case hg => rfl); (case hr => first | (go_simp; done) | (go_simp; rfl)); intro g10 hg w5 hbox hb; have E10 := Aside0.mk hg; have K10 := Aside0.mk hbox; have B10 := Aside0.mk hb; clear hg hbox hb; have d0 := (blk_cell K10.out 0).trans rfl; have z0 := blk_frozen K10.out 0; have d1 := (blk_cell K10.out 1).trans rfl; have z1 := blk_frozen K10.out 1; have d2 := (blk_cell K10.out 2).trans rfl; have z2 := blk_frozen K10.out 2)
                | ((with_reducible refine gate_op (Op.store 48 (.tmp 10) (.tmp 87)) rfl ?_); refine skip_event (w1 := ((w5.setCell ⟨g10, 0, none⟩ (.int .u64 begun)).setCell ⟨g10, 1, none⟩ (.int .u64 sure)).setCell ⟨g10, 2, none⟩ (.slice A4 (cvs (l.filter (fun x => !sureOf sure y.f1 x))).length c4)) rfl rfl ?hr ?_; (case hr => first | (go_simp; done) | (go_simp; rfl)); intro w6 hw6; have M := Aside0.mk (RS.mid HR3.out K3.out HN6.out.2.1 HK4.out HB4.out E10.out B10.out hw6); have K102 := Aside0.mk (set3_at K10.out hw6); clear hw6 d0 z0 d1 z1 d2 z2))
              obtain ⟨m1, m2, m3, m4, m5, m6, m7, m8, m9, m10, m11⟩ := M.out
              have hR5 := Kd.R_kept (Kd.R_mono (Kd.R_bound HO5.out) (ok' := (fun k => w3.heap.size ≤ k ∧ k < w4.heap.size)) (fun k hk => ⟨hk.2.1, hk.2.2.1⟩)) m7 (fun k hk e => by have e : k = g10 := e; have := E10.out; have := hk.2; omega)
              have hR4 := Kd.R_kept (Kd.R_mono (Kd.R_bound HO4.out) (ok' := (fun k => w3.heap.size ≤ k ∧ k < w4.heap.size)) (fun k hk => ⟨hk.2.1, hk.2.2.1⟩)) m7 (fun k hk e => by have e : k = g10 := e; have := E10.out; have := hk.2; omega)
              have HR4 := Aside0.mk (Kd.R_lower hR4 HR3.out.below.size)
              have HR5 := Aside0.mk (Kd.R_lower hR5 HR3.out.below.size)
              clear hR4 hR5
              refine r5x21 qb w1.heap.size g6 g10 begun sure begun sure y.f1 A5 A4 (cvs (l.filter (sureOf sure y.f1))).length c5 (cvs (l.filter (fun x => !sureOf sure y.f1 x))).length c4 v l ok1 w w6 m1 HR3.out.out1 m3 ⟨fun e => HN6.out.1 (e ▸ HR3.out.q.mine.2), HN6.out.2.2⟩ K102.out ⟨m5, m6⟩ HR3.out.qw (by omega) HR3.out.base (Nat.le_trans (List.length_filter_le _ _) HR3.out.q.len) HR5.out (fun k hk => by have := hk.1; constructor <;> omega) rfl rfl rfl rfl rfl rfl ⟨Kept.refl _ _, below_drew m4, fun _ => m1.cell, _, _, _, m2⟩ (fun v93 v94 x8 w7 b hb hG f93 f94 f8 => ?_)
              obtain ⟨okq, oko, vq, q1, q2, q3, q4, q5⟩ := f93
              obtain ⟨o1, o2, hs7⟩ := HR3.out.fin (w4 := w6) (w5 := w7) q1 q4 f8 HR4.out (fun k hk => .inr hk.1) hG.1 hG.2.1 (by omega)
              have HS := Aside0.mk hs7
              clear hs7 hb hG q1 q2 q3 q4 q5 f94 f8 m1 m2 m3 m4 m5 m6 m7 m8 m9 m10 m11
              simp only [putAll, Act.put, List.setIfInBounds_toArray, List.set_cons_zero, List.set_cons_succ]
              have hc0 := (blk_cell HS.out.cell 0).trans rfl
              have hc2 := (blk_cell HS.out.cell 2).trans rfl
              have hcl := cvs_length (l.filter (fun x => !sureOf sure y.f1 x))
              go_wp2
              go_quiet (first | (go_at_call 39; exact Calls.quiet_of_same ((HS.out.q.below (pw_below_drewN (Below.refl _ _) _)).round.mono (fun _ _ h => ⟨h.1, h.2.symm⟩))) | (go_at_call 40; exact Calls.quiet_of_same ((HS.out.q.below (pw_below_drewN (Below.refl _ _) _)).length.mono (fun _ _ h => ⟨h.1, h.2.symm⟩))))
              go_wp2
              go_roundw
              case rel => exact ⟨k + 1, by omega, by go_num, ⟨_, _, _, _, _, _, _, HS.out.later (by repeat (first | exact Below.refl _ _ | refine pw_below_drewN ?_ _ | refine below_drew ?_))⟩⟩
              case measure => simp [intOf]; omega
            · have e3 : (y.f0 == 3) = false := by simpa using k3
              by_cases k4 : y.f0 = 4
              · rw [k4] at x0
                clear k1 k2 k3 k4 e1 e2 e3
                go_wp2_with (first
                  | ((with_reducible refine gate_dst (N := 6) rfl ?_); refine box_event ?hg (N := 6) ?hd (cs := #[.int .i64 0, .int .u64 0, .int .u64 0]) (t := 50) ?hr ?_; (case hd => rfl); (case hg => rfl); (case hr => first | (go_simp; done) | (go_simp; rfl)); intro g6 hg w2 hbox hb; have E6 := Aside0.mk hg; have K6 := Aside0.mk hbox; have B6 := Aside0.mk hb; clear hg hbox hb; have d0 := (blk_cell K6.out 0).trans rfl; have z0 := blk_frozen K6.out 0; have d1 := (blk_cell K6.out 1).trans rfl; have z1 := blk_frozen K6.out 1; have d2 := (blk_cell K6.out 2).trans rfl; have z2 := blk_frozen K6.out 2)
                  | ((with_reducible refine gate_op (Op.store 50 (.tmp 6) (.tmp 27)) rfl ?_); refine skip_event (w1 := ((w2.setCell ⟨g6, 0, none⟩ (.int .i64 4)).setCell ⟨g6, 1, none⟩ (.int .u64 y.f1)).setCell ⟨g6, 2, none⟩ (.int .u64 y.f2)) rfl rfl ?hr ?_; (case hr => first | (go_simp; done) | (go_simp; rfl)); intro w3 hw3; obtain ⟨hr3, n1, n2, n3⟩ := RS.noted HR.out E6.out B6.out hw3; have HR3 := Aside0.mk hr3; have HN6 := Aside0.mk (And.intro n1 (And.intro n2 n3)); have K3 := Aside0.mk (set3_at K6.out hw3); clear hw3 hr3 n1 n2 n3 d0 z0 d1 z1 d2 z2 x0 x1 x2; have c0 := (blk_cell K3.out 0).trans rfl; have c1 := (blk_cell K3.out 1).trans rfl; have c2 := (blk_cell K3.out 2).trans rfl; have q0 := (blk_cell HR3.out.cell 0).trans rfl; have q1 := (blk_cell HR3.out.cell 1).trans rfl; have q2 := (blk_cell HR3.out.cell 2).trans rfl; clear K6 E6 B6 HR))
                refine r5x23 qb w1.heap.size begun sure begun sure Au (cvs l).length cu v l ok1 w w3 HR3.out.q HR3.out.out1 HR3.out.qw (blk_lt HR3.out.cell) HR3.out.base HR3.out.q.len HR3.out.row (fun k hk => ⟨fun e => HR3.out.apart k (e ▸ HR3.out.q.mine.2) hk, fun e => HR3.out.out2 (e ▸ hk)⟩) rfl rfl rfl ⟨Kept.refl _ _, below_drew HR3.out.below, fun _ => HR3.out.q.cell, HR3.out.cell⟩ (fun v100 v101 w4 b hb hG f100 f101 => ?_)
                have HG := Aside0.mk hG
                have HT := Aside0.mk f100
                have d2 := (blk_cell HG.out.2.2.2 2).trans rfl
                have z2 := blk_frozen HG.out.2.2.2 2
                clear hb hG f100 f101 c0 c1 c2 q0 q1 q2
                simp only [putAll, Act.put, List.setIfInBounds_toArray, List.set_cons_zero, List.set_cons_succ]
                go_wp2_with ((with_reducible refine gate_op (Op.store 46 (.tmp 105) (.const (.slice none 0 0))) rfl ?_); refine skip_event (w1 := w4.setCell ⟨w1.heap.size, 2, none⟩ (.slice none 0 0)) rfl rfl ?hr ?_; (case hr => first | (go_simp; done) | (go_simp; rfl)); intro w5 hw5; have HSX := Aside0.mk (RS.dropped HR3.out HG.out.1 HG.out.2.1 HG.out.2.2.2 HT.out hw5); obtain ⟨vq, o1, o2, hs7⟩ := HSX.out; have HS := Aside0.mk hs7; clear hs7 hw5 d2 z2; have hc0 := (blk_cell HS.out.cell 0).trans rfl; have hc2 := (blk_cell HS.out.cell 2).trans rfl; have hcl := cvs_length [])
                go_quiet (first | (go_at_call 39; exact Calls.quiet_of_same ((HS.out.q.below (pw_below_drewN (Below.refl _ _) _)).round.mono (fun _ _ h => ⟨h.1, h.2.symm⟩))) | (go_at_call 40; exact Calls.quiet_of_same ((HS.out.q.below (pw_below_drewN (Below.refl _ _) _)).length.mono (fun _ _ h => ⟨h.1, h.2.symm⟩))))
                go_wp2
                go_roundw
                case rel => exact ⟨k + 1, by omega, by go_num, ⟨_, _, _, _, _, _, _, HS.out.later (by repeat (first | exact Below.refl _ _ | refine pw_below_drewN ?_ _ | refine below_drew ?_))⟩⟩
                case measure => simp [intOf]; omega
              · have e4 : (y.f0 == 4) = false := by simpa using k4
                go_wp2_with (first
                  | ((with_reducible refine gate_dst (N := 6) rfl ?_); refine box_event ?hg (N := 6) ?hd (cs := #[.int .i64 0, .int .u64 0, .int .u64 0]) (t := 50) ?hr ?_; (case hd => rfl); (case hg => rfl); (case hr => first | (go_simp; done) | (go_simp; rfl)); intro g6 hg w2 hbox hb; have E6 := Aside0.mk hg; have K6 := Aside0.mk hbox; have B6 := Aside0.mk hb; clear hg hbox hb; have d0 := (blk_cell K6.out 0).trans rfl; have z0 := blk_frozen K6.out 0; have d1 := (blk_cell K6.out 1).trans rfl; have z1 := blk_frozen K6.out 1; have d2 := (blk_cell K6.out 2).trans rfl; have z2 := blk_frozen K6.out 2)
                  | ((with_reducible refine gate_op (Op.store 50 (.tmp 6) (.tmp 27)) rfl ?_); refine skip_event (w1 := ((w2.setCell ⟨g6, 0, none⟩ (.int .i64 y.f0)).setCell ⟨g6, 1, none⟩ (.int .u64 y.f1)).setCell ⟨g6, 2, none⟩ (.int .u64 y.f2)) rfl rfl ?hr ?_; (case hr => first | (go_simp; done) | (go_simp; rfl)); intro w3 hw3; obtain ⟨hr3, n1, n2, n3⟩ := RS.noted HR.out E6.out B6.out hw3; have HR3 := Aside0.mk hr3; have HN6 := Aside0.mk (And.intro n1 (And.intro n2 n3)); have K3 := Aside0.mk (set3_at K6.out hw3); clear hw3 hr3 n1 n2 n3 d0 z0 d1 z1 d2 z2 x0 x1 x2; have c0 := (blk_cell K3.out 0).trans rfl; have c1 := (blk_cell K3.out 1).trans rfl; have c2 := (blk_cell K3.out 2).trans rfl; have q0 := (blk_cell HR3.out.cell 0).trans rfl; have q1 := (blk_cell HR3.out.cell 1).trans rfl; have q2 := (blk_cell HR3.out.cell 2).trans rfl; clear K6 E6 B6 HR)
                  | (go_at_call 37; refine (curfewref33_Ask.calls begun sure ok2 (.slice Au (cvs l).length cu) (cvs l) y.f1 y.f2 (askBegun begun l) sure (cvs (askList begun l y.f1 y.f2)) (askRound begun l) (askErr begun l) w _ HR3.out.below HR3.out.row (ask_f _ _ _ _ _ HR3.out.q.b0 HR3.out.q.b1 HR3.out.q.len)).mono ?_; rintro e w4 ⟨v4, rfl, ho, hb, hk4⟩; obtain ⟨A4, c4, e4⟩ := Kd.R_slice ho; subst e4; have HO4 := Aside0.mk ho; have HB4 := Aside0.mk hb; have HK4 := Aside0.mk hk4; clear ho hb hk4 q0 q1 q2 c0 c1 c2)
                  | ((with_reducible refine gate_dst (N := 12) rfl ?_); refine box_event ?hg (N := 12) ?hd (cs := #[.int .u64 0, .int .u64 0, .slice none 0 0]) (t := 48) ?hr ?_; (case hd => rfl); (case hg => rfl); (case hr => first | (go_simp; done) | (go_simp; rfl)); intro g12 hg w5 hbox hb; have E12 := Aside0.mk hg; have K12 := Aside0.mk hbox; have B12 := Aside0.mk hb; clear hg hbox hb; have d0 := (blk_cell K12.out 0).trans rfl; have z0 := blk_frozen K12.out 0; have d1 := (blk_cell K12.out 1).trans rfl; have z1 := blk_frozen K12.out 1; have d2 := (blk_cell K12.out 2).trans rfl; have z2 := blk_frozen K12.out 2)
                  | ((with_reducible refine gate_op (Op.store 48 (.tmp 12) (.tmp 37)) rfl ?_); refine skip_event (w1 := ((w5.setCell ⟨g12, 0, none⟩ (.int .u64 (askBegun begun l))).setCell ⟨g12, 1, none⟩ (.int .u64 sure)).setCell ⟨g12, 2, none⟩ (.slice A4 (cvs (askList begun l y.f1 y.f2)).length c4)) rfl rfl ?hr ?_; (case hr => first | (go_simp; done) | (go_simp; rfl)); intro w6 hw6; have M := Aside0.mk (RS.mid HR3.out K3.out HN6.out.2.1 HK4.out HB4.out E12.out B12.out hw6); have K122 := Aside0.mk (set3_at K12.out hw6); clear hw6 d0 z0 d1 z1 d2 z2; have c0 := (blk_cell M.out.2.2.1 0).trans rfl; have c1 := (blk_cell M.out.2.2.1 1).trans rfl; have c2 := (blk_cell M.out.2.2.1 2).trans rfl)
                  | (go_at_call 38; refine (M.out.1.ask M.out.2.2.2.1 y.f1 y.f2).mono ?_; rintro e w7 ⟨v7, rfl, hq, hb, hk7⟩; have Q7 := Aside0.mk hq; have HB7 := Aside0.mk hb; have HK7 := Aside0.mk hk7; have KW7 := Aside0.mk (blk_kept M.out.2.1 hk7 (fun e => HR3.out.qw e.symm)); have K127 := Aside0.mk (blk_kept K122.out hk7 (fun e => M.out.2.2.2.2.1 e)); clear hq hb hk7 c0 c1 c2; have d0 := (blk_cell KW7.out 0).trans rfl; have z0 := blk_frozen KW7.out 0; have d1 := (blk_cell KW7.out 1).trans rfl; have z1 := blk_frozen KW7.out 1; have d2 := (blk_cell KW7.out 2).trans rfl; have z2 := blk_frozen KW7.out 2; have c0 := (blk_cell K127.out 0).trans rfl; have c1 := (blk_cell K127.out 1).trans rfl; have c2 := (blk_cell K127.out 2).trans rfl)
                  | ((with_reducible refine gate_op (Op.store 48 (.tmp 4) (.tmp 49)) rfl ?_); refine skip_event (w1 := ((w7.setCell ⟨w1.heap.size, 0, none⟩ (.int .u64 (askBegun begun l))).setCell ⟨w1.heap.size, 1, none⟩ (.int .u64 sure)).setCell ⟨w1.heap.size, 2, none⟩ (.slice A4 (cvs (askList begun l y.f1 y.f2)).length c4)) rfl rfl ?hr ?_; (case hr => first | (go_simp; done) | (go_simp; rfl)); intro w8 hw8; have HSX := Aside0.mk (RS.asked HR3.out M.out HK4.out E12.out HO4.out Q7.out HB7.out HK7.out KW7.out hw8); obtain ⟨o1, o2, hs7⟩ := HSX.out; have HS := Aside0.mk hs7; clear hs7 hw8 d0 d1 d2 z0 z1 z2 c0 c1 c2; have hc0 := (blk_cell HS.out.cell 0).trans rfl; have hc2 := (blk_cell HS.out.cell 2).trans rfl; have hcl := cvs_length (askList begun l y.f1 y.f2)))
                go_quiet (first | (go_at_call 39; exact Calls.quiet_of_same ((HS.out.q.below (pw_below_drewN (Below.refl _ _) _)).round.mono (fun _ _ h => ⟨h.1, h.2.symm⟩))) | (go_at_call 40; exact Calls.quiet_of_same ((HS.out.q.below (pw_below_drewN (Below.refl _ _) _)).length.mono (fun _ _ h => ⟨h.1, h.2.symm⟩))))
                go_wp2
                go_roundw
                case rel => exact ⟨k + 1, by omega, by go_num, ⟨_, _, _, _, _, _, _, HS.out.later (by repeat (first | exact Below.refl _ _ | refine pw_below_drewN ?_ _ | refine below_drew ?_))⟩⟩
                case measure => simp [intOf]; omega
      · have HB : Aside0 (Below w.heap.size w wr) := ⟨by
          obtain ⟨_, _, _, _, _, _, _, h⟩ := HRP.out
          exact h.below⟩
        clear HRP
        go_wp2_with (go_at_call 26; refine (lives_calls _).mono ?_; rintro e w' ⟨rfl, hb⟩; have HB2 := Aside0.mk (below_then HB.out HB.out.size hb); clear hb)
        go_ret
        exact ⟨rfl, HB2.out⟩
end Go.Proofs.Ytbjbejjieibldaa.Qa
