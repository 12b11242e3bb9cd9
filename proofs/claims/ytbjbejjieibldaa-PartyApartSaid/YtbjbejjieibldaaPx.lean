/- PartyApart, walked. -/
import Derived.Test.YtbjbejjieibldaaPh
import Derived.Test.YtbjbejjieibldaaPw
namespace Go.Proofs.Ytbjbejjieibldaa.Pa
open Go.RowKit Go.Proofs.YtbjbejjieibldaaW.PrintWords Go.Proofs.YtbjbejjieibldaaW.PrintLast Go.Proofs.YtbjbejjieibldaaW.PrintMore Go.Maps Go.Proofs.Ytbjbejjieibldaa.Rg
open Go.Proofs.Ytbjbejjieibldaa.Pl (cnt dedup mostL same_f cnt_snoc dedup_step most_dedup times_f most_f did_f hear_f)
open Go.Proofs.Ytbjbejjieibldaa
set_option linter.unusedVariables false

theorem below_of_kept {b : Nat} {W0 w w' : World} {S : Nat → Prop} (h1 : Below b W0 w) (h2 : Below b W0 w') (hk : Kept w w' S) (hS : ∀ k, k < w.heap.size → ¬ S k) : Below w.heap.size w w' :=
  ⟨h2.os.trans h1.os.symm, h2.tape.trans h1.tape.symm, h2.output.trans h1.output.symm, hk.1, fun k hlt => hk.2 k hlt (hS k hlt)⟩

/-- The party at pb and the document's party in the variable gw, side by side; the two notices' boxes. -/
structure LA (W0 w : World) (lo g4 g5 pb gw : Nat) (nc mc : Array Value) (u : Value) (l : List Int) (ok1 ok2 : Nat → Prop) : Prop where
  ps : PS W0 w pb gw 0 u l ok1 ok2
  c4 : w.heap[g4]? = some (.cells nc 31 (0, 0))
  c5 : w.heap[g5]? = some (.cells mc 31 (0, 0))
  lo1 : ∀ k, ok1 k → lo ≤ k
  los : g4 < lo ∧ g5 < lo ∧ lo ≤ gw ∧ W0.heap.size ≤ lo
section
variable {W0 w w' : World} {lo g4 g5 pb gw : Nat} {nc mc : Array Value} {u : Value} {l : List Int} {ok1 ok2 : Nat → Prop}
theorem LA.later (h : LA W0 w lo g4 g5 pb gw nc mc u l ok1 ok2) (hb : Below w.heap.size w w') : LA W0 w' lo g4 g5 pb gw nc mc u l ok1 ok2 :=
  ⟨h.ps.later hb, blk_below h.c4 hb, blk_below h.c5 hb, h.lo1, h.los⟩
theorem LA.tight (h : LA W0 w lo g4 g5 pb gw nc mc u l ok1 ok2) : LA W0 w lo g4 g5 pb gw nc mc u l (fun k => ok1 k ∧ k < w.heap.size) (fun k => ok2 k ∧ k < w.heap.size) :=
  ⟨h.ps.tight, h.c4, h.c5, fun k hk => h.lo1 k hk.1, h.los⟩
/-- One notice heard both ways; then the variable written. -/
theorem LA.hear (h : LA W0 w lo g4 g5 pb gw nc mc u l ok1 ok2) (n : S31) (hid : U n.f0) (hn : l.length < 900) :
    Calls Try.prog 20 #[.pointer (some ⟨pb, 0, none⟩), .agg #[.int .i64 0, u], .agg #[.int .u64 n.f0, .int .u64 n.f1, .int .i64 n.f2, .int .i64 n.f3, .int .i64 n.f4, .int .i64 n.f5, .int .i64 n.f6, .int .i64 n.f7, .int .i64 n.f8]] w fun e w' => ∃ v A c, v = .slice A (newL l 0 n.f3 n.f0).length c ∧ e = .returned (.tuple #[.agg #[.int .i64 0, v], .bool true]) ∧
      w'.heap[gw]? = some (.cells #[.int .i64 0, u] 29 (0, 0)) ∧ w'.heap[g4]? = some (.cells nc 31 (0, 0)) ∧ Below W0.heap.size W0 w' ∧
      ∃ ok1' ok2', ∀ w'' : World, w'' = (w'.setCell ⟨gw, 0, none⟩ (.int .i64 0)).setCell ⟨gw, 1, none⟩ v → LA W0 w'' lo g4 g5 pb gw nc mc v (newL l 0 n.f3 n.f0) ok1' ok2' := by
  have ht := h.tight
  have hlt := blk_lt h.ps.cell
  have hlos := h.los
  refine (lhear2 n.f0 n.f1 n.f2 n.f3 n.f4 n.f5 n.f6 n.f7 n.f8 W0 w h.ps.below ht.ps.heard ht.ps.row ht.ps.apart hid hn).mono ?_
  rintro e w' ⟨v, ok1', ok2', rfl, h1, h2, h3, h4, h5, h6, h7⟩
  obtain ⟨A, c, ev⟩ := Kd.R_slice h2
  have o1 : ¬ ok1' gw := fun hk => (h4 gw hk).elim ht.ps.out1 (fun h => by omega)
  have o2 : ¬ ok2' gw := fun hk => (h5 gw hk).elim ht.ps.out2 (fun h => by omega)
  have n4 : ¬ (ok1 g4 ∧ g4 < w.heap.size) := fun hk => by have := h.lo1 g4 hk.1; omega
  have n5 : ¬ (ok1 g5 ∧ g5 < w.heap.size) := fun hk => by have := h.lo1 g5 hk.1; omega
  have hc := blk_kept h.ps.cell h7 ht.ps.out1
  refine ⟨v, A, c, ev, rfl, hc, blk_kept h.c4 h7 n4, h6, ok1', ok2', fun w'' hw => ?_⟩
  have hk : Kept w' w'' (fun k => k = gw) := by rw [hw]; exact set2_kept _ _ _ _
  refine ⟨⟨set2_at hc hw, h1.kept hk (fun k hk1 e => o1 (by have e : k = gw := e; exact e ▸ hk1)), Kd.R_kept h2 hk (fun k hk2 e => o2 (by have e : k = gw := e; exact e ▸ hk2)), h3, o1, o2, by rw [hw]; exact set2_below h6 h.ps.base _ _, h.ps.base⟩, blk_kept (blk_kept h.c4 h7 n4) hk (show ¬ g4 = gw by omega), blk_kept (blk_kept h.c5 h7 n5) hk (show ¬ g5 = gw by omega), fun k hk1 => ?_, h.los⟩
  rcases h4 k hk1 with h | h
  · exact ht.lo1 k h
  · omega
/-- The clone, heard both ways: the party itself and all else stay. -/
theorem LA.apart (h : LA W0 w lo g4 g5 pb gw nc mc u l ok1 ok2) {wc : World} {qb : Nat} (hb : Below w.heap.size w wc) (hq : Heard wc w.heap.size (fun _ => True) qb 0 l) (n : S31) (hid : U n.f0) (hn : l.length < 900) :
    Calls Try.prog 20 #[.pointer (some ⟨qb, 0, none⟩), .agg #[.int .i64 0, u], .agg #[.int .u64 n.f0, .int .u64 n.f1, .int .i64 n.f2, .int .i64 n.f3, .int .i64 n.f4, .int .i64 n.f5, .int .i64 n.f6, .int .i64 n.f7, .int .i64 n.f8]] wc fun e w' => ∃ v A c, v = .slice A (newL l 0 n.f3 n.f0).length c ∧ e = .returned (.tuple #[.agg #[.int .i64 0, v], .bool true]) ∧ Below w.heap.size w w' := by
  have ht := h.tight.later hb
  refine (lhear2 n.f0 n.f1 n.f2 n.f3 n.f4 n.f5 n.f6 n.f7 n.f8 W0 wc ht.ps.below (ok1 := fun k => w.heap.size ≤ k) (IsP.lower (IsP.mono (IsP.bound hq) (fun k hk => hk.2.1)) h.ps.below.size) ht.ps.row (fun k h1 h2 => by have := h2.2; omega) hid hn).mono ?_
  rintro e w' ⟨v, ok1', ok2', rfl, h1, h2, h3, h4, h5, h6, h7⟩
  obtain ⟨A, c, ev⟩ := Kd.R_slice h2
  exact ⟨v, A, c, ev, rfl, below_of_kept h.ps.below h6 ((Kept.of_below hb (fun k => w.heap.size ≤ k)).then_ h7 (fun k hk => .inl hk)) (fun k hk h => by omega)⟩
end
/-- Behind k notices. -/
def LP (W0 wr : World) (lo g4 g5 pb gw : Nat) (nc mc : Array Value) (k : Nat) : Prop := ∃ u l ok1 ok2, LA W0 wr lo g4 g5 pb gw nc mc u l ok1 ok2 ∧ l.length ≤ k
theorem la_noted {W0 wr w2 w3 : World} {lo g4 g5 pb gw g10 : Nat} {nc mc : Array Value} {u : Value} {l : List Int} {ok1 ok2 : Nat → Prop} {y0 y1 y2 y3 y4 y5 y6 y7 y8 : Value}
    (h : LA W0 wr lo g4 g5 pb gw nc mc u l ok1 ok2) (E : g10 = wr.heap.size) (B : Below wr.heap.size wr w2)
    (W : w3 = ((((((((w2.setCell ⟨g10, 0, none⟩ y0).setCell ⟨g10, 1, none⟩ y1).setCell ⟨g10, 2, none⟩ y2).setCell ⟨g10, 3, none⟩ y3).setCell ⟨g10, 4, none⟩ y4).setCell ⟨g10, 5, none⟩ y5).setCell ⟨g10, 6, none⟩ y6).setCell ⟨g10, 7, none⟩ y7).setCell ⟨g10, 8, none⟩ y8) : LA W0 w3 lo g4 g5 pb gw nc mc u l ok1 ok2 :=
  h.later (by rw [W]; exact set9_below B (by omega) _ _ _ _ _ _ _ _ _)

set_option maxHeartbeats 8000000 in
set_option maxRecDepth 100000 in
theorem apart_walk (A : Option Addr) (n c : Nat) (xs : List S31) (N M : S31) (w : World) (hC : C31 w A n xs) (hU : ∀ x ∈ xs, U x.f0) (hN : U N.f0) (hM : U M.f0) (h63 : n ≤ 9223372036854775807) :
    Calls Try.prog 10 #[.slice A n c, .agg #[.int .u64 N.f0, .int .u64 N.f1, .int .i64 N.f2, .int .i64 N.f3, .int .i64 N.f4, .int .i64 N.f5, .int .i64 N.f6, .int .i64 N.f7, .int .i64 N.f8], .agg #[.int .u64 M.f0, .int .u64 M.f1, .int .i64 M.f2, .int .i64 M.f3, .int .i64 M.f4, .int .i64 M.f5, .int .i64 M.f6, .int .i64 M.f7, .int .i64 M.f8]] w fun e w' => e = .returned (.bool true) ∧ Below w.heap.size w w' := by
  have HC := Aside0.mk hC
  have HU := Aside0.mk hU
  have hu29 := Try.underlying29
  have hu31 := Try.underlying31
  clear hC hU
  by_cases hlen : 60 < n
  · have d2 : decide (60 < (n : Int)) = true := by simp; omega
    go_enter Try.func10, Try.ntmps10
    go_wp2_with (first
      | ((with_reducible refine gate_dst (N := 4) rfl ?_); refine box_event ?hg (N := 4) ?hd (cs := #[.int .u64 N.f0, .int .u64 N.f1, .int .i64 N.f2, .int .i64 N.f3, .int .i64 N.f4, .int .i64 N.f5, .int .i64 N.f6, .int .i64 N.f7, .int .i64 N.f8]) (t := 31) ?hr ?_; (case hd => rfl); (case hg => rfl); (case hr => first | (go_simp; done) | (go_simp; rfl)); intro g4 hg w1 hbox hb; have E4 := Aside0.mk hg; have K4 := Aside0.mk hbox; have B4 := Aside0.mk hb; clear hg hbox hb)
      | ((with_reducible refine gate_dst (N := 5) rfl ?_); refine box_event ?hg (N := 5) ?hd (cs := #[.int .u64 M.f0, .int .u64 M.f1, .int .i64 M.f2, .int .i64 M.f3, .int .i64 M.f4, .int .i64 M.f5, .int .i64 M.f6, .int .i64 M.f7, .int .i64 M.f8]) (t := 31) ?hr ?_; (case hd => rfl); (case hg => rfl); (case hr => first | (go_simp; done) | (go_simp; rfl)); intro g5 hg w2 hbox hb; have E5 := Aside0.mk hg; have K5 := Aside0.mk hbox; have B5 := Aside0.mk hb; clear hg hbox hb)
      | (go_at_call 19; refine (lives_calls _).mono ?_; rintro e w' ⟨rfl, hb⟩; have HB2 := Aside0.mk (below_then (below_then B4.out B4.out.size B5.out) (Nat.le_trans B4.out.size B5.out.size) hb); clear hb))
    go_ret
    exact ⟨rfl, HB2.out⟩
  · have d2 : decide (60 < (n : Int)) = false := by simp; omega
    go_enter Try.func10, Try.ntmps10
    go_wp2_with (first
      | ((with_reducible refine gate_dst (N := 4) rfl ?_); refine box_event ?hg (N := 4) ?hd (cs := #[.int .u64 N.f0, .int .u64 N.f1, .int .i64 N.f2, .int .i64 N.f3, .int .i64 N.f4, .int .i64 N.f5, .int .i64 N.f6, .int .i64 N.f7, .int .i64 N.f8]) (t := 31) ?hr ?_; (case hd => rfl); (case hg => rfl); (case hr => first | (go_simp; done) | (go_simp; rfl)); intro g4 hg w1 hbox hb; have E4 := Aside0.mk hg; have K4 := Aside0.mk hbox; have B4 := Aside0.mk hb; clear hg hbox hb)
      | ((with_reducible refine gate_dst (N := 5) rfl ?_); refine box_event ?hg (N := 5) ?hd (cs := #[.int .u64 M.f0, .int .u64 M.f1, .int .i64 M.f2, .int .i64 M.f3, .int .i64 M.f4, .int .i64 M.f5, .int .i64 M.f6, .int .i64 M.f7, .int .i64 M.f8]) (t := 31) ?hr ?_; (case hd => rfl); (case hg => rfl); (case hr => first | (go_simp; done) | (go_simp; rfl)); intro g5 hg w2 hbox hb; have E5 := Aside0.mk hg; have K5 := Aside0.mk hbox; have B5 := Aside0.mk hb; clear hg hbox hb)
      | (go_at_call 18; refine (newH 0 (by omega) (by omega) w _ (below_then B4.out B4.out.size B5.out)).mono ?_; rintro e w3 ⟨pb, rfl, hp, hb, hb2⟩; have HP := Aside0.mk hp; have HB3 := Aside0.mk hb; have HB32 := Aside0.mk hb2; clear hp hb hb2)
      | ((with_reducible refine gate_dst (N := 8) rfl ?_); refine box_event ?hg (N := 8) ?hd (cs := #[.int .i64 0, .slice none 0 0]) (t := 29) ?hr ?_; (case hd => rfl); (case hg => rfl); (case hr => first | (go_simp; done) | (go_simp; rfl)); intro g8 hg w4 hbox hb; have E8 := Aside0.mk hg; have K8 := Aside0.mk hbox; have B8 := Aside0.mk hb; clear hg hbox hb; have p0 := (blk_cell K8.out 0).trans rfl; have z0 := blk_frozen K8.out 0; have p1 := (blk_cell K8.out 1).trans rfl; have z1 := blk_frozen K8.out 1)
      | ((with_reducible refine gate_op (Op.store 29 (.tmp 8) (.tmp 26)) rfl ?_); refine skip_event (w1 := ((w4.setCell ⟨g8, 0, none⟩ (.int .i64 0)).setCell ⟨g8, 1, none⟩ (.slice none 0 0))) rfl rfl ?hr ?_; (case hr => first | (go_simp; done) | (go_simp; rfl)); intro w5 hw; have W8 := Aside0.mk hw; clear hw p0 p1 z0 z1))
    have HLP : Aside0 (LP w w5 w2.heap.size g4 g5 pb g8 #[.int .u64 N.f0, .int .u64 N.f1, .int .i64 N.f2, .int .i64 N.f3, .int .i64 N.f4, .int .i64 N.f5, .int .i64 N.f6, .int .i64 N.f7, .int .i64 N.f8] #[.int .u64 M.f0, .int .u64 M.f1, .int .i64 M.f2, .int .i64 M.f3, .int .i64 M.f4, .int .i64 M.f5, .int .i64 M.f6, .int .i64 M.f7, .int .i64 M.f8] 0) := ⟨by
      have s4 := B4.out.size
      have s5 := B5.out.size
      have s3 := HB32.out.size
      have l4 := blk_lt K4.out
      have l5 := blk_lt K5.out
      have l8 := blk_lt K8.out
      have e8 := E8.out
      have hb35 : Below w3.heap.size w3 w5 := by rw [W8.out]; exact set2_below B8.out (by omega) _ _
      refine ⟨.slice none 0 0, [], (fun k => w2.heap.size ≤ k ∧ k < w3.heap.size), (fun _ => False), ⟨⟨set2_at K8.out W8.out, (HP.out.bound.mono (fun k hk => ⟨hk.1, hk.2.2⟩)).below hb35, Kd.R_nil _ _ _ _ _, fun _ _ h => h, fun h => by omega, fun h => h, below_then HB3.out HB3.out.size hb35, by have := HB3.out.size; omega⟩, blk_below (blk_below (blk_below K4.out B5.out) HB32.out) hb35, blk_below (blk_below K5.out HB32.out) hb35, fun k hk => hk.1, by omega, by omega, by omega, by omega⟩, Nat.le_refl _⟩⟩
    clear K4 K5 K8 B4 B5 B8 E4 E5 E8 HP HB3 HB32 W8
    go_loopw [29] (fun i wr => ∃ k : Nat, k ≤ n ∧ i = .int .i64 k ∧ Aside0 (LP w wr w2.heap.size g4 g5 pb g8 #[.int .u64 N.f0, .int .u64 N.f1, .int .i64 N.f2, .int .i64 N.f3, .int .i64 N.f4, .int .i64 N.f5, .int .i64 N.f6, .int .i64 N.f7, .int .i64 N.f8] #[.int .u64 M.f0, .int .u64 M.f1, .int .i64 M.f2, .int .i64 M.f3, .int .i64 M.f4, .int .i64 M.f5, .int .i64 M.f6, .int .i64 M.f7, .int .i64 M.f8] k)) (fun i _ => n - (intOf i).toNat)
    case atStart => exact ⟨0, Nat.zero_le _, rfl, HLP⟩
    case round =>
      clear HLP
      obtain ⟨k, hk, rfl, HLP⟩ := hrel
      by_cases hlt : k < n
      · obtain ⟨u, l, ok1, ok2, hla, hl⟩ := HLP.out
        have HL := Aside0.mk hl
        have HS := Aside0.mk hla
        obtain ⟨Au, cu, eu⟩ := Kd.R_slice hla.ps.row
        subst eu
        obtain ⟨ad, ea, x0, x1, x2, x3, x4, x5, x6, x7, x8⟩ := (HC.out.below hla.ps.below).at_ k hlt
        cases ea
        have hNu : U (xs.getD k z31).f0 := HU.out _ (by
          have hl := HC.out.1
          rw [List.getD_eq_getElem?_getD, List.getElem?_eq_getElem (by omega)]
          exact List.getElem_mem _)
        generalize xs.getD k z31 = X at x0 x1 x2 x3 x4 x5 x6 x7 x8 hNu
        clear hla hl HLP
        go_wp2_with (first
          | ((with_reducible refine gate_dst (N := 10) rfl ?_); refine box_event ?hg (N := 10) ?hd (cs := #[.int .u64 0, .int .u64 0, .int .i64 0, .int .i64 0, .int .i64 0, .int .i64 0, .int .i64 0, .int .i64 0, .int .i64 0]) (t := 31) ?hr ?_; (case hd => rfl); (case hg => rfl); (case hr => first | (go_simp; done) | (go_simp; rfl)); intro g10 hg w6 hbox hb; have E10 := Aside0.mk hg; have K10 := Aside0.mk hbox; have B10 := Aside0.mk hb; clear hg hbox hb; clear x0 x1 x2 x3 x4 x5 x6 x7 x8; have c0 := (blk_cell K10.out 0).trans rfl; have z0 := blk_frozen K10.out 0; have c1 := (blk_cell K10.out 1).trans rfl; have z1 := blk_frozen K10.out 1; have c2 := (blk_cell K10.out 2).trans rfl; have z2 := blk_frozen K10.out 2; have c3 := (blk_cell K10.out 3).trans rfl; have z3 := blk_frozen K10.out 3; have c4 := (blk_cell K10.out 4).trans rfl; have z4 := blk_frozen K10.out 4; have c5 := (blk_cell K10.out 5).trans rfl; have z5 := blk_frozen K10.out 5; have c6 := (blk_cell K10.out 6).trans rfl; have z6 := blk_frozen K10.out 6; have c7 := (blk_cell K10.out 7).trans rfl; have z7 := blk_frozen K10.out 7; have c8 := (blk_cell K10.out 8).trans rfl; have z8 := blk_frozen K10.out 8)
          | ((with_reducible refine gate_op (Op.store 31 (.tmp 10) (.tmp 32)) rfl ?_); refine skip_event (w1 := (((((((((w6.setCell ⟨g10, 0, none⟩ (.int .u64 X.f0)).setCell ⟨g10, 1, none⟩ (.int .u64 X.f1)).setCell ⟨g10, 2, none⟩ (.int .i64 X.f2)).setCell ⟨g10, 3, none⟩ (.int .i64 X.f3)).setCell ⟨g10, 4, none⟩ (.int .i64 X.f4)).setCell ⟨g10, 5, none⟩ (.int .i64 X.f5)).setCell ⟨g10, 6, none⟩ (.int .i64 X.f6)).setCell ⟨g10, 7, none⟩ (.int .i64 X.f7)).setCell ⟨g10, 8, none⟩ (.int .i64 X.f8))) rfl rfl ?hr ?_; (case hr => first | (go_simp; done) | (go_simp; rfl)); intro w7 hw; have HS3 := Aside0.mk (la_noted HS.out E10.out B10.out hw); have K3 := Aside0.mk (set9_at K10.out hw); clear hw c0 z0 c1 z1 c2 z2 c3 z3 c4 z4 c5 z5 c6 z6 c7 z7 c8 z8; have p0 := (blk_cell HS3.out.ps.cell 0).trans rfl; have p1 := (blk_cell HS3.out.ps.cell 1).trans rfl; have c0 := (blk_cell K3.out 0).trans rfl; have c1 := (blk_cell K3.out 1).trans rfl; have c2 := (blk_cell K3.out 2).trans rfl; have c3 := (blk_cell K3.out 3).trans rfl; have c4 := (blk_cell K3.out 4).trans rfl; have c5 := (blk_cell K3.out 5).trans rfl; have c6 := (blk_cell K3.out 6).trans rfl; have c7 := (blk_cell K3.out 7).trans rfl; have c8 := (blk_cell K3.out 8).trans rfl; clear K10 E10 B10 HS)
          | (go_at_call 20; refine (HS3.out.hear X hNu (by have := HL.out; omega)).mono ?_; rintro e w8 ⟨v, Av, cv, ev, rfl, hc, _, hb, ok1', ok2', hps⟩; subst ev; have K8 := Aside0.mk hc; have HP4 := Aside0.mk hps; clear hc hb hps c0 c1 c2 c3 c4 c5 c6 c7 c8 p0 p1; have p0 := (blk_cell K8.out 0).trans rfl; have p1 := (blk_cell K8.out 1).trans rfl; have z0 := blk_frozen K8.out 0; have z1 := blk_frozen K8.out 1)
          | ((with_reducible refine gate_op (Op.store 29 (.tmp 8) (.tmp 38)) rfl ?_); refine skip_event (w1 := ((w8.setCell ⟨g8, 0, none⟩ (.int .i64 0)).setCell ⟨g8, 1, none⟩ (.slice Av (newL l 0 X.f3 X.f0).length cv))) rfl rfl ?hr ?_; (case hr => first | (go_simp; done) | (go_simp; rfl)); intro w9 hw; have HS9 := Aside0.mk (HP4.out _ hw); clear hw p0 p1 z0 z1 K8 HP4 HS3 K3))
        have HZ := Aside0.mk (newL_length l 0 X.f3 X.f0)
        have HLP2 : Aside0 (LP w w9 w2.heap.size g4 g5 pb g8 #[.int .u64 N.f0, .int .u64 N.f1, .int .i64 N.f2, .int .i64 N.f3, .int .i64 N.f4, .int .i64 N.f5, .int .i64 N.f6, .int .i64 N.f7, .int .i64 N.f8] #[.int .u64 M.f0, .int .u64 M.f1, .int .i64 M.f2, .int .i64 M.f3, .int .i64 M.f4, .int .i64 M.f5, .int .i64 M.f6, .int .i64 M.f7, .int .i64 M.f8] (k + 1)) := ⟨_, _, ok1', ok2', HS9.out, by have := HZ.out; have := HL.out; omega⟩
        go_roundw
        case rel => exact ⟨k + 1, by omega, by go_num, HLP2⟩
        case measure => simp [intOf]; omega
      · obtain ⟨u, l, ok1, ok2, hla, hl⟩ := HLP.out
        have HL : Aside0 (l.length ≤ 60) := ⟨by omega⟩
        have HS := Aside0.mk hla
        obtain ⟨Au, cu, eu⟩ := Kd.R_slice hla.ps.row
        subst eu
        clear hla hl HLP
        go_wp2_with (first
          | (go_at_call 53; first
            | (refine (cloneH HS.out.ps.heard).mono ?_; rintro e wc ⟨qb, rfl, hq, hb⟩; have HQ := Aside0.mk hq; have HBC := Aside0.mk hb; have HSC := Aside0.mk (HS.out.later hb); clear hq hb; have p0 := (blk_cell HSC.out.ps.cell 0).trans rfl; have p1 := (blk_cell HSC.out.ps.cell 1).trans rfl; have n0 := (blk_cell HSC.out.c4 0).trans rfl; have n1 := (blk_cell HSC.out.c4 1).trans rfl; have n2 := (blk_cell HSC.out.c4 2).trans rfl; have n3 := (blk_cell HSC.out.c4 3).trans rfl; have n4 := (blk_cell HSC.out.c4 4).trans rfl; have n5 := (blk_cell HSC.out.c4 5).trans rfl; have n6 := (blk_cell HSC.out.c4 6).trans rfl; have n7 := (blk_cell HSC.out.c4 7).trans rfl; have n8 := (blk_cell HSC.out.c4 8).trans rfl)
            | (refine (NoParty.clone (p := none) (w := _) (.inl rfl)).mono ?_; rintro e wk ⟨qz, rfl, hq, hb⟩; have KQ := Aside0.mk hq; have K65 := Aside0.mk (blk_below K65.out hb); have C4 := Aside0.mk (blk_below C4.out hb); have BB := Aside0.mk (below_then BB.out BB.out.size hb); clear hq hb))
          | (go_at_call 20; first
            | (refine (HS.out.apart HBC.out HQ.out N hN (by have := HL.out; omega)).mono ?_; rintro e wh ⟨v, Av, cv, ev, rfl, hb⟩; subst ev; have HSH := Aside0.mk (HS.out.later hb); clear hb HBC HQ HSC HS p0 p1 n0 n1 n2 n3 n4 n5 n6 n7 n8)
            | (refine (HSG.out.hear M hM (by have := HL.out; omega)).mono ?_; rintro e wm ⟨v2, Av2, cv2, ev, rfl, _, hc4, hb, _⟩; subst ev; have C4 := Aside0.mk hc4; have BB := Aside0.mk hb; clear hc4 hb HSG p0 p1 m0 m1 m2 m3 m4 m5 m6 m7 m8))
          | ((with_reducible refine gate_dst (N := 12) rfl ?_); refine box_event ?hg (N := 12) ?hd (cs := #[.int .i64 0, .slice none 0 0]) (t := 29) ?hr ?_; (case hd => rfl); (case hg => rfl); (case hr => first | (go_simp; done) | (go_simp; rfl)); intro g12 hg wb hbox hb; have E12 := Aside0.mk hg; have K12 := Aside0.mk hbox; have B12 := Aside0.mk hb; clear hg hbox hb; have q0 := (blk_cell K12.out 0).trans rfl; have z0 := blk_frozen K12.out 0; have q1 := (blk_cell K12.out 1).trans rfl; have z1 := blk_frozen K12.out 1)
          | ((with_reducible refine gate_op (Op.store 29 (.tmp 12) (.tmp 48)) rfl ?_); refine skip_event (w1 := ((wb.setCell ⟨g12, 0, none⟩ (.int .i64 0)).setCell ⟨g12, 1, none⟩ (.slice Av (newL l 0 N.f3 N.f0).length cv))) rfl rfl ?hr ?_; (case hr => first | (go_simp; done) | (go_simp; rfl)); intro wg hw; have HSG : Aside0 (LA w wg w2.heap.size g4 g5 pb g8 #[.int .u64 N.f0, .int .u64 N.f1, .int .i64 N.f2, .int .i64 N.f3, .int .i64 N.f4, .int .i64 N.f5, .int .i64 N.f6, .int .i64 N.f7, .int .i64 N.f8] #[.int .u64 M.f0, .int .u64 M.f1, .int .i64 M.f2, .int .i64 M.f3, .int .i64 M.f4, .int .i64 M.f5, .int .i64 M.f6, .int .i64 M.f7, .int .i64 M.f8] (.slice Au l.length cu) l ok1 ok2) := ⟨HSH.out.later (by rw [hw]; exact set2_below B12.out (by have := E12.out; omega) _ _)⟩; clear hw q0 q1 z0 z1 HSH K12 E12 B12; have p0 := (blk_cell HSG.out.ps.cell 0).trans rfl; have p1 := (blk_cell HSG.out.ps.cell 1).trans rfl; have m0 := (blk_cell HSG.out.c5 0).trans rfl; have m1 := (blk_cell HSG.out.c5 1).trans rfl; have m2 := (blk_cell HSG.out.c5 2).trans rfl; have m3 := (blk_cell HSG.out.c5 3).trans rfl; have m4 := (blk_cell HSG.out.c5 4).trans rfl; have m5 := (blk_cell HSG.out.c5 5).trans rfl; have m6 := (blk_cell HSG.out.c5 6).trans rfl; have m7 := (blk_cell HSG.out.c5 7).trans rfl; have m8 := (blk_cell HSG.out.c5 8).trans rfl)
          | ((with_reducible refine gate_dst (N := 14) rfl ?_); refine box_event ?hg (N := 14) ?hd (cs := #[.int .i64 0, .slice none 0 0]) (t := 29) ?hr ?_; (case hd => rfl); (case hg => rfl); (case hr => first | (go_simp; done) | (go_simp; rfl)); intro g14 hg wd hbox hb; have E14 := Aside0.mk hg; have K14 := Aside0.mk hbox; have B14 := Aside0.mk hb; clear hg hbox hb; have q0 := (blk_cell K14.out 0).trans rfl; have z0 := blk_frozen K14.out 0; have q1 := (blk_cell K14.out 1).trans rfl; have z1 := blk_frozen K14.out 1)
          | ((with_reducible refine gate_op (Op.store 29 (.tmp 14) (.tmp 55)) rfl ?_); refine skip_event (w1 := ((wd.setCell ⟨g14, 0, none⟩ (.int .i64 0)).setCell ⟨g14, 1, none⟩ (.slice Av2 (newL l 0 M.f3 M.f0).length cv2))) rfl rfl ?hr ?_; (case hr => first | (go_simp; done) | (go_simp; rfl)); intro we hw; have hbe : Below wm.heap.size wm we := (by rw [hw]; exact set2_below B14.out (by have := E14.out; omega) _ _); have C4 := Aside0.mk (blk_below C4.out hbe); have BB := Aside0.mk (below_then BB.out BB.out.size hbe); clear hw hbe q0 q1 z0 z1 K14 E14 B14)
          | ((with_reducible refine gate_dst (N := 65) rfl ?_); refine box_event ?hg (N := 65) ?hd (cs := #[.int .i64 0, .map none, .slice none 0 0]) (t := 100) ?hr ?_; (case hd => rfl); (case hg => rfl); (case hr => first | (go_simp; done) | (go_simp; rfl)); intro g65 hg wf hbox hb; have E65 := Aside0.mk hg; have K65 := Aside0.mk hbox; have B65 := Aside0.mk hb; clear hg hbox hb; have C4 := Aside0.mk (blk_below C4.out B65.out); have BB := Aside0.mk (below_then BB.out BB.out.size B65.out))
          | ((with_reducible refine gate_dst (N := 68) rfl ?_); refine value_event (v := .slice (some ⟨wk.heap.size, 0, none⟩) 3 3) (w1 := wk.alloc (.cells #[.pointer none, .pointer (some ⟨g65, 0, none⟩), .pointer (some ⟨qz, 0, none⟩)] 24)) rfl ?hr ?_; (case hr => first | (go_simp; done) | (go_simp; rfl)); intro ws hw; have KS : Aside0 (ws.heap[wk.heap.size]? = some (.cells #[.pointer none, .pointer (some ⟨g65, 0, none⟩), .pointer (some ⟨qz, 0, none⟩)] 24 (0, 0))) := ⟨by rw [hw]; exact blk_new _ _⟩; have KQ : Aside0 (ws.heap[qz]? = some (.cells #[.int .i64 0, .map none, .slice none 0 0] 100 (0, 0))) := ⟨by rw [hw]; exact blk_alloc KQ.out _⟩; have K65 : Aside0 (ws.heap[g65]? = some (.cells #[.int .i64 0, .map none, .slice none 0 0] 100 (0, 0))) := ⟨by rw [hw]; exact blk_alloc K65.out _⟩; have C4 : Aside0 (ws.heap[g4]? = some (.cells #[.int .u64 N.f0, .int .u64 N.f1, .int .i64 N.f2, .int .i64 N.f3, .int .i64 N.f4, .int .i64 N.f5, .int .i64 N.f6, .int .i64 N.f7, .int .i64 N.f8] 31 (0, 0))) := ⟨by rw [hw]; exact blk_alloc C4.out _⟩; have BB : Aside0 (Below w.heap.size w ws) := ⟨by rw [hw]; exact BB.out.alloc BB.out.size _⟩; clear hw))
        go_loopw [70] (fun i wr => ∃ k : Nat, k ≤ 3 ∧ i = .int .i64 (k : Int) ∧ Aside0 (Below ws.heap.size ws wr)) (fun i _ => 3 - (intOf i).toNat)
        case atStart => exact ⟨0, by omega, rfl, ⟨by repeat (first | exact Below.refl _ _ | refine pw_below_drewN ?_ _ | refine below_drew ?_)⟩⟩
        case round =>
          obtain ⟨j, hj, rfl, HB⟩ := hrel
          by_cases hlt : j < 3
          · obtain ⟨p, hp, hNo⟩ : ∃ p : Option Addr, wr.cell? ⟨wk.heap.size, j, none⟩ = some (.pointer p) ∧ NoParty p wr := by
              have hb := blk_below KS.out HB.out
              match j, hlt with
              | 0, _ => exact ⟨none, (blk_cell hb 0).trans rfl, .inl rfl⟩
              | 1, _ => exact ⟨some ⟨g65, 0, none⟩, (blk_cell hb 1).trans rfl, .inr ⟨g65, rfl, 0, _, blk_below K65.out HB.out⟩⟩
              | 2, _ => exact ⟨some ⟨qz, 0, none⟩, (blk_cell hb 2).trans rfl, .inr ⟨qz, rfl, 0, _, blk_below KQ.out HB.out⟩⟩
            have HNo := Aside0.mk hNo
            have HC4 := Aside0.mk (blk_below C4.out HB.out)
            clear hNo
            have d0 : decide ((j : Int) < 3) = true := decide_eq_true (by omega)
            have h0 := (blk_cell HC4.out 0).trans rfl; have h1 := (blk_cell HC4.out 1).trans rfl; have h2 := (blk_cell HC4.out 2).trans rfl; have h3 := (blk_cell HC4.out 3).trans rfl; have h4 := (blk_cell HC4.out 4).trans rfl; have h5 := (blk_cell HC4.out 5).trans rfl; have h6 := (blk_cell HC4.out 6).trans rfl; have h7 := (blk_cell HC4.out 7).trans rfl; have h8 := (blk_cell HC4.out 8).trans rfl
            go_wp2_with (first
              | (go_at_call 23; refine (NoParty.hear HNo.out N.f0 N.f1 N.f2 N.f3 N.f4 N.f5 N.f6 N.f7 N.f8).mono ?_; rintro e wx ⟨rfl, hb⟩; have HNx := Aside0.mk (HNo.out.below hb); have HBx := Aside0.mk (below_then HB.out HB.out.size hb); have c0 := (blk_cell (blk_below HC4.out hb) 0).trans rfl; clear hb h0 h1 h2 h3 h4 h5 h6 h7 h8)
              | (go_at_call 21; refine (NoParty.times HNx.out N.f0).mono ?_; rintro e w' ⟨rfl, rfl⟩)
              | (go_at_call 54; refine (NoParty.most HNx.out).mono ?_; rintro e wy ⟨rfl, hb⟩; have HNy := Aside0.mk (HNx.out.below hb); have HBy := Aside0.mk (below_then HBx.out HBx.out.size hb); clear hb)
              | (go_at_call 25; refine (NoParty.did HNy.out).mono ?_; rintro e w' ⟨rfl, rfl⟩))
            go_roundw
            case rel => exact ⟨j + 1, by omega, by go_num, HBy⟩
            case measure => simp [intOf]; omega
          · have d0 : decide ((j : Int) < 3) = false := decide_eq_false (by omega)
            go_wp2_with (go_at_call 19; refine (lives_calls _).mono ?_; rintro e w' ⟨rfl, hb⟩; have HBz := Aside0.mk (below_then HB.out HB.out.size hb); clear hb)
            go_ret
            exact ⟨rfl, BB.out.trans (HBz.out.mono BB.out.size)⟩

end Go.Proofs.Ytbjbejjieibldaa.Pa
