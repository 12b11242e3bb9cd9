/- The reference's Hear: its argument's row is only read. -/
import Derived.Test.YtbjbejjieibldaaPu
namespace Go.Proofs.Ytbjbejjieibldaa.Pa
open Go.RowKit Go.Proofs.YtbjbejjieibldaaW.PrintWords Go.Proofs.YtbjbejjieibldaaW.PrintLast Go.Proofs.YtbjbejjieibldaaW.PrintMore Go.Maps Go.Proofs.Ytbjbejjieibldaa.Rg
open Go.Proofs.Ytbjbejjieibldaa.Pl (cnt dedup mostL same_f cnt_snoc dedup_step most_dedup times_f most_f did_f hear_f)
open Go.Proofs.Ytbjbejjieibldaa
set_option linter.unusedVariables false

/-- Three boxes laid: what each holds behind them. -/
theorem laid3 {w w1 w2 w3 : World} {g2 g3 g4 : Nat} {n2 n3 n4 : Array Value} {t2 t3 t4 : TypeId} (E2 : g2 = w.heap.size) (K2 : w1.heap[g2]? = some (.cells n2 t2 (0, 0))) (B2 : Below w.heap.size w w1)
    (E3 : g3 = w1.heap.size) (K3 : w2.heap[g3]? = some (.cells n3 t3 (0, 0))) (B3 : Below w1.heap.size w1 w2) (E4 : g4 = w2.heap.size) (K4 : w3.heap[g4]? = some (.cells n4 t4 (0, 0))) (B4 : Below w2.heap.size w2 w3) :
    w3.heap[g2]? = some (.cells n2 t2 (0, 0)) ∧ w3.heap[g3]? = some (.cells n3 t3 (0, 0)) ∧ Below w.heap.size w w3 ∧ w.heap.size ≤ g2 ∧ g2 < g3 ∧ g3 < g4 ∧ g4 < w3.heap.size := by
  have s2 := B2.size
  have s3 := B3.size
  have l2 := blk_lt K2
  have l3 := blk_lt K3
  have l4 := blk_lt K4
  exact ⟨blk_below (blk_below K2 B3) B4, blk_below K3 B4, below_then (below_then B2 s2 B3) (by omega) B4, by omega, by omega, by omega, l4⟩

section
variable {w0 : World} {P : Nat → Prop}
set_option maxHeartbeats 2000000 in
set_option maxRecDepth 100000 in
theorem ref_bad (number : Int) (A : Option Addr) (c : Nat) (l : List Int) (id ticket level party state tries retry wait next : Int) (w : World) (hbad : party ≠ number ∨ id = 0) :
    Calls Try.prog 72 #[.agg #[.int .i64 number, .slice A l.length c], NV id ticket level party state tries retry wait next] w fun e w' => e = .returned (.tuple #[.agg #[.int .i64 number, .slice A l.length c], .bool false, .int .i64 2]) ∧ Below w.heap.size w w' := by
  have hu29 := Try.underlying29
  have hu31 := Try.underlying31
  by_cases hp : party = number
  · have hid : id = 0 := hbad.resolve_left (fun hne => hne hp)
    subst hp
    subst hid
    have b1 : (party != party) = false := by simp
    have b2 : ((0 : Int) == 0) = true := rfl
    clear hbad
    go_enter Try.func72, Try.ntmps72
    go_wp2_with (first
      | ((with_reducible refine gate_dst (N := 2) rfl ?_); refine box_event ?hg (N := 2) ?hd (cs := #[.int .i64 party, .slice A l.length c]) (t := 29) ?hr ?_; (case hd => rfl); (case hg => rfl); (case hr => first | (go_simp; done) | (go_simp; rfl)); intro g2 hg w1 hbox hb; have E2 := Aside0.mk hg; have K2 := Aside0.mk hbox; have B2 := Aside0.mk hb; clear hg hbox hb)
      | ((with_reducible refine gate_dst (N := 3) rfl ?_); refine box_event ?hg (N := 3) ?hd (cs := #[.int .u64 0, .int .u64 ticket, .int .i64 level, .int .i64 party, .int .i64 state, .int .i64 tries, .int .i64 retry, .int .i64 wait, .int .i64 next]) (t := 31) ?hr ?_; (case hd => rfl); (case hg => rfl); (case hr => first | (go_simp; done) | (go_simp; rfl)); intro g3 hg w2 hbox hb; have E3 := Aside0.mk hg; have K3 := Aside0.mk hbox; have B3 := Aside0.mk hb; clear hg hbox hb)
      | ((with_reducible refine gate_dst (N := 4) rfl ?_); refine box_event ?hg (N := 4) ?hd (cs := #[.int .i64 0, .slice none 0 0]) (t := 29) ?hr ?_; (case hd => rfl); (case hg => rfl); (case hr => first | (go_simp; done) | (go_simp; rfl)); intro g4 hg w3 hbox hb; have E4 := Aside0.mk hg; have K4 := Aside0.mk hbox; have B4 := Aside0.mk hb; clear hg hbox hb; have LM := Aside0.mk (laid3 E2.out K2.out B2.out E3.out K3.out B3.out E4.out K4.out B4.out); have c20 := (blk_cell LM.out.1 0).trans rfl; have c21 := (blk_cell LM.out.1 1).trans rfl; have c30 := (blk_cell LM.out.2.1 0).trans rfl; have c33 := (blk_cell LM.out.2.1 3).trans rfl; have c40 := (blk_cell K4.out 0).trans rfl; have c41 := (blk_cell K4.out 1).trans rfl; have z40 := blk_frozen K4.out 0; have z41 := blk_frozen K4.out 1)
      | ((with_reducible refine gate_op (Op.store 29 (.tmp 4) (.tmp 18)) rfl ?_); refine skip_event (w1 := (w3.setCell ⟨g4, 0, none⟩ (.int .i64 party)).setCell ⟨g4, 1, none⟩ (.slice A l.length c)) rfl rfl ?hr ?_; (case hr => first | (go_simp; done) | (go_simp; rfl)); intro wz hw; have K5 := Aside0.mk (set2_at K4.out hw); have B5 : Aside0 (Below w.heap.size w wz) := ⟨by rw [hw]; exact set2_below LM.out.2.2.1 (by have := LM.out; omega) _ _⟩; clear hw c20 c21 c30 c33 c40 c41 z40 z41))
    refine bodyPost_ret (results_ctt rfl _ _ g4 29 #[.int .i64 party, .slice A l.length c] (0, 0) _ rfl K5.out Try.underlying29 rfl (by kernel_rfl)) rfl ?_
    exact ⟨rfl, B5.out⟩
  · have b1 : (party != number) = true := by simpa using hp
    clear hbad hp
    go_enter Try.func72, Try.ntmps72
    go_wp2_with (first
      | ((with_reducible refine gate_dst (N := 2) rfl ?_); refine box_event ?hg (N := 2) ?hd (cs := #[.int .i64 number, .slice A l.length c]) (t := 29) ?hr ?_; (case hd => rfl); (case hg => rfl); (case hr => first | (go_simp; done) | (go_simp; rfl)); intro g2 hg w1 hbox hb; have E2 := Aside0.mk hg; have K2 := Aside0.mk hbox; have B2 := Aside0.mk hb; clear hg hbox hb)
      | ((with_reducible refine gate_dst (N := 3) rfl ?_); refine box_event ?hg (N := 3) ?hd (cs := #[.int .u64 id, .int .u64 ticket, .int .i64 level, .int .i64 party, .int .i64 state, .int .i64 tries, .int .i64 retry, .int .i64 wait, .int .i64 next]) (t := 31) ?hr ?_; (case hd => rfl); (case hg => rfl); (case hr => first | (go_simp; done) | (go_simp; rfl)); intro g3 hg w2 hbox hb; have E3 := Aside0.mk hg; have K3 := Aside0.mk hbox; have B3 := Aside0.mk hb; clear hg hbox hb)
      | ((with_reducible refine gate_dst (N := 4) rfl ?_); refine box_event ?hg (N := 4) ?hd (cs := #[.int .i64 0, .slice none 0 0]) (t := 29) ?hr ?_; (case hd => rfl); (case hg => rfl); (case hr => first | (go_simp; done) | (go_simp; rfl)); intro g4 hg w3 hbox hb; have E4 := Aside0.mk hg; have K4 := Aside0.mk hbox; have B4 := Aside0.mk hb; clear hg hbox hb; have LM := Aside0.mk (laid3 E2.out K2.out B2.out E3.out K3.out B3.out E4.out K4.out B4.out); have c20 := (blk_cell LM.out.1 0).trans rfl; have c21 := (blk_cell LM.out.1 1).trans rfl; have c30 := (blk_cell LM.out.2.1 0).trans rfl; have c33 := (blk_cell LM.out.2.1 3).trans rfl; have c40 := (blk_cell K4.out 0).trans rfl; have c41 := (blk_cell K4.out 1).trans rfl; have z40 := blk_frozen K4.out 0; have z41 := blk_frozen K4.out 1)
      | ((with_reducible refine gate_op (Op.store 29 (.tmp 4) (.tmp 18)) rfl ?_); refine skip_event (w1 := (w3.setCell ⟨g4, 0, none⟩ (.int .i64 number)).setCell ⟨g4, 1, none⟩ (.slice A l.length c)) rfl rfl ?hr ?_; (case hr => first | (go_simp; done) | (go_simp; rfl)); intro wz hw; have K5 := Aside0.mk (set2_at K4.out hw); have B5 : Aside0 (Below w.heap.size w wz) := ⟨by rw [hw]; exact set2_below LM.out.2.2.1 (by have := LM.out; omega) _ _⟩; clear hw c20 c21 c30 c33 c40 c41 z40 z41))
    refine bodyPost_ret (results_ctt rfl _ _ g4 29 #[.int .i64 number, .slice A l.length c] (0, 0) _ rfl K5.out Try.underlying29 rfl (by kernel_rfl)) rfl ?_
    exact ⟨rfl, B5.out⟩

set_option maxHeartbeats 4000000 in
set_option maxRecDepth 100000 in
theorem ref_good (number : Int) (A : Option Addr) (c : Nat) (l : List Int) (id ticket level party state tries retry wait next : Int) (w : World) (hB : Below w0.heap.size w0 w) (hR : Kd.R (Kd.int .u64) 23 w w0.heap.size P (.slice A l.length c) l) (hn : l.length < 1000) (hp : party = number) (hid : id ≠ 0) :
    Calls Try.prog 72 #[.agg #[.int .i64 number, .slice A l.length c], NV id ticket level party state tries retry wait next] w fun e w' => ∃ v, e = .returned (.tuple #[.agg #[.int .i64 number, v], .bool (cnt l id == 0), .int .i64 0]) ∧
      Kd.R (Kd.int .u64) 23 w' w0.heap.size (fun k => w.heap.size ≤ k) v (l ++ [id]) ∧ Below w.heap.size w w' := by
  have hu29 := Try.underlying29
  have hu31 := Try.underlying31
  subst hp
  have b1 : (party != party) = false := by simp
  have b2 : (id == 0) = false := by simpa using hid
  have HB := Aside0.mk hB
  have HR := Aside0.mk (Kd.R_bound hR)
  clear hB hR
  go_enter Try.func72, Try.ntmps72
  go_wp2_with (first
    | ((with_reducible refine gate_dst (N := 2) rfl ?_); refine box_event ?hg (N := 2) ?hd (cs := #[.int .i64 party, .slice A l.length c]) (t := 29) ?hr ?_; (case hd => rfl); (case hg => rfl); (case hr => first | (go_simp; done) | (go_simp; rfl)); intro g2 hg w1 hbox hb; have E2 := Aside0.mk hg; have K2 := Aside0.mk hbox; have B2 := Aside0.mk hb; clear hg hbox hb)
    | ((with_reducible refine gate_dst (N := 3) rfl ?_); refine box_event ?hg (N := 3) ?hd (cs := #[.int .u64 id, .int .u64 ticket, .int .i64 level, .int .i64 party, .int .i64 state, .int .i64 tries, .int .i64 retry, .int .i64 wait, .int .i64 next]) (t := 31) ?hr ?_; (case hd => rfl); (case hg => rfl); (case hr => first | (go_simp; done) | (go_simp; rfl)); intro g3 hg w2 hbox hb; have E3 := Aside0.mk hg; have K3 := Aside0.mk hbox; have B3 := Aside0.mk hb; clear hg hbox hb)
    | ((with_reducible refine gate_dst (N := 4) rfl ?_); refine box_event ?hg (N := 4) ?hd (cs := #[.int .i64 0, .slice none 0 0]) (t := 29) ?hr ?_; (case hd => rfl); (case hg => rfl); (case hr => first | (go_simp; done) | (go_simp; rfl)); intro g4 hg w3 hbox hb; have E4 := Aside0.mk hg; have K4 := Aside0.mk hbox; have B4 := Aside0.mk hb; clear hg hbox hb; have LM := Aside0.mk (laid3 E2.out K2.out B2.out E3.out K3.out B3.out E4.out K4.out B4.out); have c20 := (blk_cell LM.out.1 0).trans rfl; have c21 := (blk_cell LM.out.1 1).trans rfl; have c30 := (blk_cell LM.out.2.1 0).trans rfl; have c33 := (blk_cell LM.out.2.1 3).trans rfl; have c40 := (blk_cell K4.out 0).trans rfl; have c41 := (blk_cell K4.out 1).trans rfl; have z40 := blk_frozen K4.out 0; have z41 := blk_frozen K4.out 1)
    | (go_at_call 22; refine (PPartyPlays.curfewref37_Times.calls 1001 party A c l id (cnt l id) _ (Kd.R_reads' (Kd.R_below HR.out LM.out.2.2.1)).2.2 (Kd.R_reads' (Kd.R_below HR.out LM.out.2.2.1)).2.1 (times_f 1001 party l id (by omega) (by omega))).mono ?_; rintro e w4 ⟨rfl, hb⟩; have K24 := Aside0.mk (blk_below LM.out.1 hb); have K34 := Aside0.mk (blk_below LM.out.2.1 hb); have K44 := Aside0.mk (blk_below K4.out hb); have B44 := Aside0.mk (below_then LM.out.2.2.1 LM.out.2.2.1.size hb); clear hb c20 c21 c30 c33 c40 c41 z40 z41))
  have hl2 := LM.out.2.2.2
  have l4 := blk_lt K44.out
  refine r72x4 g2 g3 party id A c l w.heap.size w4 (by omega) (by omega) (by omega) (by omega) (fun wz hk => (Kd.R_reads' (Kd.R_kept (Kd.R_below HR.out B44.out) hk (fun k hk e => by have e : k = g2 := e; have := hk.2.2.1; omega))).2.2) rfl rfl rfl ⟨⟨(Kept.refl _ _).drew, below_drew (Below.refl _ _), by omega, B44.out.size⟩, fun _ => K24.out, (blk_cell K34.out 0).trans rfl, fun h => (by cases h), fun h => (by cases h), fun h => (by cases h), fun h => (by cases h), fun h => (by cases h), fun h => (by cases h), fun h => (by cases h)⟩ (fun v w5 b hb hG f0 f3 f6 f7 f9 => ?_)
  obtain ⟨g1, n2, n3, n4, n5, n6, n7, n8, h7, h9⟩ := hG
  clear n2 n3 n4 n5 n6 n7 n8
  have hR5 := h7 (hb 7 (by decide))
  have h95 := h9 (hb 9 (by decide))
  clear h7 h9 f0 f3 f6 f7 f9 hb
  generalize v 0 = u0
  generalize v 3 = u3
  generalize v 6 = u6
  generalize v 7 = u7 at hR5 h95
  obtain ⟨A7, c7, e7⟩ := Kd.R_slice hR5
  subst e7
  have HR5 := Aside0.mk hR5
  have K25 := Aside0.mk h95
  have KB5 := Aside0.mk g1
  have K45 := Aside0.mk (blk_kept K44.out g1.1 (show ¬ g4 = g2 by omega))
  have c20 := (blk_cell K25.out 0).trans rfl
  have c21 := (blk_cell K25.out 1).trans rfl
  have c40 := (blk_cell K45.out 0).trans rfl
  have c41 := (blk_cell K45.out 1).trans rfl
  have z40 := blk_frozen K45.out 0
  have z41 := blk_frozen K45.out 1
  have HL := Aside0.mk hl2
  clear hR5 h95 g1 hl2 l4
  simp only [putAll, Act.put, List.setIfInBounds_toArray, List.set_cons_zero, List.set_cons_succ]
  go_wp2_with ((with_reducible refine gate_op (Op.store 29 (.tmp 4) (.tmp 33)) rfl ?_); refine skip_event (w1 := (w5.setCell ⟨g4, 0, none⟩ (.int .i64 party)).setCell ⟨g4, 1, none⟩ (.slice A7 (l ++ [id]).length c7)) rfl rfl ?hr ?_; (case hr => first | (go_simp; done) | (go_simp; rfl)); intro wz hw; have KZ := Aside0.mk (set2_at K45.out hw); have HW := Aside0.mk hw; clear hw c20 c21 c40 c41 z40 z41)
  refine bodyPost_ret (results_ctt rfl _ _ g4 29 #[.int .i64 party, .slice A7 (l ++ [id]).length c7] (0, 0) _ rfl KZ.out Try.underlying29 rfl (by kernel_rfl)) rfl ?_
  have hk : Kept w5 wz (fun k => k = g4) := by rw [HW.out]; exact set2_kept _ _ _ _
  refine ⟨_, rfl, ?_, ?_⟩
  · have h1 := Kd.R_mono (Kd.R_bound HR5.out) (fun k hk => (show w4.heap.size ≤ k from hk.2.1))
    have h2 := Kd.R_lower h1 (show w0.heap.size ≤ w4.heap.size from Nat.le_trans HB.out.size B44.out.size)
    exact Kd.R_mono (Kd.R_kept h2 hk (fun k hk e => by have e : k = g4 := e; have := HL.out; have := blk_lt K44.out; omega)) (fun k hk => Nat.le_trans B44.out.size hk)
  · rw [HW.out]
    exact set2_below (B44.out.trans KB5.out.2.1) (by have := HL.out; omega) _ _
end

/-- The reference's Hear, its argument's row only read. -/
theorem refHearR (number : Int) (P : Nat → Prop) (u : Value) (l : List Int) (id ticket level party state tries retry wait next : Int) (w0 w : World) (hB : Below w0.heap.size w0 w) (hR : Kd.R (Kd.int .u64) 23 w w0.heap.size P u l) (hn : l.length < 1000) :
    Calls Try.prog 72 #[.agg #[.int .i64 number, u], NV id ticket level party state tries retry wait next] w fun e w' => ∃ v, e = .returned (.tuple #[.agg #[.int .i64 number, v], .bool (fstOf l number party id), .int .i64 (errOf number party id)]) ∧
      Kd.R (Kd.int .u64) 23 w' w0.heap.size (fun k => P k ∨ w.heap.size ≤ k) v (newL l number party id) ∧ Below w.heap.size w w' := by
  obtain ⟨A, c, eu⟩ := Kd.R_slice hR
  subst eu
  unfold fstOf errOf newL
  by_cases hh : party = number ∧ id ≠ 0
  · rw [if_pos hh, if_pos hh, if_pos hh]
    refine (ref_good number A c l id ticket level party state tries retry wait next w hB hR hn hh.1 hh.2).mono ?_
    rintro e w' ⟨v, rfl, h1, h2⟩
    exact ⟨v, rfl, Kd.R_mono h1 (fun k hk => .inr hk), h2⟩
  · rw [if_neg hh, if_neg hh, if_neg hh]
    refine (ref_bad number A c l id ticket level party state tries retry wait next w ?_).mono ?_
    · by_cases hp : party = number
      · by_cases hi : id = 0
        · exact .inr hi
        · exact absurd ⟨hp, hi⟩ hh
      · exact .inl hp
    · rintro e w' ⟨rfl, hb⟩
      exact ⟨_, rfl, Kd.R_mono (Kd.R_below hR hb) (fun k hk => .inl hk), hb⟩

end Go.Proofs.Ytbjbejjieibldaa.Pa
