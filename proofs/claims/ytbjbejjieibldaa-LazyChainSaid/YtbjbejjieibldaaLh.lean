/- Rows: the table that it makes. -/
import Derived.Test.YtbjbejjieibldaaLg
namespace Go.Proofs.Ytbjbejjieibldaa.La
open Go.RowKit Go.Proofs.YtbjbejjieibldaaW.PrintWords Go.Proofs.YtbjbejjieibldaaW.PrintLast Go.Proofs.YtbjbejjieibldaaW.PrintMore Go.Proofs.Ytbjbejjieibldaa.Rg
open Go.Proofs.Ytbjbejjieibldaa
set_option linter.unusedVariables false

theorem tb_made {w1 w2 w3 w4 : World} {g3 g8 g5 : Nat} {fv : Value} (h3 : w1.heap[g3]? = some (.cells #[fv] 134 (0, 0))) (E8 : g8 = w1.heap.size) (h8 : w2.heap[g8]? = some (.cells #[.slice none 0 0, .int .i64 0] 162 (0, 0))) (B8 : Below w1.heap.size w1 w2) (E5 : g5 = w2.heap.size) (h5 : w3.heap[g5]? = some (.cells #[.pointer none] 127 (0, 0))) (B5 : Below w2.heap.size w2 w3) (hw : w4 = w3.setCell ⟨g5, 0, none⟩ (PB g8)) :
    w4.heap[g8]? = some (.cells #[.slice none ([] : List Nat).length 0, .int .i64 0] 162 (0, 0)) ∧ w4.heap[g5]? = some (.cells #[PB g8] 127 (0, 0)) ∧ w4.heap[g3]? = some (.cells #[fv] 134 (0, 0)) := by
  have l3 := blk_lt h3
  have l8 := blk_lt h8
  have s8 := B8.size
  subst hw
  exact ⟨blk_far (blk_below h8 B5) (by show g8 ≠ g5; omega) _, (setb h5 0 _).1, blk_far (blk_below (blk_below h3 B8) B5) (by show g3 ≠ g5; omega) _⟩
theorem tb_below {w w1 w2 w3 w4 : World} {g8 g5 : Nat} (hle : w.heap.size ≤ w.heap.size) (B3 : Below w.heap.size w w1) (B8 : Below w1.heap.size w1 w2) (E5 : g5 = w2.heap.size) (B5 : Below w2.heap.size w2 w3) (hw : w4 = w3.setCell ⟨g5, 0, none⟩ (PB g8)) : Below w.heap.size w w4 := by
  have h2 := below_then B3 B3.size B8
  have h3 := below_then h2 h2.size B5
  subst hw
  exact h3.setCell (p := ⟨g5, 0, none⟩) (by show w.heap.size ≤ g5; rw [E5]; exact h2.size) _
/-- How many rows there are. -/
def rowsOf (n : Int) : Nat := if n < 0 ∨ 65536 < n then 0 else n.toNat
set_option maxHeartbeats 4000000 in
set_option maxRecDepth 100000 in
theorem rows_nil (n : Int) (val : Nat → Int) (w : World) :
    Calls Try.prog 67 #[.int .i64 n, .nilFunc] w fun e w' => ∃ tb g5 g3 cbs A c, e = .returned (PB tb) ∧ TB w' w.heap.size tb g5 g3 .nilFunc cbs A c 0 (fun _ => none) val ∧ cbs.length = rowsOf n ∧ Below w.heap.size w w' := by
  have hm := hmf
  have hu162 := Try.underlying162
  by_cases hbad : n < 0 ∨ 65536 < n
  · have e0 : rowsOf n = 0 := by unfold rowsOf; rw [if_pos hbad]
    rw [e0]
    have HBAD := Aside0.mk hbad
    by_cases h1 : n < 0
    · have d1 : decide (n < 0) = true := by simpa using h1
      clear hbad h1
      go_enter Try.func67, Try.ntmps67
      go_wp2_with (first
        | ((with_reducible refine gate_dst (N := 3) rfl ?_); refine box_event ?hg (N := 3) ?hd (cs := #[.nilFunc]) (t := 134) ?hr ?_; (case hd => rfl); (case hg => rfl); (case hr => first | (go_simp; done) | (go_simp; rfl)); intro g3 hg w1 hbox hb; have E3 := Aside0.mk hg; have K3 := Aside0.mk hbox; have B3 := Aside0.mk hb; clear hg hbox hb)
        | ((with_reducible refine gate_dst (N := 8) rfl ?_); refine box_event ?hg (N := 8) ?hd (cs := #[.slice none 0 0, .int .i64 0]) (t := 162) ?hr ?_; (case hd => rfl); (case hg => rfl); (case hr => first | (go_simp; done) | (go_simp; rfl)); intro g8 hg w2 hbox hb; have E8 := Aside0.mk hg; have K8 := Aside0.mk hbox; have B8 := Aside0.mk hb; clear hg hbox hb)
        | ((with_reducible refine gate_dst (N := 5) rfl ?_); refine box_event ?hg (N := 5) ?hd (cs := #[.pointer none]) (t := 127) ?hr ?_; (case hd => rfl); (case hg => rfl); (case hr => first | (go_simp; done) | (go_simp; rfl)); intro g5 hg w3 hbox hb; have E5 := Aside0.mk hg; have K5 := Aside0.mk hbox; have B5 := Aside0.mk hb; clear hg hbox hb; have c5 := (blk_cell K5.out 0).trans rfl; have z5 := blk_frozen K5.out 0)
        | ((with_reducible refine gate_op (Op.store 127 (.tmp 5) (.tmp 8)) rfl ?_); refine skip_event (w1 := w3.setCell ⟨g5, 0, none⟩ (PB g8)) rfl rfl ?hr ?_; (case hr => first | (go_simp; done) | (go_simp; rfl)); intro w4 hw; have K7 := Aside0.mk (tb_made K3.out E8.out K8.out B8.out E5.out K5.out B5.out hw); have B7 := Aside0.mk (tb_below (Nat.le_refl _) B3.out B8.out E5.out B5.out hw); have N7 : Aside0 (w.heap.size ≤ g8 ∧ w.heap.size ≤ g5 ∧ w.heap.size ≤ g3) := ⟨by have := B3.out.size; have := B8.out.size; have := E3.out; have := E8.out; have := E5.out; omega⟩; clear hw c5 z5 K3 K8 K5 B3 B8 B5 E3 E8 E5; have c5 := (blk_cell K7.out.2.1 0).trans rfl))
      go_ret
      exact ⟨g8, g5, g3, [], none, 0, rfl, ⟨K7.out.1, K7.out.2.1, K7.out.2.2, Kd.R_nil _ _ _ _ _, by simp, by simp, N7.out.1, N7.out.2.1, N7.out.2.2, by simp⟩, rfl, B7.out⟩
    · have d1 : decide (n < 0) = false := by simpa using h1
      have d2 : decide (65536 < n) = true := by simp; omega
      clear hbad h1
      go_enter Try.func67, Try.ntmps67
      go_wp2_with (first
        | ((with_reducible refine gate_dst (N := 3) rfl ?_); refine box_event ?hg (N := 3) ?hd (cs := #[.nilFunc]) (t := 134) ?hr ?_; (case hd => rfl); (case hg => rfl); (case hr => first | (go_simp; done) | (go_simp; rfl)); intro g3 hg w1 hbox hb; have E3 := Aside0.mk hg; have K3 := Aside0.mk hbox; have B3 := Aside0.mk hb; clear hg hbox hb)
        | ((with_reducible refine gate_dst (N := 8) rfl ?_); refine box_event ?hg (N := 8) ?hd (cs := #[.slice none 0 0, .int .i64 0]) (t := 162) ?hr ?_; (case hd => rfl); (case hg => rfl); (case hr => first | (go_simp; done) | (go_simp; rfl)); intro g8 hg w2 hbox hb; have E8 := Aside0.mk hg; have K8 := Aside0.mk hbox; have B8 := Aside0.mk hb; clear hg hbox hb)
        | ((with_reducible refine gate_dst (N := 5) rfl ?_); refine box_event ?hg (N := 5) ?hd (cs := #[.pointer none]) (t := 127) ?hr ?_; (case hd => rfl); (case hg => rfl); (case hr => first | (go_simp; done) | (go_simp; rfl)); intro g5 hg w3 hbox hb; have E5 := Aside0.mk hg; have K5 := Aside0.mk hbox; have B5 := Aside0.mk hb; clear hg hbox hb; have c5 := (blk_cell K5.out 0).trans rfl; have z5 := blk_frozen K5.out 0)
        | ((with_reducible refine gate_op (Op.store 127 (.tmp 5) (.tmp 8)) rfl ?_); refine skip_event (w1 := w3.setCell ⟨g5, 0, none⟩ (PB g8)) rfl rfl ?hr ?_; (case hr => first | (go_simp; done) | (go_simp; rfl)); intro w4 hw; have K7 := Aside0.mk (tb_made K3.out E8.out K8.out B8.out E5.out K5.out B5.out hw); have B7 := Aside0.mk (tb_below (Nat.le_refl _) B3.out B8.out E5.out B5.out hw); have N7 : Aside0 (w.heap.size ≤ g8 ∧ w.heap.size ≤ g5 ∧ w.heap.size ≤ g3) := ⟨by have := B3.out.size; have := B8.out.size; have := E3.out; have := E8.out; have := E5.out; omega⟩; clear hw c5 z5 K3 K8 K5 B3 B8 B5 E3 E8 E5; have c5 := (blk_cell K7.out.2.1 0).trans rfl))
      go_ret
      exact ⟨g8, g5, g3, [], none, 0, rfl, ⟨K7.out.1, K7.out.2.1, K7.out.2.2, Kd.R_nil _ _ _ _ _, by simp, by simp, N7.out.1, N7.out.2.1, N7.out.2.2, by simp⟩, rfl, B7.out⟩
  · obtain ⟨N, rfl⟩ : ∃ N : Nat, n = N := ⟨n.toNat, by omega⟩
    have e0 : rowsOf (N : Int) = N := by unfold rowsOf; rw [if_neg hbad]; omega
    rw [e0]
    have hN : N ≤ 65536 := by omega
    have d1 : decide ((N : Int) < 0) = false := by simp
    have d2 : decide (65536 < (N : Int)) = false := by simp; omega
    clear hbad
    go_enter Try.func67, Try.ntmps67
    go_wp2_with (first
        | ((with_reducible refine gate_dst (N := 3) rfl ?_); refine box_event ?hg (N := 3) ?hd (cs := #[.nilFunc]) (t := 134) ?hr ?_; (case hd => rfl); (case hg => rfl); (case hr => first | (go_simp; done) | (go_simp; rfl)); intro g3 hg w1 hbox hb; have E3 := Aside0.mk hg; have K3 := Aside0.mk hbox; have B3 := Aside0.mk hb; clear hg hbox hb)
        | ((with_reducible refine gate_dst (N := 8) rfl ?_); refine box_event ?hg (N := 8) ?hd (cs := #[.slice none 0 0, .int .i64 0]) (t := 162) ?hr ?_; (case hd => rfl); (case hg => rfl); (case hr => first | (go_simp; done) | (go_simp; rfl)); intro g8 hg w2 hbox hb; have E8 := Aside0.mk hg; have K8 := Aside0.mk hbox; have B8 := Aside0.mk hb; clear hg hbox hb)
        | ((with_reducible refine gate_dst (N := 5) rfl ?_); refine box_event ?hg (N := 5) ?hd (cs := #[.pointer none]) (t := 127) ?hr ?_; (case hd => rfl); (case hg => rfl); (case hr => first | (go_simp; done) | (go_simp; rfl)); intro g5 hg w3 hbox hb; have E5 := Aside0.mk hg; have K5 := Aside0.mk hbox; have B5 := Aside0.mk hb; clear hg hbox hb; have c5 := (blk_cell K5.out 0).trans rfl; have z5 := blk_frozen K5.out 0)
        | ((with_reducible refine gate_op (Op.store 127 (.tmp 5) (.tmp 8)) rfl ?_); refine skip_event (w1 := w3.setCell ⟨g5, 0, none⟩ (PB g8)) rfl rfl ?hr ?_; (case hr => first | (go_simp; done) | (go_simp; rfl)); intro w4 hw; have K7 := Aside0.mk (tb_made K3.out E8.out K8.out B8.out E5.out K5.out B5.out hw); have B7 := Aside0.mk (tb_below (Nat.le_refl _) B3.out B8.out E5.out B5.out hw); have N7 : Aside0 (w.heap.size ≤ g8 ∧ w.heap.size ≤ g5 ∧ w.heap.size ≤ g3) := ⟨by have := B3.out.size; have := B8.out.size; have := E3.out; have := E8.out; have := E5.out; omega⟩; clear hw c5 z5 K3 K8 K5 B3 B8 B5 E3 E8 E5; have c5 := (blk_cell K7.out.2.1 0).trans rfl))
    have HL : Aside0 (∃ cbs A c, TB w4 w.heap.size g8 g5 g3 .nilFunc cbs A c 0 (fun _ => none) val ∧ cbs.length = 0 ∧ Below w.heap.size w w4) := ⟨[], none, 0, ⟨K7.out.1, K7.out.2.1, K7.out.2.2, Kd.R_nil _ _ _ _ _, by simp, by simp, N7.out.1, N7.out.2.1, N7.out.2.2, by simp⟩, rfl, B7.out⟩
    clear K7 B7 N7
    go_loopw [17] (fun i wr => ∃ k : Nat, k ≤ N ∧ i = .int .i64 k ∧ Aside0 (∃ cbs A c, TB wr w.heap.size g8 g5 g3 .nilFunc cbs A c 0 (fun _ => none) val ∧ cbs.length = k ∧ Below w.heap.size w wr)) (fun i _ => N - (intOf i).toNat)
    case atStart => exact ⟨0, Nat.zero_le _, rfl, HL⟩
    case round =>
      clear HL
      obtain ⟨k, hk, rfl, HL⟩ := hrel
      obtain ⟨cbs, A, c, hT, hl, hB⟩ := HL.out
      by_cases hlt : k < N
      · have HT := Aside0.mk hT
        have HB := Aside0.mk hB
        have HLN := Aside0.mk hl
        clear hT hB hl HL
        go_wp2_with (first
          | ((with_reducible refine gate_dst (N := 6) rfl ?_); refine box_event ?hg (N := 6) ?hd (cs := #[.int .i64 0]) (t := 3) ?hr ?_; (case hd => rfl); (case hg => rfl); (case hr => first | (go_simp; done) | (go_simp; rfl)); intro g6 hg w5 hbox hb; have E6 := Aside0.mk hg; have K6 := Aside0.mk hbox; have B6 := Aside0.mk hb; clear hg hbox hb; have c0 := (blk_cell K6.out 0).trans rfl; have z0 := blk_frozen K6.out 0)
          | ((with_reducible refine gate_op (Op.store 3 (.tmp 6) (.tmp 19)) rfl ?_); refine skip_event (w1 := w5.setCell ⟨g6, 0, none⟩ (.int .i64 k)) rfl rfl ?hr ?_; (case hr => first | (go_simp; done) | (go_simp; rfl)); intro w6 hw; have K62 : Aside0 (w6.heap[g6]? = some (.cells #[.int .i64 k] 3 (0, 0))) := ⟨by rw [hw]; exact (setb K6.out 0 _).1⟩; have B62 : Aside0 (Below wr.heap.size wr w6) := ⟨by rw [hw]; exact (setb K6.out 0 _).2.2 _ _ (Nat.le_of_eq E6.out.symm) B6.out⟩; clear hw c0 z0))
        have HT6 := Aside0.mk (HT.out.below B62.out)
        have HB6 := Aside0.mk (below_then HB.out HB.out.size B62.out)
        have hown := own_kp HT6.out.row
        have hne : ∀ q, some q = (Value.slice A cbs.length c).ownBlock → q ≠ g8 ∧ q ≠ g5 := fun q hq => by
          obtain ⟨_, _, cells, hc⟩ := hown q hq
          constructor
          · rintro rfl; rw [HT6.out.tab] at hc; cases hc
          · rintro rfl; rw [HT6.out.v5] at hc; cases hc
        have h5t : g5 ≠ g8 := fun e => by
          have h1 := HT6.out.v5
          rw [e, HT6.out.tab] at h1
          cases h1
        refine r67x7 g8 g5 g3 g6 A c cbs 0 w.heap.size (fun k => some k = (Value.slice A cbs.length c).ownBlock) w6 HB6.out.size (blk_lt HT6.out.tab) HT6.out.los.1 h5t (fun q hq => by obtain ⟨a1, a2, _⟩ := hown q hq.symm; obtain ⟨b1, b2⟩ := hne q hq.symm; exact ⟨a2, a1, b1, b2⟩) (fun e => (hne g8 e).1 rfl) (by have := HLN.out; omega) rfl rfl rfl rfl ⟨Kept.refl _ _, HT6.out.v5, fun _ => HT6.out.tab, fun _ => tight_kp HT6.out.row, below_drew (Below.refl _ _)⟩ (fun v26 v27 v28 v11 w7 b hb hG f26 f27 f28 f11 => ?_)
        have HX : Aside0 (∃ cbs A c, TB w7 w.heap.size g8 g5 g3 .nilFunc cbs A c 0 (fun _ => none) val ∧ cbs.length = k + 1 ∧ Below w.heap.size w w7) := ⟨by
          obtain ⟨cb, t1, t2, t3, t4⟩ := f11
          obtain ⟨A', c', hT'⟩ := HT6.out.step K62.out (by have := E6.out; have := HB.out.size; omega) hG.1 hG.2.1 t1 t2 t3 HB6.out.size t4 HLN.out rfl
          exact ⟨_, A', c', hT', by have := HLN.out; simp; omega, HB6.out.trans hG.2.2.2.2⟩⟩
        clear hG f26 f27 f28 f11 hb hown hne h5t
        simp only [putAll, Act.put, List.setIfInBounds_toArray, List.set_cons_zero, List.set_cons_succ]
        go_wp2
        go_roundw
        case rel => exact ⟨k + 1, by omega, by go_num, HX⟩
        case measure => simp [intOf]; omega
      · obtain rfl : k = N := by omega
        have c5 := (blk_cell hT.v5 0).trans rfl
        clear hT hl hB
        go_wp2
        go_ret
        obtain ⟨cbs, A, c, hT, hl, hB⟩ := HL.out
        exact ⟨g8, g5, g3, cbs, A, c, rfl, hT, hl, hB⟩

set_option maxHeartbeats 4000000 in
set_option maxRecDepth 100000 in
theorem rows_fun (q2 q5 : Nat) (n : Int) (val : Nat → Int) (w : World) :
    Calls Try.prog 67 #[.int .i64 n, (.func (.func 68) #[] #[PB q2, PB q5])] w fun e w' => ∃ tb g5 g3 cbs A c, e = .returned (PB tb) ∧ TB w' w.heap.size tb g5 g3 (.func (.func 68) #[] #[PB q2, PB q5]) cbs A c 0 (fun _ => none) val ∧ cbs.length = rowsOf n ∧ Below w.heap.size w w' := by
  have hm := hmf
  have hu162 := Try.underlying162
  by_cases hbad : n < 0 ∨ 65536 < n
  · have e0 : rowsOf n = 0 := by unfold rowsOf; rw [if_pos hbad]
    rw [e0]
    have HBAD := Aside0.mk hbad
    by_cases h1 : n < 0
    · have d1 : decide (n < 0) = true := by simpa using h1
      clear hbad h1
      go_enter Try.func67, Try.ntmps67
      go_wp2_with (first
        | ((with_reducible refine gate_dst (N := 3) rfl ?_); refine box_event ?hg (N := 3) ?hd (cs := #[(.func (.func 68) #[] #[PB q2, PB q5])]) (t := 134) ?hr ?_; (case hd => rfl); (case hg => rfl); (case hr => first | (go_simp; done) | (go_simp; rfl)); intro g3 hg w1 hbox hb; have E3 := Aside0.mk hg; have K3 := Aside0.mk hbox; have B3 := Aside0.mk hb; clear hg hbox hb)
        | ((with_reducible refine gate_dst (N := 8) rfl ?_); refine box_event ?hg (N := 8) ?hd (cs := #[.slice none 0 0, .int .i64 0]) (t := 162) ?hr ?_; (case hd => rfl); (case hg => rfl); (case hr => first | (go_simp; done) | (go_simp; rfl)); intro g8 hg w2 hbox hb; have E8 := Aside0.mk hg; have K8 := Aside0.mk hbox; have B8 := Aside0.mk hb; clear hg hbox hb)
        | ((with_reducible refine gate_dst (N := 5) rfl ?_); refine box_event ?hg (N := 5) ?hd (cs := #[.pointer none]) (t := 127) ?hr ?_; (case hd => rfl); (case hg => rfl); (case hr => first | (go_simp; done) | (go_simp; rfl)); intro g5 hg w3 hbox hb; have E5 := Aside0.mk hg; have K5 := Aside0.mk hbox; have B5 := Aside0.mk hb; clear hg hbox hb; have c5 := (blk_cell K5.out 0).trans rfl; have z5 := blk_frozen K5.out 0)
        | ((with_reducible refine gate_op (Op.store 127 (.tmp 5) (.tmp 8)) rfl ?_); refine skip_event (w1 := w3.setCell ⟨g5, 0, none⟩ (PB g8)) rfl rfl ?hr ?_; (case hr => first | (go_simp; done) | (go_simp; rfl)); intro w4 hw; have K7 := Aside0.mk (tb_made K3.out E8.out K8.out B8.out E5.out K5.out B5.out hw); have B7 := Aside0.mk (tb_below (Nat.le_refl _) B3.out B8.out E5.out B5.out hw); have N7 : Aside0 (w.heap.size ≤ g8 ∧ w.heap.size ≤ g5 ∧ w.heap.size ≤ g3) := ⟨by have := B3.out.size; have := B8.out.size; have := E3.out; have := E8.out; have := E5.out; omega⟩; clear hw c5 z5 K3 K8 K5 B3 B8 B5 E3 E8 E5; have c5 := (blk_cell K7.out.2.1 0).trans rfl))
      go_ret
      exact ⟨g8, g5, g3, [], none, 0, rfl, ⟨K7.out.1, K7.out.2.1, K7.out.2.2, Kd.R_nil _ _ _ _ _, by simp, by simp, N7.out.1, N7.out.2.1, N7.out.2.2, by simp⟩, rfl, B7.out⟩
    · have d1 : decide (n < 0) = false := by simpa using h1
      have d2 : decide (65536 < n) = true := by simp; omega
      clear hbad h1
      go_enter Try.func67, Try.ntmps67
      go_wp2_with (first
        | ((with_reducible refine gate_dst (N := 3) rfl ?_); refine box_event ?hg (N := 3) ?hd (cs := #[(.func (.func 68) #[] #[PB q2, PB q5])]) (t := 134) ?hr ?_; (case hd => rfl); (case hg => rfl); (case hr => first | (go_simp; done) | (go_simp; rfl)); intro g3 hg w1 hbox hb; have E3 := Aside0.mk hg; have K3 := Aside0.mk hbox; have B3 := Aside0.mk hb; clear hg hbox hb)
        | ((with_reducible refine gate_dst (N := 8) rfl ?_); refine box_event ?hg (N := 8) ?hd (cs := #[.slice none 0 0, .int .i64 0]) (t := 162) ?hr ?_; (case hd => rfl); (case hg => rfl); (case hr => first | (go_simp; done) | (go_simp; rfl)); intro g8 hg w2 hbox hb; have E8 := Aside0.mk hg; have K8 := Aside0.mk hbox; have B8 := Aside0.mk hb; clear hg hbox hb)
        | ((with_reducible refine gate_dst (N := 5) rfl ?_); refine box_event ?hg (N := 5) ?hd (cs := #[.pointer none]) (t := 127) ?hr ?_; (case hd => rfl); (case hg => rfl); (case hr => first | (go_simp; done) | (go_simp; rfl)); intro g5 hg w3 hbox hb; have E5 := Aside0.mk hg; have K5 := Aside0.mk hbox; have B5 := Aside0.mk hb; clear hg hbox hb; have c5 := (blk_cell K5.out 0).trans rfl; have z5 := blk_frozen K5.out 0)
        | ((with_reducible refine gate_op (Op.store 127 (.tmp 5) (.tmp 8)) rfl ?_); refine skip_event (w1 := w3.setCell ⟨g5, 0, none⟩ (PB g8)) rfl rfl ?hr ?_; (case hr => first | (go_simp; done) | (go_simp; rfl)); intro w4 hw; have K7 := Aside0.mk (tb_made K3.out E8.out K8.out B8.out E5.out K5.out B5.out hw); have B7 := Aside0.mk (tb_below (Nat.le_refl _) B3.out B8.out E5.out B5.out hw); have N7 : Aside0 (w.heap.size ≤ g8 ∧ w.heap.size ≤ g5 ∧ w.heap.size ≤ g3) := ⟨by have := B3.out.size; have := B8.out.size; have := E3.out; have := E8.out; have := E5.out; omega⟩; clear hw c5 z5 K3 K8 K5 B3 B8 B5 E3 E8 E5; have c5 := (blk_cell K7.out.2.1 0).trans rfl))
      go_ret
      exact ⟨g8, g5, g3, [], none, 0, rfl, ⟨K7.out.1, K7.out.2.1, K7.out.2.2, Kd.R_nil _ _ _ _ _, by simp, by simp, N7.out.1, N7.out.2.1, N7.out.2.2, by simp⟩, rfl, B7.out⟩
  · obtain ⟨N, rfl⟩ : ∃ N : Nat, n = N := ⟨n.toNat, by omega⟩
    have e0 : rowsOf (N : Int) = N := by unfold rowsOf; rw [if_neg hbad]; omega
    rw [e0]
    have hN : N ≤ 65536 := by omega
    have d1 : decide ((N : Int) < 0) = false := by simp
    have d2 : decide (65536 < (N : Int)) = false := by simp; omega
    clear hbad
    go_enter Try.func67, Try.ntmps67
    go_wp2_with (first
        | ((with_reducible refine gate_dst (N := 3) rfl ?_); refine box_event ?hg (N := 3) ?hd (cs := #[(.func (.func 68) #[] #[PB q2, PB q5])]) (t := 134) ?hr ?_; (case hd => rfl); (case hg => rfl); (case hr => first | (go_simp; done) | (go_simp; rfl)); intro g3 hg w1 hbox hb; have E3 := Aside0.mk hg; have K3 := Aside0.mk hbox; have B3 := Aside0.mk hb; clear hg hbox hb)
        | ((with_reducible refine gate_dst (N := 8) rfl ?_); refine box_event ?hg (N := 8) ?hd (cs := #[.slice none 0 0, .int .i64 0]) (t := 162) ?hr ?_; (case hd => rfl); (case hg => rfl); (case hr => first | (go_simp; done) | (go_simp; rfl)); intro g8 hg w2 hbox hb; have E8 := Aside0.mk hg; have K8 := Aside0.mk hbox; have B8 := Aside0.mk hb; clear hg hbox hb)
        | ((with_reducible refine gate_dst (N := 5) rfl ?_); refine box_event ?hg (N := 5) ?hd (cs := #[.pointer none]) (t := 127) ?hr ?_; (case hd => rfl); (case hg => rfl); (case hr => first | (go_simp; done) | (go_simp; rfl)); intro g5 hg w3 hbox hb; have E5 := Aside0.mk hg; have K5 := Aside0.mk hbox; have B5 := Aside0.mk hb; clear hg hbox hb; have c5 := (blk_cell K5.out 0).trans rfl; have z5 := blk_frozen K5.out 0)
        | ((with_reducible refine gate_op (Op.store 127 (.tmp 5) (.tmp 8)) rfl ?_); refine skip_event (w1 := w3.setCell ⟨g5, 0, none⟩ (PB g8)) rfl rfl ?hr ?_; (case hr => first | (go_simp; done) | (go_simp; rfl)); intro w4 hw; have K7 := Aside0.mk (tb_made K3.out E8.out K8.out B8.out E5.out K5.out B5.out hw); have B7 := Aside0.mk (tb_below (Nat.le_refl _) B3.out B8.out E5.out B5.out hw); have N7 : Aside0 (w.heap.size ≤ g8 ∧ w.heap.size ≤ g5 ∧ w.heap.size ≤ g3) := ⟨by have := B3.out.size; have := B8.out.size; have := E3.out; have := E8.out; have := E5.out; omega⟩; clear hw c5 z5 K3 K8 K5 B3 B8 B5 E3 E8 E5; have c5 := (blk_cell K7.out.2.1 0).trans rfl))
    have HL : Aside0 (∃ cbs A c, TB w4 w.heap.size g8 g5 g3 (.func (.func 68) #[] #[PB q2, PB q5]) cbs A c 0 (fun _ => none) val ∧ cbs.length = 0 ∧ Below w.heap.size w w4) := ⟨[], none, 0, ⟨K7.out.1, K7.out.2.1, K7.out.2.2, Kd.R_nil _ _ _ _ _, by simp, by simp, N7.out.1, N7.out.2.1, N7.out.2.2, by simp⟩, rfl, B7.out⟩
    clear K7 B7 N7
    go_loopw [17] (fun i wr => ∃ k : Nat, k ≤ N ∧ i = .int .i64 k ∧ Aside0 (∃ cbs A c, TB wr w.heap.size g8 g5 g3 (.func (.func 68) #[] #[PB q2, PB q5]) cbs A c 0 (fun _ => none) val ∧ cbs.length = k ∧ Below w.heap.size w wr)) (fun i _ => N - (intOf i).toNat)
    case atStart => exact ⟨0, Nat.zero_le _, rfl, HL⟩
    case round =>
      clear HL
      obtain ⟨k, hk, rfl, HL⟩ := hrel
      obtain ⟨cbs, A, c, hT, hl, hB⟩ := HL.out
      by_cases hlt : k < N
      · have HT := Aside0.mk hT
        have HB := Aside0.mk hB
        have HLN := Aside0.mk hl
        clear hT hB hl HL
        go_wp2_with (first
          | ((with_reducible refine gate_dst (N := 6) rfl ?_); refine box_event ?hg (N := 6) ?hd (cs := #[.int .i64 0]) (t := 3) ?hr ?_; (case hd => rfl); (case hg => rfl); (case hr => first | (go_simp; done) | (go_simp; rfl)); intro g6 hg w5 hbox hb; have E6 := Aside0.mk hg; have K6 := Aside0.mk hbox; have B6 := Aside0.mk hb; clear hg hbox hb; have c0 := (blk_cell K6.out 0).trans rfl; have z0 := blk_frozen K6.out 0)
          | ((with_reducible refine gate_op (Op.store 3 (.tmp 6) (.tmp 19)) rfl ?_); refine skip_event (w1 := w5.setCell ⟨g6, 0, none⟩ (.int .i64 k)) rfl rfl ?hr ?_; (case hr => first | (go_simp; done) | (go_simp; rfl)); intro w6 hw; have K62 : Aside0 (w6.heap[g6]? = some (.cells #[.int .i64 k] 3 (0, 0))) := ⟨by rw [hw]; exact (setb K6.out 0 _).1⟩; have B62 : Aside0 (Below wr.heap.size wr w6) := ⟨by rw [hw]; exact (setb K6.out 0 _).2.2 _ _ (Nat.le_of_eq E6.out.symm) B6.out⟩; clear hw c0 z0))
        have HT6 := Aside0.mk (HT.out.below B62.out)
        have HB6 := Aside0.mk (below_then HB.out HB.out.size B62.out)
        have hown := own_kp HT6.out.row
        have hne : ∀ q, some q = (Value.slice A cbs.length c).ownBlock → q ≠ g8 ∧ q ≠ g5 := fun q hq => by
          obtain ⟨_, _, cells, hc⟩ := hown q hq
          constructor
          · rintro rfl; rw [HT6.out.tab] at hc; cases hc
          · rintro rfl; rw [HT6.out.v5] at hc; cases hc
        have h5t : g5 ≠ g8 := fun e => by
          have h1 := HT6.out.v5
          rw [e, HT6.out.tab] at h1
          cases h1
        refine r67x7 g8 g5 g3 g6 A c cbs 0 w.heap.size (fun k => some k = (Value.slice A cbs.length c).ownBlock) w6 HB6.out.size (blk_lt HT6.out.tab) HT6.out.los.1 h5t (fun q hq => by obtain ⟨a1, a2, _⟩ := hown q hq.symm; obtain ⟨b1, b2⟩ := hne q hq.symm; exact ⟨a2, a1, b1, b2⟩) (fun e => (hne g8 e).1 rfl) (by have := HLN.out; omega) rfl rfl rfl rfl ⟨Kept.refl _ _, HT6.out.v5, fun _ => HT6.out.tab, fun _ => tight_kp HT6.out.row, below_drew (Below.refl _ _)⟩ (fun v26 v27 v28 v11 w7 b hb hG f26 f27 f28 f11 => ?_)
        have HX : Aside0 (∃ cbs A c, TB w7 w.heap.size g8 g5 g3 (.func (.func 68) #[] #[PB q2, PB q5]) cbs A c 0 (fun _ => none) val ∧ cbs.length = k + 1 ∧ Below w.heap.size w w7) := ⟨by
          obtain ⟨cb, t1, t2, t3, t4⟩ := f11
          obtain ⟨A', c', hT'⟩ := HT6.out.step K62.out (by have := E6.out; have := HB.out.size; omega) hG.1 hG.2.1 t1 t2 t3 HB6.out.size t4 HLN.out rfl
          exact ⟨_, A', c', hT', by have := HLN.out; simp; omega, HB6.out.trans hG.2.2.2.2⟩⟩
        clear hG f26 f27 f28 f11 hb hown hne h5t
        simp only [putAll, Act.put, List.setIfInBounds_toArray, List.set_cons_zero, List.set_cons_succ]
        go_wp2
        go_roundw
        case rel => exact ⟨k + 1, by omega, by go_num, HX⟩
        case measure => simp [intOf]; omega
      · obtain rfl : k = N := by omega
        have c5 := (blk_cell hT.v5 0).trans rfl
        clear hT hl hB
        go_wp2
        go_ret
        obtain ⟨cbs, A, c, hT, hl, hB⟩ := HL.out
        exact ⟨g8, g5, g3, cbs, A, c, rfl, hT, hl, hB⟩
end Go.Proofs.Ytbjbejjieibldaa.La
