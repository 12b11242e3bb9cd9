/- The law's own 'hear', the document's party's row only read: one party turns, all else is kept. -/
import Derived.Test.YtbjbejjieibldaaPv
namespace Go.Proofs.Ytbjbejjieibldaa.Pa
open Go.RowKit Go.Proofs.YtbjbejjieibldaaW.PrintWords Go.Proofs.YtbjbejjieibldaaW.PrintLast Go.Proofs.YtbjbejjieibldaaW.PrintMore Go.Maps Go.Proofs.Ytbjbejjieibldaa.Rg
open Go.Proofs.Ytbjbejjieibldaa.Pl (cnt dedup mostL same_f cnt_snoc dedup_step most_dedup times_f most_f did_f hear_f)
open Go.Proofs.Ytbjbejjieibldaa
set_option linter.unusedVariables false

theorem IsP.lower {w : World} {base base' : Nat} {ok : Nat → Prop} {pb : Nat} {number : Int} {did : List Int} {times : Int → Int} {n : Nat} (h : IsP w base ok pb number did times n) (hb : base' ≤ base) : IsP w base' ok pb number did times n := by
  obtain ⟨mb, v, D, h1, h2, h3, h4, h5, h6⟩ := h
  exact ⟨mb, v, D, h1, ⟨Nat.le_trans hb h2.1, h2.2⟩, ⟨Nat.le_trans hb h3.1, h3.2⟩, h4, Kd.R_lower h5 hb, h6⟩
set_option maxHeartbeats 4000000 in
set_option maxRecDepth 100000 in
theorem lhear2 {ok1 ok2 : Nat → Prop} {pb : Nat} {number : Int} {l : List Int} {u : Value} (id ticket level party state tries retry wait next : Int) (w0 w : World) (hB : Below w0.heap.size w0 w) (h : Heard w w0.heap.size ok1 pb number l) (hR : Kd.R (Kd.int .u64) 23 w w0.heap.size ok2 u l) (hdis : ∀ k, ok1 k → ¬ ok2 k) (hid : U id) (hn : l.length < 900) :
    Calls Try.prog 20 #[.pointer (some ⟨pb, 0, none⟩), .agg #[.int .i64 number, u], NV id ticket level party state tries retry wait next] w fun e w' => ∃ v ok1' ok2', e = .returned (.tuple #[.agg #[.int .i64 number, v], .bool true]) ∧
      Heard w' w0.heap.size ok1' pb number (newL l number party id) ∧ Kd.R (Kd.int .u64) 23 w' w0.heap.size ok2' v (newL l number party id) ∧ (∀ k, ok1' k → ¬ ok2' k) ∧ (∀ k, ok1' k → ok1 k ∨ w.heap.size ≤ k) ∧ (∀ k, ok2' k → ok2 k ∨ w.heap.size ≤ k) ∧ Below w0.heap.size w0 w' ∧ Kept w w' ok1 := by
  have hu29 := Try.underlying29
  have hu31 := Try.underlying31
  have HB := Aside0.mk hB
  have HH := Aside0.mk h.bound
  have HR := Aside0.mk (Kd.R_bound hR)
  have HD := Aside0.mk hdis
  have HN := Aside0.mk hn
  obtain ⟨A0, c0, eu⟩ := Kd.R_slice hR
  subst eu
  clear hB h hR hdis
  go_enter Try.func20, Try.ntmps20
  go_wp2_with (first
    | ((with_reducible refine gate_dst (N := 4) rfl ?_); refine box_event ?hg (N := 4) ?hd (cs := #[.int .i64 number, .slice A0 l.length c0]) (t := 29) ?hr ?_; (case hd => rfl); (case hg => rfl); (case hr => first | (go_simp; done) | (go_simp; rfl)); intro g4 hg w1 hbox hb; have E4 := Aside0.mk hg; have K4 := Aside0.mk hbox; have B4 := Aside0.mk hb; clear hg hbox hb)
    | ((with_reducible refine gate_dst (N := 5) rfl ?_); refine box_event ?hg (N := 5) ?hd (cs := #[.int .u64 id, .int .u64 ticket, .int .i64 level, .int .i64 party, .int .i64 state, .int .i64 tries, .int .i64 retry, .int .i64 wait, .int .i64 next]) (t := 31) ?hr ?_; (case hd => rfl); (case hg => rfl); (case hr => first | (go_simp; done) | (go_simp; rfl)); intro g5 hg w2 hbox hb; have E5 := Aside0.mk hg; have K5 := Aside0.mk hbox; have B5 := Aside0.mk hb; clear hg hbox hb)
    | ((with_reducible refine gate_dst (N := 6) rfl ?_); refine box_event ?hg (N := 6) ?hd (cs := #[.int .i64 0, .slice none 0 0]) (t := 29) ?hr ?_; (case hd => rfl); (case hg => rfl); (case hr => first | (go_simp; done) | (go_simp; rfl)); intro g6 hg w3 hbox hb; have E6 := Aside0.mk hg; have K6 := Aside0.mk hbox; have B6 := Aside0.mk hb; clear hg hbox hb; have B3 := Aside0.mk ((B4.out.trans (B5.out.mono B4.out.size)).trans (B6.out.mono (Nat.le_trans B4.out.size B5.out.size))); have c40 := (blk_cell (blk_below (blk_below K4.out B5.out) B6.out) 0).trans rfl; have c41 := (blk_cell (blk_below (blk_below K4.out B5.out) B6.out) 1).trans rfl; have K5' := blk_below K5.out B6.out; have c50 := (blk_cell K5' 0).trans rfl; have c51 := (blk_cell K5' 1).trans rfl; have c52 := (blk_cell K5' 2).trans rfl; have c53 := (blk_cell K5' 3).trans rfl; have c54 := (blk_cell K5' 4).trans rfl; have c55 := (blk_cell K5' 5).trans rfl; have c56 := (blk_cell K5' 6).trans rfl; have c57 := (blk_cell K5' 7).trans rfl; have c58 := (blk_cell K5' 8).trans rfl; have KK5 := Aside0.mk K5'; clear K5')
    | (go_at_call 72; refine (refHearR number _ (.slice A0 l.length c0) l id ticket level party state tries retry wait next w0 _ (HB.out.trans (B3.out.mono HB.out.size)) (Kd.R_below HR.out B3.out) (by have := HN.out; omega)).mono ?_; rintro e w4 ⟨v, rfl, ho, hk⟩; have HO := Aside0.mk ho; have HB4 := Aside0.mk (below_then (HB.out.trans (B3.out.mono HB.out.size)) (Nat.le_trans HB.out.size B3.out.size) hk); have B34 := Aside0.mk hk; have HK4 := Aside0.mk (Kept.of_below hk (fun k => ok2 k ∧ w0.heap.size ≤ k ∧ k < w.heap.size ∧ ∃ q, q ∈ 23 :: (Kd.int IntKind.u64).E ∧ ∃ cells, w.heap[k]? = some (.cells cells q (0, 0)))); clear ho hk c40 c41 c50 c51 c52 c53 c54 c55 c56 c57 c58; obtain ⟨Av, cv, ev⟩ := Kd.R_slice HO.out; subst ev)
    | ((with_reducible refine gate_dst (N := 8) rfl ?_); refine box_event ?hg (N := 8) ?hd (cs := #[.int .i64 0, .slice none 0 0]) (t := 29) ?hr ?_; (case hd => rfl); (case hg => rfl); (case hr => first | (go_simp; done) | (go_simp; rfl)); intro g8 hg w5 hbox hb; have E8 := Aside0.mk hg; have K8 := Aside0.mk hbox; have B8 := Aside0.mk hb; have c80 := (blk_cell hbox 0).trans rfl; have c81 := (blk_cell hbox 1).trans rfl; have z80 := blk_frozen hbox 0; have z81 := blk_frozen hbox 1; clear hg hbox hb)
    | ((with_reducible refine gate_op (Op.store 29 (.tmp 8) (.tmp 17)) rfl ?_); refine skip_event (w1 := (w5.setCell ⟨g8, 0, none⟩ (.int .i64 number)).setCell ⟨g8, 1, none⟩ (.slice Av (newL l number party id).length cv)) rfl rfl ?hr ?_; (case hr => first | (go_simp; done) | (go_simp; rfl)); intro w6 hw6; have W6 := Aside0.mk hw6; clear hw6 c80 c81 z80 z81; have LM := Aside0.mk (lmid HB.out HH.out HR.out HD.out E4.out E5.out E6.out E8.out B4.out B5.out B6.out B3.out (blk_lt K5.out) KK5.out K6.out HO.out HB4.out HK4.out K8.out B8.out W6.out); have BW6 : Aside0 (Below w.heap.size w w6) := ⟨by rw [W6.out]; exact set2_below (below_then (below_then B3.out B3.out.size B34.out) (Nat.le_trans B3.out.size B34.out.size) B8.out) (by have := E8.out; have := B3.out.size; have := B34.out.size; omega) _ _⟩; clear K4 B4 B5 B6 B3 B34 KK5 K6 HO HB4 HK4 K8 B8 W6 HR; have K5 := LM.out.1; have c50 := (blk_cell K5 0).trans rfl; have c51 := (blk_cell K5 1).trans rfl; have c52 := (blk_cell K5 2).trans rfl; have c53 := (blk_cell K5 3).trans rfl; have c54 := (blk_cell K5 4).trans rfl; have c55 := (blk_cell K5 5).trans rfl; have c56 := (blk_cell K5 6).trans rfl; have c57 := (blk_cell K5 7).trans rfl; have c58 := (blk_cell K5 8).trans rfl; clear K5))
  obtain ⟨l1, l2, l3, l4, l5, l6, l7, l8, l9, l10, l11, l12, l13, l14, l15, l16, l17, l18⟩ := LM.out
  have M5 := Aside0.mk l1
  have M6 := Aside0.mk l2
  have M8 := Aside0.mk l3
  have MB := Aside0.mk l4
  have MK := Aside0.mk l5
  have MH := Aside0.mk l6
  have MR := Aside0.mk l7
  have MN : Aside0 (w.heap.size ≤ w3.heap.size ∧ w4.heap.size ≤ w6.heap.size ∧ w.heap.size ≤ g5 ∧ w.heap.size ≤ g6 ∧ w.heap.size ≤ g8 ∧ g5 ≠ g6 ∧ g6 ≠ g8 ∧ w3.heap.size ≤ w4.heap.size ∧ g5 < w6.heap.size ∧ g6 < w3.heap.size ∧ g8 < w6.heap.size) := ⟨by omega⟩
  clear l1 l2 l3 l4 l5 l6 l7 l8 l9 l10 l11 l12 l13 l14 l15 l16 l17 l18 LM
  refine (hearG id ticket level party state tries retry wait next w0 w6 MB.out MH.out hid (by have := HN.out; omega)).mono ?_
  rintro e w7 ⟨rfl, h1, h2, h3⟩
  have NH := Aside0.mk h1
  have NB := Aside0.mk h2
  have NK := Aside0.mk h3
  clear h1 h2 h3 c50 c51 c52 c53 c54 c55 c56 c57 c58
  have NR : Aside0 (Kd.R (Kd.int .u64) 23 w7 w0.heap.size (fun k => (ok2 k ∧ k < w.heap.size) ∨ (w3.heap.size ≤ k ∧ k < w4.heap.size)) (.slice Av (newL l number party id).length cv) (newL l number party id)) := ⟨Kd.R_kept MR.out NK.out (fun k hk hk1 => by
    rcases hk with hk | hk
    · exact HD.out k hk1.1 hk.1
    · have := MN.out; have := hk1.2; omega)⟩
  have K5 : Aside0 (w7.heap[g5]? = _) := ⟨blk_kept M5.out NK.out (fun h => by have := MN.out; have := h.2; omega)⟩
  have K6 : Aside0 (w7.heap[g6]? = _) := ⟨blk_kept M6.out NK.out (fun h => by have := MN.out; have := h.2; omega)⟩
  have K8 : Aside0 (w7.heap[g8]? = _) := ⟨blk_kept M8.out NK.out (fun h => by have := MN.out; have := h.2; omega)⟩
  go_wp2
  refine r20x3 (base1 := w0.heap.size) (ok1 := fun k => (ok1 k ∧ k < w.heap.size) ∨ w6.heap.size ≤ k) pb g8 g5 g6 number id (errOf number party id) (fstOf l number party id) Av cv (newL l number party id) w0.heap.size w7 hid ?hl ?hxr ?hnr ?hbr ?hrb NB.out.size ?hP ?hR rfl rfl rfl rfl rfl rfl rfl rfl rfl ⟨⟨Nat.le_refl _, fun _ _ _ => rfl⟩, ⟨rfl, rfl, rfl, Nat.le_refl _, fun _ _ => rfl⟩, K8.out, (blk_cell K5.out 0).trans rfl, fun _ => K6.out⟩ (fun x55 x57 x34 w8 b hb hG f55 f57 f34 => ?_)
  case hl => have := newL_length l number party id; have := HN.out; omega
  case hxr => exact fun e => MN.out.2.2.2.2.2.2.1 e.symm
  case hnr => exact MN.out.2.2.2.2.2.1
  case hbr => have := MN.out; have := HB.out.size; omega
  case hrb => exact blk_lt K6.out
  case hP => exact fun wz hk => NH.out.kept hk (fun k hk hk6 => by
      have hk6 : k = g6 := hk6
      have := MN.out
      rcases hk with hk | hk
      · have := hk.2; omega
      · omega)
  case hR => exact fun wz hk => Kd.R_reads' (Kd.R_kept NR.out hk (fun k hk hk6 => by
      have hk6 : k = g6 := hk6
      have := MN.out
      have := blk_lt K6.out
      rcases hk with hk | hk
      · have := hk.2; omega
      · omega))
  have HG := Aside0.mk hG
  have F34 := Aside0.mk f34
  clear hG f55 f57 f34 hb
  simp only [putAll, Act.put, List.setIfInBounds_toArray, List.set_cons_zero, List.set_cons_succ]
  go_wp2
  refine bodyPost_ret (results_ct rfl _ _ g6 29 #[.int .i64 number, .slice Av (newL l number party id).length cv] (0, 0) _ rfl F34.out Try.underlying29 rfl (by kernel_rfl)) rfl ?_
  have hlt := blk_lt K6.out
  refine ⟨_, (fun k => (ok1 k ∧ k < w.heap.size) ∨ w6.heap.size ≤ k), (fun k => (ok2 k ∧ k < w.heap.size) ∨ (w3.heap.size ≤ k ∧ k < w4.heap.size)), rfl, NH.out.kept HG.out.1 (fun k hk hk6 => ?_), Kd.R_kept NR.out HG.out.1 (fun k hk hk6 => ?_), fun k hk hk2 => ?_, fun k hk => ?_, fun k hk => ?_, NB.out.trans HG.out.2.1, ?_⟩
  · have hk6 : k = g6 := hk6
    have := MN.out
    rcases hk with hk | hk
    · have := hk.2; omega
    · omega
  · have hk6 : k = g6 := hk6
    have := MN.out
    rcases hk with hk | hk
    · have := hk.2; omega
    · omega
  · have := MN.out
    rcases hk with hk | hk
    · rcases hk2 with hk2 | hk2
      · exact HD.out k hk.1 hk2.1
      · have := hk.2; omega
    · rcases hk2 with hk2 | hk2
      · have := hk2.2; omega
      · omega
  · rcases hk with hk | hk
    · exact .inl hk.1
    · right; have := MN.out; omega
  · rcases hk with hk | hk
    · exact .inl hk.1
    · right; have := MN.out; omega
  · exact ((Kept.of_below BW6.out ok1).then_ NK.out (fun k hk => .inl hk.1)).then_ HG.out.1 (fun k hk => .inr (by have hk : k = g6 := hk; have := MN.out; omega))

end Go.Proofs.Ytbjbejjieibldaa.Pa
