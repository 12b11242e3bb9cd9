/- The law's own 'hear': a notice heard both ways; the two ways tell alike. -/
import Derived.Test.YtbjbejjieibldaaPe
import Derived.Test.YtbjbejjieibldaaUt
namespace Go.Proofs.Ytbjbejjieibldaa.Pa
open Go.RowKit Go.Proofs.YtbjbejjieibldaaW.PrintWords Go.Proofs.YtbjbejjieibldaaW.PrintLast Go.Proofs.YtbjbejjieibldaaW.PrintMore Go.Maps Go.Proofs.Ytbjbejjieibldaa.Rg
open Go.Proofs.Ytbjbejjieibldaa.Pl (cnt dedup mostL same_f cnt_snoc dedup_step most_dedup times_f most_f did_f hear_f)
open Go.Proofs.Ytbjbejjieibldaa
set_option linter.unusedVariables false

def fstOf (l : List Int) (number party id : Int) : Bool := if party = number ∧ id ≠ 0 then cnt l id == 0 else false
def errOf (number party id : Int) : Int := if party = number ∧ id ≠ 0 then 0 else 2
def newL (l : List Int) (number party id : Int) : List Int := if party = number ∧ id ≠ 0 then l ++ [id] else l
theorem newL_length (l : List Int) (number party id : Int) : (newL l number party id).length ≤ l.length + 1 := by unfold newL; split <;> simp

theorem hearG {ok : Nat → Prop} {pb : Nat} {number : Int} {l : List Int} (id ticket level party state tries retry wait next : Int) (w0 w : World) (hB : Below w0.heap.size w0 w) (h : Heard w w0.heap.size ok pb number l) (hid : U id) (hn : l.length < 1000) :
    Calls Try.prog 23 #[.pointer (some ⟨pb, 0, none⟩), NV id ticket level party state tries retry wait next] w fun e w' => e = .returned (.tuple #[.bool (fstOf l number party id), .int .i64 (errOf number party id)]) ∧
      Heard w' w0.heap.size (fun k => ok k ∨ w.heap.size ≤ k) pb number (newL l number party id) ∧ Below w0.heap.size w0 w' ∧ Kept w w' ok := by
  unfold fstOf errOf newL
  by_cases hh : party = number ∧ id ≠ 0
  · rw [if_pos hh, if_pos hh, if_pos hh]
    exact hearH id ticket level party state tries retry wait next w0 w hB h hh.1 hid hh.2 hn
  · rw [if_neg hh, if_neg hh, if_neg hh]
    refine (hear_bad id ticket level party state tries retry wait next w h ?_).mono ?_
    · by_cases hp : party = number
      · by_cases hi : id = 0
        · exact .inr hi
        · exact absurd ⟨hp, hi⟩ hh
      · exact .inl hp
    · rintro e w' ⟨rfl, hb⟩
      exact ⟨rfl, (h.below hb).mono (fun k hk => .inl hk), below_then hB hB.size hb, Kept.of_below hb _⟩

theorem refHearG (number : Int) (P : Nat → Prop) (u : Value) (l : List Int) (id ticket level party state tries retry wait next : Int) (w0 w : World) (hB : Below w0.heap.size w0 w) (hR : Kd.R (Kd.int .u64) 23 w w0.heap.size P u l) (hn : l.length < 1000) :
    Calls Try.prog 72 #[.agg #[.int .i64 number, u], NV id ticket level party state tries retry wait next] w fun e w' => ∃ v, e = .returned (.tuple #[.agg #[.int .i64 number, v], .bool (fstOf l number party id), .int .i64 (errOf number party id)]) ∧
      Kd.R (Kd.int .u64) 23 w' w0.heap.size (fun k => P k ∨ w.heap.size ≤ k) v (newL l number party id) ∧ Below w0.heap.size w0 w' ∧ Kept w w' P := by
  refine PPartyPlays.curfewref37_Hear.calls (l.length + 1) number P u l id ticket level party state tries retry wait next number (newL l number party id) (fstOf l number party id) (errOf number party id) w0 w hB hR ?_
  rw [hear_f _ _ _ _ _ _ _ _ _ _ _ _ (by omega) (by omega)]
  unfold fstOf errOf newL
  split <;> rfl

/-- The worlds of 'hear' up to the party's own Hear, told at once. -/
theorem lmid {ok1 ok2 : Nat → Prop} {pb : Nat} {number : Int} {l l' : List Int} {A0 Av : Option Addr} {c0 cv : Nat} {w0 w w1 w2 w3 w4 w5 w6 : World} {g4 g5 g6 g8 : Nat} {nc : Array Value} {q : Nat → Prop}
    (HB : Below w0.heap.size w0 w) (HH : Heard w w0.heap.size (fun k => ok1 k ∧ w0.heap.size ≤ k ∧ k < w.heap.size) pb number l)
    (HR : Kd.R (Kd.int .u64) 23 w w0.heap.size (fun k => ok2 k ∧ w0.heap.size ≤ k ∧ k < w.heap.size ∧ q k) (.slice A0 l.length c0) l) (HD : ∀ k, ok1 k → ¬ ok2 k)
    (E4 : g4 = w.heap.size) (E5 : g5 = w1.heap.size) (E6 : g6 = w2.heap.size) (E8 : g8 = w4.heap.size) (B4 : Below w.heap.size w w1) (B5 : Below w1.heap.size w1 w2) (B6 : Below w2.heap.size w2 w3) (B3 : Below w.heap.size w w3)
    (L5 : g5 < w2.heap.size) (K5 : w3.heap[g5]? = some (.cells nc 31 (0, 0))) (K6 : w3.heap[g6]? = some (.cells #[.int .i64 0, .slice none 0 0] 29 (0, 0)))
    (HO : Kd.R (Kd.int .u64) 23 w4 w0.heap.size (fun k => (ok2 k ∧ w0.heap.size ≤ k ∧ k < w.heap.size ∧ q k) ∨ w3.heap.size ≤ k) (.slice Av l'.length cv) l') (HB4 : Below w0.heap.size w0 w4)
    (HK4 : Kept w3 w4 (fun k => ok2 k ∧ w0.heap.size ≤ k ∧ k < w.heap.size ∧ q k)) (K8 : w5.heap[g8]? = some (.cells #[.int .i64 0, .slice none 0 0] 29 (0, 0))) (B8 : Below w4.heap.size w4 w5)
    (W6 : w6 = (w5.setCell ⟨g8, 0, none⟩ (.int .i64 number)).setCell ⟨g8, 1, none⟩ (.slice Av l'.length cv)) :
    w6.heap[g5]? = some (.cells nc 31 (0, 0)) ∧ w6.heap[g6]? = some (.cells #[.int .i64 0, .slice none 0 0] 29 (0, 0)) ∧ w6.heap[g8]? = some (.cells #[.int .i64 number, .slice Av l'.length cv] 29 (0, 0)) ∧
      Below w0.heap.size w0 w6 ∧ Kept w w6 ok2 ∧ Heard w6 w0.heap.size (fun k => ok1 k ∧ k < w.heap.size) pb number l ∧
      Kd.R (Kd.int .u64) 23 w6 w0.heap.size (fun k => (ok2 k ∧ k < w.heap.size) ∨ (w3.heap.size ≤ k ∧ k < w4.heap.size)) (.slice Av l'.length cv) l' ∧ w.heap.size ≤ w3.heap.size ∧ w4.heap.size ≤ w6.heap.size ∧
      w.heap.size ≤ g5 ∧ w.heap.size ≤ g6 ∧ w.heap.size ≤ g8 ∧ g5 ≠ g6 ∧ g6 ≠ g8 ∧ g5 < w3.heap.size ∧ g6 < w3.heap.size ∧ w3.heap.size ≤ w4.heap.size ∧ g8 < w6.heap.size := by
  have s1 := B4.size; have s2 := B5.size; have s3 := B6.size; have s4 := HK4.1; have s5 := B8.size
  have l5 := blk_lt K5; have l6 := blk_lt K6; have l8 := blk_lt K8
  have hk6 : Kept w5 w6 (fun k => k = g8) := by rw [W6]; exact set2_kept _ _ _ _
  have hz := hk6.1
  have hw5 : w5.heap.size = w6.heap.size := by rw [W6]; simp
  have k35 : Kept w3 w5 (fun k => ok2 k ∧ w0.heap.size ≤ k ∧ k < w.heap.size ∧ q k) := HK4.below B8
  have k36 : Kept w3 w6 (fun k => ok2 k ∧ w0.heap.size ≤ k ∧ k < w.heap.size ∧ q k) := k35.then_ hk6 (fun k hk => .inr (by have hk : k = g8 := hk; omega))
  have g5w : g5 ≥ w.heap.size := by omega
  refine ⟨blk_kept K5 k36 (fun h => by have := h.2.2.1; omega), blk_kept K6 k36 (fun h => by have := h.2.2.1; omega), by rw [W6]; exact set2_blk K8, by rw [W6]; exact set2_below (below_then HB4 HB4.size B8) (by have := HB4.size; omega) _ _, ?_, ?_, ?_, by omega, by omega, by omega, by omega, by omega, by omega, by omega, by omega, by omega, by omega, by omega⟩
  · exact ((Kept.of_below B3 ok2).then_ k36 (fun k hk => .inl hk.1))
  · exact (Heard.kept (HH.below B3) k36 (fun k hk hk2 => HD k hk.1 hk2.1)).mono (fun k hk => ⟨hk.1, hk.2.2⟩)
  · have h4 := Kd.R_bound HO
    exact Kd.R_mono (Kd.R_kept (Kd.R_below h4 B8) hk6 (fun k hk hk8 => by have hk8 : k = g8 := hk8; have := hk.2.2.1; omega)) (fun k hk => hk.1.elim (fun h => .inl ⟨h.1, h.2.2.1⟩) (fun h => .inr ⟨h, hk.2.2.1⟩))

set_option maxHeartbeats 4000000 in
set_option maxRecDepth 100000 in
theorem lhear {ok1 ok2 : Nat → Prop} {pb : Nat} {number : Int} {l : List Int} {u : Value} (id ticket level party state tries retry wait next : Int) (w0 w : World) (hB : Below w0.heap.size w0 w) (h : Heard w w0.heap.size ok1 pb number l) (hR : Kd.R (Kd.int .u64) 23 w w0.heap.size ok2 u l) (hdis : ∀ k, ok1 k → ¬ ok2 k) (hid : U id) (hn : l.length < 900) :
    Calls Try.prog 20 #[.pointer (some ⟨pb, 0, none⟩), .agg #[.int .i64 number, u], NV id ticket level party state tries retry wait next] w fun e w' => ∃ v ok1' ok2', e = .returned (.tuple #[.agg #[.int .i64 number, v], .bool true]) ∧
      Heard w' w0.heap.size ok1' pb number (newL l number party id) ∧ Kd.R (Kd.int .u64) 23 w' w0.heap.size ok2' v (newL l number party id) ∧ (∀ k, ok1' k → ¬ ok2' k) ∧ (∀ k, ok1' k → ok1 k ∨ w.heap.size ≤ k) ∧ (∀ k, ok2' k → ok2 k ∨ w.heap.size ≤ k) ∧ Below w0.heap.size w0 w' ∧ Kept w w' (fun k => ok1 k ∨ ok2 k) := by
  have hu29 := Try.underlying29
  have hu31 := Try.underlying31
  have HB := Aside0.mk hB
  have HH := Aside0.mk h.bound
  have HR := Aside0.mk (Kd.R_bound hR)
  have HD := Aside0.mk hdis
  have HN := Aside0.mk hn
  obtain ⟨A0, c0, eu⟩ := Kd.R_slice hR
  subst eu
  clear hB h hR hdis
  go_enter Try.func20, Try.ntmps20
  go_wp2_with (first
    | ((with_reducible refine gate_dst (N := 4) rfl ?_); refine box_event ?hg (N := 4) ?hd (cs := #[.int .i64 number, .slice A0 l.length c0]) (t := 29) ?hr ?_; (case hd => rfl); (case hg => rfl); (case hr => first | (go_simp; done) | (go_simp; rfl)); intro g4 hg w1 hbox hb; have E4 := Aside0.mk hg; have K4 := Aside0.mk hbox; have B4 := Aside0.mk hb; clear hg hbox hb)
    | ((with_reducible refine gate_dst (N := 5) rfl ?_); refine box_event ?hg (N := 5) ?hd (cs := #[.int .u64 id, .int .u64 ticket, .int .i64 level, .int .i64 party, .int .i64 state, .int .i64 tries, .int .i64 retry, .int .i64 wait, .int .i64 next]) (t := 31) ?hr ?_; (case hd => rfl); (case hg => rfl); (case hr => first | (go_simp; done) | (go_simp; rfl)); intro g5 hg w2 hbox hb; have E5 := Aside0.mk hg; have K5 := Aside0.mk hbox; have B5 := Aside0.mk hb; clear hg hbox hb)
    | ((with_reducible refine gate_dst (N := 6) rfl ?_); refine box_event ?hg (N := 6) ?hd (cs := #[.int .i64 0, .slice none 0 0]) (t := 29) ?hr ?_; (case hd => rfl); (case hg => rfl); (case hr => first | (go_simp; done) | (go_simp; rfl)); intro g6 hg w3 hbox hb; have E6 := Aside0.mk hg; have K6 := Aside0.mk hbox; have B6 := Aside0.mk hb; clear hg hbox hb; have B3 := Aside0.mk ((B4.out.trans (B5.out.mono B4.out.size)).trans (B6.out.mono (Nat.le_trans B4.out.size B5.out.size))); have c40 := (blk_cell (blk_below (blk_below K4.out B5.out) B6.out) 0).trans rfl; have c41 := (blk_cell (blk_below (blk_below K4.out B5.out) B6.out) 1).trans rfl; have K5' := blk_below K5.out B6.out; have c50 := (blk_cell K5' 0).trans rfl; have c51 := (blk_cell K5' 1).trans rfl; have c52 := (blk_cell K5' 2).trans rfl; have c53 := (blk_cell K5' 3).trans rfl; have c54 := (blk_cell K5' 4).trans rfl; have c55 := (blk_cell K5' 5).trans rfl; have c56 := (blk_cell K5' 6).trans rfl; have c57 := (blk_cell K5' 7).trans rfl; have c58 := (blk_cell K5' 8).trans rfl; have KK5 := Aside0.mk K5'; clear K5')
    | (go_at_call 72; refine (refHearG number _ (.slice A0 l.length c0) l id ticket level party state tries retry wait next w0 _ (HB.out.trans (B3.out.mono HB.out.size)) (Kd.R_below HR.out B3.out) (by have := HN.out; omega)).mono ?_; rintro e w4 ⟨v, rfl, ho, hb, hk⟩; have HO := Aside0.mk ho; have HB4 := Aside0.mk hb; have HK4 := Aside0.mk hk; clear ho hb hk c40 c41 c50 c51 c52 c53 c54 c55 c56 c57 c58; obtain ⟨Av, cv, ev⟩ := Kd.R_slice HO.out; subst ev)
    | ((with_reducible refine gate_dst (N := 8) rfl ?_); refine box_event ?hg (N := 8) ?hd (cs := #[.int .i64 0, .slice none 0 0]) (t := 29) ?hr ?_; (case hd => rfl); (case hg => rfl); (case hr => first | (go_simp; done) | (go_simp; rfl)); intro g8 hg w5 hbox hb; have E8 := Aside0.mk hg; have K8 := Aside0.mk hbox; have B8 := Aside0.mk hb; have c80 := (blk_cell hbox 0).trans rfl; have c81 := (blk_cell hbox 1).trans rfl; have z80 := blk_frozen hbox 0; have z81 := blk_frozen hbox 1; clear hg hbox hb)
    | ((with_reducible refine gate_op (Op.store 29 (.tmp 8) (.tmp 17)) rfl ?_); refine skip_event (w1 := (w5.setCell ⟨g8, 0, none⟩ (.int .i64 number)).setCell ⟨g8, 1, none⟩ (.slice Av (newL l number party id).length cv)) rfl rfl ?hr ?_; (case hr => first | (go_simp; done) | (go_simp; rfl)); intro w6 hw6; have W6 := Aside0.mk hw6; clear hw6 c80 c81 z80 z81; have LM := Aside0.mk (lmid HB.out HH.out HR.out HD.out E4.out E5.out E6.out E8.out B4.out B5.out B6.out B3.out (blk_lt K5.out) KK5.out K6.out HO.out HB4.out HK4.out K8.out B8.out W6.out); clear K4 B4 B5 B6 B3 KK5 K6 HO HB4 HK4 K8 B8 W6 HR; have K5 := LM.out.1; have c50 := (blk_cell K5 0).trans rfl; have c51 := (blk_cell K5 1).trans rfl; have c52 := (blk_cell K5 2).trans rfl; have c53 := (blk_cell K5 3).trans rfl; have c54 := (blk_cell K5 4).trans rfl; have c55 := (blk_cell K5 5).trans rfl; have c56 := (blk_cell K5 6).trans rfl; have c57 := (blk_cell K5 7).trans rfl; have c58 := (blk_cell K5 8).trans rfl; clear K5))
  obtain ⟨l1, l2, l3, l4, l5, l6, l7, l8, l9, l10, l11, l12, l13, l14, l15, l16, l17, l18⟩ := LM.out
  have M5 := Aside0.mk l1
  have M6 := Aside0.mk l2
  have M8 := Aside0.mk l3
  have MB := Aside0.mk l4
  have MK := Aside0.mk l5
  have MH := Aside0.mk l6
  have MR := Aside0.mk l7
  have MN : Aside0 (w.heap.size ≤ w3.heap.size ∧ w4.heap.size ≤ w6.heap.size ∧ w.heap.size ≤ g5 ∧ w.heap.size ≤ g6 ∧ w.heap.size ≤ g8 ∧ g5 ≠ g6 ∧ g6 ≠ g8 ∧ w3.heap.size ≤ w4.heap.size ∧ g5 < w6.heap.size ∧ g6 < w3.heap.size ∧ g8 < w6.heap.size) := ⟨by omega⟩
  clear l1 l2 l3 l4 l5 l6 l7 l8 l9 l10 l11 l12 l13 l14 l15 l16 l17 l18 LM
  refine (hearG id ticket level party state tries retry wait next w0 w6 MB.out MH.out hid (by have := HN.out; omega)).mono ?_
  rintro e w7 ⟨rfl, h1, h2, h3⟩
  have NH := Aside0.mk h1
  have NB := Aside0.mk h2
  have NK := Aside0.mk h3
  clear h1 h2 h3 c50 c51 c52 c53 c54 c55 c56 c57 c58
  have NR : Aside0 (Kd.R (Kd.int .u64) 23 w7 w0.heap.size (fun k => (ok2 k ∧ k < w.heap.size) ∨ (w3.heap.size ≤ k ∧ k < w4.heap.size)) (.slice Av (newL l number party id).length cv) (newL l number party id)) := ⟨Kd.R_kept MR.out NK.out (fun k hk hk1 => by
    rcases hk with hk | hk
    · exact HD.out k hk1.1 hk.1
    · have := MN.out; have := hk1.2; omega)⟩
  have K5 : Aside0 (w7.heap[g5]? = _) := ⟨blk_kept M5.out NK.out (fun h => by have := MN.out; have := h.2; omega)⟩
  have K6 : Aside0 (w7.heap[g6]? = _) := ⟨blk_kept M6.out NK.out (fun h => by have := MN.out; have := h.2; omega)⟩
  have K8 : Aside0 (w7.heap[g8]? = _) := ⟨blk_kept M8.out NK.out (fun h => by have := MN.out; have := h.2; omega)⟩
  go_wp2
  refine r20x3 (base1 := w0.heap.size) (ok1 := fun k => (ok1 k ∧ k < w.heap.size) ∨ w6.heap.size ≤ k) pb g8 g5 g6 number id (errOf number party id) (fstOf l number party id) Av cv (newL l number party id) w0.heap.size w7 hid ?hl ?hxr ?hnr ?hbr ?hrb NB.out.size ?hP ?hR rfl rfl rfl rfl rfl rfl rfl rfl rfl ⟨⟨Nat.le_refl _, fun _ _ _ => rfl⟩, ⟨rfl, rfl, rfl, Nat.le_refl _, fun _ _ => rfl⟩, K8.out, (blk_cell K5.out 0).trans rfl, fun _ => K6.out⟩ (fun x55 x57 x34 w8 b hb hG f55 f57 f34 => ?_)
  case hl => have := newL_length l number party id; have := HN.out; omega
  case hxr => exact fun e => MN.out.2.2.2.2.2.2.1 e.symm
  case hnr => exact MN.out.2.2.2.2.2.1
  case hbr => have := MN.out; have := HB.out.size; omega
  case hrb => exact blk_lt K6.out
  case hP => exact fun wz hk => NH.out.kept hk (fun k hk hk6 => by
      have hk6 : k = g6 := hk6
      have := MN.out
      rcases hk with hk | hk
      · have := hk.2; omega
      · omega)
  case hR => exact fun wz hk => Kd.R_reads' (Kd.R_kept NR.out hk (fun k hk hk6 => by
      have hk6 : k = g6 := hk6
      have := MN.out
      have := blk_lt K6.out
      rcases hk with hk | hk
      · have := hk.2; omega
      · omega))
  have HG := Aside0.mk hG
  have F34 := Aside0.mk f34
  clear hG f55 f57 f34 hb
  simp only [putAll, Act.put, List.setIfInBounds_toArray, List.set_cons_zero, List.set_cons_succ]
  go_wp2
  refine bodyPost_ret (results_ct rfl _ _ g6 29 #[.int .i64 number, .slice Av (newL l number party id).length cv] (0, 0) _ rfl F34.out Try.underlying29 rfl (by kernel_rfl)) rfl ?_
  have hlt := blk_lt K6.out
  refine ⟨_, (fun k => (ok1 k ∧ k < w.heap.size) ∨ w6.heap.size ≤ k), (fun k => (ok2 k ∧ k < w.heap.size) ∨ (w3.heap.size ≤ k ∧ k < w4.heap.size)), rfl, NH.out.kept HG.out.1 (fun k hk hk6 => ?_), Kd.R_kept NR.out HG.out.1 (fun k hk hk6 => ?_), fun k hk hk2 => ?_, fun k hk => ?_, fun k hk => ?_, NB.out.trans HG.out.2.1, ?_⟩
  · have hk6 : k = g6 := hk6
    have := MN.out
    rcases hk with hk | hk
    · have := hk.2; omega
    · omega
  · have hk6 : k = g6 := hk6
    have := MN.out
    rcases hk with hk | hk
    · have := hk.2; omega
    · omega
  · have := MN.out
    rcases hk with hk | hk
    · rcases hk2 with hk2 | hk2
      · exact HD.out k hk.1 hk2.1
      · have := hk.2; omega
    · rcases hk2 with hk2 | hk2
      · have := hk2.2; omega
      · omega
  · rcases hk with hk | hk
    · exact .inl hk.1
    · right; have := MN.out; omega
  · rcases hk with hk | hk
    · exact .inl hk.1
    · right; have := MN.out; omega
  · exact ((MK.out.mono (fun k hk => Or.inr hk)).then_ NK.out (fun k hk => .inl (.inl hk.1))).then_ HG.out.1 (fun k hk => .inr (by have hk : k = g6 := hk; have := MN.out; omega))
end Go.Proofs.Ytbjbejjieibldaa.Pa
