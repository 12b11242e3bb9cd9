/- PartyPlays, walked: whatever notices come in, the call answers true and leaves all that was there as it was. -/
import Derived.Test.YtbjbejjieibldaaPg
namespace Go.Proofs.Ytbjbejjieibldaa.Pa
open Go.RowKit Go.Proofs.YtbjbejjieibldaaW.PrintWords Go.Proofs.YtbjbejjieibldaaW.PrintLast Go.Proofs.YtbjbejjieibldaaW.PrintMore Go.Maps Go.Proofs.Ytbjbejjieibldaa.Rg
open Go.Proofs.Ytbjbejjieibldaa.Pl (cnt dedup mostL)
open Go.Proofs.Ytbjbejjieibldaa
set_option linter.unusedVariables false

/-- A notice's nine numbers. -/
structure S31 where
  f0 : Int
  f1 : Int
  f2 : Int
  f3 : Int
  f4 : Int
  f5 : Int
  f6 : Int
  f7 : Int
  f8 : Int
def z31 : S31 := ⟨0, 0, 0, 0, 0, 0, 0, 0, 0⟩
def cells31 (x : S31) : List Value := [.int .u64 x.f0, .int .u64 x.f1, .int .i64 x.f2, .int .i64 x.f3, .int .i64 x.f4, .int .i64 x.f5, .int .i64 x.f6, .int .i64 x.f7, .int .i64 x.f8]
/-- The slice at A of n notices holds xs. -/
def C31 (w : World) (A : Option Addr) (n : Nat) (xs : List S31) : Prop :=
  xs.length = n ∧ (0 < n → ∃ ad, A = some ad ∧ ∀ i, i < n → ∀ (j : Nat) (u : Value), (cells31 (xs.getD i z31))[j]? = some u → w.cell? (ad.add (i * 9 + j)) = some u)
theorem C31.below {w w' : World} {A : Option Addr} {n : Nat} {xs : List S31} (h : C31 w A n xs) (hb : Below w.heap.size w w') : C31 w' A n xs :=
  ⟨h.1, fun hn => by
    obtain ⟨ad, e, hc⟩ := h.2 hn
    exact ⟨ad, e, fun i hi j u hu => pw_cell_below hb (hc i hi j u hu)⟩⟩
theorem C31.at_ {w : World} {A : Option Addr} {n : Nat} {xs : List S31} (h : C31 w A n xs) (i : Nat) (hi : i < n) : ∃ ad, A = some ad ∧
    w.cell? (ad.add (i * 9)) = some (.int .u64 (xs.getD i z31).f0) ∧
    w.cell? ⟨(ad.add (i * 9)).block, (ad.add (i * 9)).off + 1, none⟩ = some (.int .u64 (xs.getD i z31).f1) ∧
    w.cell? ⟨(ad.add (i * 9)).block, (ad.add (i * 9)).off + 2, none⟩ = some (.int .i64 (xs.getD i z31).f2) ∧
    w.cell? ⟨(ad.add (i * 9)).block, (ad.add (i * 9)).off + 3, none⟩ = some (.int .i64 (xs.getD i z31).f3) ∧
    w.cell? ⟨(ad.add (i * 9)).block, (ad.add (i * 9)).off + 4, none⟩ = some (.int .i64 (xs.getD i z31).f4) ∧
    w.cell? ⟨(ad.add (i * 9)).block, (ad.add (i * 9)).off + 5, none⟩ = some (.int .i64 (xs.getD i z31).f5) ∧
    w.cell? ⟨(ad.add (i * 9)).block, (ad.add (i * 9)).off + 6, none⟩ = some (.int .i64 (xs.getD i z31).f6) ∧
    w.cell? ⟨(ad.add (i * 9)).block, (ad.add (i * 9)).off + 7, none⟩ = some (.int .i64 (xs.getD i z31).f7) ∧
    w.cell? ⟨(ad.add (i * 9)).block, (ad.add (i * 9)).off + 8, none⟩ = some (.int .i64 (xs.getD i z31).f8) := by
  obtain ⟨ad, e, hc⟩ := h.2 (by omega)
  have hc := hc i hi
  exact ⟨ad, e, hc 0 _ rfl, by rw [← add_field _ _ 1 (by omega)]; exact hc 1 _ rfl, by rw [← add_field _ _ 2 (by omega)]; exact hc 2 _ rfl, by rw [← add_field _ _ 3 (by omega)]; exact hc 3 _ rfl, by rw [← add_field _ _ 4 (by omega)]; exact hc 4 _ rfl, by rw [← add_field _ _ 5 (by omega)]; exact hc 5 _ rfl, by rw [← add_field _ _ 6 (by omega)]; exact hc 6 _ rfl, by rw [← add_field _ _ 7 (by omega)]; exact hc 7 _ rfl, by rw [← add_field _ _ 8 (by omega)]; exact hc 8 _ rfl⟩

/-- Both ways' states side by side: the party at pb, the document's party in the variable gw. -/
structure PS (W0 w : World) (pb gw : Nat) (number : Int) (u : Value) (l : List Int) (ok1 ok2 : Nat → Prop) : Prop where
  cell : w.heap[gw]? = some (.cells #[.int .i64 number, u] 29 (0, 0))
  heard : Heard w W0.heap.size ok1 pb number l
  row : Kd.R (Kd.int .u64) 23 w W0.heap.size ok2 u l
  apart : ∀ k, ok1 k → ¬ ok2 k
  out1 : ¬ ok1 gw
  out2 : ¬ ok2 gw
  below : Below W0.heap.size W0 w
  base : W0.heap.size ≤ gw

section
variable {W0 w w' : World} {pb gw : Nat} {number : Int} {u : Value} {l : List Int} {ok1 ok2 : Nat → Prop}
theorem PS.kept {S : Nat → Prop} (h : PS W0 w pb gw number u l ok1 ok2) (hk : Kept w w' S) (hb : Below W0.heap.size W0 w') (h1 : ∀ k, ok1 k → ¬ S k) (h2 : ∀ k, ok2 k → ¬ S k) (hg : ¬ S gw) : PS W0 w' pb gw number u l ok1 ok2 :=
  ⟨blk_kept h.cell hk hg, h.heard.kept hk h1, Kd.R_kept h.row hk h2, h.apart, h.out1, h.out2, hb, h.base⟩
theorem PS.later (h : PS W0 w pb gw number u l ok1 ok2) (hb : Below w.heap.size w w') : PS W0 w' pb gw number u l ok1 ok2 :=
  ⟨blk_below h.cell hb, h.heard.below hb, Kd.R_below h.row hb, h.apart, h.out1, h.out2, below_then h.below h.below.size hb, h.base⟩
theorem PS.tight (h : PS W0 w pb gw number u l ok1 ok2) : PS W0 w pb gw number u l (fun k => ok1 k ∧ k < w.heap.size) (fun k => ok2 k ∧ k < w.heap.size) :=
  ⟨h.cell, h.heard.bound.mono (fun k hk => ⟨hk.1, hk.2.2⟩), Kd.R_mono (Kd.R_bound h.row) (fun k hk => ⟨hk.1, hk.2.2.1⟩), fun k h1 h2 => h.apart k h1.1 h2.1, fun h1 => h.out1 h1.1, fun h2 => h.out2 h2.1, h.below, h.base⟩
/-- One notice heard both ways, the variable not yet written. -/
theorem PS.hear (h : PS W0 w pb gw number u l ok1 ok2) (n : S31) (hid : U n.f0) (hn : l.length < 900) :
    Calls Try.prog 20 #[.pointer (some ⟨pb, 0, none⟩), .agg #[.int .i64 number, u], .agg #[.int .u64 n.f0, .int .u64 n.f1, .int .i64 n.f2, .int .i64 n.f3, .int .i64 n.f4, .int .i64 n.f5, .int .i64 n.f6, .int .i64 n.f7, .int .i64 n.f8]] w fun e w' => ∃ v A c, v = .slice A (newL l number n.f3 n.f0).length c ∧ e = .returned (.tuple #[.agg #[.int .i64 number, v], .bool true]) ∧
      w'.heap[gw]? = some (.cells #[.int .i64 number, u] 29 (0, 0)) ∧ Below W0.heap.size W0 w' ∧ w.heap.size ≤ w'.heap.size ∧
      ∃ ok1' ok2', ∀ w'' : World, Kept w' w'' (fun k => k = gw) → Below W0.heap.size W0 w'' → w''.heap[gw]? = some (.cells #[.int .i64 number, v] 29 (0, 0)) → PS W0 w'' pb gw number v (newL l number n.f3 n.f0) ok1' ok2' := by
  have ht := h.tight
  refine (lhear n.f0 n.f1 n.f2 n.f3 n.f4 n.f5 n.f6 n.f7 n.f8 W0 w h.below ht.heard ht.row ht.apart hid hn).mono ?_
  rintro e w' ⟨v, ok1', ok2', rfl, h1, h2, h3, h4, h5, h6, h7⟩
  obtain ⟨A, c, ev⟩ := Kd.R_slice h2
  have hlt := blk_lt h.cell
  have o1 : ¬ ok1' gw := fun hk => (h4 gw hk).elim ht.out1 (fun h => by omega)
  have o2 : ¬ ok2' gw := fun hk => (h5 gw hk).elim ht.out2 (fun h => by omega)
  refine ⟨v, A, c, ev, rfl, blk_kept h.cell h7 (fun hk => hk.elim ht.out1 ht.out2), h6, h7.1, ok1', ok2', fun w'' hk hb hc => ⟨hc, h1.kept hk (fun k hk1 e => o1 (by have e : k = gw := e; exact e ▸ hk1)), Kd.R_kept h2 hk (fun k hk2 e => o2 (by have e : k = gw := e; exact e ▸ hk2)), h3, o1, o2, hb, h.base⟩⟩
end

/-- Behind k notices. -/
def PR (W0 wr : World) (pb gw : Nat) (number : Int) (k : Nat) : Prop := ∃ u l ok1 ok2, PS W0 wr pb gw number u l ok1 ok2 ∧ l.length ≤ k

theorem ps_noted {W0 wr w2 w3 : World} {pb gw g10 : Nat} {number : Int} {u : Value} {l : List Int} {ok1 ok2 : Nat → Prop} {y0 y1 y2 y3 y4 y5 y6 y7 y8 : Value}
    (h : PS W0 wr pb gw number u l (fun k => ok1 k ∧ k < wr.heap.size) (fun k => ok2 k ∧ k < wr.heap.size)) (E : g10 = wr.heap.size) (B : Below wr.heap.size wr w2)
    (W : w3 = ((((((((w2.setCell ⟨g10, 0, none⟩ y0).setCell ⟨g10, 1, none⟩ y1).setCell ⟨g10, 2, none⟩ y2).setCell ⟨g10, 3, none⟩ y3).setCell ⟨g10, 4, none⟩ y4).setCell ⟨g10, 5, none⟩ y5).setCell ⟨g10, 6, none⟩ y6).setCell ⟨g10, 7, none⟩ y7).setCell ⟨g10, 8, none⟩ y8) : PS W0 w3 pb gw number u l (fun k => ok1 k ∧ k < wr.heap.size) (fun k => ok2 k ∧ k < wr.heap.size) := by
  have h2 := h.later B
  have hlt := blk_lt h.cell
  have hge := h.below.size
  have hk : Kept w2 w3 (fun k => k = g10) := by rw [W]; exact set9_kept _ _ _ _ _ _ _ _ _ _ _
  refine h2.kept hk ?_ (fun k hk1 e => ?_) (fun k hk2 e => ?_) (fun e => ?_)
  · rw [W]
    exact set9_below h2.below (by omega) _ _ _ _ _ _ _ _ _
  · have e : k = g10 := e
    have := hk1.2
    omega
  · have e : k = g10 := e
    have := hk2.2
    omega
  · have e : gw = g10 := e
    omega
theorem ps_stored {W0 w4 w5 w6 w7 : World} {pb gw g11 : Nat} {number : Int} {v : Value} {l' : List Int} {ok1' ok2' : Nat → Prop} {x0 x1 : Value}
    (H : ∀ w'' : World, Kept w4 w'' (fun k => k = gw) → Below W0.heap.size W0 w'' → w''.heap[gw]? = some (.cells #[.int .i64 number, v] 29 (0, 0)) → PS W0 w'' pb gw number v l' ok1' ok2')
    (B4 : Below W0.heap.size W0 w4) (E : g11 = w4.heap.size) (B : Below w4.heap.size w4 w5) (W6 : w6 = (w5.setCell ⟨g11, 0, none⟩ (.int .i64 number)).setCell ⟨g11, 1, none⟩ v)
    (G6 : w6.heap[gw]? = some (.cells #[x0, x1] 29 (0, 0))) (W7 : w7 = (w6.setCell ⟨gw, 0, none⟩ (.int .i64 number)).setCell ⟨gw, 1, none⟩ v) (hbase : W0.heap.size ≤ gw) : PS W0 w7 pb gw number v l' ok1' ok2' := by
  have h56 : Kept w5 w6 (fun k => k = g11) := by rw [W6]; exact set2_kept _ _ _ _
  have h67 : Kept w6 w7 (fun k => k = gw) := by rw [W7]; exact set2_kept _ _ _ _
  have hs := B4.size
  refine H w7 (((Kept.of_below B (fun k => k = gw)).then_ h56 (fun k hk => .inr (by have hk : k = g11 := hk; omega))).then_ h67 (fun k hk => .inl hk)) ?_ (by rw [W7]; exact set2_blk G6)
  rw [W7]
  refine set2_below ?_ hbase _ _
  rw [W6]
  exact set2_below (below_then B4 hs B) (by omega) _ _

set_option maxHeartbeats 4000000 in
set_option maxRecDepth 100000 in
theorem plays_walk (number id : Int) (A : Option Addr) (n c : Nat) (xs : List S31) (w : World) (hC : C31 w A n xs) (hU : ∀ x ∈ xs, U x.f0) (hid : U id) (h63 : n ≤ 9223372036854775807) :
    Calls Try.prog 3 #[.int .i64 number, .slice A n c, .int .u64 id] w fun e w' => e = .returned (.bool true) ∧ Below w.heap.size w w' := by
  by_cases hnum : number < 0 ∨ 7 < number
  · have HN := Aside0.mk hnum
    rcases hnum with hnum | hnum
    · have d0 : decide (number < 0) = true := by simp; omega
      clear hnum
      go_enter Try.func3, Try.ntmps3
      go_wp2_with (first
        | (go_at_call 18; refine (new_nil number HN.out _).mono ?_; rintro e w' ⟨rfl, rfl⟩)
        | (go_at_call 19; refine (lives_calls _).mono ?_; rintro e w' ⟨rfl, hb⟩; have HB := Aside0.mk hb; clear hb))
      go_ret
      exact ⟨rfl, HB.out⟩
    · have d0 : decide (number < 0) = false := by simp; omega
      have d1 : decide (7 < number) = true := by simp; omega
      clear hnum
      go_enter Try.func3, Try.ntmps3
      go_wp2_with (first
        | (go_at_call 18; refine (new_nil number HN.out _).mono ?_; rintro e w' ⟨rfl, rfl⟩)
        | (go_at_call 19; refine (lives_calls _).mono ?_; rintro e w' ⟨rfl, hb⟩; have HB := Aside0.mk hb; clear hb))
      go_ret
      exact ⟨rfl, HB.out⟩
  · have hn0 : 0 ≤ number := by omega
    have hn7 : number ≤ 7 := by omega
    have d0 : decide (number < 0) = false := by simp; omega
    have d1 : decide (7 < number) = false := by simp; omega
    clear hnum
    have HC := Aside0.mk hC
    have HU := Aside0.mk hU
    have hu29 := Try.underlying29
    have hu31 := Try.underlying31
    clear hC hU
    by_cases hlen : 60 < n
    · have d2 : decide (60 < (n : Int)) = true := by simp; omega
      go_enter Try.func3, Try.ntmps3
      go_wp2_with (first
        | (go_at_call 18; refine (newH number hn0 hn7 w _ (Below.refl _ _)).mono ?_; rintro e w1 ⟨pb, rfl, hp, hb, _⟩; have HP := Aside0.mk hp; have HB := Aside0.mk hb; clear hp hb)
        | (go_at_call 19; refine (lives_calls _).mono ?_; rintro e w' ⟨rfl, hb⟩; have HB2 := Aside0.mk (below_then HB.out HB.out.size hb); clear hb))
      go_ret
      exact ⟨rfl, HB2.out⟩
    · have d2 : decide (60 < (n : Int)) = false := by simp; omega
      go_enter Try.func3, Try.ntmps3
      go_wp2_with (first
        | (go_at_call 18; refine (newH number hn0 hn7 w _ (Below.refl _ _)).mono ?_; rintro e w1 ⟨pb, rfl, hp, hb, _⟩; have HP := Aside0.mk hp; have HB := Aside0.mk hb; clear hp hb))
      have HPR : Aside0 (PR w (w1.alloc (.cells #[.int .i64 number, .slice none 0 0] 29)) pb w1.heap.size number 0) := ⟨_, [], (fun k => w.heap.size ≤ k ∧ k < w1.heap.size), (fun _ => False), ⟨blk_new _ _, (HP.out.bound.mono (fun k hk => hk.2)).below (below_alloc (Below.refl _ _) _), Kd.R_nil _ _ _ _ _, fun _ _ h => h, fun h => by omega, fun h => h, HB.out.alloc HB.out.size _, HB.out.size⟩, Nat.le_refl _⟩
      have HGW : Aside0 (w1.heap.size < (w1.alloc (.cells #[.int .i64 number, .slice none 0 0] 29)).heap.size) := ⟨by simp⟩
      clear HP HB
      go_loopw [36] (fun i wr => ∃ k : Nat, k ≤ n ∧ i = .int .i64 k ∧ Aside0 (PR w wr pb w1.heap.size number k)) (fun i _ => n - (intOf i).toNat)
      case atStart => exact ⟨0, Nat.zero_le _, rfl, HPR⟩
      case round =>
        clear HPR HGW
        obtain ⟨k, hk, rfl, HPR⟩ := hrel
        by_cases hlt : k < n
        · obtain ⟨u, l, ok1, ok2, hps, hl⟩ := HPR.out
          have HL := Aside0.mk hl
          have HS := Aside0.mk hps.tight
          obtain ⟨Au, cu, eu⟩ := Kd.R_slice hps.row
          subst eu
          obtain ⟨ad, ea, x0, x1, x2, x3, x4, x5, x6, x7, x8⟩ := (HC.out.below hps.below).at_ k hlt
          cases ea
          have hNu : U (xs.getD k z31).f0 := HU.out _ (by
            have hl := HC.out.1
            rw [List.getD_eq_getElem?_getD, List.getElem?_eq_getElem (by omega)]
            exact List.getElem_mem _)
          generalize xs.getD k z31 = N at x0 x1 x2 x3 x4 x5 x6 x7 x8 hNu
          clear hps hl HPR
          go_wp2_with (first
            | ((with_reducible refine gate_dst (N := 10) rfl ?_); refine box_event ?hg (N := 10) ?hd (cs := #[.int .u64 0, .int .u64 0, .int .i64 0, .int .i64 0, .int .i64 0, .int .i64 0, .int .i64 0, .int .i64 0, .int .i64 0]) (t := 31) ?hr ?_; (case hd => rfl); (case hg => rfl); (case hr => first | (go_simp; done) | (go_simp; rfl)); intro g10 hg w2 hbox hb; have E10 := Aside0.mk hg; have K10 := Aside0.mk hbox; have B10 := Aside0.mk hb; clear hg hbox hb x0 x1 x2 x3 x4 x5 x6 x7 x8; have c0 := (blk_cell K10.out 0).trans rfl; have z0 := blk_frozen K10.out 0; have c1 := (blk_cell K10.out 1).trans rfl; have z1 := blk_frozen K10.out 1; have c2 := (blk_cell K10.out 2).trans rfl; have z2 := blk_frozen K10.out 2; have c3 := (blk_cell K10.out 3).trans rfl; have z3 := blk_frozen K10.out 3; have c4 := (blk_cell K10.out 4).trans rfl; have z4 := blk_frozen K10.out 4; have c5 := (blk_cell K10.out 5).trans rfl; have z5 := blk_frozen K10.out 5; have c6 := (blk_cell K10.out 6).trans rfl; have z6 := blk_frozen K10.out 6; have c7 := (blk_cell K10.out 7).trans rfl; have z7 := blk_frozen K10.out 7; have c8 := (blk_cell K10.out 8).trans rfl; have z8 := blk_frozen K10.out 8)
            | ((with_reducible refine gate_op (Op.store 31 (.tmp 10) (.tmp 39)) rfl ?_); refine skip_event (w1 := ((((((((w2.setCell ⟨g10, 0, none⟩ (.int .u64 N.f0)).setCell ⟨g10, 1, none⟩ (.int .u64 N.f1)).setCell ⟨g10, 2, none⟩ (.int .i64 N.f2)).setCell ⟨g10, 3, none⟩ (.int .i64 N.f3)).setCell ⟨g10, 4, none⟩ (.int .i64 N.f4)).setCell ⟨g10, 5, none⟩ (.int .i64 N.f5)).setCell ⟨g10, 6, none⟩ (.int .i64 N.f6)).setCell ⟨g10, 7, none⟩ (.int .i64 N.f7)).setCell ⟨g10, 8, none⟩ (.int .i64 N.f8)) rfl rfl ?hr ?_; (case hr => first | (go_simp; done) | (go_simp; rfl)); intro w3 hw3; have HS3 := Aside0.mk (ps_noted HS.out E10.out B10.out hw3); have K3 := Aside0.mk (set9_at K10.out hw3); clear hw3 c0 z0 c1 z1 c2 z2 c3 z3 c4 z4 c5 z5 c6 z6 c7 z7 c8 z8; have p0 := (blk_cell HS3.out.cell 0).trans rfl; have p1 := (blk_cell HS3.out.cell 1).trans rfl; have c0 := (blk_cell K3.out 0).trans rfl; have c1 := (blk_cell K3.out 1).trans rfl; have c2 := (blk_cell K3.out 2).trans rfl; have c3 := (blk_cell K3.out 3).trans rfl; have c4 := (blk_cell K3.out 4).trans rfl; have c5 := (blk_cell K3.out 5).trans rfl; have c6 := (blk_cell K3.out 6).trans rfl; have c7 := (blk_cell K3.out 7).trans rfl; have c8 := (blk_cell K3.out 8).trans rfl; clear K10 E10 B10 HS)
            | (go_at_call 20; refine (HS3.out.hear N hNu (by have := HL.out; omega)).mono ?_; rintro e w4 ⟨v, Av, cv, ev, rfl, hc, hb, hz, ok1', ok2', hps⟩; subst ev; have K4 := Aside0.mk hc; have B4 := Aside0.mk hb; have Z4 := Aside0.mk hz; have HP4 := Aside0.mk hps; clear hc hb hz hps c0 c1 c2 c3 c4 c5 c6 c7 c8 p0 p1)
            | ((with_reducible refine gate_dst (N := 11) rfl ?_); refine box_event ?hg (N := 11) ?hd (cs := #[.int .i64 0, .slice none 0 0]) (t := 29) ?hr ?_; (case hd => rfl); (case hg => rfl); (case hr => first | (go_simp; done) | (go_simp; rfl)); intro g11 hg w5 hbox hb; have E11 := Aside0.mk hg; have K11 := Aside0.mk hbox; have B11 := Aside0.mk hb; have c0 := (blk_cell hbox 0).trans rfl; have c1 := (blk_cell hbox 1).trans rfl; have z0 := blk_frozen hbox 0; have z1 := blk_frozen hbox 1; clear hg hbox hb)
            | ((with_reducible refine gate_op (Op.store 29 (.tmp 11) (.tmp 45)) rfl ?_); refine skip_event (w1 := (w5.setCell ⟨g11, 0, none⟩ (.int .i64 number)).setCell ⟨g11, 1, none⟩ (.slice Av (newL l number N.f3 N.f0).length cv)) rfl rfl ?hr ?_; (case hr => first | (go_simp; done) | (go_simp; rfl)); intro w6 hw6; have W6 := Aside0.mk hw6; have K6 := Aside0.mk (set2_at K11.out hw6); have G6 := Aside0.mk (set2_far (blk_below K4.out B11.out) (by have := blk_lt K4.out; have := E11.out; omega) hw6); clear hw6 c0 c1 z0 z1; have c0 := (blk_cell K6.out 0).trans rfl; have c1 := (blk_cell K6.out 1).trans rfl; have p0 := (blk_cell G6.out 0).trans rfl; have p1 := (blk_cell G6.out 1).trans rfl; have z0 := blk_frozen G6.out 0; have z1 := blk_frozen G6.out 1)
            | ((with_reducible refine gate_op (Op.store 29 (.tmp 8) (.tmp 47)) rfl ?_); refine skip_event (w1 := (w6.setCell ⟨w1.heap.size, 0, none⟩ (.int .i64 number)).setCell ⟨w1.heap.size, 1, none⟩ (.slice Av (newL l number N.f3 N.f0).length cv)) rfl rfl ?hr ?_; (case hr => first | (go_simp; done) | (go_simp; rfl)); intro w7 hw7; have HS7 := Aside0.mk (ps_stored HP4.out B4.out E11.out B11.out W6.out G6.out hw7 HS3.out.base); clear hw7 c0 c1 p0 p1 z0 z1 K4 B4 Z4 HP4 E11 K11 B11 W6 K6 G6 HS3 K3))
          have HZ := Aside0.mk (newL_length l number N.f3 N.f0)
          refine r3x14 (base1 := w.heap.size) (ok1 := ok1') pb w1.heap.size number id Av cv (newL l number N.f3 N.f0) w.heap.size w7 hid ?hl HS7.out.below.size ?hP ?hR rfl rfl rfl rfl rfl ⟨⟨rfl, rfl, rfl, Nat.le_refl _, fun _ _ => rfl⟩, ⟨rfl, rfl, rfl, Nat.le_refl _, fun _ _ => rfl⟩, trivial, HS7.out.cell⟩ (fun w8 b hb hG => ?_)
          case hl => have := HZ.out; have := HL.out; omega
          case hP => exact fun wz hk => HS7.out.heard.below hk
          case hR => exact fun wz hk => Kd.R_reads' (Kd.R_below HS7.out.row hk)
          have HP8 : Aside0 (PR w w8 pb w1.heap.size number (k + 1)) := ⟨_, _, ok1', ok2', HS7.out.later hG.1, by have := HZ.out; have := HL.out; omega⟩
          clear hG hb
          simp only [putAll, Act.put, List.setIfInBounds_toArray, List.set_cons_zero, List.set_cons_succ]
          go_wp2
          go_roundw
          case rel => exact ⟨k + 1, by omega, by go_num, HP8⟩
          case measure => simp [intOf]; omega
        · have HB : Aside0 (Below w.heap.size w wr) := ⟨by
            obtain ⟨_, _, _, _, hps, _⟩ := HPR.out
            exact hps.below⟩
          clear HPR
          go_wp2_with (go_at_call 19; refine (lives_calls _).mono ?_; rintro e w' ⟨rfl, hb⟩; have HB2 := Aside0.mk (below_then HB.out HB.out.size hb); clear hb)
          go_ret
          exact ⟨rfl, HB2.out⟩
end Go.Proofs.Ytbjbejjieibldaa.Pa
