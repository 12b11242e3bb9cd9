/- PartyOnce, walked: whatever numbers come in, the call answers true and leaves all that was there as it was. -/
import Derived.Test.YtbjbejjieibldaaPd
namespace Go.Proofs.Ytbjbejjieibldaa.Pa
open Go.RowKit Go.Proofs.YtbjbejjieibldaaW.PrintWords Go.Proofs.YtbjbejjieibldaaW.PrintLast Go.Proofs.YtbjbejjieibldaaW.PrintMore Go.Maps Go.Proofs.Ytbjbejjieibldaa.Rg
open Go.Proofs.Ytbjbejjieibldaa.Pl (cnt dedup mostL same_f times_f cnt_zero_iff mem_dedup dedup_step dedup_snoc snoc_ind take_rd dedup_length cnt_snoc cnt_pos)
open Go.Proofs.Ytbjbejjieibldaa
set_option linter.unusedVariables false

/-- The numbers that a party may hear. -/
def nz (l : List Int) : List Int := l.filter (fun x => !(x == 0))
theorem nz_length (l : List Int) : (nz l).length ≤ l.length := List.length_filter_le _ _
theorem nz_take (xs : List Int) (k : Nat) (h : k < xs.length) : nz (xs.take (k + 1)) = if rd xs (k : Int) = 0 then nz (xs.take k) else nz (xs.take k) ++ [rd xs (k : Int)] := by
  unfold nz
  rw [take_rd xs k h, List.filter_append]
  by_cases h0 : rd xs (k : Int) = 0 <;> simp [h0]
theorem dedup_nodup : ∀ l, (dedup l).Nodup := by
  refine snoc_ind (by simp [dedup]) (fun l x ih => ?_)
  rw [dedup_snoc]
  split
  · exact ih
  · rename_i h
    rw [List.nodup_append]
    exact ⟨ih, by simp, fun a ha b hb => by
      rw [List.mem_singleton] at hb
      intro e
      exact h (hb ▸ e ▸ ha)⟩
theorem cnt_nodup (y : Int) : ∀ l : List Int, l.Nodup → y ∈ l → cnt l y = 1 := by
  intro l hn hy
  unfold cnt
  have h1 : (l.filter fun x => x == y).length = l.count y := by rw [List.count_eq_countP, List.countP_eq_length_filter]
  rw [h1]
  have h2 : l.count y ≤ 1 := List.nodup_iff_count.1 hn y
  have h3 : 0 < l.count y := List.count_pos_iff.2 hy
  omega
theorem cnt_once (xs : List Int) (y : Int) (hy : y ∈ xs) (h0 : y ≠ 0) : cnt (dedup (nz xs)) y = 1 :=
  cnt_nodup y _ (dedup_nodup _) ((mem_dedup _ _).2 (List.mem_filter.2 ⟨hy, by simpa using h0⟩))
theorem nodup_rd {D : List Int} (h : D.Nodup) (j k : Nat) (hj : j < k) (hk : k < D.length) : rd D (j : Int) ≠ rd D (k : Int) := by
  rw [Pl.rd_nat, Pl.rd_nat, List.getD_eq_getElem?_getD, List.getD_eq_getElem?_getD, List.getElem?_eq_getElem (by omega), List.getElem?_eq_getElem hk]
  simp only [Option.getD_some]
  intro e
  have := (List.getElem_inj h).1 e
  omega

/-- Behind some numbers: what the party heard, and what the caller noted. -/
structure OS (W0 w : World) (pb : Nat) (v : Value) (l : List Int) (ok1 ok2 : Nat → Prop) : Prop where
  heard : Heard w W0.heap.size ok1 pb 0 l
  row : Kd.R (Kd.int .u64) 23 w W0.heap.size ok2 v (dedup l)
  apart : ∀ k, ok1 k → ¬ ok2 k
  below : Below W0.heap.size W0 w
  b1 : ∀ k, ok1 k → k < w.heap.size
  b2 : ∀ k, ok2 k → k < w.heap.size
theorem OS.later {W0 w w' : World} {pb : Nat} {v : Value} {l : List Int} {ok1 ok2 : Nat → Prop} (h : OS W0 w pb v l ok1 ok2) (hb : Below w.heap.size w w') : OS W0 w' pb v l ok1 ok2 :=
  ⟨h.heard.below hb, Kd.R_below h.row hb, h.apart, below_then h.below h.below.size hb, fun k hk => Nat.lt_of_lt_of_le (h.b1 k hk) hb.size, fun k hk => Nat.lt_of_lt_of_le (h.b2 k hk) hb.size⟩
def OP (W0 w : World) (pb : Nat) (v : Value) (l : List Int) : Prop := ∃ ok1 ok2, OS W0 w pb v l ok1 ok2
/-- One number heard, before the caller notes it. -/
def OM (W0 w : World) (pb : Nat) (v : Value) (l l' : List Int) : Prop := ∃ ok1 ok2 : Nat → Prop, Heard w W0.heap.size ok1 pb 0 l' ∧ Kd.R (Kd.int .u64) 23 w W0.heap.size ok2 v (dedup l) ∧ (∀ k, ok1 k → ¬ ok2 k) ∧ Below W0.heap.size W0 w ∧ (∀ k, ok1 k → k < w.heap.size) ∧ (∀ k, ok2 k → k < w.heap.size)
theorem OP.hear {W0 w : World} {pb : Nat} {v : Value} {l : List Int} (h : OP W0 w pb v l) (id : Int) (hid : U id) (h0 : id ≠ 0) (hn : l.length < 1000) :
    Calls Try.prog 23 #[.pointer (some ⟨pb, 0, none⟩), NV id 0 0 0 0 0 0 0 0] w fun e w' => e = .returned (.tuple #[.bool (cnt l id == 0), .int .i64 0]) ∧ OM W0 w' pb v l (l ++ [id]) := by
  obtain ⟨ok1, ok2, h⟩ := h
  refine (hearH id 0 0 0 0 0 0 0 0 W0 w h.below h.heard rfl hid h0 hn).mono ?_
  rintro e w' ⟨rfl, h1, h2, h3⟩
  exact ⟨rfl, fun k => (ok1 k ∨ w.heap.size ≤ k) ∧ W0.heap.size ≤ k ∧ k < w'.heap.size, fun k => ok2 k, h1.bound, Kd.R_kept h.row h3 (fun k hk hk1 => h.apart k hk1 hk), fun k hk hk2 => hk.1.elim (fun h1 => h.apart k h1 hk2) (fun h1 => by have := h.b2 k hk2; omega), h2, fun k hk => hk.2.2, fun k hk => Nat.lt_of_lt_of_le (h.b2 k hk) h3.1⟩
theorem OP.bad {W0 w : World} {pb : Nat} {v : Value} {l : List Int} (h : OP W0 w pb v l) :
    Calls Try.prog 23 #[.pointer (some ⟨pb, 0, none⟩), NV 0 0 0 0 0 0 0 0 0] w fun e w' => e = .returned (.tuple #[.bool false, .int .i64 2]) ∧ OP W0 w' pb v l := by
  obtain ⟨ok1, ok2, h⟩ := h
  refine (hear_bad 0 0 0 0 0 0 0 0 0 w h.heard (.inr rfl)).mono ?_
  rintro e w' ⟨rfl, hb⟩
  exact ⟨rfl, ok1, ok2, h.later hb⟩
theorem OM.old {W0 w : World} {pb : Nat} {v : Value} {l : List Int} {id : Int} (h : OM W0 w pb v l (l ++ [id])) (h0 : cnt l id ≠ 0) : OP W0 w pb v (l ++ [id]) := by
  obtain ⟨ok1, ok2, h1, h2, h3, h4, h5, h6⟩ := h
  refine ⟨ok1, ok2, h1, ?_, h3, h4, h5, h6⟩
  rw [← dedup_step, if_neg h0]
  exact h2
/-- Behind the append. -/
theorem OM.noted {W0 w w' : World} {pb : Nat} {v v' : Value} {l : List Int} {id : Int} {ok1 ok2 : Nat → Prop}
    (h1 : Heard w W0.heap.size ok1 pb 0 (l ++ [id])) (h3 : ∀ k, ok1 k → ¬ ok2 k) (h5 : ∀ k, ok1 k → k < w.heap.size) (hv : ∀ k, v.ownBlock = some k → ok2 k)
    (hR : Kd.R (Kd.int .u64) 23 w' W0.heap.size (fun k => ok2 k ∨ w.heap.size ≤ k) v' (dedup l ++ [id])) (hb : Below W0.heap.size W0 w') (hg : w.grownBy w' v.ownBlock) (h0 : cnt l id = 0) : OP W0 w' pb v' (l ++ [id]) := by
  have hk : Kept w w' ok2 := Kept.of_grown hg (Kept.refl w ok2) (fun k e => .inl (hv k e))
  refine ⟨ok1, fun k => (ok2 k ∨ w.heap.size ≤ k) ∧ k < w'.heap.size, h1.kept hk h3, ?_, fun k hk1 hk2 => ?_, hb, fun k hk1 => Nat.lt_of_lt_of_le (h5 k hk1) hk.1, fun k hk => hk.2⟩
  · rw [← dedup_step, if_pos h0]
    exact Kd.R_mono (Kd.R_bound hR) (fun k hk => ⟨hk.1, hk.2.2.1⟩)
  · rcases hk2.1 with hk2 | hk2
    · exact h3 k hk1 hk2
    · have := h5 k hk1; omega

set_option maxHeartbeats 4000000 in
set_option maxRecDepth 100000 in
theorem once_walk (A : Option Addr) (c : Nat) (xs : List Int) (w : World) (hC : Kd.C (Kd.int .u64) w A xs.length xs) (hc : xs.length ≤ c) (hU : ∀ x ∈ xs, U x) (h63 : xs.length ≤ 9223372036854775807) :
    Calls Try.prog 4 #[.slice A xs.length c] w fun e w' => e = .returned (.bool true) ∧ Below w.heap.size w w' := by
  have HC := Aside0.mk hC
  have HU := Aside0.mk hU
  have hu31 := Try.underlying31
  clear hC hU hc
  by_cases hlen : 60 < xs.length
  · have d2 : decide (60 < (xs.length : Int)) = true := by simp; omega
    go_enter Try.func4, Try.ntmps4
    go_wp2_with (go_at_call 19; refine (lives_calls _).mono ?_; rintro e w' ⟨rfl, hb⟩; have HB2 := Aside0.mk hb; clear hb)
    go_ret
    exact ⟨rfl, HB2.out⟩
  · have d2 : decide (60 < (xs.length : Int)) = false := by simp; omega
    go_enter Try.func4, Try.ntmps4
    go_wp2_with (go_at_call 18; refine (newH 0 (by omega) (by omega) w _ (Below.refl _ _)).mono ?_; rintro e w1 ⟨pb, rfl, hp, hb, _⟩; have HP := Aside0.mk hp; have HB := Aside0.mk hb; clear hp hb)
    have HOP : Aside0 (OP w w1 pb (.slice none 0 0) (nz (xs.take 0))) := ⟨fun k => w.heap.size ≤ k ∧ k < w1.heap.size, fun _ => False, HP.out.bound.mono (fun k hk => hk.2), Kd.R_nil _ _ _ _ _, fun _ _ h => h, HB.out, fun k hk => hk.2, fun k hk => hk.elim⟩
    clear HP HB
    go_loopw [4, 22] (fun v i wr => ∃ (k : Nat) (Av : Option Addr) (cv : Nat), k ≤ xs.length ∧ i = .int .i64 k ∧ v = .slice Av (dedup (nz (xs.take k))).length cv ∧ Aside0 (OP w wr pb (.slice Av (dedup (nz (xs.take k))).length cv) (nz (xs.take k)))) (fun _ i _ => xs.length - (intOf i).toNat)
    case atStart => exact ⟨0, none, 0, Nat.zero_le _, rfl, rfl, HOP⟩
    case round =>
      clear HOP
      obtain ⟨k, Av, cv, hk, rfl, rfl, HOP⟩ := hrel
      by_cases hlt : k < xs.length
      · obtain ⟨ad, ea, hx⟩ := Kd.at_int (Kd.C_below HC.out (by obtain ⟨_, _, h⟩ := HOP.out; exact h.below : Below w.heap.size w wr)) (k : Int) (by omega) (by omega)
        cases ea
        simp only [Int.toNat_natCast] at hx
        have hid : U (rd xs (k : Int)) := HU.out _ (by rw [Pl.rd_nat, List.getD_eq_getElem?_getD, List.getElem?_eq_getElem hlt]; exact List.getElem_mem _)
        have HT := Aside0.mk (nz_take xs k hlt)
        have HL : Aside0 ((nz (xs.take k)).length < 1000) := ⟨by have := nz_length (xs.take k); have := List.length_take_le k xs; omega⟩
        generalize rd xs (k : Int) = y at hx hid HT
        generalize nz (xs.take k) = l at HT HOP HL
        by_cases h0 : y = 0
        · subst h0
          rw [if_pos rfl] at HT
          go_wp2_with (go_at_call 23; refine (HOP.out.bad).mono ?_; rintro e w2 ⟨rfl, h1⟩; have HOP2 := Aside0.mk h1; clear h1)
          go_roundw
          case rel => exact ⟨k + 1, Av, cv, by omega, by go_num, by rw [HT.out], ⟨by rw [HT.out]; exact HOP2.out⟩⟩
          case measure => simp [intOf]; omega
        · rw [if_neg h0] at HT
          have b0 : (y == 0) = false := by simpa using h0
          have b1 : (y != 0) = true := by simpa using h0
          by_cases hc : cnt l y = 0
          · have b2 : (cnt l y == 0) = true := by simpa using hc
            go_wp2_with (first
              | (go_at_call 23; refine (HOP.out.hear y hid h0 HL.out).mono ?_; rw [b2]; rintro e w2 ⟨rfl, h1⟩; obtain ⟨ok1, ok2, h1, h2, h3, h4, h5, h6⟩ := h1; have M1 := Aside0.mk h1; have M2 := Aside0.mk h2; have M3 := Aside0.mk h3; have M4 := Aside0.mk h4; have M5 := Aside0.mk h5; have M6 := Aside0.mk h6; clear h1 h2 h3 h4 h5 h6)
              | ((with_reducible refine gate_builtin (b := .append) (xs := #[.tmp 39, .tmp 41]) rfl ?_); at_builtin; refine Kd.R_append (Kd.int .u64) (w0 := w) w.heap.size rfl (.tmp 39) (.tmp 41) 27 23 (.int .u64 0) 8 rfl Try.underlying27 info23 rfl (by decide) (by omega) (.slice Av (dedup l).length cv) (dedup l) y [.int .u64 y] (fun k => ok2 k ∨ w2.heap.size ≤ k) (fun _ => False) rfl rfl ?aP (fun _ hk => hk.elim) ?aF ?aO ?aB ?aS ?aL ?_; (case aP => exact rfl); (case aF => exact fun k hk => .inr hk); (case aO => exact Kd.R_mono M2.out (fun k hk => .inl hk)); (case aB => exact M4.out); (case aS => exact M4.out.size); (case aL => have := dedup_length l; have := HL.out; omega); intro v3 w3 ho hb hg hat; have HOP3 := Aside0.mk (OM.noted M1.out M3.out M5.out M2.out.1 ho hb hg hc); obtain ⟨A3, c3, e3⟩ : ∃ Av cv, v3 = .slice Av (dedup (l ++ [y])).length cv := (by obtain ⟨_, _, h⟩ := HOP3.out; exact Kd.R_slice h.row); subst e3; clear ho hb hg hat))
            go_roundw
            case rel => exact ⟨k + 1, A3, c3, by omega, by go_num, by rw [HT.out], ⟨by rw [HT.out]; exact HOP3.out⟩⟩
            case measure => simp [intOf]; omega
          · have b2 : (cnt l y == 0) = false := by simpa using hc
            go_wp2_with (go_at_call 23; refine (HOP.out.hear y hid h0 HL.out).mono ?_; rw [b2]; rintro e w2 ⟨rfl, h1⟩; have HOP2 := Aside0.mk (h1.old hc); clear h1)
            go_roundw
            case rel =>
              have hd : dedup (l ++ [y]) = dedup l := by rw [← dedup_step, if_neg hc]
              exact ⟨k + 1, Av, cv, by omega, by go_num, by rw [HT.out, hd], ⟨by rw [HT.out, hd]; exact HOP2.out⟩⟩
            case measure => simp [intOf]; omega
      · obtain rfl : k = xs.length := by omega
        rw [List.take_length] at HOP ⊢
        have hdl : (dedup (nz xs)).length ≤ 60 := by have := dedup_length (nz xs); have := nz_length xs; omega
        have HD1 := Aside0.mk (fun y => cnt_once xs y)
        have HD2 := Aside0.mk (dedup_nodup (nz xs))
        have HSR : Aside0 (Kd.R (Kd.int .u64) 23 wr w.heap.size (fun _ => True) (.slice Av (dedup (nz xs)).length cv) (dedup (nz xs))) := ⟨by
          obtain ⟨_, _, h⟩ := HOP.out
          exact Kd.R_mono h.row (fun _ _ => trivial)⟩
        have HB : Aside0 (Below w.heap.size w wr) := ⟨by
          obtain ⟨_, _, h⟩ := HOP.out
          exact h.below⟩
        obtain ⟨ok, hP⟩ : ∃ ok, Heard wr w.heap.size ok pb 0 (nz xs) := by
          obtain ⟨ok, _, h⟩ := HOP.out
          exact ⟨ok, h.heard⟩
        have HP := Aside0.mk hP
        clear hP HOP
        have hDe : ∃ D, D = dedup (nz xs) := ⟨_, rfl⟩
        obtain ⟨D, hDe⟩ := hDe
        rw [← hDe] at HD1 HD2 HSR hdl ⊢
        have HDe := Aside0.mk hDe
        clear hDe
        have hcv := (Kd.R_reads' HSR.out).2.1
        go_wp2_with (first
          | (go_at_call 25; refine (did_calls _ HP.out).mono ?_; rw [← HDe.out]; rintro e w3 ⟨v3, rfl, ho, hb⟩; have HO3 := Aside0.mk ho; have HS3 := Aside0.mk (Kd.R_below HSR.out hb); have HB3 := Aside0.mk (below_then HB.out HB.out.size hb); clear ho hb; obtain ⟨A3, c3, hv, hc, hr⟩ := Kd.R_reads HO3.out; subst hv; clear hr hc)
          | (go_at_call 24; refine (PPartyPlays.curfewref37_Same.calls (D.length + 1) A3 c3 D Av cv D true _ (Kd.R_reads' HO3.out).2.2 (Kd.R_reads' HO3.out).2.1 (Kd.R_reads' HS3.out).2.2 (Kd.R_reads' HS3.out).2.1 (by rw [same_f _ _ _ (by omega) (by omega)]; simp)).mono ?_; rintro e w5 ⟨rfl, hd⟩; have HS5 := Aside0.mk (Kd.R_below HS3.out hd.below); have HB5 := Aside0.mk (below_then HB3.out HB3.out.size hd.below); clear hd))
        clear HP HO3 HS3 HB3 HB HSR
        go_loop [51] (fun i => ∃ k : Nat, k ≤ D.length ∧ i = .int .i64 k) (fun i => D.length - (intOf i).toNat)
        case atStart => exact ⟨0, Nat.zero_le _, rfl⟩
        case round =>
          obtain ⟨k, hk, rfl⟩ := hrel
          by_cases hlt : k < D.length
          · obtain ⟨adk, ea, hxk⟩ := Kd.at_int (Kd.R_reads' HS5.out).2.2 (k : Int) (by omega) (by omega)
            cases ea
            simp only [Int.toNat_natCast] at hxk
            go_wp2
            go_loop [60] (fun i => ∃ j : Nat, j ≤ k ∧ i = .int .i64 j) (fun i => k - (intOf i).toNat)
            case atStart => exact ⟨0, Nat.zero_le _, rfl⟩
            case round =>
              obtain ⟨j, hj, rfl⟩ := hrel
              by_cases hjt : j < k
              · have hne : (rd D (j : Int) == rd D (k : Int)) = false := by simpa using nodup_rd HD2.out j k hjt hlt
                obtain ⟨adj, ea, hxj⟩ := Kd.at_int (Kd.R_reads' HS5.out).2.2 (j : Int) (by omega) (by omega)
                cases ea
                simp only [Int.toNat_natCast] at hxj
                go_wp2
                go_round
                case rel => exact ⟨j + 1, by omega, by go_num⟩
                case measure => simp [intOf]; omega
              · go_wp2
                go_round
                case rel => exact ⟨k + 1, by omega, by go_num⟩
                case measure => simp [intOf]; omega
          · go_wp2
            have HB5' := Aside0.mk HB5.out
            have HSB : Aside0 ((fun wr => Kd.R (Kd.int .u64) 23 wr w.heap.size (fun _ => True) (.slice Av D.length cv) D ∧ Below w.heap.size w wr) w5) := ⟨HS5.out, HB5.out⟩
            clear HB5 HS5
            go_loopw [71] (fun i wr => ∃ k : Nat, k ≤ xs.length ∧ i = .int .i64 k ∧ Aside0 (Kd.R (Kd.int .u64) 23 wr w.heap.size (fun _ => True) (.slice Av D.length cv) D ∧ Below w.heap.size w wr)) (fun i _ => xs.length - (intOf i).toNat)
            case atStart => exact ⟨0, Nat.zero_le _, rfl, ⟨HSB.out⟩⟩
            case round =>
              clear HSB HB5'
              obtain ⟨k, hk, rfl, HSB⟩ := hrel
              by_cases hlt : k < xs.length
              · obtain ⟨ad, ea, hx⟩ := Kd.at_int (Kd.C_below HC.out HSB.out.2) (k : Int) (by omega) (by omega)
                cases ea
                simp only [Int.toNat_natCast] at hx
                have hm : rd xs (k : Int) ∈ xs := by rw [Pl.rd_nat, List.getD_eq_getElem?_getD, List.getElem?_eq_getElem hlt]; exact List.getElem_mem _
                have HM := Aside0.mk (HD1.out _ hm)
                generalize rd xs (k : Int) = y at hx HM
                clear hm
                by_cases h0 : y = 0
                · subst h0
                  go_wp2
                  go_roundw
                  case rel => exact ⟨k + 1, by omega, by go_num, HSB⟩
                  case measure => simp [intOf]; omega
                · have b1 : (y != 0) = true := by simpa using h0
                  have HM := Aside0.mk (HM.out h0)
                  go_wp2_with (go_at_call 22; refine (PPartyPlays.curfewref37_Times.calls (D.length + 1) 0 Av cv D y 1 _ (Kd.R_reads' HSB.out.1).2.2 (Kd.R_reads' HSB.out.1).2.1 (by rw [times_f _ _ _ _ (by omega) (by omega), HM.out])).mono ?_; rintro e w6 ⟨rfl, hd⟩; have HS6 := Aside0.mk (Kd.R_below HSB.out.1 hd); have HB6 := Aside0.mk (below_then HSB.out.2 HSB.out.2.size hd); clear hd)
                  go_roundw
                  case rel => exact ⟨k + 1, by omega, by go_num, ⟨HS6.out, HB6.out⟩⟩
                  case measure => simp [intOf]; omega
              · go_wp2_with (go_at_call 19; refine (lives_calls _).mono ?_; rintro e w' ⟨rfl, hb⟩; have HB2 := Aside0.mk (below_then HSB.out.2 HSB.out.2.size hb); clear hb)
                go_ret
                exact ⟨rfl, HB2.out⟩
end Go.Proofs.Ytbjbejjieibldaa.Pa
