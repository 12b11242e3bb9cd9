/- New, walked; what a plan that is nil, or that no call made, answers; the chapter's example. -/
import Derived.Test.YtbjbejjieibldaaVk
namespace Go.Proofs.Ytbjbejjieibldaa.Va
open Go.RowKit Go.Proofs.YtbjbejjieibldaaW.PrintWords Go.Proofs.YtbjbejjieibldaaW.PrintLast Go.Proofs.YtbjbejjieibldaaW.PrintMore Go.Proofs.Ytbjbejjieibldaa.PWeekCounts Go.Proofs.Ytbjbejjieibldaa.Rg Go.Proofs.Ytbjbejjieibldaa.La
open Go.Proofs.Ytbjbejjieibldaa
set_option linter.unusedVariables false

theorem newSl (fn : Fn) (first cap : Array Value) (w : World) : Calls Try.prog 83 #[.func fn first cap] w fun e w' => ∃ cb, e = .returned (.pointer (some ⟨cb, 0, none⟩)) ∧ cb = w.heap.size ∧ w'.heap[cb]? = some (CB 168 0 0 0 0 (.func fn first cap) (.slice none 0 0)) ∧ Below w.heap.size w w' := by
  go_enter Try.func83, Try.ntmps83
  go_wp2
  go_ret
  exact ⟨w.heap.size, rfl, rfl, blk_new _ _, below_alloc (Below.refl _ _) _⟩

theorem new_bad (A : Option Addr) (c : Nat) (l : List Sp) (w : World) (hr : Kd.C k151 w A l.length l) (hc : l.length ≤ c) (hl : wrongP l ≠ 0) :
    Calls Try.prog 42 #[.slice A l.length c] w fun e w' => e = .returned (.tuple #[.pointer none, .int .i64 (wrongP l)]) ∧ Below w.heap.size w w' := by
  by_cases h0 : rowErr l = 0
  · cases hn : l.length with
    | zero =>
      have hln : l = [] := List.eq_nil_of_length_eq_zero hn
      subst hln
      exact absurd (wrong_nil h0) hl
    | succ n =>
      have hw := wrong_last h0 n hn
      have hgt : (el l n).f1 > 604800 := by
        by_cases h : (el l n).f1 > 604800
        · exact h
        · rw [if_neg h] at hw; exact absurd hw hl
      rw [if_pos hgt] at hw
      obtain ⟨ap, e1, x0, x1⟩ := at_T151 hr (n : Int) (by omega) (by omega)
      subst e1
      rw [rd_el] at x0 x1
      simp only [Int.toNat_natCast] at x0 x1
      obtain ⟨s, hsd⟩ : ∃ s : Sp, s = el l n := ⟨_, rfl⟩
      rw [← hsd] at x0 x1 hgt
      have hf := row_f l
      rw [h0] at hf
      have hrc := span_Row.calls 40 (some ap) c l 0 w hr hc hf
      rw [hn] at hrc
      have hl3 := rowErr_len h0
      rw [hw]
      have HR := Aside0.mk hrc
      have X0 := Aside0.mk x1
      have hn2 : IntKind.i64.wrap (((n + 1 : Nat) : Int) - 1) = (n : Int) := (IntWalk.i64_in _ (by omega)).trans (by omega)
      have hn3 : wrap64 (((n + 1 : Nat) : Int) - 1) = (n : Int) := by unfold wrap64; omega
      have d1 : decide (0 < ((n + 1 : Nat) : Int)) = true := decide_eq_true (by omega)
      have d2 : decide (604800 < s.f1) = true := decide_eq_true hgt
      have hb1 : (n : Int) < ((n + 1 : Nat) : Int) := by omega
      have hn4 : wrap64 (n : Int) = (n : Int) := by unfold wrap64; omega
      clear hr hc hl h0 hf hrc hw hn hgt hsd x0 x1
      go_enter Try.func42, Try.ntmps42
      go_wp2_with (go_at_call 81; refine (HR.out).mono ?_; rintro e w1 ⟨rfl, hb⟩; have HB := Aside0.mk hb; have x1 := X0.out; have x1b := pw_cell_below hb x1; clear hb x1)
      go_ret2
      exact ⟨rfl, HB.out⟩
  · have hw : wrongP l = rowErr l := by unfold wrongP; rw [if_neg h0]
    have HR := Aside0.mk (span_Row.calls 40 A c l (rowErr l) w hr hc (row_f l))
    rw [hw]
    have d0 : (rowErr l != 0) = true := by simpa using h0
    clear hr hc hl hw h0
    generalize rowErr l = z at *
    go_enter Try.func42, Try.ntmps42
    go_wp2_with (go_at_call 81; refine (HR.out).mono ?_; rintro e w1 ⟨rfl, hb⟩; have HB := Aside0.mk hb; clear hb)
    go_ret2
    exact ⟨rfl, HB.out⟩

/-- The plan laid. -/
theorem wk_laid {W0 w1 w2 w3 w5 w6 : World} {pb cb : Nat} {A2 : Option Addr} {c2 : Nat} {l : List Sp} (hg : wrongP l = 0) (hB : Below W0.heap.size W0 w1) (hR : Kd.R k151 151 w2 w1.heap.size (fun _ => True) (.slice A2 l.length c2) l) (hb2 : Below w1.heap.size w1 w2)
    (E : pb = w2.heap.size) (hb3 : Below w2.heap.size w2 w3) (hp : w3.heap[pb]? = some (.cells #[.slice A2 l.length c2, .pointer none] 82 (0, 0))) (Ec : cb = w3.heap.size) (hc : w5.heap[cb]? = some (CB 168 0 0 0 0 (.func (.func 84) #[PB pb] #[]) (.slice none 0 0))) (hb5 : Below w3.heap.size w3 w5) (hw : w6 = w5.setCell ⟨pb, 1, none⟩ (PB cb)) : Wk W0 w6 pb cb A2 c2 l 0 := by
  have hpl := blk_lt hp
  have hs1 := hB.size
  have hs2 := hb2.size
  have hs3 := hb3.size
  obtain ⟨q1, q2, q3⟩ := setb (blk_below hp hb5) 1 (PB cb)
  have hne : pb ≠ cb := by omega
  have hB2 := below_then hB hs1 hb2
  have hB3 := below_then hB2 (Nat.le_trans hs1 hs2) hb3
  have hB5 := below_then hB3 (by omega) hb5
  subst hw
  refine ⟨q1, ?_, .inl (blk_kept hc q2 (fun e => hne e.symm)), hne, ⟨by omega, by omega⟩, (wrong_good hg).1, (wrong_good hg).2, q3 _ _ (by omega) hB5⟩
  have h1 := Kd.R_mono (Kd.R_bound hR) (fun k hk => (show k < w2.heap.size from hk.2.2.1))
  have h2 := Kd.R_below (Kd.R_below (Kd.R_lower h1 (show W0.heap.size ≤ w1.heap.size from hs1)) hb3) hb5
  exact Kd.R_kept (Kd.R_mono h2 (fun k hk => ⟨by omega, by omega⟩)) q2 (fun k hk e => hk.2 e)

set_option maxHeartbeats 1000000 in
set_option maxRecDepth 100000 in
theorem new_ok (W0 : World) (A : Option Addr) (c : Nat) (l : List Sp) (w : World) (hB : Below W0.heap.size W0 w) (hr : Kd.C k151 w A l.length l) (hc : l.length ≤ c) (hl : wrongP l = 0) :
    Calls Try.prog 42 #[.slice A l.length c] w fun e w' => ∃ pb cb A2 c2, e = .returned (.tuple #[PB pb, .int .i64 0]) ∧ Wk W0 w' pb cb A2 c2 l 0 := by
  have h0 : rowErr l = 0 := by
    by_cases h : rowErr l = 0
    · exact h
    · unfold wrongP at hl; rw [if_neg h] at hl; exact absurd hl h
  have hl3 := rowErr_len h0
  have hf := row_f l
  rw [h0] at hf
  have HRC := Aside0.mk (span_Row.calls 40 A c l 0 w hr hc hf)
  have HR := Aside0.mk hr
  have HB := Aside0.mk hB
  have HL := Aside0.mk hl
  have hm := hmf
  rcases Nat.eq_zero_or_pos l.length with hn | hn
  · obtain rfl : l = [] := List.eq_nil_of_length_eq_zero hn
    clear hB hr hc hl h0 hf hn
    go_enter Try.func42, Try.ntmps42
    go_wp2_with (first
      | (go_at_call 81; refine (HRC.out).mono ?_; rintro e w1 ⟨rfl, hb⟩; have HB1 := Aside0.mk (below_then HB.out HB.out.size hb); have HR1 := Aside0.mk (Kd.C_below HR.out hb); clear hb)
      | (go_at_call 82; refine (cloneSp A c [] _ HR1.out (by simp)).mono ?_; rintro e w2 ⟨v, rfl, ho, hb⟩; obtain ⟨A2, c2, hv⟩ := Kd.R_slice ho; subst hv; have HO := Aside0.mk ho; have HB2 := Aside0.mk hb; clear ho hb)
      | ((with_reducible refine gate_dst (N := 28) rfl ?_); refine box_event ?hg (N := 28) ?hd (cs := #[.slice A2 0 c2, .pointer none]) (t := 82) ?hr ?_; (case hd => rfl); (case hg => rfl); (case hr => first | (go_simp; done) | (go_simp; rfl)); intro pb hg w3 hbox hb; have E3 := Aside0.mk hg; have K3 := Aside0.mk hbox; have HB3 := Aside0.mk hb; clear hg hbox hb)
      | (go_at_call 83; refine (newSl _ _ _ _).mono ?_; rintro e w5 ⟨cb, rfl, hcb, hcc, hb⟩; have E5 := Aside0.mk hcb; have K5 := Aside0.mk hcc; have HB5 := Aside0.mk hb; have c1 := (blk_cell (blk_below K3.out hb) 1).trans rfl; have z1 := blk_frozen (blk_below K3.out hb) 1; clear hcb hcc hb)
      | ((with_reducible refine gate_op (Op.store 80 (.tmp 34) (.tmp 32)) rfl ?_); refine skip_event (w1 := w5.setCell ⟨pb, 1, none⟩ (PB cb)) rfl rfl ?hr ?_; (case hr => first | (go_simp; done) | (go_simp; rfl)); intro w6 hw; have HW := Aside0.mk (wk_laid HL.out HB1.out HO.out HB2.out E3.out HB3.out K3.out E5.out K5.out HB5.out hw); clear hw c1 z1))
    go_ret2
    exact ⟨pb, cb, A2, c2, rfl, HW.out⟩
  · obtain ⟨n, hn1⟩ : ∃ n, l.length = n + 1 := ⟨l.length - 1, by omega⟩
    have hw := wrong_last h0 n hn1
    have hgt : ¬ (el l n).f1 > 604800 := fun h => by rw [if_pos h] at hw; omega
    obtain ⟨ap, e1, x0, x1⟩ := at_T151 hr (n : Int) (by omega) (by omega)
    subst e1
    rw [rd_el] at x0 x1
    simp only [Int.toNat_natCast] at x0 x1
    obtain ⟨s, hsd⟩ : ∃ s : Sp, s = el l n := ⟨_, rfl⟩
    rw [← hsd] at x0 x1 hgt
    have X0 := Aside0.mk x1
    have hn2 : IntKind.i64.wrap ((l.length : Int) - 1) = (n : Int) := (IntWalk.i64_in _ (by omega)).trans (by omega)
    have hn3 : wrap64 ((l.length : Int) - 1) = (n : Int) := by unfold wrap64; omega
    have d1 : decide (0 < (l.length : Int)) = true := decide_eq_true (by omega)
    have d2 : decide (604800 < s.f1) = false := decide_eq_false hgt
    have hb1 : (n : Int) < (l.length : Int) := by omega
    clear hB hr hc hl h0 hf hn hw hgt hsd x0 x1 hn1
    go_enter Try.func42, Try.ntmps42
    go_wp2_with (first
      | (go_at_call 81; refine (HRC.out).mono ?_; rintro e w1 ⟨rfl, hb⟩; have HB1 := Aside0.mk (below_then HB.out HB.out.size hb); have HR1 := Aside0.mk (Kd.C_below HR.out hb); have x1 := X0.out; have x1b := pw_cell_below hb x1; clear hb x1)
      | (go_at_call 82; refine (cloneSp (some ap) c l _ HR1.out (by omega)).mono ?_; rintro e w2 ⟨v, rfl, ho, hb⟩; obtain ⟨A2, c2, hv⟩ := Kd.R_slice ho; subst hv; have HO := Aside0.mk ho; have HB2 := Aside0.mk hb; clear ho hb)
      | ((with_reducible refine gate_dst (N := 28) rfl ?_); refine box_event ?hg (N := 28) ?hd (cs := #[.slice A2 l.length c2, .pointer none]) (t := 82) ?hr ?_; (case hd => rfl); (case hg => rfl); (case hr => first | (go_simp; done) | (go_simp; rfl)); intro pb hg w3 hbox hb; have E3 := Aside0.mk hg; have K3 := Aside0.mk hbox; have HB3 := Aside0.mk hb; clear hg hbox hb)
      | (go_at_call 83; refine (newSl _ _ _ _).mono ?_; rintro e w5 ⟨cb, rfl, hcb, hcc, hb⟩; have E5 := Aside0.mk hcb; have K5 := Aside0.mk hcc; have HB5 := Aside0.mk hb; have c1 := (blk_cell (blk_below K3.out hb) 1).trans rfl; have z1 := blk_frozen (blk_below K3.out hb) 1; clear hcb hcc hb)
      | ((with_reducible refine gate_op (Op.store 80 (.tmp 34) (.tmp 32)) rfl ?_); refine skip_event (w1 := w5.setCell ⟨pb, 1, none⟩ (PB cb)) rfl rfl ?hr ?_; (case hr => first | (go_simp; done) | (go_simp; rfl)); intro w6 hw; have HW := Aside0.mk (wk_laid HL.out HB1.out HO.out HB2.out E3.out HB3.out K3.out E5.out K5.out HB5.out hw); clear hw c1 z1))
    go_ret2
    exact ⟨pb, cb, A2, c2, rfl, HW.out⟩
end Go.Proofs.Ytbjbejjieibldaa.Va
