/- What a plan that is nil, or that no call made, answers; the chapter's example; WeekNobody walked. -/
import Derived.Test.YtbjbejjieibldaaVl
namespace Go.Proofs.Ytbjbejjieibldaa.Va
open Go.RowKit Go.Proofs.YtbjbejjieibldaaW.PrintWords Go.Proofs.YtbjbejjieibldaaW.PrintLast Go.Proofs.YtbjbejjieibldaaW.PrintMore Go.Proofs.Ytbjbejjieibldaa.PWeekCounts Go.Proofs.Ytbjbejjieibldaa.Rg Go.Proofs.Ytbjbejjieibldaa.La
open Go.Proofs.Ytbjbejjieibldaa
set_option linter.unusedVariables false

/-- A plan that opens nothing. -/
def NoPlan (p : Option Addr) (w : World) : Prop := Calls Try.prog 86 #[.pointer p] w fun e w' => e = .returned (.bool true) ∧ w = w'
section
variable {p : Option Addr} {w : World} (h : NoPlan p w)
include h
theorem NoPlan.total : Calls Try.prog 44 #[.pointer p] w fun e w' => e = .returned (.int .i64 0) ∧ w = w' := by
  have H := Aside0.mk h
  clear h
  go_enter Try.func44, Try.ntmps44
  go_wp2_with (go_at_call 86; refine (H.out).mono ?_; rintro e w' ⟨rfl, rfl⟩)
  go_ret
  exact ⟨rfl, rfl⟩
theorem NoPlan.open_ (t : Int) : Calls Try.prog 46 #[.pointer p, .int .i64 t] w fun e w' => e = .returned (.bool false) ∧ w = w' := by
  have H := Aside0.mk h
  clear h
  go_enter Try.func46, Try.ntmps46
  go_wp2_with (go_at_call 86; refine (H.out).mono ?_; rintro e w' ⟨rfl, rfl⟩)
  go_ret
  exact ⟨rfl, rfl⟩
theorem NoPlan.until_ (t : Int) : Calls Try.prog 51 #[.pointer p, .int .i64 t] w fun e w' => e = .returned (.int .i64 0) ∧ w = w' := by
  have H := Aside0.mk h
  clear h
  go_enter Try.func51, Try.ntmps51
  go_wp2_with (go_at_call 86; refine (H.out).mono ?_; rintro e w' ⟨rfl, rfl⟩)
  go_ret
  exact ⟨rfl, rfl⟩
theorem NoPlan.row : Calls Try.prog 49 #[.pointer p] w fun e w' => e = .returned (.slice none 0 0) ∧ w = w' := by
  have H := Aside0.mk h
  clear h
  go_enter Try.func49, Try.ntmps49
  go_wp2_with (go_at_call 86; refine (H.out).mono ?_; rintro e w' ⟨rfl, rfl⟩)
  go_ret
  exact ⟨rfl, rfl⟩
attribute [local go_sem] max2_int min2_int max_two min_two
set_option maxRecDepth 100000 in
theorem NoPlan.between (x y : Int) : Calls Try.prog 52 #[.pointer p, .int .i64 x, .int .i64 y] w fun e w' => e = .returned (.int .i64 0) ∧ w = w' := by
  have H := Aside0.mk h
  have hm := hmf
  clear h
  go_enter Try.func52, Try.ntmps52
  go_wp2_with (go_at_call 51; refine (NoPlan.until_ H.out _).mono ?_; rintro e w' ⟨rfl, rfl⟩)
  go_ret
  exact ⟨rfl, rfl⟩
set_option maxRecDepth 100000 in
theorem NoPlan.nth (n : Int) : Calls Try.prog 50 #[.pointer p, .int .i64 n] w fun e w' => e = .returned (.tuple #[.int .i64 0, .int .i64 1]) ∧ w = w' := by
  have H := Aside0.mk h
  clear h
  go_enter Try.func50, Try.ntmps50
  go_wp2_with (first
    | (go_at_call 44; refine (NoPlan.total H.out).mono ?_; rintro e w' ⟨rfl, rfl⟩)
    | (go_at_call 86; refine (H.out).mono ?_; rintro e w' ⟨rfl, rfl⟩))
  go_ret2
  exact ⟨rfl, rfl⟩
end

theorem live_wrong : wrongP [⟨10, 20⟩] = 0 := by decide
theorem live_nth : nthP [⟨10, 20⟩] 15 = (604815, 0) := by decide
theorem live_until : untilP [⟨10, 20⟩] 604815 = 15 := by decide
theorem reps151 (s : Sp) (w : World) (base : Nat) (ok : Nat → Prop) : Reps (k151.M w base ok) k151.sz [s] [.int .i64 s.f0, .int .i64 s.f1] := by
  have := Reps.snoc (Reps.none (k151.M w base ok) k151.sz) (k151_mkM w base ok s) rfl
  simpa using this

set_option maxHeartbeats 1000000 in
set_option maxRecDepth 100000 in
theorem lives_calls (w : World) : Calls Try.prog 41 #[] w fun e w' => e = .returned (.bool true) ∧ Below w.heap.size w w' := by
  have HL := Aside0.mk (And.intro live_wrong (And.intro live_nth live_until))
  go_enter Try.func41, Try.ntmps41
  go_wp2_with (first
    | ((with_reducible refine gate_dst (N := 7) rfl ?_); refine Kd.R_lit k151 (w0 := w) w.heap.size 151 rfl (N := 7) rfl (xs := ([⟨10, 20⟩] : List Sp)) (inner := [.int .i64 10, .int .i64 20]) (ok := fun _ => True) (okp := fun _ => True) ?hr (reps151 ⟨10, 20⟩ _ _ _) (fun _ h => h) trivial (Below.refl _ _) (Nat.le_refl _) (by simp) ?_; (case hr => first | (go_simp; done) | (go_simp; rfl)); intro v1 w1 ho hb hg hn; obtain ⟨A, c, hv⟩ := Kd.R_slice ho; subst hv; have HO := Aside0.mk ho; have HB := Aside0.mk hb; clear ho hb hg hn)
    | (go_at_call 42; refine (new_ok w A c [⟨10, 20⟩] _ HB.out (Kd.R_reads' HO.out).2.2 (Kd.R_reads' HO.out).2.1 HL.out.1).mono ?_; rintro e w2 ⟨pb, cb, A2, c2, rfl, hw⟩; have HW := Aside0.mk hw; clear hw)
    | (go_at_call 50; refine (HW.out.nth (by omega) 15 (by omega)).mono ?_; rintro e w3 ⟨rfl, M, hM, hw⟩; rw [HL.out.2.1]; have HW2 := Aside0.mk hw; have HM := Aside0.mk hM; clear hw hM)
    | (go_at_call 51; refine (HW2.out.until_ (by have := HM.out; omega) 604815).mono ?_; rintro e w4 ⟨rfl, hw⟩; rw [HL.out.2.2]; have HW4 := Aside0.mk hw; clear hw))
  go_ret
  exact ⟨rfl, HW4.out.below⟩

set_option maxHeartbeats 1000000 in
set_option maxRecDepth 100000 in
theorem weeknobody_walk (t n : Int) (w : World) : Calls Try.prog 7 #[.int .i64 t, .int .i64 n] w fun e w' => e = .returned (.bool true) ∧ Below w.heap.size w w' := by
  go_enter Try.func7, Try.ntmps7
  go_wp2_with (first
    | ((with_reducible refine gate_dst (N := 12) rfl ?_); refine box_event ?hg (N := 12) ?hd (cs := #[.slice none 0 0, .pointer none]) (t := 82) ?hr ?_; (case hd => rfl); (case hg => rfl); (case hr => first | (go_simp; done) | (go_simp; rfl)); intro g12 hg w1 hbox hb; have K1 := Aside0.mk hbox; have B1 := Aside0.mk hb; clear hg hbox hb)
    | ((with_reducible refine gate_dst (N := 13) rfl ?_); refine value_event (v := .slice (some ⟨w1.heap.size, 0, none⟩) 2 2) (w1 := w1.alloc (.cells #[.pointer none, PB g12] 70)) rfl ?hr ?_; (case hr => first | (go_simp; done) | (go_simp; rfl)); intro w2 hw; have K2 : Aside0 (w2.heap[w1.heap.size]? = some (.cells #[.pointer none, PB g12] 70 (0, 0))) := ⟨by rw [hw]; exact blk_new _ _⟩; have K12 : Aside0 (w2.heap[g12]? = some (.cells #[.slice none 0 0, .pointer none] 82 (0, 0))) := ⟨by rw [hw]; exact blk_alloc K1.out _⟩; have B2 : Aside0 (Below w.heap.size w w2) := ⟨by rw [hw]; exact B1.out.alloc B1.out.size _⟩; clear hw))
  go_loopw [15] (fun i wr => ∃ k : Nat, k ≤ 2 ∧ i = .int .i64 (k : Int) ∧ Aside0 (Below w2.heap.size w2 wr)) (fun i _ => 2 - (intOf i).toNat)
  case atStart => exact ⟨0, by omega, rfl, ⟨Below.refl _ _⟩⟩
  case round =>
    obtain ⟨k, hk, rfl, HB⟩ := hrel
    by_cases hlt : k < 2
    · obtain ⟨p, hp, hN⟩ : ∃ p : Option Addr, wr.cell? ⟨w1.heap.size, k, none⟩ = some (.pointer p) ∧ NoPlan p wr := by
        have hb := blk_below K2.out HB.out
        match k, hlt with
        | 0, _ => exact ⟨none, (blk_cell hb 0).trans rfl, none_nil _⟩
        | 1, _ => exact ⟨some ⟨g12, 0, none⟩, (blk_cell hb 1).trans rfl, none_zero g12 _ _ (blk_below K12.out HB.out)⟩
      have HN := Aside0.mk hN
      clear hN
      have d0 : decide ((k : Int) < 2) = true := decide_eq_true (by omega)
      go_wp2_with (first
        | (go_at_call 50; refine (NoPlan.nth HN.out n).mono ?_; rintro e w' ⟨rfl, rfl⟩)
        | (go_at_call 44; refine (NoPlan.total HN.out).mono ?_; rintro e w' ⟨rfl, rfl⟩)
        | (go_at_call 46; refine (NoPlan.open_ HN.out t).mono ?_; rintro e w' ⟨rfl, rfl⟩)
        | (go_at_call 51; refine (NoPlan.until_ HN.out t).mono ?_; rintro e w' ⟨rfl, rfl⟩)
        | (go_at_call 52; refine (NoPlan.between HN.out n t).mono ?_; rintro e w' ⟨rfl, rfl⟩)
        | (go_at_call 49; refine (NoPlan.row HN.out).mono ?_; rintro e w' ⟨rfl, rfl⟩))
      go_roundw
      case rel => exact ⟨k + 1, by omega, by go_num, HB⟩
      case measure => simp [intOf]; omega
    · have d0 : decide ((k : Int) < 2) = false := decide_eq_false (by omega)
      go_wp2_with (go_at_call 41; refine (lives_calls _).mono ?_; rintro e w' ⟨rfl, hb⟩; have HB2 := Aside0.mk (below_then HB.out HB.out.size hb); clear hb)
      go_ret
      exact ⟨rfl, B2.out.trans (HB2.out.mono B2.out.size)⟩
end Go.Proofs.Ytbjbejjieibldaa.Va
