/- WeekSteps and WeekBack, walked. -/
import Derived.Test.YtbjbejjieibldaaVm
namespace Go.Proofs.Ytbjbejjieibldaa.Va
open Go.RowKit Go.Proofs.YtbjbejjieibldaaW.PrintWords Go.Proofs.YtbjbejjieibldaaW.PrintLast Go.Proofs.YtbjbejjieibldaaW.PrintMore Go.Proofs.Ytbjbejjieibldaa.PWeekCounts Go.Proofs.Ytbjbejjieibldaa.Rg Go.Proofs.Ytbjbejjieibldaa.La
open Go.Proofs.Ytbjbejjieibldaa
set_option linter.unusedVariables false

set_option maxHeartbeats 2000000 in
set_option maxRecDepth 100000 in
theorem weeksteps_walk (A : Option Addr) (c : Nat) (l : List Sp) (t : Int) (w : World) (hC : Kd.C k151 w A l.length l) (hc : l.length ≤ c) :
    Calls Try.prog 17 #[.slice A l.length c, .int .i64 t] w fun e w' => e = .returned (.bool true) ∧ Below w.heap.size w w' := by
  have HC := Aside0.mk hC
  clear hC
  by_cases hlen : 100 < l.length
  · have d0 : decide (100 < (l.length : Int)) = true := decide_eq_true (by omega)
    go_enter Try.func17, Try.ntmps17
    go_wp2_with (go_at_call 41; refine (lives_calls _).mono ?_; rintro e w2 ⟨rfl, hb⟩; have HB2 := Aside0.mk (hb); clear hb)
    go_ret
    exact ⟨rfl, HB2.out⟩
  have d0 : decide (100 < (l.length : Int)) = false := decide_eq_false (by omega)
  by_cases hz : wrongP l = 0
  rotate_left
  · have dz : (wrongP l != 0) = true := by simpa using hz
    clear hz
    go_enter Try.func17, Try.ntmps17
    go_wp2_with (first
      | (go_at_call 43; refine (curfewref08_Wrong.calls 40 A c l (wrongP l) _ HC.out hc (wrong_f l)).mono ?_; rintro e w1 ⟨rfl, hb⟩; have HB1 := Aside0.mk hb; have HC1 := Aside0.mk (Kd.C_below HC.out hb); clear hb)
      | (go_at_call 41; refine (lives_calls _).mono ?_; rintro e w2 ⟨rfl, hb⟩; have HB2 := Aside0.mk (below_then HB1.out HB1.out.size hb); clear hb))
    go_ret
    exact ⟨rfl, HB2.out⟩
  have HZ := Aside0.mk hz
  have hg := wrong_good hz
  clear hz hlen
  have HU0 := Aside0.mk (untilP_zero hg.1)
  by_cases h0 : t < 0
  · have d1 : decide (t < 0) = true := decide_eq_true h0
    clear h0 hg
    go_enter Try.func17, Try.ntmps17
    go_wp2_with (first
      | (go_at_call 43; refine (curfewref08_Wrong.calls 40 A c l (wrongP l) _ HC.out hc (wrong_f l)).mono ?_; rintro e w1 ⟨rfl, hb⟩; have HB1 := Aside0.mk hb; have HC1 := Aside0.mk (Kd.C_below HC.out hb); clear hb; rw [HZ.out])
      | (go_at_call 41; refine (lives_calls _).mono ?_; rintro e w2 ⟨rfl, hb⟩; have HB2 := Aside0.mk (below_then HB1.out HB1.out.size hb); clear hb))
    go_ret
    exact ⟨rfl, HB2.out⟩
  have d1 : decide (t < 0) = false := decide_eq_false h0
  by_cases h1 : 2251799813685248 ≤ t
  · have d2 : decide (2251799813685248 ≤ t) = true := decide_eq_true h1
    clear h0 h1 hg
    go_enter Try.func17, Try.ntmps17
    go_wp2_with (first
      | (go_at_call 43; refine (curfewref08_Wrong.calls 40 A c l (wrongP l) _ HC.out hc (wrong_f l)).mono ?_; rintro e w1 ⟨rfl, hb⟩; have HB1 := Aside0.mk hb; have HC1 := Aside0.mk (Kd.C_below HC.out hb); clear hb; rw [HZ.out])
      | (go_at_call 41; refine (lives_calls _).mono ?_; rintro e w2 ⟨rfl, hb⟩; have HB2 := Aside0.mk (below_then HB1.out HB1.out.size hb); clear hb))
    go_ret
    exact ⟨rfl, HB2.out⟩
  have d2 : decide (2251799813685248 ≤ t) = false := decide_eq_false h1
  have hw1 : wrap64 (t + 1) = t + 1 := by unfold wrap64; omega
  have hw2 : IntKind.i64.wrap (t + 1) = t + 1 := IntWalk.i64_in _ (by omega)
  obtain ⟨u, hu⟩ : ∃ u, u = untilP l t := ⟨_, rfl⟩
  cases ho : openP l t
  · have e1 : untilP l (t + 1) = u + 0 := by rw [untilP_step hg.1 (by omega) (by unfold lastS; omega), ho, hu]; rfl
    have e2 : betP l t (t + 1) = 0 := by unfold betP; rw [e1, ← hu]; omega
    have HE := Aside0.mk (And.intro e1 (And.intro e2 (And.intro hu.symm ho)))
    have hws : wrap64 (u + 0 - u) = 0 := by unfold wrap64; omega
    have hws2 : IntKind.i64.wrap (u + 0 - u) = 0 := by rw [show u + 0 - u = 0 by omega]; rfl
    clear e1 e2 hu ho
    go_enter Try.func17, Try.ntmps17
    go_wp2_with (first
      | (go_at_call 43; refine (curfewref08_Wrong.calls 40 A c l (wrongP l) _ HC.out hc (wrong_f l)).mono ?_; rintro e w1 ⟨rfl, hb⟩; have HB1 := Aside0.mk hb; have HC1 := Aside0.mk (Kd.C_below HC.out hb); clear hb; rw [HZ.out])
      | (go_at_call 42; refine (new_ok w A c l _ HB1.out HC1.out hc HZ.out).mono ?_; rintro e w3 ⟨pb, cb, A2, c2, rfl, hw⟩; have HW := Aside0.mk hw; clear hw)
      | (go_at_call 46; refine (HW.out.open_ t).mono ?_; rintro e w4 ⟨rfl, hw⟩; rw [HE.out.2.2.2]; have H4 := Aside0.mk hw; clear hw)
      | (go_at_call 51; first
        | (refine (H4.out.until_ (by omega) (t + 1)).mono ?_; rintro e w5 ⟨rfl, hw⟩; rw [HE.out.1]; have H5 := Aside0.mk hw; clear hw H4)
        | (refine (H5.out.until_ (by omega) t).mono ?_; rintro e w6 ⟨rfl, hw⟩; rw [HE.out.2.2.1]; have H6 := Aside0.mk hw; clear hw H5)
        | (refine (H7.out.until_ (by omega) 0).mono ?_; rintro e w8 ⟨rfl, hw⟩; rw [HU0.out]; have H8 := Aside0.mk hw; clear hw H7))
      | (go_at_call 52; refine (H6.out.between (by omega) t (t + 1)).mono ?_; rintro e w7 ⟨rfl, hw⟩; rw [HE.out.2.1]; have H7 := Aside0.mk hw; clear hw H6)
      | (go_at_call 41; refine (lives_calls _).mono ?_; rintro e w2 ⟨rfl, hb⟩; have HB2 := Aside0.mk ((H8.out.later hb).below); clear hb))
    go_ret
    exact ⟨rfl, HB2.out⟩
  · have e1 : untilP l (t + 1) = u + 1 := by rw [untilP_step hg.1 (by omega) (by unfold lastS; omega), ho, hu]; rfl
    have e2 : betP l t (t + 1) = 1 := by unfold betP; rw [e1, ← hu]; omega
    have HE := Aside0.mk (And.intro e1 (And.intro e2 (And.intro hu.symm ho)))
    have hws : wrap64 (u + 1 - u) = 1 := by unfold wrap64; omega
    have hws2 : IntKind.i64.wrap (u + 1 - u) = 1 := by rw [show u + 1 - u = 1 by omega]; rfl
    clear e1 e2 hu ho
    go_enter Try.func17, Try.ntmps17
    go_wp2_with (first
      | (go_at_call 43; refine (curfewref08_Wrong.calls 40 A c l (wrongP l) _ HC.out hc (wrong_f l)).mono ?_; rintro e w1 ⟨rfl, hb⟩; have HB1 := Aside0.mk hb; have HC1 := Aside0.mk (Kd.C_below HC.out hb); clear hb; rw [HZ.out])
      | (go_at_call 42; refine (new_ok w A c l _ HB1.out HC1.out hc HZ.out).mono ?_; rintro e w3 ⟨pb, cb, A2, c2, rfl, hw⟩; have HW := Aside0.mk hw; clear hw)
      | (go_at_call 46; refine (HW.out.open_ t).mono ?_; rintro e w4 ⟨rfl, hw⟩; rw [HE.out.2.2.2]; have H4 := Aside0.mk hw; clear hw)
      | (go_at_call 51; first
        | (refine (H4.out.until_ (by omega) (t + 1)).mono ?_; rintro e w5 ⟨rfl, hw⟩; rw [HE.out.1]; have H5 := Aside0.mk hw; clear hw H4)
        | (refine (H5.out.until_ (by omega) t).mono ?_; rintro e w6 ⟨rfl, hw⟩; rw [HE.out.2.2.1]; have H6 := Aside0.mk hw; clear hw H5)
        | (refine (H7.out.until_ (by omega) 0).mono ?_; rintro e w8 ⟨rfl, hw⟩; rw [HU0.out]; have H8 := Aside0.mk hw; clear hw H7))
      | (go_at_call 52; refine (H6.out.between (by omega) t (t + 1)).mono ?_; rintro e w7 ⟨rfl, hw⟩; rw [HE.out.2.1]; have H7 := Aside0.mk hw; clear hw H6)
      | (go_at_call 41; refine (lives_calls _).mono ?_; rintro e w2 ⟨rfl, hb⟩; have HB2 := Aside0.mk ((H8.out.later hb).below); clear hb))
    go_ret
    exact ⟨rfl, HB2.out⟩

set_option maxHeartbeats 2000000 in
set_option maxRecDepth 100000 in
theorem weekback_walk (A : Option Addr) (c : Nat) (l : List Sp) (n : Int) (w : World) (hC : Kd.C k151 w A l.length l) (hc : l.length ≤ c) (hn : n ≤ 9223372036854775807) :
    Calls Try.prog 16 #[.slice A l.length c, .int .i64 n] w fun e w' => e = .returned (.bool true) ∧ Below w.heap.size w w' := by
  have HC := Aside0.mk hC
  clear hC
  by_cases hlen : 100 < l.length
  · have d0 : decide (100 < (l.length : Int)) = true := decide_eq_true (by omega)
    go_enter Try.func16, Try.ntmps16
    go_wp2_with (go_at_call 41; refine (lives_calls _).mono ?_; rintro e w2 ⟨rfl, hb⟩; have HB2 := Aside0.mk (hb); clear hb)
    go_ret
    exact ⟨rfl, HB2.out⟩
  have d0 : decide (100 < (l.length : Int)) = false := decide_eq_false (by omega)
  by_cases hz : wrongP l = 0
  rotate_left
  · have dz : (wrongP l != 0) = true := by simpa using hz
    clear hz
    go_enter Try.func16, Try.ntmps16
    go_wp2_with (first
      | (go_at_call 43; refine (curfewref08_Wrong.calls 40 A c l (wrongP l) _ HC.out hc (wrong_f l)).mono ?_; rintro e w1 ⟨rfl, hb⟩; have HB1 := Aside0.mk hb; have HC1 := Aside0.mk (Kd.C_below HC.out hb); clear hb)
      | (go_at_call 41; refine (lives_calls _).mono ?_; rintro e w2 ⟨rfl, hb⟩; have HB2 := Aside0.mk (below_then HB1.out HB1.out.size hb); clear hb))
    go_ret
    exact ⟨rfl, HB2.out⟩
  have HZ := Aside0.mk hz
  have hg := wrong_good hz
  clear hz hlen
  have hb := nth_back hg.1 (n := n)
  obtain ⟨t, f, he⟩ : ∃ t f, nthP l n = (t, f) := ⟨_, _, rfl⟩
  rw [he] at hb
  simp only at hb
  have HN := Aside0.mk he
  clear he hg
  by_cases hf : f = 0
  · rw [if_pos hf] at hb
    have HE := Aside0.mk hb.2
    have HO := Aside0.mk hb.1
    subst hf
    clear hb
    go_enter Try.func16, Try.ntmps16
    go_wp2_with (first
      | (go_at_call 43; refine (curfewref08_Wrong.calls 40 A c l (wrongP l) _ HC.out hc (wrong_f l)).mono ?_; rintro e w1 ⟨rfl, hb⟩; have HB1 := Aside0.mk hb; have HC1 := Aside0.mk (Kd.C_below HC.out hb); clear hb; rw [HZ.out])
      | (go_at_call 42; refine (new_ok w A c l _ HB1.out HC1.out hc HZ.out).mono ?_; rintro e w3 ⟨pb, cb, A2, c2, rfl, hw⟩; have HW := Aside0.mk hw; clear hw)
      | (go_at_call 50; refine (HW.out.nth (by omega) n hn).mono ?_; rintro e w4 ⟨rfl, M, hM, hw⟩; rw [HN.out]; have H4 := Aside0.mk hw; have HM := Aside0.mk hM; clear hw hM)
      | (go_at_call 46; refine (H4.out.open_ t).mono ?_; rintro e w6 ⟨rfl, hw⟩; rw [HO.out]; have H6 := Aside0.mk hw; clear hw H4; have H4 := H6; clear H6)
      | (go_at_call 51; refine (H4.out.until_ (by have := HM.out; omega) _).mono ?_; rintro e w5 ⟨rfl, hw⟩; rw [HE.out]; have H5 := Aside0.mk hw; clear hw H4)
      | (go_at_call 41; refine (lives_calls _).mono ?_; rintro e w2 ⟨rfl, hb⟩; have HB2 := Aside0.mk ((H5.out.later hb).below); clear hb))
    go_ret
    exact ⟨rfl, HB2.out⟩
  rw [if_neg hf] at hb
  obtain ⟨ht, hor⟩ := hb
  subst ht
  have df : (f != 0) = true := by simpa using hf
  clear hf
  by_cases h0 : n < 0
  · have d1 : decide (n < 0) = true := decide_eq_true h0
    clear hor h0
    go_enter Try.func16, Try.ntmps16
    go_wp2_with (first
      | (go_at_call 43; refine (curfewref08_Wrong.calls 40 A c l (wrongP l) _ HC.out hc (wrong_f l)).mono ?_; rintro e w1 ⟨rfl, hb⟩; have HB1 := Aside0.mk hb; have HC1 := Aside0.mk (Kd.C_below HC.out hb); clear hb; rw [HZ.out])
      | (go_at_call 42; refine (new_ok w A c l _ HB1.out HC1.out hc HZ.out).mono ?_; rintro e w3 ⟨pb, cb, A2, c2, rfl, hw⟩; have HW := Aside0.mk hw; clear hw)
      | (go_at_call 50; refine (HW.out.nth (by omega) n hn).mono ?_; rintro e w4 ⟨rfl, M, hM, hw⟩; rw [HN.out]; have H4 := Aside0.mk hw; have HM := Aside0.mk hM; clear hw hM)
      | (go_at_call 41; refine (lives_calls _).mono ?_; rintro e w2 ⟨rfl, hb⟩; have HB2 := Aside0.mk ((H4.out.later hb).below); clear hb))
    go_ret
    exact ⟨rfl, HB2.out⟩
  have d1 : decide (n < 0) = false := decide_eq_false h0
  by_cases hln : l.length = 0
  · have d2 : ((l.length : Int) == 0) = true := by rw [hln]; rfl
    clear hor h0 hln
    go_enter Try.func16, Try.ntmps16
    go_wp2_with (first
      | (go_at_call 43; refine (curfewref08_Wrong.calls 40 A c l (wrongP l) _ HC.out hc (wrong_f l)).mono ?_; rintro e w1 ⟨rfl, hb⟩; have HB1 := Aside0.mk hb; have HC1 := Aside0.mk (Kd.C_below HC.out hb); clear hb; rw [HZ.out])
      | (go_at_call 42; refine (new_ok w A c l _ HB1.out HC1.out hc HZ.out).mono ?_; rintro e w3 ⟨pb, cb, A2, c2, rfl, hw⟩; have HW := Aside0.mk hw; clear hw)
      | (go_at_call 50; refine (HW.out.nth (by omega) n hn).mono ?_; rintro e w4 ⟨rfl, M, hM, hw⟩; rw [HN.out]; have H4 := Aside0.mk hw; have HM := Aside0.mk hM; clear hw hM)
      | (go_at_call 41; refine (lives_calls _).mono ?_; rintro e w2 ⟨rfl, hb⟩; have HB2 := Aside0.mk ((H4.out.later hb).below); clear hb))
    go_ret
    exact ⟨rfl, HB2.out⟩
  have d2 : ((l.length : Int) == 0) = false := by simp only [beq_eq_false_iff_ne, ne_eq]; omega
  have hle : untilP l lastS ≤ n := by
    rcases hor with h | h | h
    · exact absurd h h0
    · rw [h] at hln; exact absurd rfl hln
    · exact h
  obtain ⟨u, hu⟩ : ∃ u, u = untilP l 2251799813685248 := ⟨_, rfl⟩
  have d3 : decide (u ≤ n) = true := decide_eq_true (by rw [hu]; exact hle)
  have HE := Aside0.mk hu.symm
  clear hor h0 hln hle hu
  go_enter Try.func16, Try.ntmps16
  go_wp2_with (first
      | (go_at_call 43; refine (curfewref08_Wrong.calls 40 A c l (wrongP l) _ HC.out hc (wrong_f l)).mono ?_; rintro e w1 ⟨rfl, hb⟩; have HB1 := Aside0.mk hb; have HC1 := Aside0.mk (Kd.C_below HC.out hb); clear hb; rw [HZ.out])
      | (go_at_call 42; refine (new_ok w A c l _ HB1.out HC1.out hc HZ.out).mono ?_; rintro e w3 ⟨pb, cb, A2, c2, rfl, hw⟩; have HW := Aside0.mk hw; clear hw)
      | (go_at_call 50; refine (HW.out.nth (by omega) n hn).mono ?_; rintro e w4 ⟨rfl, M, hM, hw⟩; rw [HN.out]; have H4 := Aside0.mk hw; have HM := Aside0.mk hM; clear hw hM)
      | (go_at_call 51; refine (H4.out.until_ (by have := HM.out; omega) _).mono ?_; rintro e w5 ⟨rfl, hw⟩; rw [HE.out]; have H5 := Aside0.mk hw; clear hw H4)
      | (go_at_call 41; refine (lives_calls _).mono ?_; rintro e w2 ⟨rfl, hb⟩; have HB2 := Aside0.mk ((H5.out.later hb).below); clear hb))
  go_ret
  exact ⟨rfl, HB2.out⟩

end Go.Proofs.Ytbjbejjieibldaa.Va
