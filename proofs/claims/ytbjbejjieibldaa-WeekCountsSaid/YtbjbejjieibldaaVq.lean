/- WeekCounts, walked. -/
import Derived.Test.YtbjbejjieibldaaVm
import Derived.Test.YtbjbejjieibldaaVp
namespace Go.Proofs.Ytbjbejjieibldaa.Va
open Go.RowKit Go.Proofs.YtbjbejjieibldaaW.PrintWords Go.Proofs.YtbjbejjieibldaaW.PrintLast Go.Proofs.YtbjbejjieibldaaW.PrintMore Go.Proofs.Ytbjbejjieibldaa.PWeekCounts Go.Proofs.Ytbjbejjieibldaa.Rg Go.Proofs.Ytbjbejjieibldaa.La
open Go.Proofs.Ytbjbejjieibldaa
set_option linter.unusedVariables false

set_option maxHeartbeats 2000000 in
set_option maxRecDepth 100000 in
theorem weekcounts_walk (A : Option Addr) (c : Nat) (l : List Sp) (x y n : Int) (w : World) (hC : Kd.C k151 w A l.length l) (hc : l.length ≤ c) (hn : n ≤ 9223372036854775807) :
    Calls Try.prog 15 #[.slice A l.length c, .int .i64 x, .int .i64 y, .int .i64 n] w fun e w' => e = .returned (.bool true) ∧ Below w.heap.size w w' := by
  have HC := Aside0.mk hC
  clear hC
  by_cases hlen : 100 < l.length
  · have d0 : decide (100 < (l.length : Int)) = true := decide_eq_true (by omega)
    go_enter Try.func15, Try.ntmps15
    go_wp2_with (go_at_call 41; refine (lives_calls _).mono ?_; rintro e w2 ⟨rfl, hb⟩; have HB2 := Aside0.mk (hb); clear hb)
    go_ret
    exact ⟨rfl, HB2.out⟩
  have d0 : decide (100 < (l.length : Int)) = false := decide_eq_false (by omega)
  by_cases hz : wrongP l = 0
  rotate_left
  · have dz : (wrongP l != 0) = true := by simpa using hz
    clear hz
    go_enter Try.func15, Try.ntmps15
    go_wp2_with (first
      | (go_at_call 43; refine (curfewref08_Wrong.calls 40 A c l (wrongP l) _ HC.out hc (wrong_f l)).mono ?_; rintro e w1 ⟨rfl, hb⟩; have HB1 := Aside0.mk hb; have HC1 := Aside0.mk (Kd.C_below HC.out hb); clear hb)
      | (go_at_call 41; refine (lives_calls _).mono ?_; rintro e w2 ⟨rfl, hb⟩; have HB2 := Aside0.mk (below_then HB1.out HB1.out.size hb); clear hb))
    go_ret
    exact ⟨rfl, HB2.out⟩
  have HZ := Aside0.mk hz
  have hg := wrong_good hz
  clear hz hlen
  clear hg
  go_enter Try.func15, Try.ntmps15
  go_wp2_with (first
    | (go_at_call 43; refine (curfewref08_Wrong.calls 40 A c l (wrongP l) _ HC.out hc (wrong_f l)).mono ?_; rintro e w1 ⟨rfl, hb⟩; have HB1 := Aside0.mk hb; have HC1 := Aside0.mk (Kd.C_below HC.out hb); clear hb; rw [HZ.out])
    | (go_at_call 42; refine (new_ok w A c l _ HB1.out HC1.out hc HZ.out).mono ?_; rintro e w3 ⟨pb, cb, A2, c2, rfl, hw⟩; have HW := Aside0.mk hw; clear hw)
    | (go_at_call 50; refine (HW.out.nth (by omega) n hn).mono ?_; rintro e w4 ⟨rfl, M, hM, hw⟩; have H4 := Aside0.mk hw; have HM := Aside0.mk hM; clear hw hM HW)
    | (go_at_call 69; refine (curfewref08_Nth.calls 40 A c l n (nthP l n).1 (nthP l n).2 _ (Kd.C_below HC.out H4.out.below) hc (nth_f HZ.out n hn)).mono ?_; rintro e w5 ⟨rfl, hb⟩; have Hw5 := Aside0.mk (H4.out.later hb); clear hb H4)
    | (go_at_call 51; refine (Hw5.out.until_ (by have := HM.out; omega) x).mono ?_; rintro e w6 ⟨rfl, hw⟩; have H6 := Aside0.mk hw; clear hw Hw5)
    | (go_at_call 70; refine (curfewref08_Until.calls 40 A c l x (untilP l x) _ (Kd.C_below HC.out H6.out.below) hc (until_f HZ.out x)).mono ?_; rintro e w7 ⟨rfl, hb⟩; have Hw7 := Aside0.mk (H6.out.later hb); clear hb H6)
    | (go_at_call 52; refine (Hw7.out.between (by have := HM.out; omega) x y).mono ?_; rintro e w8 ⟨rfl, hw⟩; have H8 := Aside0.mk hw; clear hw Hw7)
    | (go_at_call 71; refine (curfewref08_Between.calls 40 A c l x y (betP l x y) _ (Kd.C_below HC.out H8.out.below) hc (between_f HZ.out x y)).mono ?_; rintro e w9 ⟨rfl, hb⟩; have Hw9 := Aside0.mk (H8.out.later hb); clear hb H8)
    | (go_at_call 41; refine (lives_calls _).mono ?_; rintro e w2 ⟨rfl, hb⟩; have HB2 := Aside0.mk ((Hw9.out.later hb).below); clear hb))
  go_ret
  exact ⟨by simp, HB2.out⟩

end Go.Proofs.Ytbjbejjieibldaa.Va
