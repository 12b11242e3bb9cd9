/- WeekTells, walked. -/
import Derived.Test.YtbjbejjieibldaaVm
import Derived.Test.YtbjbejjieibldaaVr
namespace Go.Proofs.Ytbjbejjieibldaa.Va
open Go.RowKit Go.Proofs.YtbjbejjieibldaaW.PrintWords Go.Proofs.YtbjbejjieibldaaW.PrintLast Go.Proofs.YtbjbejjieibldaaW.PrintMore Go.Proofs.Ytbjbejjieibldaa.PWeekCounts Go.Proofs.Ytbjbejjieibldaa.Rg Go.Proofs.Ytbjbejjieibldaa.La
open Go.Proofs.Ytbjbejjieibldaa
set_option linter.unusedVariables false

set_option maxHeartbeats 2000000 in
set_option maxRecDepth 100000 in
theorem weektells_walk (A : Option Addr) (c : Nat) (l : List Sp) (t : Int) (w : World) (hC : Kd.C k151 w A l.length l) (hc : l.length ≤ c) :
    Calls Try.prog 6 #[.slice A l.length c, .int .i64 t] w fun e w' => e = .returned (.bool true) ∧ Below w.heap.size w w' := by
  have HC := Aside0.mk hC
  clear hC
  by_cases hlen : 100 < l.length
  · have d0 : decide (100 < (l.length : Int)) = true := decide_eq_true (by omega)
    go_enter Try.func6, Try.ntmps6
    go_wp2_with (go_at_call 41; refine (lives_calls _).mono ?_; rintro e w2 ⟨rfl, hb⟩; have HB2 := Aside0.mk (hb); clear hb)
    go_ret
    exact ⟨rfl, HB2.out⟩
  have d0 : decide (100 < (l.length : Int)) = false := decide_eq_false (by omega)
  by_cases hz : wrongP l = 0
  rotate_left
  · have dz : (wrongP l != 0) = true := by simpa using hz
    have HZ := Aside0.mk hz
    clear hz
    go_enter Try.func6, Try.ntmps6
    go_wp2_with (first
      | (go_at_call 42; refine (new_bad A c l _ HC.out hc HZ.out).mono ?_; rintro e w1 ⟨rfl, hb⟩; have HB1 := Aside0.mk hb; clear hb)
      | (go_at_call 43; refine (curfewref08_Wrong.calls 40 A c l (wrongP l) _ (Kd.C_below HC.out HB1.out) hc (wrong_f l)).mono ?_; rintro e w2 ⟨rfl, hb⟩; have HB3 := Aside0.mk (below_then HB1.out HB1.out.size hb); clear hb)
      | (go_at_call 41; refine (lives_calls _).mono ?_; rintro e w2 ⟨rfl, hb⟩; have HB2 := Aside0.mk (below_then HB3.out HB3.out.size hb); clear hb))
    go_ret
    exact ⟨by simp, HB2.out⟩
  have HZ := Aside0.mk hz
  clear hz hlen
  go_enter Try.func6, Try.ntmps6
  go_wp2_with (first
    | (go_at_call 42; refine (new_ok w A c l _ (Below.refl _ _) HC.out hc HZ.out).mono ?_; rintro e w1 ⟨pb, cb, A2, c2, rfl, hw⟩; have HW := Aside0.mk hw; clear hw)
    | (go_at_call 43; refine (curfewref08_Wrong.calls 40 A c l (wrongP l) _ (Kd.C_below HC.out HW.out.below) hc (wrong_f l)).mono ?_; rintro e w2 ⟨rfl, hb⟩; rw [HZ.out]; have H2 := Aside0.mk (HW.out.later hb); clear hb HW)
    | (go_at_call 44; refine (H2.out.total (by omega)).mono ?_; rintro e w3 ⟨rfl, hw, hk⟩; have H3 := Aside0.mk hw; clear hw hk H2)
    | (go_at_call 45; refine (curfewref07_Len.calls 40 A c l (lsum l) _ (Kd.C_below HC.out H3.out.below) hc (len_f HZ.out 40 (by omega))).mono ?_; rintro e w4 ⟨rfl, hb⟩; have H4 := Aside0.mk (H3.out.later hb); clear hb H3)
    | (go_at_call 46; refine (H4.out.open_ t).mono ?_; rintro e w5 ⟨rfl, hw⟩; have H5 := Aside0.mk hw; clear hw H4)
    | (go_at_call 47; refine (Vr.open_calls HZ.out A c t _ (Kd.C_below HC.out H5.out.below) hc).mono ?_; rintro e w6 ⟨rfl, hb⟩; have H6 := Aside0.mk (H5.out.later hb); clear hb H5)
    | (go_at_call 49; refine (H6.out.rows).mono ?_; rintro e w7 ⟨v, rfl, ho, hw, hb⟩; obtain ⟨A7, c7, hv⟩ := Kd.R_slice ho; subst hv; have HO := Aside0.mk ho; have H7 := Aside0.mk hw; clear ho hw hb H6)
    | (go_at_call 48; refine (Vr.same_calls HZ.out A7 A c7 c _ (Kd.R_reads' HO.out).2.2 (Kd.R_reads' HO.out).2.1 (Kd.C_below HC.out H7.out.below) hc).mono ?_; rintro e w8 ⟨rfl, hb⟩; have H8 := Aside0.mk (H7.out.later hb); clear hb H7)
    | (go_at_call 41; refine (lives_calls _).mono ?_; rintro e w2 ⟨rfl, hb⟩; have HB2 := Aside0.mk ((H8.out.later hb).below); clear hb))
  go_ret
  exact ⟨by simp, HB2.out⟩

end Go.Proofs.Ytbjbejjieibldaa.Va
