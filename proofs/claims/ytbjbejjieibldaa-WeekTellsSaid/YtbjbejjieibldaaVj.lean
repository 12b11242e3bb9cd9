/- A plan's Nth; New. -/
import Derived.Test.YtbjbejjieibldaaVi
namespace Go.Proofs.Ytbjbejjieibldaa.Va
open Go.RowKit Go.Proofs.YtbjbejjieibldaaW.PrintWords Go.Proofs.YtbjbejjieibldaaW.PrintLast Go.Proofs.YtbjbejjieibldaaW.PrintMore Go.Proofs.Ytbjbejjieibldaa.PWeekCounts Go.Proofs.Ytbjbejjieibldaa.Rg Go.Proofs.Ytbjbejjieibldaa.La
open Go.Proofs.Ytbjbejjieibldaa
set_option linter.unusedVariables false

theorem ret_2 {k k' : IntKind} {a b a' b' : Int} (h : a = b) (h' : a' = b') : Ending.returned (.tuple #[.int k a, .int k' a']) = .returned (.tuple #[.int k b, .int k' b']) := by rw [h, h']

set_option maxHeartbeats 1000000 in
set_option maxRecDepth 100000 in
/-- Nth. -/
theorem Wk.nth {W0 w : World} {pb cb : Nat} {A : Option Addr} {c : Nat} {l : List Sp} {N : Nat} (h : Wk W0 w pb cb A c l N) (hN : N < 980000) (n : Int) (hn : n ≤ 9223372036854775807) :
    Calls Try.prog 50 #[PB pb, .int .i64 n] w fun e w' => e = .returned (.tuple #[.int .i64 (nthP l n).1, .int .i64 (nthP l n).2]) ∧ ∃ M, M ≤ N + 3 ∧ Wk W0 w' pb cb A c l M := by
  have H := Aside0.mk h
  by_cases h0 : n < 0
  · have e : nthP l n = (0, 2) := by unfold nthP; rw [if_pos h0]
    have d0 : decide (n < 0) = true := decide_eq_true h0
    rw [e]
    clear h h0 e
    go_enter Try.func50, Try.ntmps50
    go_wp2_with (first
      | (go_at_call 44; refine (H.out.total (by omega)).mono ?_; rintro e w1 ⟨rfl, hw, hk⟩; have H1 := Aside0.mk hw; clear hw hk)
      | (go_at_call 86; refine (H1.out.made86).mono ?_; rintro e w' ⟨rfl, rfl⟩))
    go_ret2
    exact ⟨rfl, N + 1, by omega, H1.out⟩
  have d0 : decide (n < 0) = false := decide_eq_false h0
  have hs := lsum_nonneg h.good
  have hs2 := lsum_le (by omega) h.good
  by_cases h1 : lsum l = 0
  · have e : nthP l n = (0, 40) := by unfold nthP; rw [if_neg h0, if_pos h1]
    rw [e]
    have HZ := Aside0.mk h1
    clear h h0 e hs hs2 h1
    go_enter Try.func50, Try.ntmps50
    go_wp2_with (first
      | (go_at_call 44; refine (H.out.total (by omega)).mono ?_; rintro e w1 ⟨rfl, hw, hk⟩; have H1 := Aside0.mk hw; rw [HZ.out]; clear hw hk)
      | (go_at_call 86; refine (H1.out.made86).mono ?_; rintro e w' ⟨rfl, rfl⟩))
    go_ret2
    exact ⟨rfl, N + 1, by omega, H1.out⟩
  obtain ⟨tot, htot⟩ : ∃ tot, tot = lsum l := ⟨_, rfl⟩
  have ht0 : ¬ tot = 0 := by rw [htot]; exact h1
  have htp : 0 < tot := by omega
  have d1 : (tot == 0) = false := by simpa using ht0
  have hdm := Int.mul_ediv_add_emod n tot
  have hr0 := Int.emod_nonneg n ht0
  have hr1 := Int.emod_lt_of_pos n htp
  have hq0 : 0 ≤ n / tot := Int.ediv_nonneg (by omega) (by omega)
  have hq1 : n / tot ≤ n := Int.ediv_le_self _ (by omega)
  have hqd : n.tdiv tot = n / tot := Int.tdiv_eq_ediv_of_nonneg (by omega)
  have hrd : n.tmod tot = n % tot := Int.tmod_eq_emod_of_nonneg (by omega)
  have hqw : wrap64 (n / tot) = n / tot := by unfold wrap64; omega
  have hqw2 : IntKind.i64.wrap (n / tot) = n / tot := IntWalk.i64_in _ (by omega)
  have HN : Aside0 (nthP l n = if 3723213977 < n / tot then (0, 10) else if lastS < n / tot * 604800 + posOf l (n % tot) then (0, 10) else (n / tot * 604800 + posOf l (n % tot), 0)) := ⟨by unfold nthP; rw [if_neg h0, if_neg h1, htot]⟩
  have HT := Aside0.mk htot
  have HR : Aside0 (0 ≤ n % tot ∧ n % tot < lsum l ∧ n % tot ≤ 604800) := ⟨by omega⟩
  clear h0 h1 hdm hr0 hr1 hq1 htot
  generalize n / tot = q at *
  generalize n % tot = r at *
  by_cases h2 : 3723213977 < q
  · have d2 : decide (3723213977 < q) = true := decide_eq_true h2
    have e : nthP l n = (0, 10) := by rw [HN.out, if_pos h2]
    rw [e]
    clear h e hs hs2 HN h2
    go_enter Try.func50, Try.ntmps50
    go_wp2_with (first
      | (go_at_call 44; refine (H.out.total (by omega)).mono ?_; rintro e w1 ⟨rfl, hw, hk⟩; have H1 := Aside0.mk hw; rw [← HT.out]; clear hw hk)
      | (go_at_call 86; refine (H1.out.made86).mono ?_; rintro e w' ⟨rfl, rfl⟩))
    go_ret2
    exact ⟨rfl, N + 1, by omega, H1.out⟩
  have d2 : decide (3723213977 < q) = false := decide_eq_false h2
  obtain ⟨j, bb, hf, hj, hp⟩ := find_span h.good h.len r HR.out.1 HR.out.2.1
  obtain ⟨ap, eA, _⟩ := at_T151 h.cells (j : Int) (by omega) (by omega)
  subst eA
  have HF := Aside0.mk hf
  have HP := Aside0.mk hp
  have HE := Aside0.mk (h.good.el j hj)
  have hrw : IntKind.i64.wrap (r + 1) = r + 1 := IntWalk.i64_in _ (by have := HR.out; omega)
  have hrw2 : wrap64 (r + 1) = r + 1 := by have := HR.out; unfold wrap64; omega
  have HQ : Aside0 (0 ≤ q ∧ q ≤ 3723213977) := ⟨by omega⟩
  have HJ := Aside0.mk hj
  clear hf hp hs hs2 h h2 hj
  go_enter Try.func50, Try.ntmps50
  go_wp2_with (first
    | (go_at_call 44; refine (H.out.total (by omega)).mono ?_; rintro e w1 ⟨rfl, hw, hk⟩; have H1 := Aside0.mk hw; rw [← HT.out]; clear hw hk; have c1 := (blk_cell H1.out.blk 1).trans rfl)
    | (go_at_call 86; refine (H1.out.made86).mono ?_; rintro e w' ⟨rfl, rfl⟩)
    | (go_at_call 87; refine (H1.out.get (by omega)).mono ?_; rintro e w2 ⟨v, rfl, hs, hw, hk⟩; have H2 := Aside0.mk hw; have HS := Aside0.mk hs; clear hw hk hs c1; obtain ⟨A1, n1, hv⟩ := Kd.R_slice HS.out; subst hv)
    | (go_at_call 91; refine (slices_BinarySearch_int64_int64.calls 2000 A1 n1 (sumsL l l.length) (r + 1) ((j + 1 : Nat) : Int) bb _ (Kd.R_reads' HS.out).2.2 (Kd.R_reads' HS.out).2.1 HF.out).mono ?_; rintro e w3 ⟨rfl, hd⟩; have H3 := Aside0.mk (H2.out.later hd.below); clear hd))
  refine r50x12 pb cb ap c l (N + 2) j n tot q r W0 w3 (by omega) HJ.out H.out.len htp hqd hqw hqw2 HQ.out ⟨HR.out.1, HR.out.2.2⟩ (by have := HE.out; omega) (lsum_take_bound H.out.good j) rfl rfl rfl rfl rfl rfl ⟨(Kept.refl w3 _).drew, by have := H3.out.drew; simpa using this⟩ (fun v61 v64 w4 b hb hG f61 f64 => ?_)
  have H4 : Aside0 (Wk W0 w4 pb cb (some ap) c l (N + 3)) := ⟨by have := hG.2; rw [hb 20 (by decide)] at this; exact this⟩
  clear hG f61 f64 hb
  simp only [putAll, Act.put, List.setIfInBounds_toArray, List.set_cons_zero, List.set_cons_succ]
  have HX : Aside0 (q * 604800 + (el l j).f0 + r - lsum (l.take j) = q * 604800 + posOf l r) := ⟨by rw [HP.out]; omega⟩
  rw [HX.out]
  by_cases h3 : lastS < q * 604800 + posOf l r
  · have e : nthP l n = (0, 10) := by rw [HN.out, if_neg (by have := HQ.out; omega), if_pos h3]
    have d3 : decide (2251799813685248 < q * 604800 + posOf l r) = true := decide_eq_true h3
    have HEE := Aside0.mk e
    clear h3 e
    generalize q * 604800 + posOf l r = z at *
    go_wp2
    go_ret2
    exact ⟨by rw [HEE.out]; rfl, N + 3, by omega, H4.out⟩
  · have e : nthP l n = (q * 604800 + posOf l r, 0) := by rw [HN.out, if_neg (by have := HQ.out; omega), if_neg h3]
    have d3 : decide (2251799813685248 < q * 604800 + posOf l r) = false := decide_eq_false h3
    have HEE := Aside0.mk e
    clear h3 e
    generalize q * 604800 + posOf l r = z at *
    go_wp2
    go_ret2
    exact ⟨by rw [HEE.out]; rfl, N + 3, by omega, H4.out⟩
end Go.Proofs.Ytbjbejjieibldaa.Va
