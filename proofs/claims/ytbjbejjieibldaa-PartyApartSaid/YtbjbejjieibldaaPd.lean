/- The party by what it heard: each call's answer; the chapter's example. -/
import Derived.Test.YtbjbejjieibldaaPc
import Derived.Test.YtbjbejjieibldaaPl
namespace Go.Proofs.Ytbjbejjieibldaa.Pa
open Go.RowKit Go.Proofs.YtbjbejjieibldaaW.PrintWords Go.Proofs.YtbjbejjieibldaaW.PrintLast Go.Proofs.YtbjbejjieibldaaW.PrintMore Go.Maps Go.Proofs.Ytbjbejjieibldaa.Rg
open Go.Proofs.Ytbjbejjieibldaa.Pl (cnt dedup mostL same_f cnt_snoc dedup_step most_dedup)
open Go.Proofs.Ytbjbejjieibldaa

/-- The party at block pb heard l. -/
def Heard (w : World) (base : Nat) (ok : Nat → Prop) (pb : Nat) (number : Int) (l : List Int) : Prop := IsP w base ok pb number (dedup l) (cnt l) l.length

section
variable {w w' : World} {base : Nat} {ok ok' : Nat → Prop} {pb : Nat} {number : Int} {l : List Int}
theorem Heard.kept {S : Nat → Prop} (h : Heard w base ok pb number l) (hk : Kept w w' S) (hS : ∀ k, ok k → ¬ S k) : Heard w' base ok pb number l := IsP.kept h hk hS
theorem Heard.below (h : Heard w base ok pb number l) (hb : Below w.heap.size w w') : Heard w' base ok pb number l := IsP.below h hb
theorem Heard.mono (h : Heard w base ok pb number l) (hok : ∀ k, ok k → ok' k) : Heard w base ok' pb number l := IsP.mono h hok
theorem Heard.bound (h : Heard w base ok pb number l) : Heard w base (fun k => ok k ∧ base ≤ k ∧ k < w.heap.size) pb number l := IsP.bound h

theorem upd_cnt (l : List Int) (id : Int) : upd (cnt l) id = cnt (l ++ [id]) := by
  funext x
  rw [cnt_snoc]
  unfold upd
  by_cases h : x = id
  · subst h; simp
  · rw [if_neg h, if_neg (fun e => h e.symm)]

theorem hearH (id ticket level party state tries retry wait next : Int) (w0 w : World) (hB : Below w0.heap.size w0 w) (h : Heard w w0.heap.size ok pb number l) (hp : party = number) (hid : U id) (hid0 : id ≠ 0) (hn : l.length < 1000) :
    Calls Try.prog 23 #[.pointer (some ⟨pb, 0, none⟩), NV id ticket level party state tries retry wait next] w fun e w' => e = .returned (.tuple #[.bool (cnt l id == 0), .int .i64 0]) ∧
      Heard w' w0.heap.size (fun k => ok k ∨ w.heap.size ≤ k) pb number (l ++ [id]) ∧ Below w0.heap.size w0 w' ∧ Kept w w' ok := by
  refine (hear_ok id ticket level party state tries retry wait next w0 w hB h hp hid hid0 hn).mono ?_
  rintro e w' ⟨rfl, h1, h2, h3⟩
  refine ⟨rfl, ?_, h2, h3⟩
  rw [dedup_step, upd_cnt] at h1
  unfold Heard
  rw [List.length_append]
  exact h1
theorem mostH (w : World) (h : Heard w base ok pb number l) : Calls Try.prog 54 #[.pointer (some ⟨pb, 0, none⟩)] w fun e w' => e = .returned (.int .i64 (mostL (cnt l) l)) ∧ Below w.heap.size w w' := by
  refine (most_calls w h).mono ?_
  rintro e w' ⟨rfl, hb⟩
  exact ⟨by rw [← most_dedup]; rfl, hb⟩
theorem newH (number : Int) (h0 : 0 ≤ number) (h1 : number ≤ 7) (w0 w : World) (hB : Below w0.heap.size w0 w) :
    Calls Try.prog 18 #[.int .i64 number] w fun e w' => ∃ pb, e = .returned (.pointer (some ⟨pb, 0, none⟩)) ∧ Heard w' w0.heap.size (fun k => w.heap.size ≤ k) pb number [] ∧ Below w0.heap.size w0 w' ∧ Below w.heap.size w w' := by
  refine (new_some number h0 h1 w0 w hB).mono ?_
  rintro e w' ⟨pb, rfl, h1, h2⟩
  exact ⟨pb, rfl, h1, h2⟩
end

/-- In the example, behind k hearings: the party, the literal that is ranged over. -/
def LR (w0 wr : World) (pb sb : Nat) (A : Option Addr) (c : Nat) (k : Nat) : Prop :=
  ∃ ok, Heard wr w0.heap.size ok pb 3 (([4, 2, 4] : List Int).take k) ∧ (∀ q, ok q → q ≠ sb) ∧ Kd.R (Kd.int .u64) 23 wr w0.heap.size (fun k => k = sb) (.slice A 3 c) [4, 2, 4] ∧ sb < wr.heap.size ∧ Below w0.heap.size w0 wr
theorem LR.below {w0 wr w' : World} {pb sb : Nat} {A : Option Addr} {c k : Nat} (h : LR w0 wr pb sb A c k) (hb : Below wr.heap.size wr w') : LR w0 w' pb sb A c k := by
  obtain ⟨ok, h1, h2, h3, h4, h5⟩ := h
  exact ⟨ok, h1.below hb, h2, Kd.R_below h3 hb, Nat.lt_of_lt_of_le h4 hb.size, below_then h5 h5.size hb⟩
theorem LR.step {w0 wr : World} {pb sb : Nat} {A : Option Addr} {c k : Nat} (h : LR w0 wr pb sb A c k) (hk : k < 3) :
    Calls Try.prog 23 #[.pointer (some ⟨pb, 0, none⟩), NV (rd [4, 2, 4] k) 0 0 3 0 0 0 0 0] wr fun e w' => ∃ b, e = .returned (.tuple #[.bool b, .int .i64 0]) ∧ LR w0 w' pb sb A c (k + 1) := by
  obtain ⟨ok, h1, h2, h3, h4, h5⟩ := h
  have hid : U (rd [4, 2, 4] k) ∧ rd [4, 2, 4] k ≠ 0 := by
    have : k = 0 ∨ k = 1 ∨ k = 2 := by omega
    rcases this with rfl | rfl | rfl <;> exact ⟨rfl, by decide⟩
  refine (hearH (rd [4, 2, 4] k) 0 0 3 0 0 0 0 0 w0 _ h5 h1 rfl hid.1 hid.2 (by simp; omega)).mono ?_
  rintro e w3 ⟨rfl, g1, g2, g3⟩
  refine ⟨_, rfl, (fun k => ok k ∨ wr.heap.size ≤ k), ?_, fun q hq => ?_, Kd.R_kept h3 g3 (fun q hq hk => h2 q hk hq), Nat.lt_of_lt_of_le h4 g3.1, g2⟩
  · rw [Pl.take_rd [4, 2, 4] k (by simpa using hk)]
    exact g1
  · rcases hq with hq | hq
    · exact h2 q hq
    · omega

set_option maxHeartbeats 1000000 in
set_option maxRecDepth 100000 in
theorem lives_calls (w : World) : Calls Try.prog 19 #[] w fun e w' => e = .returned (.bool true) ∧ Below w.heap.size w w' := by
  go_enter Try.func19, Try.ntmps19
  go_wp2_with (first
    | (go_at_call 18; refine (newH 3 (by omega) (by omega) w _ (Below.refl _ _)).mono ?_; rintro e w1 ⟨pb, rfl, hp, hb, _⟩; have HP := Aside0.mk hp; have HB := Aside0.mk hb; clear hp hb)
    | ((with_reducible refine gate_dst (N := 7) rfl ?_); refine Kd.R_lit (Kd.int .u64) (w0 := w) w.heap.size 23 rfl (N := 7) rfl (xs := ([4, 2, 4] : List Int)) (inner := [.int .u64 4, .int .u64 2, .int .u64 4]) (ok := fun k => k = w1.heap.size) (okp := fun _ => False) ?hr (Kd.reps_scalar [4, 2, 4]) (fun _ h => h.elim) rfl HB.out HB.out.size (by simp) ?_; (case hr => first | (go_simp; done) | (go_simp; rfl)); intro v w2 ho hb hg hn; have HO := Aside0.mk ho; have HB2 := Aside0.mk hb; have HG := Aside0.mk (below_of_grown hg); have HN := Aside0.mk hn; clear ho hb hg hn; obtain ⟨A, c, hv, hc, hr⟩ := Kd.R_reads HO.out; subst hv; clear hr hc))
  have HL : Aside0 (LR w w2 pb w1.heap.size A c 0) := ⟨⟨_, (HP.out.bound).below HG.out, fun q hq => by omega, HO.out, by
    obtain ⟨b, hb, hlb⟩ := HN.out
    have := HO.out.1 b hb
    exact this ▸ ((Kd.R_bound HO.out).1 b hb).2.2.1, HB2.out⟩⟩
  clear HP HB HG HO HB2 HN
  go_loopw [9] (fun i wr => ∃ k : Nat, k ≤ 3 ∧ i = .int .i64 k ∧ Aside0 (LR w wr pb w1.heap.size A c k)) (fun i _ => 3 - (intOf i).toNat)
  case atStart => exact ⟨0, by omega, rfl, HL⟩
  case round =>
    clear HL
    obtain ⟨k, hk, rfl, HL⟩ := hrel
    by_cases hlt : k < 3
    · obtain ⟨ad, e1, hx⟩ : ∃ ad, A = some ad ∧ wr.cell? (ad.add k) = some (.int .u64 (rd [4, 2, 4] k)) := by
        obtain ⟨ok, h1, h2, h3, h4, h5⟩ := HL.out
        have := Kd.at_int (Kd.R_reads' h3).2.2 (k : Int) (by omega) (by simp; omega)
        simpa using this
      cases e1
      go_wp2_with (go_at_call 23; refine (HL.out.step hlt).mono ?_; rintro e w3 ⟨b3, rfl, h1⟩; have HL3 := Aside0.mk h1; clear h1)
      go_roundw
      case rel => exact ⟨k + 1, by omega, by go_num, HL3⟩
      case measure => simp [intOf]; omega
    · obtain rfl : k = 3 := by omega
      have hP : ∃ ok, Heard wr w.heap.size ok pb 3 [4, 2, 4] := by
        obtain ⟨ok, h1, _⟩ := HL.out
        exact ⟨ok, h1⟩
      obtain ⟨ok, hP⟩ := hP
      have HP := Aside0.mk hP
      clear hP
      have HB : Aside0 (Below w.heap.size w wr) := ⟨by
        obtain ⟨_, _, _, _, _, h5⟩ := HL.out
        exact h5⟩
      clear HL
      go_wp2_with (first
        | (go_at_call 25; refine (did_calls _ HP.out).mono ?_; rintro e w3 ⟨v3, rfl, ho, hb⟩; rw [show dedup [4, 2, 4] = [4, 2] by decide] at ho; have HO3 := Aside0.mk ho; have HP3 := Aside0.mk (HP.out.below hb); have HB3 := Aside0.mk (below_then HB.out HB.out.size hb); clear ho hb; obtain ⟨A3, c3, hv, hc, hr⟩ := Kd.R_reads HO3.out; subst hv; clear hr hc)
        | ((with_reducible refine gate_dst (N := 25) rfl ?_); refine Kd.R_lit (Kd.int .u64) (w0 := w3) w3.heap.size 23 rfl (N := 25) rfl (xs := ([4, 2] : List Int)) (inner := [.int .u64 4, .int .u64 2]) (ok := fun _ => True) (okp := fun _ => False) ?hr (Kd.reps_scalar [4, 2]) (fun _ h => h.elim) trivial (Below.refl _ _) (Nat.le_refl _) (by simp) ?_; (case hr => first | (go_simp; done) | (go_simp; rfl)); intro v4 w4 ho hb hg hn; have HO4 := Aside0.mk ho; have HR3 := Aside0.mk (Kd.R_below HO3.out hb); have HP4 := Aside0.mk (HP3.out.below hb); have HB4 := Aside0.mk (below_then HB3.out HB3.out.size hb); clear ho hb hg hn; obtain ⟨A4, c4, hv, hc, hr⟩ := Kd.R_reads HO4.out; subst hv; clear hr hc)
        | (go_at_call 24; refine (PPartyPlays.curfewref37_Same.calls 4 A3 c3 [4, 2] A4 c4 [4, 2] true _ (Kd.R_reads' HR3.out).2.2 (Kd.R_reads' HR3.out).2.1 (Kd.R_reads' HO4.out).2.2 (Kd.R_reads' HO4.out).2.1 (by rw [same_f 4 [4, 2] [4, 2] (by simp) (by simp)]; rfl)).mono ?_; rintro e w5 ⟨rfl, hd⟩; have HP5 := Aside0.mk (HP4.out.below hd.below); have HB5 := Aside0.mk (below_then HB4.out HB4.out.size hd.below); clear hd)
        | (go_at_call 21; refine (times_calls 4 _ HP5.out (by rfl)).mono ?_; rintro e w' ⟨rfl, rfl⟩)
        | (go_at_call 54; refine (mostH _ HP5.out).mono ?_; rintro e w6 ⟨rfl, hb⟩; have HB6 := Aside0.mk (below_then HB5.out HB5.out.size hb); clear hb))
      go_outline
      go_ret
      exact ⟨rfl, HB6.out⟩
end Go.Proofs.Ytbjbejjieibldaa.Pa
