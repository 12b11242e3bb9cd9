/- A plan of the week: the span that a second is in, searched. -/
import Derived.Test.YtbjbejjieibldaaVb
namespace Go.Proofs.Ytbjbejjieibldaa.Va
open Go.RowKit Go.Proofs.YtbjbejjieibldaaW.PrintWords Go.Proofs.YtbjbejjieibldaaW.PrintLast Go.Proofs.YtbjbejjieibldaaW.PrintMore Go.Proofs.Ytbjbejjieibldaa.PWeekCounts Go.Proofs.Ytbjbejjieibldaa.Rg Go.Proofs.Ytbjbejjieibldaa.La
open Go.Proofs.Ytbjbejjieibldaa
set_option linter.unusedVariables false

theorem mid_w (lo hi n : Nat) (h : lo < hi) (hn : hi ≤ n) (hn2 : n ≤ 1000) : wrap64 ((IntKind.u64.wrap (wrap64 ((lo : Int) + (hi : Int)))) / 2) = (((lo + hi) / 2 : Nat) : Int) := by
  have e1 : wrap64 ((lo : Int) + (hi : Int)) = (lo : Int) + hi := by unfold wrap64; omega
  rw [e1]
  have e2 : IntKind.u64.wrap ((lo : Int) + hi) = (lo : Int) + hi := by simp [IntKind.wrap, IntKind.bits, IntKind.signed]; omega
  rw [e2]
  unfold wrap64
  omega

/-- Ordered by their ends. -/
def Ups (l : List Sp) : Prop := ∀ i j, i < j → j < l.length → (el l i).f1 ≤ (el l j).f1
structure Cut2 (l : List Sp) (t : Int) (lo hi : Nat) : Prop where
  le : lo ≤ hi
  hil : hi ≤ l.length
  a : ∀ j, j < lo → (el l j).f1 ≤ t
  b : ∀ j, hi ≤ j → j < l.length → t < (el l j).f1
theorem Cut2.up {l : List Sp} {t : Int} {lo hi m : Nat} (h : Cut2 l t lo hi) (hu : Ups l) (h1 : m < hi) (h0 : lo ≤ m) (hm : (el l m).f1 ≤ t) : Cut2 l t (m + 1) hi :=
  ⟨h1, h.hil, fun j hj => by
    by_cases e : j = m
    · subst e; exact hm
    · exact Int.le_trans (hu j m (by omega) (by have := h.hil; omega)) hm, h.b⟩
theorem Cut2.down {l : List Sp} {t : Int} {lo hi m : Nat} (h : Cut2 l t lo hi) (hu : Ups l) (h0 : lo ≤ m) (h1 : m < hi) (hm : t < (el l m).f1) : Cut2 l t lo m :=
  ⟨h0, by have := h.hil; omega, h.a, fun j hj hl => by
    by_cases e : j = m
    · subst e; exact hm
    · exact Int.lt_of_lt_of_le hm (hu m j (by omega) hl)⟩

set_option maxHeartbeats 2000000 in
set_option maxRecDepth 100000 in
theorem search (A : Option Addr) (c : Nat) (l : List Sp) (t : Int) (w : World) (hr : Kd.C k151 w A l.length l) (hl : l.length ≤ 1000) (hu : Ups l) :
    Calls Try.prog 106 #[.slice A l.length c, .int .i64 t, .func (.func 107) #[] #[]] w fun e w' => ∃ (i : Nat) (b : Bool), e = .returned (.tuple #[.int .i64 (i : Int), .bool b]) ∧ AtI l t i ∧ Below w.heap.size w w' := by
  have hu151 := Try.underlying151
  have HR := Aside0.mk hr
  have HU := Aside0.mk hu
  clear hr hu
  go_enter Try.func106, Try.ntmps106
  go_wp2
  go_loopw [9, 10] (fun vi vj wr => ∃ lo hi : Nat, vi = .int .i64 lo ∧ vj = .int .i64 hi ∧ Aside0 (Cut2 l t lo hi) ∧ Aside0 (Below w.heap.size w wr)) (fun vi vj _ => (intOf vj - intOf vi).toNat)
  case atStart => exact ⟨0, l.length, rfl, rfl, ⟨⟨Nat.zero_le _, Nat.le_refl _, fun j hj => by omega, fun j h1 h2 => by omega⟩⟩, ⟨by repeat (first | exact Below.refl _ _ | refine pw_below_drewN ?_ _ | refine below_drew ?_)⟩⟩
  case round =>
    obtain ⟨lo, hi, rfl, rfl, HC, HB⟩ := hrel
    by_cases hlt : lo < hi
    · have d0 : decide ((lo : Int) < (hi : Int)) = true := decide_eq_true (by omega)
      have hm := mid_w lo hi l.length hlt HC.out.hil hl
      have hmw : (IntKind.i64.wrap ((IntKind.u64.wrap (wrap64 ((lo : Int) + (hi : Int)))) / 2)) = (((lo + hi) / 2 : Nat) : Int) := (i64_w _).trans hm
      have hmid : lo ≤ (lo + hi) / 2 ∧ (lo + hi) / 2 < hi := by omega
      generalize (lo + hi) / 2 = m at hm hmw hmid
      have hml : m < l.length := Nat.lt_of_lt_of_le hmid.2 HC.out.hil
      obtain ⟨ad, e1, x0, x1⟩ := at_T151 (Kd.C_below HR.out HB.out) (m : Int) (by omega) (by omega)
      cases e1
      rw [rd_el] at x0 x1
      simp only [Int.toNat_natCast] at x0 x1
      obtain ⟨s, hsd⟩ : ∃ s : Sp, s = el l m := ⟨_, rfl⟩
      have HSD := Aside0.mk hsd
      rw [← hsd] at x0 x1
      clear hsd
      have HM := Aside0.mk hmid
      clear hmid
      by_cases hs : s.f1 ≤ t
      · go_wp2_with (go_at_call 107; refine (side_calls s.f0 s.f1 t _).mono ?_; rintro e w2 ⟨rfl, hb⟩; rw [if_pos hs]; have HB2 := Aside0.mk (below_then HB.out HB.out.size hb); clear hb)
        go_roundw
        case rel => exact ⟨m + 1, hi, by go_num, rfl, ⟨HC.out.up HU.out HM.out.2 HM.out.1 (HSD.out ▸ hs)⟩, HB2⟩
        case measure => have := HM.out; simp [intOf]; omega
      · go_wp2_with (go_at_call 107; refine (side_calls s.f0 s.f1 t _).mono ?_; rintro e w2 ⟨rfl, hb⟩; rw [if_neg hs]; have HB2 := Aside0.mk (below_then HB.out HB.out.size hb); clear hb)
        go_roundw
        case rel => exact ⟨lo, m, rfl, rfl, ⟨HC.out.down HU.out HM.out.1 HM.out.2 (by rw [← HSD.out]; omega)⟩, HB2⟩
        case measure => have := HM.out; simp [intOf]; omega
    · have d0 : decide ((lo : Int) < (hi : Int)) = false := decide_eq_false (by omega)
      have he : lo = hi := Nat.le_antisymm HC.out.le (by omega)
      subst he
      by_cases hn : lo < l.length
      · have d1 : decide ((lo : Int) < (l.length : Int)) = true := decide_eq_true (by omega)
        obtain ⟨ad, e1, x0, x1⟩ := at_T151 (Kd.C_below HR.out HB.out) (lo : Int) (by omega) (by omega)
        cases e1
        rw [rd_el] at x0 x1
        simp only [Int.toNat_natCast] at x0 x1
        obtain ⟨s, hsd⟩ : ∃ s : Sp, s = el l lo := ⟨_, rfl⟩
        have HSD := Aside0.mk hsd
        rw [← hsd] at x0 x1
        clear hsd
        have hs : ¬ s.f1 ≤ t := by have := HC.out.b lo (Nat.le_refl _) hn; rw [← HSD.out] at this; omega
        go_wp2_with (go_at_call 107; refine (side_calls s.f0 s.f1 t _).mono ?_; rintro e w2 ⟨rfl, hb⟩; rw [if_neg hs]; have HB2 := Aside0.mk (below_then HB.out HB.out.size hb); clear hb)
        go_ret2
        exact ⟨lo, _, rfl, ⟨HC.out.hil, HC.out.a, HC.out.b⟩, HB2.out⟩
      · have d1 : decide ((lo : Int) < (l.length : Int)) = false := decide_eq_false (by omega)
        go_wp2
        go_ret2
        exact ⟨lo, _, rfl, ⟨HC.out.hil, HC.out.a, HC.out.b⟩, HB.out⟩

/-- at. -/
theorem at_calls (pb : Nat) (u : Value) (A : Option Addr) (c : Nat) (l : List Sp) (t : Int) (w : World) (h : w.heap[pb]? = some (.cells #[.slice A l.length c, u] 82 (0, 0))) (hr : Kd.C k151 w A l.length l) (hl : l.length ≤ 1000) (hu : Ups l) :
    Calls Try.prog 89 #[PB pb, .int .i64 t] w fun e w' => ∃ i : Nat, e = .returned (.int .i64 (i : Int)) ∧ AtI l t i ∧ Below w.heap.size w w' := by
  have c0 : w.cell? ⟨pb, 0, none⟩ = some (.slice A l.length c) := blk_cell h 0
  have HR := Aside0.mk hr
  have HU := Aside0.mk hu
  clear h hr hu
  go_enter Try.func89, Try.ntmps89
  go_wp2_with (go_at_call 106; refine (search A c l t _ HR.out hl HU.out).mono ?_; rintro e w' ⟨i, b, rfl, ha, hb⟩; have HA := Aside0.mk ha; have HB := Aside0.mk hb; clear ha hb)
  go_ret
  exact ⟨i, rfl, HA.out, HB.out⟩
end Go.Proofs.Ytbjbejjieibldaa.Va
