/- The document's Open and Same, told plainly. -/
import Derived.Test.YtbjbejjieibldaaVp
import Derived.Test.YtbjbejjieibldaaPWeekTellsx5
namespace Go.Proofs.Ytbjbejjieibldaa.Vr
open Go.RowKit Go.Proofs.YtbjbejjieibldaaW.PrintWords Go.Proofs.YtbjbejjieibldaaW.PrintLast Go.Proofs.YtbjbejjieibldaaW.PrintMore Go.Proofs.Ytbjbejjieibldaa.PWeekTells
open Go.Proofs.Ytbjbejjieibldaa
open Go.Proofs.Ytbjbejjieibldaa.Va (Sp el Gd hasL openP wrongP rowErr rowErr_ok wrong_good wrap_nat prevEnd lastS row_zero)
set_option linter.unusedVariables false

/-- A span as the other print has it. -/
def cv (s : Sp) : S151 := ⟨s.f0, s.f1⟩
theorem cv_C {w : World} {A : Option Addr} {n : Nat} {l : List Sp} (h : Kd.C PWeekCounts.k151 w A n l) : Kd.C k151 w A n (l.map cv) := by
  refine ⟨by rw [List.length_map]; exact h.1, h.2.1, fun hn => ?_⟩
  obtain ⟨ad, e, hc⟩ := h.2.2 hn
  refine ⟨ad, e, fun j p hj => ?_⟩
  rw [List.getElem?_map] at hj
  obtain ⟨s, hs, rfl⟩ := Option.map_eq_some_iff.1 hj
  obtain ⟨c, hl, hk, hcell⟩ := hc j s hs
  obtain rfl := PWeekCounts.k151_open hk
  exact ⟨_, rfl, k151_mk w (cv s), hcell⟩
theorem rd_cv (l : List Sp) (i : Nat) : rd_T151 (l.map cv) (i : Int) = cv (el l i) := by
  simp only [rd_T151, el, Int.toNat_natCast, List.getD_eq_getElem?_getD, List.getElem?_map]
  cases l[i]? <;> rfl

section
variable {l : List Sp} (hw : wrongP l = 0)
include hw
theorem row_l0 : ∀ (d i k : Nat), i + d = l.length → d < k → curfewref07_Row.l0 k (l.map cv) (i : Int) = some 0 := by
  have hg := wrong_good hw
  have hr := row_zero hw
  intro d
  induction d with
  | zero =>
    intro i k hi hk
    obtain ⟨k, rfl⟩ : ∃ m, k = m + 1 := ⟨k - 1, by omega⟩
    simp only [curfewref07_Row.l0, List.length_map]
    rw [if_neg (by omega)]
  | succ d ih =>
    intro i k hi hk
    obtain ⟨k, rfl⟩ : ∃ m, k = m + 1 := ⟨k - 1, by omega⟩
    have h1 := ih (i + 1) k (by omega) (by omega)
    have he := hg.1.el i (by omega)
    have hok := rowErr_ok hr i (by omega)
    have hR : curfewref07_Right.f (cv (el l i)).f0 (cv (el l i)).f1 = some true := by
      show curfewref07_Right.f (el l i).f0 (el l i).f1 = some true
      unfold curfewref07_Right.f
      rw [if_pos (by omega), if_pos (by omega), decide_eq_true (by omega)]
    simp only [curfewref07_Row.l0, List.length_map]
    rw [if_pos (by omega), if_pos (by omega), rd_cv, hR, Option.bind_some, if_pos rfl, wrap_nat i (by have := hg.2; omega)]
    cases i with
    | zero =>
      rw [if_neg (by omega)]
      exact h1
    | succ i =>
      have e : wrap64 (((i + 1 : Nat) : Int) - 1) = (i : Int) := by have := hg.2; unfold wrap64; omega
      rw [if_pos (by omega), e, if_pos (by omega), if_pos (by omega), rd_cv]
      have hp : ¬ (cv (el l (i + 1))).f0 < (cv (el l i)).f1 := by
        show ¬ (el l (i + 1)).f0 < (el l i).f1
        have := hok.2.2
        simp only [prevEnd] at this
        omega
      rw [if_neg hp]
      exact h1
theorem row_f : curfewref07_Row.f 40 (l.map cv) = some 0 := by
  have hg := wrong_good hw
  unfold curfewref07_Row.f
  rw [if_neg (by rw [List.length_map]; have := hg.2; omega)]
  exact row_l0 hw l.length 0 40 (by omega) (by have := hg.2; omega)
theorem has_l0 (t : Int) : ∀ (d i k : Nat), i + d = l.length → d < k → curfewref07_Has.l0 k (l.map cv) t (i : Int) = some (hasL (l.drop i) t) := by
  have hg := wrong_good hw
  intro d
  induction d with
  | zero =>
    intro i k hi hk
    obtain ⟨k, rfl⟩ : ∃ m, k = m + 1 := ⟨k - 1, by omega⟩
    simp only [curfewref07_Has.l0, List.length_map]
    rw [if_neg (by omega), List.drop_of_length_le (by omega)]
    rfl
  | succ d ih =>
    intro i k hi hk
    obtain ⟨k, rfl⟩ : ∃ m, k = m + 1 := ⟨k - 1, by omega⟩
    have h1 := ih (i + 1) k (by omega) (by omega)
    have hil : i < l.length := by omega
    have hd : l.drop i = el l i :: l.drop (i + 1) := by
      rw [List.drop_eq_getElem_cons hil]
      simp [el, List.getD_eq_getElem?_getD, hil]
    simp only [curfewref07_Has.l0, List.length_map]
    rw [if_pos (by omega), if_pos (by omega), rd_cv, wrap_nat i (by have := hg.2; omega), hd, Va.hasL_cons, h1]
    show (if t ≥ (el l i).f0 then (if t < (el l i).f1 then some true else _) else _) = _
    by_cases h2 : (el l i).f0 ≤ t
    · rw [if_pos h2, decide_eq_true h2]
      by_cases h3 : t < (el l i).f1
      · rw [if_pos h3, decide_eq_true h3]; rfl
      · rw [if_neg h3, decide_eq_false h3]; rfl
    · rw [if_neg h2, decide_eq_false h2]; rfl
theorem open_f (t : Int) : curfewref08_Open.f 40 (l.map cv) t = some (openP l t) := by
  have hg := wrong_good hw
  unfold curfewref08_Open.f openP lastS
  by_cases h0 : 0 ≤ t
  · rw [if_pos h0, decide_eq_true h0]
    by_cases h1 : t ≤ 2251799813685248
    · rw [if_pos h1, decide_eq_true h1]
      unfold curfewref07_Has.f
      have h2 := has_l0 hw (t % 604800) l.length 0 40 (by omega) (by have := hg.2; omega)
      have h2' : curfewref07_Has.l0 40 (l.map cv) (t % 604800) 0 = some (hasL l (t % 604800)) := h2
      rw [row_f hw, Option.bind_some, if_pos rfl, Int.tmod_eq_emod_of_nonneg h0, h2', Option.bind_some]
      rfl
    · rw [if_neg h1, decide_eq_false h1]; rfl
  · rw [if_neg h0, decide_eq_false h0]; rfl
theorem same_l0 : ∀ (d i k : Nat), i + d = l.length → d < k → curfewref07_Same.l0 k (l.map cv) (l.map cv) (i : Int) = some true := by
  have hg := wrong_good hw
  intro d
  induction d with
  | zero =>
    intro i k hi hk
    obtain ⟨k, rfl⟩ : ∃ m, k = m + 1 := ⟨k - 1, by omega⟩
    simp only [curfewref07_Same.l0, List.length_map]
    rw [if_neg (by omega)]
  | succ d ih =>
    intro i k hi hk
    obtain ⟨k, rfl⟩ : ∃ m, k = m + 1 := ⟨k - 1, by omega⟩
    have h1 := ih (i + 1) k (by omega) (by omega)
    simp only [curfewref07_Same.l0, List.length_map]
    rw [if_pos (by omega), if_pos (by omega), if_pos (by omega), rd_cv, wrap_nat i (by have := hg.2; omega), if_neg (by simp)]
    exact h1
theorem same_f : curfewref07_Same.f 40 (l.map cv) (l.map cv) = some true := by
  have hg := wrong_good hw
  unfold curfewref07_Same.f
  rw [if_pos rfl]
  exact same_l0 hw l.length 0 40 (by omega) (by have := hg.2; omega)

theorem open_calls (A : Option Addr) (c : Nat) (t : Int) (w : World) (hC : Kd.C PWeekCounts.k151 w A l.length l) (hc : l.length ≤ c) :
    Calls Try.prog 47 #[.slice A l.length c, .int .i64 t] w fun e w' => e = .returned (.bool (openP l t)) ∧ Below w.heap.size w w' := by
  have h := curfewref08_Open.calls 40 A c (l.map cv) t (openP l t) w (by rw [List.length_map]; exact cv_C hC) (by rw [List.length_map]; exact hc) (open_f hw t)
  rw [List.length_map] at h
  exact h
theorem same_calls (A1 A : Option Addr) (c1 c : Nat) (w : World) (hC1 : Kd.C PWeekCounts.k151 w A1 l.length l) (hc1 : l.length ≤ c1) (hC : Kd.C PWeekCounts.k151 w A l.length l) (hc : l.length ≤ c) :
    Calls Try.prog 48 #[.slice A1 l.length c1, .slice A l.length c] w fun e w' => e = .returned (.bool true) ∧ Below w.heap.size w w' := by
  have h := curfewref07_Same.calls 40 A1 c1 (l.map cv) A c (l.map cv) true w (by rw [List.length_map]; exact cv_C hC1) (by rw [List.length_map]; exact hc1) (by rw [List.length_map]; exact cv_C hC) (by rw [List.length_map]; exact hc) (same_f hw)
  rw [List.length_map] at h
  refine h.mono ?_
  rintro e w' ⟨rfl, hd⟩
  exact ⟨rfl, hd.below⟩
end
end Go.Proofs.Ytbjbejjieibldaa.Vr
