/- New; what a plan that is nil, or that no call made, answers. -/
import Derived.Test.YtbjbejjieibldaaVj
namespace Go.Proofs.Ytbjbejjieibldaa.Va
open Go.RowKit Go.Proofs.YtbjbejjieibldaaW.PrintWords Go.Proofs.YtbjbejjieibldaaW.PrintLast Go.Proofs.YtbjbejjieibldaaW.PrintMore Go.Proofs.Ytbjbejjieibldaa.PWeekCounts Go.Proofs.Ytbjbejjieibldaa.Rg Go.Proofs.Ytbjbejjieibldaa.La
open Go.Proofs.Ytbjbejjieibldaa
set_option linter.unusedVariables false

/-! ### what New checks -/
def allFrom (p : Nat → Bool) : Nat → Nat → Bool
  | _, 0 => true
  | i, d + 1 => p i && allFrom p (i + 1) d
theorem allFrom_iff (p : Nat → Bool) : ∀ (d i : Nat), allFrom p i d = true ↔ ∀ j, i ≤ j → j < i + d → p j = true
  | 0, i => by simp only [allFrom]; exact ⟨fun _ j h1 h2 => absurd h2 (by omega), fun _ => trivial⟩
  | d + 1, i => by
    simp only [allFrom, Bool.and_eq_true]
    rw [allFrom_iff p d (i + 1)]
    constructor
    · rintro ⟨h1, h2⟩ j hj hd
      by_cases e : j = i
      · subst e; exact h1
      · exact h2 j (by omega) (by omega)
    · intro h
      exact ⟨h i (Nat.le_refl _) (by omega), fun j hj hd => h j (by omega) (by omega)⟩
def prevEnd (l : List Sp) : Nat → Int
  | 0 => 0
  | i + 1 => (el l i).f1
def rightB (s : Sp) : Bool := decide (0 ≤ s.f0) && decide (s.f0 < s.f1) && decide (s.f1 ≤ 1125899906842624)
def okAt (l : List Sp) (i : Nat) : Bool := rightB (el l i) && decide (prevEnd l i ≤ (el l i).f0)
theorem allFrom_succ (p : Nat → Bool) (i d : Nat) : allFrom p i (d + 1) = (p i && allFrom p (i + 1) d) := rfl
theorem okAt_eq (l : List Sp) (i : Nat) : okAt l i = (rightB (el l i) && decide (prevEnd l i ≤ (el l i).f0)) := rfl
def rowErr (l : List Sp) : Int := if 32 < l.length then 21 else if allFrom (okAt l) 0 l.length then 0 else 2
def wrongP (l : List Sp) : Int := if rowErr l = 0 then (if allFrom (fun i => decide ((el l i).f1 ≤ 604800)) 0 l.length then 0 else 2) else rowErr l

theorem right_f (s : Sp) : span_Right.f s.f0 s.f1 = some (rightB s) := by
  unfold span_Right.f rightB
  by_cases h0 : 0 ≤ s.f0
  · rw [if_pos h0]
    by_cases h1 : s.f0 < s.f1
    · rw [if_pos h1, decide_eq_true h0, decide_eq_true h1]; rfl
    · rw [if_neg h1, decide_eq_true h0, decide_eq_false h1]; rfl
  · rw [if_neg h0, decide_eq_false h0]; rfl
theorem right_f' (s : Sp) : curfewref07_Right.f s.f0 s.f1 = some (rightB s) := right_f s

theorem row_l0 (l : List Sp) (hl : l.length ≤ 32) : ∀ (d i k : Nat), i + d = l.length → d < k → span_Row.l0 k (prevEnd l i) l (l.length : Int) (i : Int) = some (if allFrom (okAt l) i d then 0 else 2) := by
  intro d
  induction d with
  | zero =>
    intro i k hi hk
    obtain ⟨k, rfl⟩ : ∃ m, k = m + 1 := ⟨k - 1, by omega⟩
    simp only [span_Row.l0]
    rw [if_neg (by omega)]
    rfl
  | succ d ih =>
    intro i k hi hk
    obtain ⟨k, rfl⟩ : ∃ m, k = m + 1 := ⟨k - 1, by omega⟩
    have h1 := ih (i + 1) k (by omega) (by omega)
    simp only [span_Row.l0]
    rw [if_pos (by omega), if_pos (by omega), if_pos (by omega), rd_el, right_f, Option.bind_some, wrap_nat i (by omega)]
    rw [allFrom_succ, okAt_eq]
    cases hr : rightB (el l i)
    · simp
    · rw [if_pos rfl, Bool.true_and]
      by_cases hp : (el l i).f0 < prevEnd l i
      · rw [if_pos hp, decide_eq_false (by omega)]
        simp
      · rw [if_neg hp, decide_eq_true (by omega)]
        simp only [Bool.true_and]
        exact h1
theorem row_f (l : List Sp) : span_Row.f 40 l = some (rowErr l) := by
  unfold span_Row.f rowErr
  by_cases h : 32 < l.length
  · rw [if_pos (by omega), if_pos h]
  · rw [if_neg (by omega), if_neg h]
    exact row_l0 l (by omega) l.length 0 40 (by omega) (by omega)
theorem rrow_l0 (l : List Sp) (hl : l.length ≤ 32) : ∀ (d i k : Nat), i + d = l.length → d < k → curfewref07_Row.l0 k l (i : Int) = some (if allFrom (okAt l) i d then 0 else 2) := by
  intro d
  induction d with
  | zero =>
    intro i k hi hk
    obtain ⟨k, rfl⟩ : ∃ m, k = m + 1 := ⟨k - 1, by omega⟩
    simp only [curfewref07_Row.l0]
    rw [if_neg (by omega)]
    rfl
  | succ d ih =>
    intro i k hi hk
    obtain ⟨k, rfl⟩ : ∃ m, k = m + 1 := ⟨k - 1, by omega⟩
    have h1 := ih (i + 1) k (by omega) (by omega)
    simp only [curfewref07_Row.l0]
    rw [if_pos (by omega), if_pos (by omega), rd_el, right_f', Option.bind_some, wrap_nat i (by omega)]
    rw [allFrom_succ, okAt_eq]
    cases hr : rightB (el l i)
    · simp
    · rw [if_pos rfl, Bool.true_and]
      cases i with
      | zero =>
        rw [if_neg (by omega), h1]
        have h0 : 0 ≤ (el l 0).f0 := by
          simp only [rightB, Bool.and_eq_true, decide_eq_true_eq] at hr
          exact hr.1.1
        rw [decide_eq_true (show prevEnd l 0 ≤ (el l 0).f0 from h0), Bool.true_and]
      | succ i =>
        have e : wrap64 (((i + 1 : Nat) : Int) - 1) = (i : Int) := by unfold wrap64; omega
        rw [if_pos (by omega), e, if_pos (by omega), if_pos (by omega), rd_el]
        by_cases hp : (el l (i + 1)).f0 < (el l i).f1
        · rw [if_pos hp, decide_eq_false (p := prevEnd l (i + 1) ≤ _) (by show ¬ (el l i).f1 ≤ _; omega)]
          simp
        · rw [if_neg hp, h1, decide_eq_true (p := prevEnd l (i + 1) ≤ _) (by show (el l i).f1 ≤ _; omega), Bool.true_and]
theorem rrow_f (l : List Sp) : curfewref07_Row.f 40 l = some (rowErr l) := by
  unfold curfewref07_Row.f rowErr
  by_cases h : 32 < l.length
  · rw [if_pos (by omega), if_pos h]
  · rw [if_neg (by omega), if_neg h]
    exact rrow_l0 l (by omega) l.length 0 40 (by omega) (by omega)
theorem wrong_l0 (l : List Sp) (hl : l.length ≤ 32) : ∀ (d i k : Nat), i + d = l.length → d < k → curfewref08_Wrong.l0 k l (i : Int) = some (if allFrom (fun i => decide ((el l i).f1 ≤ 604800)) i d then 0 else 2) := by
  intro d
  induction d with
  | zero =>
    intro i k hi hk
    obtain ⟨k, rfl⟩ : ∃ m, k = m + 1 := ⟨k - 1, by omega⟩
    simp only [curfewref08_Wrong.l0]
    rw [if_neg (by omega)]
    rfl
  | succ d ih =>
    intro i k hi hk
    obtain ⟨k, rfl⟩ : ∃ m, k = m + 1 := ⟨k - 1, by omega⟩
    have h1 := ih (i + 1) k (by omega) (by omega)
    simp only [curfewref08_Wrong.l0]
    rw [if_pos (by omega), if_pos (by omega), rd_el, wrap_nat i (by omega)]
    rw [allFrom_succ]
    by_cases hp : (el l i).f1 > 604800
    · rw [if_pos hp, decide_eq_false (by omega)]
      simp
    · rw [if_neg hp, decide_eq_true (by omega), Bool.true_and]
      exact h1
theorem rowErr_len {l : List Sp} (h : rowErr l = 0) : l.length ≤ 32 := by
  unfold rowErr at h
  by_cases h2 : 32 < l.length
  · rw [if_pos h2] at h; omega
  · omega
theorem wrong_f (l : List Sp) : curfewref08_Wrong.f 40 l = some (wrongP l) := by
  unfold curfewref08_Wrong.f wrongP
  rw [rrow_f, Option.bind_some]
  by_cases h : rowErr l = 0
  · rw [if_pos h, if_pos h]
    exact wrong_l0 l (rowErr_len h) l.length 0 40 (by omega) (by have := rowErr_len h; omega)
  · rw [if_neg h, if_neg h]
theorem rowErr_ok {l : List Sp} (h : rowErr l = 0) (i : Nat) (hi : i < l.length) : 0 ≤ (el l i).f0 ∧ (el l i).f0 < (el l i).f1 ∧ prevEnd l i ≤ (el l i).f0 := by
  have hl := rowErr_len h
  unfold rowErr at h
  rw [if_neg (by omega)] at h
  cases ha : allFrom (okAt l) 0 l.length with
  | false => rw [ha] at h; simp at h
  | true =>
    have := (allFrom_iff _ _ _).1 ha i (Nat.zero_le _) (by omega)
    simp only [okAt, rightB, Bool.and_eq_true, decide_eq_true_eq] at this
    exact ⟨this.1.1.1, this.1.1.2, this.2⟩
theorem gd_of {h : Int} : ∀ {l : List Sp} {e : Int}, (∀ i, i < l.length → (el l i).f0 < (el l i).f1 ∧ (el l i).f1 ≤ h ∧ (if i = 0 then e else (el l (i - 1)).f1) ≤ (el l i).f0) → Gd h e l
  | [], _, _ => trivial
  | s :: r, e, H => by
    have h0 := H 0 (by simp)
    refine ⟨by simpa [el] using h0.2.2, h0.1, h0.2.1, gd_of (fun i hi => ?_)⟩
    have h1 := H (i + 1) (by simp; omega)
    refine ⟨h1.1, h1.2.1, ?_⟩
    have h2 := h1.2.2
    cases i with
    | zero => simpa [el] using h2
    | succ i => simpa [el] using h2
theorem wrong_good {l : List Sp} (h : wrongP l = 0) : Gd 604800 0 l ∧ l.length ≤ 32 := by
  unfold wrongP at h
  by_cases hr : rowErr l = 0
  · rw [if_pos hr] at h
    refine ⟨gd_of (fun i hi => ?_), rowErr_len hr⟩
    have h1 := rowErr_ok hr i hi
    cases ha : allFrom (fun i => decide ((el l i).f1 ≤ 604800)) 0 l.length with
    | false => rw [ha] at h; simp at h
    | true =>
      have := (allFrom_iff _ _ _).1 ha i (Nat.zero_le _) (by omega)
      simp only [decide_eq_true_eq] at this
      refine ⟨h1.2.1, this, ?_⟩
      cases i with
      | zero => simpa [prevEnd] using h1.2.2
      | succ i => simpa [prevEnd] using h1.2.2
  · rw [if_neg hr] at h
    exact absurd h hr
theorem wrong_nil (h : rowErr ([] : List Sp) = 0) : wrongP ([] : List Sp) = 0 := by
  unfold wrongP
  rw [if_pos h]
  rfl
theorem rowErr_ups {l : List Sp} (h : rowErr l = 0) : ∀ (d i : Nat), i + d < l.length → (el l i).f1 ≤ (el l (i + d)).f1 := by
  intro d i
  induction d with
  | zero => intro _; exact Int.le_refl _
  | succ d ih =>
    intro hi
    have h1 := ih (by omega)
    have h2 := rowErr_ok h (i + d + 1) (by omega)
    simp only [prevEnd] at h2
    rw [show i + (d + 1) = i + d + 1 by omega]
    omega
theorem wrong_last {l : List Sp} (h : rowErr l = 0) (n : Nat) (hn : l.length = n + 1) : wrongP l = if (el l n).f1 > 604800 then 2 else 0 := by
  unfold wrongP
  rw [if_pos h]
  by_cases hp : (el l n).f1 > 604800
  · rw [if_pos hp]
    cases ha : allFrom (fun i => decide ((el l i).f1 ≤ 604800)) 0 l.length with
    | false => rfl
    | true =>
      have := (allFrom_iff _ _ _).1 ha n (Nat.zero_le _) (by omega)
      simp only [decide_eq_true_eq] at this
      omega
  · rw [if_neg hp]
    have : allFrom (fun i => decide ((el l i).f1 ≤ 604800)) 0 l.length = true := (allFrom_iff _ _ _).2 (fun j _ hj => by
      have h1 := rowErr_ups h (n - j) j (by omega)
      rw [show j + (n - j) = n by omega] at h1
      simp only [decide_eq_true_eq]
      omega)
    rw [this]
    rfl
end Go.Proofs.Ytbjbejjieibldaa.Va
