/- Plain facts on rows of spans: how much they open, what lies ahead of a second, which second has so many ahead. -/
import Derived.Test.YtbjbejjieibldaaPWeekCountsx4
namespace Go.Proofs.Ytbjbejjieibldaa.Va
open Go.RowKit Go.Proofs.YtbjbejjieibldaaW.PrintWords Go.Proofs.YtbjbejjieibldaaW.PrintLast Go.Proofs.YtbjbejjieibldaaW.PrintMore Go.Proofs.Ytbjbejjieibldaa.PWeekCounts
set_option linter.unusedVariables false

abbrev Sp := S151
def lsum (l : List Sp) : Int := (l.map fun s => s.f1 - s.f0).sum
def bef1 (t : Int) (s : Sp) : Int := if s.f0 < min s.f1 t then min s.f1 t - s.f0 else 0
def bef (l : List Sp) (t : Int) : Int := (l.map (bef1 t)).sum
def hasL (l : List Sp) (t : Int) : Bool := l.any fun s => decide (s.f0 ≤ t) && decide (t < s.f1)
/-- Spans in order from e on, up to h. -/
def Gd (h : Int) : Int → List Sp → Prop
  | _, [] => True
  | e, s :: r => e ≤ s.f0 ∧ s.f0 < s.f1 ∧ s.f1 ≤ h ∧ Gd h s.f1 r

theorem lsum_nil : lsum [] = 0 := rfl
theorem lsum_cons (s : Sp) (l : List Sp) : lsum (s :: l) = (s.f1 - s.f0) + lsum l := by simp [lsum]
theorem lsum_append (a b : List Sp) : lsum (a ++ b) = lsum a + lsum b := by simp [lsum]
theorem bef_nil (t : Int) : bef [] t = 0 := rfl
theorem bef_cons (s : Sp) (l : List Sp) (t : Int) : bef (s :: l) t = bef1 t s + bef l t := by simp [bef]
theorem hasL_nil (t : Int) : hasL [] t = false := rfl
theorem hasL_cons (s : Sp) (l : List Sp) (t : Int) : hasL (s :: l) t = ((decide (s.f0 ≤ t) && decide (t < s.f1)) || hasL l t) := by simp [hasL]

theorem Gd.mono {h e e' : Int} : ∀ {l : List Sp}, Gd h e l → e' ≤ e → Gd h e' l
  | [], _, _ => trivial
  | s :: r, hg, he => ⟨by have := hg.1; omega, hg.2.1, hg.2.2.1, hg.2.2.2⟩
theorem Gd.up {h h' e : Int} (hh : h ≤ h') : ∀ {l : List Sp} {e : Int}, Gd h e l → Gd h' e l
  | [], _, _ => trivial
  | s :: r, e, hg => ⟨hg.1, hg.2.1, by have := hg.2.2.1; omega, Gd.up (e := e) hh hg.2.2.2⟩
/-- Ahead of the first span there is nothing. -/
theorem bef_low {h : Int} : ∀ {l : List Sp} {e t : Int}, Gd h e l → t ≤ e → bef l t = 0
  | [], _, _, _, _ => rfl
  | s :: r, e, t, hg, ht => by
    rw [bef_cons, bef_low hg.2.2.2 (by have := hg.1; have := hg.2.1; omega)]
    unfold bef1
    have := hg.1
    rw [if_neg (by omega)]
    rfl
theorem has_low {h : Int} : ∀ {l : List Sp} {e t : Int}, Gd h e l → t < e → hasL l t = false
  | [], _, _, _, _ => rfl
  | s :: r, e, t, hg, ht => by
    rw [hasL_cons, has_low hg.2.2.2 (by have := hg.1; have := hg.2.1; omega)]
    have := hg.1
    rw [decide_eq_false (by omega)]
    rfl
theorem bef_high {h : Int} : ∀ {l : List Sp} {e t : Int}, Gd h e l → h ≤ t → bef l t = lsum l
  | [], _, _, _, _ => rfl
  | s :: r, e, t, hg, ht => by
    rw [bef_cons, lsum_cons, bef_high hg.2.2.2 ht]
    unfold bef1
    have := hg.2.1
    have := hg.2.2.1
    rw [if_pos (by omega)]
    omega
theorem bef1_mono (s : Sp) {t t' : Int} (h : t ≤ t') : bef1 t s ≤ bef1 t' s := by
  unfold bef1
  split <;> split <;> omega
theorem bef_mono (l : List Sp) {t t' : Int} (h : t ≤ t') : bef l t ≤ bef l t' := by
  induction l with
  | nil => exact Int.le_refl _
  | cons s r ih =>
    rw [bef_cons, bef_cons]
    have := bef1_mono s h
    omega
theorem bef_nonneg (l : List Sp) (t : Int) : 0 ≤ bef l t := by
  induction l with
  | nil => exact Int.le_refl _
  | cons s r ih =>
    rw [bef_cons]
    have : 0 ≤ bef1 t s := by unfold bef1; split <;> omega
    omega
theorem lsum_nonneg {h : Int} : ∀ {l : List Sp} {e : Int}, Gd h e l → 0 ≤ lsum l
  | [], _, _ => Int.le_refl _
  | s :: r, e, hg => by
    rw [lsum_cons]
    have := lsum_nonneg hg.2.2.2
    have := hg.2.1
    omega
theorem lsum_le {h : Int} : ∀ {l : List Sp} {e : Int}, e ≤ h → Gd h e l → lsum l ≤ h - e
  | [], _, he, _ => by rw [lsum_nil]; omega
  | s :: r, e, he, hg => by
    rw [lsum_cons]
    have := lsum_le (e := s.f1) hg.2.2.1 hg.2.2.2
    have := hg.1
    omega
theorem lsum_zero {h : Int} {l : List Sp} {e : Int} (hg : Gd h e l) (h0 : lsum l = 0) : l = [] := by
  cases l with
  | nil => rfl
  | cons s r =>
    rw [lsum_cons] at h0
    have := lsum_nonneg hg.2.2.2
    have := hg.2.1
    omega
theorem bef_le {h : Int} {l : List Sp} {e : Int} (hg : Gd h e l) (t : Int) : bef l t ≤ lsum l := by
  rw [← bef_high hg (Int.le_refl h)]
  by_cases ht : t ≤ h
  · exact bef_mono l ht
  · rw [bef_high hg (by omega), bef_high hg (Int.le_refl h)]
    exact Int.le_refl _
/-- One second on. -/
theorem bef_step {h : Int} : ∀ {l : List Sp} {e : Int} (t : Int), Gd h e l → bef l (t + 1) = bef l t + if hasL l t then 1 else 0
  | [], _, _, _ => rfl
  | s :: r, e, t, hg => by
    rw [bef_cons, bef_cons, hasL_cons]
    have h1 := hg.2.1
    by_cases hin : s.f0 ≤ t ∧ t < s.f1
    · rw [bef_low hg.2.2.2 (t := t + 1) (by omega), bef_low hg.2.2.2 (t := t) (by omega), decide_eq_true hin.1, decide_eq_true hin.2]
      unfold bef1
      rw [if_pos (by omega)]
      simp only [Bool.and_self, Bool.true_or, if_true]
      split <;> omega
    · have e1 : (decide (s.f0 ≤ t) && decide (t < s.f1)) = false := by
        by_cases ha : s.f0 ≤ t
        · rw [decide_eq_false (p := t < s.f1) (by omega)]; simp
        · rw [decide_eq_false (p := s.f0 ≤ t) ha]; simp
      rw [e1, Bool.false_or, bef_step t hg.2.2.2]
      have : bef1 (t + 1) s = bef1 t s := by
        unfold bef1
        split <;> split <;> omega
      omega

/-- The element number i. -/
abbrev el (l : List Sp) (i : Nat) : Sp := l.getD i z151
theorem rd_el (l : List Sp) (i : Nat) : rd_T151 l (i : Int) = el l i := by simp [rd_T151]
/-- The span that a second is in, or the one behind it: i. -/
def AtI (l : List Sp) (t : Int) (i : Nat) : Prop := i ≤ l.length ∧ (∀ j, j < i → (el l j).f1 ≤ t) ∧ ∀ j, i ≤ j → j < l.length → t < (el l j).f1
theorem AtI.tail {s : Sp} {r : List Sp} {t : Int} {i : Nat} (h : AtI (s :: r) t (i + 1)) : AtI r t i :=
  ⟨by have := h.1; simp at this; omega, fun j hj => by simpa using h.2.1 (j + 1) (by omega), fun j hj hl => by simpa using h.2.2 (j + 1) (by omega) (by simp; omega)⟩
theorem bef_at {h : Int} : ∀ {l : List Sp} {e t : Int} {i : Nat}, Gd h e l → AtI l t i → bef l t = lsum (l.take i) + if i < l.length then max (t - (el l i).f0) 0 else 0
  | [], _, _, i, _, _ => by simp [bef, lsum]
  | s :: r, e, t, 0, hg, ha => by
    have h1 : t < s.f1 := by simpa using ha.2.2 0 (Nat.le_refl _) (by simp)
    have h2 := hg.2.1
    rw [bef_cons, bef_low hg.2.2.2 (by omega), if_pos (by simp)]
    unfold bef1
    simp only [List.take_zero, lsum_nil, el, List.getD_cons_zero]
    split <;> omega
  | s :: r, e, t, i + 1, hg, ha => by
    have h1 : s.f1 ≤ t := by simpa using ha.2.1 0 (by omega)
    have h2 := hg.2.1
    have ih := bef_at hg.2.2.2 ha.tail
    rw [bef_cons, ih, List.take_succ_cons, lsum_cons]
    have : bef1 t s = s.f1 - s.f0 := by
      unfold bef1
      rw [if_pos (by omega)]
      omega
    rw [this]
    simp only [List.length_cons, Nat.add_lt_add_iff_right, el, List.getD_cons_succ]
    omega
theorem has_at {h : Int} : ∀ {l : List Sp} {e t : Int} {i : Nat}, Gd h e l → AtI l t i → hasL l t = (decide (i < l.length) && decide ((el l i).f0 ≤ t))
  | [], _, _, i, _, _ => by simp [hasL]
  | s :: r, e, t, 0, hg, ha => by
    have h1 : t < s.f1 := by simpa using ha.2.2 0 (Nat.le_refl _) (by simp)
    rw [hasL_cons, has_low hg.2.2.2 h1, decide_eq_true h1]
    simp [el]
  | s :: r, e, t, i + 1, hg, ha => by
    have h1 : s.f1 ≤ t := by simpa using ha.2.1 0 (by omega)
    rw [hasL_cons, has_at hg.2.2.2 ha.tail, decide_eq_false (p := t < s.f1) (by omega)]
    simp [el]

/-- The second of a week that has r ahead. -/
def posOf : List Sp → Int → Int
  | [], _ => 0
  | s :: l, r => if r < s.f1 - s.f0 then s.f0 + r else posOf l (r - (s.f1 - s.f0))
theorem take_succ_el (l : List Sp) (i : Nat) (h : i < l.length) : l.take (i + 1) = l.take i ++ [el l i] := by
  rw [List.take_succ_eq_append_getElem h]
  simp [el, List.getD_eq_getElem?_getD, h]
theorem lsum_take_succ (l : List Sp) (i : Nat) (h : i < l.length) : lsum (l.take (i + 1)) = lsum (l.take i) + ((el l i).f1 - (el l i).f0) := by
  rw [take_succ_el l i h, lsum_append, lsum_cons, lsum_nil]
  omega
theorem posOf_at {h : Int} : ∀ {l : List Sp} {e r : Int} {j : Nat}, Gd h e l → j < l.length → lsum (l.take j) ≤ r → r < lsum (l.take (j + 1)) → posOf l r = (el l j).f0 + r - lsum (l.take j)
  | [], _, _, _, _, hj, _, _ => absurd hj (by simp)
  | s :: l, e, r, 0, hg, hj, h0, h1 => by
    simp only [List.take_zero, lsum_nil] at h0
    rw [List.take_succ_cons, List.take_zero, lsum_cons, lsum_nil] at h1
    unfold posOf
    rw [if_pos (by omega)]
    simp [lsum_nil]
  | s :: l, e, r, j + 1, hg, hj, h0, h1 => by
    rw [List.take_succ_cons, lsum_cons] at h0 h1
    have hjl : j < l.length := by simpa using hj
    have h2 : 0 ≤ lsum (l.take j) := by
      have : ∀ {l : List Sp} {e : Int} (j : Nat), Gd h e l → 0 ≤ lsum (l.take j) := by
        intro l
        induction l with
        | nil => intro e j _; simp [lsum]
        | cons s l ih =>
          intro e j hg
          cases j with
          | zero => simp [lsum]
          | succ j =>
            rw [List.take_succ_cons, lsum_cons]
            have := ih j hg.2.2.2
            have := hg.2.1
            omega
      exact this j hg.2.2.2
    have ih := posOf_at (r := r - (s.f1 - s.f0)) hg.2.2.2 hjl (by omega) (by omega)
    rw [List.take_succ_cons, lsum_cons]
    unfold posOf
    rw [if_neg (by omega), ih]
    simp only [el, List.getD_cons_succ]
    omega
theorem posOf_spec {h : Int} : ∀ {l : List Sp} {e r : Int}, Gd h e l → 0 ≤ r → r < lsum l → e ≤ posOf l r ∧ posOf l r < h ∧ hasL l (posOf l r) = true ∧ bef l (posOf l r) = r
  | [], _, _, _, h0, h1 => absurd h1 (by rw [lsum_nil]; omega)
  | s :: l, e, r, hg, h0, h1 => by
    have g1 := hg.1
    have g2 := hg.2.1
    have g3 := hg.2.2.1
    rw [lsum_cons] at h1
    unfold posOf
    by_cases hr : r < s.f1 - s.f0
    · rw [if_pos hr]
      refine ⟨by omega, by omega, ?_, ?_⟩
      · rw [hasL_cons, decide_eq_true (by omega), decide_eq_true (by omega)]; rfl
      · rw [bef_cons, bef_low hg.2.2.2 (by omega)]
        unfold bef1
        split <;> omega
    · rw [if_neg hr]
      obtain ⟨i1, i2, i3, i4⟩ := posOf_spec (r := r - (s.f1 - s.f0)) hg.2.2.2 (by omega) (by omega)
      refine ⟨by omega, i2, ?_, ?_⟩
      · rw [hasL_cons, i3]; simp
      · rw [bef_cons, i4]
        unfold bef1
        rw [if_pos (by omega)]
        omega

def lastS : Int := 2251799813685248
def untilP (l : List Sp) (t : Int) : Int := max 0 (min t lastS) / 604800 * lsum l + bef l (max 0 (min t lastS) % 604800)
def openP (l : List Sp) (t : Int) : Bool := decide (0 ≤ t) && decide (t ≤ lastS) && hasL l (t % 604800)
def betP (l : List Sp) (a b : Int) : Int := max (untilP l b - untilP l a) 0
def nthP (l : List Sp) (n : Int) : Int × Int :=
  if n < 0 then (0, 2) else if lsum l = 0 then (0, 40) else if 3723213977 < n / lsum l then (0, 10) else
    if lastS < n / lsum l * 604800 + posOf l (n % lsum l) then (0, 10) else (n / lsum l * 604800 + posOf l (n % lsum l), 0)

section
variable {l : List Sp} (hg : Gd 604800 0 l)
include hg
theorem untilP_step {t : Int} (h0 : 0 ≤ t) (h1 : t < lastS) : untilP l (t + 1) = untilP l t + if openP l t then 1 else 0 := by
  unfold untilP openP
  rw [show max 0 (min (t + 1) lastS) = t + 1 by unfold lastS at *; omega, show max 0 (min t lastS) = t by unfold lastS at *; omega, decide_eq_true h0, decide_eq_true (by omega)]
  simp only [Bool.true_and]
  by_cases hx : t % 604800 + 1 < 604800
  · rw [show (t + 1) / 604800 = t / 604800 by omega, show (t + 1) % 604800 = t % 604800 + 1 by omega, bef_step _ hg]
    omega
  · have hx2 : t % 604800 = 604799 := by omega
    rw [show (t + 1) / 604800 = t / 604800 + 1 by omega, show (t + 1) % 604800 = 0 by omega, bef_low hg (Int.le_refl 0), Int.add_mul, Int.one_mul, hx2]
    have := bef_step 604799 hg
    rw [show (604799 : Int) + 1 = 604800 by omega, bef_high hg (Int.le_refl _)] at this
    omega
theorem untilP_zero : untilP l 0 = 0 := by
  unfold untilP lastS
  rw [show max 0 (min (0 : Int) 2251799813685248) = 0 by omega]
  rw [show (0 : Int) / 604800 = 0 by omega, show (0 : Int) % 604800 = 0 by omega, bef_low hg (Int.le_refl 0)]
  omega
theorem nth_back {n : Int} : if (nthP l n).2 = 0 then openP l (nthP l n).1 = true ∧ untilP l (nthP l n).1 = n else (nthP l n).1 = 0 ∧ (n < 0 ∨ l = [] ∨ untilP l lastS ≤ n) := by
  unfold nthP
  by_cases h0 : n < 0
  · rw [if_pos h0]; exact ⟨rfl, .inl h0⟩
  rw [if_neg h0]
  by_cases h1 : lsum l = 0
  · rw [if_pos h1]; exact ⟨rfl, .inr (.inl (lsum_zero hg h1))⟩
  rw [if_neg h1]
  have hs := lsum_nonneg hg
  have hs2 := lsum_le (by omega) hg
  have hdm := Int.mul_ediv_add_emod n (lsum l)
  have hr0 := Int.emod_nonneg n h1
  have hr1 := Int.emod_lt_of_pos n (show 0 < lsum l by omega)
  have hq0 : 0 ≤ n / lsum l := Int.ediv_nonneg (by omega) hs
  have hU : untilP l lastS = 3723213977 * lsum l + bef l (lastS % 604800) := by
    unfold untilP
    rw [show max 0 (min lastS lastS) = lastS by unfold lastS; omega, show lastS / 604800 = 3723213977 by unfold lastS; omega]
  by_cases h2 : 3723213977 < n / lsum l
  · rw [if_pos h2]
    refine ⟨rfl, .inr (.inr ?_)⟩
    rw [hU]
    have h3 := bef_le hg (lastS % 604800)
    have h4 : (3723213977 + 1) * lsum l ≤ n / lsum l * lsum l := Int.mul_le_mul_of_nonneg_right (by omega) hs
    rw [Int.add_mul, Int.one_mul] at h4
    rw [Int.mul_comm] at hdm
    omega
  rw [if_neg h2]
  obtain ⟨p1, p2, p3, p4⟩ := posOf_spec hg hr0 hr1
  generalize hq : n / lsum l = q at *
  generalize hp : posOf l (n % lsum l) = x at *
  by_cases h3 : lastS < q * 604800 + x
  · rw [if_pos h3]
    refine ⟨rfl, .inr (.inr ?_)⟩
    rw [hU]
    have hqe : q = 3723213977 := by unfold lastS at h3; omega
    have h4 : bef l (lastS % 604800) ≤ bef l x := bef_mono l (by unfold lastS at *; omega)
    rw [Int.mul_comm] at hdm
    rw [hqe] at hdm
    omega
  · rw [if_neg h3]
    simp only [if_true]
    refine ⟨?_, ?_⟩
    · unfold openP
      rw [decide_eq_true (by omega), decide_eq_true (by omega), show (q * 604800 + x) % 604800 = x by omega, p3]
      rfl
    · unfold untilP
      rw [show max 0 (min (q * 604800 + x) lastS) = q * 604800 + x by omega, show (q * 604800 + x) / 604800 = q by omega, show (q * 604800 + x) % 604800 = x by omega, p4]
      rw [Int.mul_comm] at hdm
      omega
end
end Go.Proofs.Ytbjbejjieibldaa.Va
