/- The document's answers for a week, told plainly: how much is ahead, between, and which second has so many ahead. -/
import Derived.Test.YtbjbejjieibldaaVk
namespace Go.Proofs.Ytbjbejjieibldaa.Va
open Go.RowKit Go.Proofs.YtbjbejjieibldaaW.PrintWords Go.Proofs.YtbjbejjieibldaaW.PrintLast Go.Proofs.YtbjbejjieibldaaW.PrintMore Go.Proofs.Ytbjbejjieibldaa.PWeekCounts
open Go.Proofs.Ytbjbejjieibldaa
set_option linter.unusedVariables false

def cut1 (t : Int) (s : Sp) : List Sp := if s.f0 < min s.f1 t then [⟨s.f0, min s.f1 t⟩] else []
def cutL (l : List Sp) (t : Int) : List Sp := l.flatMap (cut1 t)
theorem cutL_cons (s : Sp) (l : List Sp) (t : Int) : cutL (s :: l) t = cut1 t s ++ cutL l t := by simp [cutL]
theorem cutL_take (l : List Sp) (t : Int) (i : Nat) (h : i < l.length) : cutL (l.take (i + 1)) t = cutL (l.take i) t ++ cut1 t (el l i) := by
  rw [take_succ_el l i h]
  simp [cutL]
theorem cutL_length (l : List Sp) (t : Int) : (cutL l t).length ≤ l.length := by
  induction l with
  | nil => simp [cutL]
  | cons s r ih =>
    rw [cutL_cons, List.length_append, List.length_cons]
    have : (cut1 t s).length ≤ 1 := by unfold cut1; split <;> simp
    omega
theorem cutL_gd {h : Int} {t : Int} : ∀ {l : List Sp} {e : Int}, Gd h e l → Gd h e (cutL l t)
  | [], _, _ => trivial
  | s :: r, e, hg => by
    rw [cutL_cons]
    have h1 := hg.1
    have h2 := hg.2.1
    have h3 := hg.2.2.1
    have ih := cutL_gd (t := t) hg.2.2.2
    unfold cut1
    by_cases hp : s.f0 < min s.f1 t
    · rw [if_pos hp]
      exact ⟨h1, hp, by show min s.f1 t ≤ h; omega, ih.mono (by show min s.f1 t ≤ s.f1; omega)⟩
    · rw [if_neg hp]
      exact ih.mono (by omega)
theorem cutL_sum (l : List Sp) (t : Int) : lsum (cutL l t) = bef l t := by
  induction l with
  | nil => rfl
  | cons s r ih =>
    rw [cutL_cons, lsum_append, bef_cons, ih]
    unfold cut1 bef1
    by_cases hp : s.f0 < min s.f1 t
    · rw [if_pos hp, if_pos hp, lsum_cons, lsum_nil]; simp only; omega
    · rw [if_neg hp, if_neg hp, lsum_nil]
theorem part_f (x y t : Int) (h : 0 ≤ x) : curfewref07_part.f x y 0 t = some (x, min y t, decide (x < min y t)) := by
  unfold curfewref07_part.f
  rw [if_neg (by omega)]
  by_cases h1 : y > t
  · rw [if_pos h1, show min y t = t by omega]
  · rw [if_neg h1, show min y t = y by omega]
theorem rrow_k (l : List Sp) (k : Nat) (hk : 33 ≤ k) : curfewref07_Row.f k l = some (rowErr l) := by
  unfold curfewref07_Row.f rowErr
  by_cases h : 32 < l.length
  · rw [if_pos (by omega), if_pos h]
  · rw [if_neg (by omega), if_neg h]
    exact rrow_l0 l (by omega) l.length 0 k (by omega) (by omega)
theorem cut_l0 {l : List Sp} (hg : Gd 604800 0 l) (hl : l.length ≤ 32) (t : Int) : ∀ (d i k : Nat), i + d = l.length → d < k → curfewref07_Cut.l0 k l 0 t (cutL (l.take i) t) (i : Int) = some (cutL l t) := by
  intro d
  induction d with
  | zero =>
    intro i k hi hk
    obtain ⟨k, rfl⟩ : ∃ m, k = m + 1 := ⟨k - 1, by omega⟩
    simp only [curfewref07_Cut.l0]
    rw [if_neg (by omega), List.take_of_length_le (by omega)]
  | succ d ih =>
    intro i k hi hk
    obtain ⟨k, rfl⟩ : ∃ m, k = m + 1 := ⟨k - 1, by omega⟩
    have h1 := ih (i + 1) k (by omega) (by omega)
    have he := hg.el i (by omega)
    have hcl := cutL_length (l.take i) t
    have hti := List.length_take_le i l
    simp only [curfewref07_Cut.l0]
    rw [if_pos (by omega), if_pos (by omega), rd_el, part_f _ _ _ he.1, Option.bind_some, wrap_nat i (by omega)]
    rw [cutL_take l t i (by omega)] at h1
    simp only
    by_cases hp : (el l i).f0 < min (el l i).f1 t
    · rw [if_pos (decide_eq_true hp), if_pos (by omega)]
      unfold cut1 at h1
      rw [if_pos hp] at h1
      exact h1
    · rw [if_neg (by rw [decide_eq_false hp]; decide)]
      unfold cut1 at h1
      rw [if_neg hp, List.append_nil] at h1
      exact h1
theorem within_l0 {c : List Sp} (hg : Gd 604800 0 c) (hl : c.length ≤ 32) : ∀ (d i k : Nat), i + d = c.length → d < k → curfewref07_Within.l0 k c (lsum (c.take i)) (i : Int) = some (lsum c) := by
  intro d
  induction d with
  | zero =>
    intro i k hi hk
    obtain ⟨k, rfl⟩ : ∃ m, k = m + 1 := ⟨k - 1, by omega⟩
    simp only [curfewref07_Within.l0]
    rw [if_neg (by omega), List.take_of_length_le (by omega)]
  | succ d ih =>
    intro i k hi hk
    obtain ⟨k, rfl⟩ : ∃ m, k = m + 1 := ⟨k - 1, by omega⟩
    have h1 := ih (i + 1) k (by omega) (by omega)
    have he := hg.el i (by omega)
    have hb := lsum_take_bound hg i
    simp only [curfewref07_Within.l0]
    rw [if_pos (by omega), if_pos (by omega), rd_el, wrap_nat i (by omega)]
    rw [lsum_take_succ c i (by omega)] at h1
    have e1 : wrap64 (lsum (c.take i) + (el c i).f1) = lsum (c.take i) + (el c i).f1 := by unfold wrap64; omega
    have e2 : wrap64 (lsum (c.take i) + (el c i).f1 - (el c i).f0) = lsum (c.take i) + ((el c i).f1 - (el c i).f0) := by unfold wrap64; omega
    rw [e1, e2]
    exact h1
section
variable {l : List Sp} (hw : wrongP l = 0)
include hw
theorem row_zero : rowErr l = 0 := by
  by_cases h : rowErr l = 0
  · exact h
  · unfold wrongP at hw; rw [if_neg h] at hw; exact absurd hw h
theorem within_f (t : Int) (k : Nat) (hk : 33 ≤ k) : curfewref07_Within.f k l 0 t = some (bef l t) := by
  have hg := wrong_good hw
  unfold curfewref07_Within.f curfewref07_Cut.f
  rw [rrow_k l k hk, Option.bind_some, if_pos (row_zero hw)]
  have h1 := cut_l0 hg.1 hg.2 t l.length 0 k (by omega) (by have := hg.2; omega)
  have h1' : curfewref07_Cut.l0 k l 0 t [] 0 = some (cutL l t) := h1
  rw [h1', Option.bind_some]
  have hcl := cutL_length l t
  have h2 := within_l0 (c := cutL l t) (cutL_gd hg.1) (by have := hg.2; omega) (cutL l t).length 0 k (by omega) (by have := hg.2; omega)
  have h2' : curfewref07_Within.l0 k (cutL l t) 0 0 = some (lsum (cutL l t)) := h2
  rw [h2', cutL_sum]
theorem len_f (k : Nat) (hk : 33 ≤ k) : curfewref07_Len.f k l = some (lsum l) := by
  unfold curfewref07_Len.f
  rw [within_f hw _ k hk, Option.bind_some, bef_high (wrong_good hw).1 (by omega)]
theorem until_f (t : Int) : curfewref08_Until.f 40 l t = some (untilP l t) := by
  have hg := wrong_good hw
  have hs := lsum_nonneg hg.1
  have hs2 := lsum_le (by omega) hg.1
  have hU : ∀ x : Int, 0 ≤ x → x ≤ 2251799813685248 → wrap64 (wrap64 (wrap64 (x / 604800) * lsum l) + bef l (x % 604800)) = x / 604800 * lsum l + bef l (x % 604800) := by
    intro x h0 h1
    have hq : 0 ≤ x / 604800 ∧ x / 604800 ≤ 3723213977 := by omega
    have h3 := Int.mul_nonneg hq.1 hs
    have h4 : x / 604800 * lsum l ≤ 3723213977 * 604800 := Int.mul_le_mul hq.2 (by omega) hs (by omega)
    have h5 := bef_nonneg l (x % 604800)
    have h6 := bef_le hg.1 (x % 604800)
    rw [show wrap64 (x / 604800) = x / 604800 by unfold wrap64; omega]
    generalize x / 604800 * lsum l = z at *
    rw [show wrap64 z = z by unfold wrap64; omega]
    unfold wrap64
    omega
  have hj : ∀ x : Int, 0 ≤ x → curfewref08_Until.j0 40 l x = some (untilP l x) := by
    intro x h0
    simp only [curfewref08_Until.j0]
    by_cases h : x > 2251799813685248
    · rw [if_pos h, len_f hw 39 (by omega), Option.bind_some, within_f hw _ 39 (by omega), Option.bind_some]
      have e := hU 2251799813685248 (by omega) (by omega)
      rw [show wrap64 ((2251799813685248 : Int) / 604800) = 2251799813685248 / 604800 by unfold wrap64; omega] at e
      rw [e]
      unfold untilP lastS
      rw [show max 0 (min x 2251799813685248) = 2251799813685248 by omega]
    · rw [if_neg h, len_f hw 39 (by omega), Option.bind_some, within_f hw _ 39 (by omega), Option.bind_some]
      rw [Int.tmod_eq_emod_of_nonneg h0, Int.tdiv_eq_ediv_of_nonneg h0, hU x h0 (by omega)]
      unfold untilP lastS
      rw [show max 0 (min x 2251799813685248) = x by omega]
  unfold curfewref08_Until.f
  by_cases h : t < 0
  · rw [if_pos h, hj 0 (by omega)]
    unfold untilP lastS
    rw [show max 0 (min t 2251799813685248) = 0 by omega, show max 0 (min (0 : Int) 2251799813685248) = 0 by omega]
  · rw [if_neg h, hj t (by omega)]
theorem between_f (x y : Int) : curfewref08_Between.f 40 l x y = some (betP l x y) := by
  have hg := wrong_good hw
  unfold curfewref08_Between.f
  rw [until_f hw, Option.bind_some, until_f hw, Option.bind_some]
  have hb : ∀ t, 0 ≤ untilP l t ∧ untilP l t ≤ 2251799813894400 := by
    intro t
    unfold untilP
    have hs := lsum_nonneg hg.1
    have hs2 := lsum_le (by omega) hg.1
    have hx : 0 ≤ max 0 (min t lastS) / 604800 ∧ max 0 (min t lastS) / 604800 ≤ 3723213977 := by unfold lastS; omega
    have h1 := bef_nonneg l (max 0 (min t lastS) % 604800)
    have h2 := bef_le hg.1 (max 0 (min t lastS) % 604800)
    have h3 := Int.mul_nonneg hx.1 hs
    have h4 : max 0 (min t lastS) / 604800 * lsum l ≤ 3723213977 * 604800 := Int.mul_le_mul hx.2 (by omega) hs (by omega)
    omega
  have hx := hb x
  have hy := hb y
  rw [show wrap64 (untilP l y - untilP l x) = untilP l y - untilP l x by unfold wrap64; omega]
  unfold betP
  by_cases h : untilP l y - untilP l x < 0
  · rw [if_pos h, show max (untilP l y - untilP l x) 0 = 0 by omega]
  · rw [if_neg h, show max (untilP l y - untilP l x) 0 = untilP l y - untilP l x by omega]
theorem nth07_l0 : ∀ (d i k : Nat) (r : Int), i + d = l.length → d < k → 0 ≤ r → r < lsum (l.drop i) → curfewref07_Nth.l0 k l r (i : Int) = some (posOf (l.drop i) r, true) := by
  have hg := wrong_good hw
  intro d
  induction d with
  | zero =>
    intro i k r hi hk h0 h1
    rw [List.drop_of_length_le (by omega), lsum_nil] at h1
    omega
  | succ d ih =>
    intro i k r hi hk h0 h1
    obtain ⟨k, rfl⟩ : ∃ m, k = m + 1 := ⟨k - 1, by omega⟩
    have hil : i < l.length := by omega
    have hd : l.drop i = el l i :: l.drop (i + 1) := by
      rw [List.drop_eq_getElem_cons hil]
      simp [el, List.getD_eq_getElem?_getD, hil]
    have he := hg.1.el i hil
    have hsum : lsum (l.drop i) ≤ 604800 := by
      have := lsum_le (by omega) hg.1
      have h2 := lsum_nonneg (hg.1.take i)
      have h3 : lsum l = lsum (l.take i) + lsum (l.drop i) := by rw [← lsum_append, List.take_append_drop]
      omega
    rw [hd, lsum_cons] at h1
    rw [hd] at hsum ⊢
    rw [lsum_cons] at hsum
    simp only [curfewref07_Nth.l0]
    rw [if_pos (by omega), if_pos (by omega), rd_el, wrap_nat i (by have := hg.2; omega)]
    rw [show wrap64 ((el l i).f1 - (el l i).f0) = (el l i).f1 - (el l i).f0 by unfold wrap64; omega]
    unfold posOf
    by_cases hp : r < (el l i).f1 - (el l i).f0
    · rw [if_pos hp, if_pos hp, show wrap64 ((el l i).f0 + r) = (el l i).f0 + r by unfold wrap64; omega]
    · rw [if_neg hp, if_neg hp, show wrap64 (r - ((el l i).f1 - (el l i).f0)) = r - ((el l i).f1 - (el l i).f0) by unfold wrap64; omega]
      exact ih (i + 1) k _ (by omega) (by omega) (by omega) (by omega)
theorem nth_f (n : Int) (hn : n ≤ 9223372036854775807) : curfewref08_Nth.f 40 l n = some ((nthP l n).1, (nthP l n).2) := by
  have hg := wrong_good hw
  unfold curfewref08_Nth.f nthP
  by_cases h0 : n < 0
  · rw [if_pos h0, if_pos h0]
  rw [if_neg h0, if_neg h0, len_f hw 40 (by omega), Option.bind_some]
  by_cases h1 : lsum l = 0
  · rw [if_pos h1, if_pos h1]
  have hs := lsum_nonneg hg.1
  have hq0 : 0 ≤ n / lsum l := Int.ediv_nonneg (by omega) (by omega)
  have hq1 : n / lsum l ≤ n := Int.ediv_le_self _ (by omega)
  have hr0 := Int.emod_nonneg n h1
  have hr1 := Int.emod_lt_of_pos n (show 0 < lsum l by omega)
  rw [if_neg h1, if_neg h1, Int.tdiv_eq_ediv_of_nonneg (by omega), Int.tmod_eq_emod_of_nonneg (by omega)]
  generalize n / lsum l = q at *
  generalize n % lsum l = r at *
  rw [show wrap64 q = q by unfold wrap64; omega]
  by_cases h2 : 3723213977 < q
  · rw [if_pos h2, if_pos h2]
  rw [if_neg h2, if_neg h2]
  have hp := nth07_l0 hw l.length 0 39 r (by omega) (by have := hg.2; omega) hr0 (by rw [List.drop_zero]; exact hr1)
  have hp' : curfewref07_Nth.l0 39 l r 0 = some (posOf l r, true) := hp
  have hN : curfewref07_Nth.f 40 l r = some (posOf l r, true) := by
    unfold curfewref07_Nth.f
    rw [rrow_k l 40 (by omega), Option.bind_some, if_pos (row_zero hw), decide_eq_false (by omega)]
    simp only [curfewref07_Nth.j0]
    rw [if_neg (by decide)]
    exact hp'
  rw [hN, Option.bind_some]
  have hb := posOf_spec hg.1 hr0 hr1
  generalize posOf l r = x at *
  simp only
  rw [show wrap64 (q * 604800) = q * 604800 by unfold wrap64; omega, show wrap64 (x + q * 604800) = q * 604800 + x by unfold wrap64; omega]
  unfold lastS
  by_cases h3 : 2251799813685248 < q * 604800 + x
  · rw [if_pos h3, if_pos h3]
  · rw [if_neg h3, if_neg h3]
end
end Go.Proofs.Ytbjbejjieibldaa.Va
