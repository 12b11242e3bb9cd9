/- Plain facts on the reference's answers for the party: counts, first hearings, the most. -/
import Derived.Test.YtbjbejjieibldaaPPartyPlaysx2
namespace Go.Proofs.Ytbjbejjieibldaa.Pl
open Go.RowKit Go.Proofs.YtbjbejjieibldaaW.PrintWords Go.Proofs.YtbjbejjieibldaaW.PrintLast Go.Proofs.Ytbjbejjieibldaa.PPartyPlays

theorem wrap_succ {i : Int} (h0 : 0 ≤ i) (h : i < 4611686018427387904) : wrap64 (i + 1) = i + 1 := by unfold wrap64; omega

/-- How often id stands in l. -/
def cnt (l : List Int) (id : Int) : Int := ((l.filter fun x => x == id).length : Int)
theorem cnt_nil (id : Int) : cnt [] id = 0 := rfl
theorem cnt_snoc (l : List Int) (x id : Int) : cnt (l ++ [x]) id = if x = id then cnt l id + 1 else cnt l id := by
  unfold cnt
  rw [List.filter_append]
  by_cases h : x = id <;> simp [h]
theorem cnt_nonneg (l : List Int) (id : Int) : 0 ≤ cnt l id := by unfold cnt; omega
theorem cnt_le (l : List Int) (id : Int) : cnt l id ≤ l.length := by
  unfold cnt
  have := List.length_filter_le (fun x => x == id) l
  omega
theorem cnt_pos (l : List Int) (id : Int) : cnt l id ≠ 0 ↔ id ∈ l := by
  unfold cnt
  constructor
  · intro h
    have h1 : 0 < (l.filter fun x => x == id).length := by omega
    obtain ⟨x, hx⟩ := List.exists_mem_of_length_pos h1
    rw [List.mem_filter] at hx
    have : x = id := by simpa using hx.2
    exact this ▸ hx.1
  · intro h
    have h1 : id ∈ l.filter fun x => x == id := List.mem_filter.2 ⟨h, by simp⟩
    have := List.length_pos_of_mem h1
    omega

theorem rd_nat (l : List Int) (i : Nat) : rd l (i : Int) = l.getD i 0 := by simp [rd]
theorem take_rd (l : List Int) (i : Nat) (h : i < l.length) : l.take (i + 1) = l.take i ++ [rd l (i : Int)] := by
  rw [List.take_succ_eq_append_getElem h, rd_nat]
  simp [List.getD_eq_getElem?_getD, h]

theorem times_l0 (id : Int) (a : Int) (l : List Int) (hl : l.length < 4611686018427387904) : ∀ (d i k : Nat), i + d = l.length → d < k →
    curfewref37_Times.l0 k id (cnt (l.take i) id) (i : Int) a l = some (cnt l id) := by
  intro d
  induction d with
  | zero =>
    intro i k hi hk
    obtain ⟨k, rfl⟩ : ∃ m, k = m + 1 := ⟨k - 1, by omega⟩
    simp only [curfewref37_Times.l0]
    rw [if_neg (by omega), List.take_of_length_le (by omega)]
  | succ d ih =>
    intro i k hi hk
    obtain ⟨k, rfl⟩ : ∃ m, k = m + 1 := ⟨k - 1, by omega⟩
    have h1 := ih (i + 1) k (by omega) (by omega)
    rw [take_rd l i (by omega), cnt_snoc] at h1
    have hc := cnt_le (l.take i) id
    have hc0 := cnt_nonneg (l.take i) id
    have hlt : (l.take i).length ≤ i := List.length_take_le _ _
    simp only [curfewref37_Times.l0]
    rw [if_pos (by omega), if_pos (by omega), wrap_succ (i := (i : Int)) (by omega) (by omega)]
    by_cases h : rd l (i : Int) = id
    · rw [if_pos h, wrap_succ (by omega) (by omega)]
      rw [if_pos h] at h1
      exact h1
    · rw [if_neg h]
      rw [if_neg h] at h1
      exact h1
theorem times_f (k : Nat) (a : Int) (l : List Int) (id : Int) (hl : l.length < 4611686018427387904) (hk : l.length < k) : curfewref37_Times.f k a l id = some (cnt l id) :=
  times_l0 id a l hl l.length 0 k (by omega) (by omega)

theorem same_l0 (x y : List Int) (hlen : x.length = y.length) (hl : x.length < 4611686018427387904) : ∀ (d i k : Nat), i + d = x.length → d < k → x.take i = y.take i →
    curfewref37_Same.l0 k x y (i : Int) = some (x == y) := by
  intro d
  induction d with
  | zero =>
    intro i k hi hk he
    obtain ⟨k, rfl⟩ : ∃ m, k = m + 1 := ⟨k - 1, by omega⟩
    simp only [curfewref37_Same.l0]
    rw [if_neg (by omega)]
    rw [List.take_of_length_le (by omega), List.take_of_length_le (by omega)] at he
    rw [he]
    simp
  | succ d ih =>
    intro i k hi hk he
    obtain ⟨k, rfl⟩ : ∃ m, k = m + 1 := ⟨k - 1, by omega⟩
    simp only [curfewref37_Same.l0]
    rw [if_pos (by omega), if_pos (by omega), if_pos (by omega)]
    by_cases h : rd x (i : Int) = rd y (i : Int)
    · rw [if_pos h, wrap_succ (by omega) (by omega)]
      exact ih (i + 1) k (by omega) (by omega) (by rw [take_rd x i (by omega), take_rd y i (by omega), he, h])
    · rw [if_neg h]
      have : x ≠ y := fun e => h (by rw [e])
      simp [this]
theorem same_f (k : Nat) (x y : List Int) (hl : x.length < 4611686018427387904) (hk : x.length < k) : curfewref37_Same.f k x y = some (x == y) := by
  unfold curfewref37_Same.f
  by_cases h : x.length = y.length
  · rw [if_pos (by omega)]
    exact same_l0 x y h hl x.length 0 k (by omega) (by omega) rfl
  · rw [if_neg (by omega)]
    have : x ≠ y := fun e => h (by rw [e])
    simp [this]

/-- First hearings, in order. -/
def dedup (l : List Int) : List Int := l.foldl (fun acc x => if x ∈ acc then acc else acc ++ [x]) []
theorem dedup_snoc (l : List Int) (x : Int) : dedup (l ++ [x]) = if x ∈ dedup l then dedup l else dedup l ++ [x] := by
  unfold dedup
  rw [List.foldl_append]
  rfl
theorem snoc_ind {p : List Int → Prop} (h0 : p []) (hs : ∀ l x, p l → p (l ++ [x])) : ∀ l, p l := by
  intro l
  have : ∀ (n : Nat) (l : List Int), l.length = n → p l := by
    intro n
    induction n with
    | zero => intro l hl; rw [List.eq_nil_of_length_eq_zero hl]; exact h0
    | succ n ih =>
      intro l hl
      have hne : l ≠ [] := by intro e; rw [e] at hl; simp at hl
      rw [← List.dropLast_concat_getLast hne]
      exact hs _ _ (ih _ (by simp [hl]))
  exact this _ l rfl
theorem mem_dedup (y : Int) : ∀ l, y ∈ dedup l ↔ y ∈ l := by
  refine snoc_ind (by simp [dedup]) (fun l x ih => ?_)
  rw [dedup_snoc, List.mem_append, List.mem_singleton]
  split
  · rename_i h
    rw [ih]
    constructor
    · exact .inl
    · rintro (h1 | rfl)
      · exact h1
      · exact ih.1 h
  · rw [List.mem_append, List.mem_singleton, ih]
theorem dedup_length : ∀ l, (dedup l).length ≤ l.length := by
  refine snoc_ind (by simp [dedup]) (fun l x ih => ?_)
  rw [dedup_snoc]
  split <;> simp <;> omega

theorem did_l0 (a : Int) (l : List Int) (hl : l.length < 1000000) : ∀ (d i k : Nat), i + d = l.length → d + l.length < k →
    curfewref37_Did.l0 k (dedup (l.take i)) (i : Int) a l = some (dedup l) := by
  intro d
  induction d with
  | zero =>
    intro i k hi hk
    obtain ⟨k, rfl⟩ : ∃ m, k = m + 1 := ⟨k - 1, by omega⟩
    simp only [curfewref37_Did.l0]
    rw [if_neg (by omega), List.take_of_length_le (by omega)]
  | succ d ih =>
    intro i k hi hk
    obtain ⟨k, rfl⟩ : ∃ m, k = m + 1 := ⟨k - 1, by omega⟩
    have h1 := ih (i + 1) k (by omega) (by omega)
    have hdl : (dedup (l.take i)).length ≤ i := Nat.le_trans (dedup_length _) (List.length_take_le _ _)
    rw [take_rd l i (by omega), dedup_snoc] at h1
    simp only [curfewref37_Did.l0]
    rw [if_pos (by omega), if_pos (by omega), times_f k 0 _ _ (by omega) (by omega), Option.bind_some, wrap_succ (i := (i : Int)) (by omega) (by omega)]
    by_cases h : rd l (i : Int) ∈ dedup (l.take i)
    · rw [if_pos h] at h1
      rw [if_neg ((cnt_pos _ _).2 h)]
      exact h1
    · rw [if_neg h] at h1
      rw [if_pos (by
        by_cases hc : cnt (dedup (l.take i)) (rd l (i : Int)) = 0
        · exact hc
        · exact absurd ((cnt_pos _ _).1 hc) h), if_pos (by omega)]
      exact h1
theorem did_f (k : Nat) (a : Int) (l : List Int) (hl : l.length < 1000000) (hk : 2 * l.length < k) : curfewref37_Did.f k a l = some (dedup l) :=
  did_l0 a l hl l.length 0 k (by omega) (by omega)

def mostL (times : Int → Int) (l : List Int) : Int := l.foldl (fun m id => if m < times id then times id else m) 0
theorem mostL_snoc (f : Int → Int) (l : List Int) (x : Int) : mostL f (l ++ [x]) = if mostL f l < f x then f x else mostL f l := by
  unfold mostL
  rw [List.foldl_append]
  rfl
theorem mostL_spec (f : Int → Int) : ∀ l, 0 ≤ mostL f l ∧ (∀ x ∈ l, f x ≤ mostL f l) ∧ (mostL f l = 0 ∨ ∃ x ∈ l, f x = mostL f l) := by
  refine snoc_ind ⟨Int.le_refl _, by simp, .inl rfl⟩ (fun l x ih => ?_)
  obtain ⟨h0, h1, h2⟩ := ih
  rw [mostL_snoc]
  split
  · rename_i h
    refine ⟨by omega, fun y hy => ?_, .inr ⟨x, by simp, rfl⟩⟩
    rcases List.mem_append.1 hy with hy | hy
    · have := h1 y hy; omega
    · rw [List.mem_singleton.1 hy]; omega
  · rename_i h
    refine ⟨h0, fun y hy => ?_, ?_⟩
    · rcases List.mem_append.1 hy with hy | hy
      · exact h1 y hy
      · rw [List.mem_singleton.1 hy]; omega
    · rcases h2 with h2 | ⟨y, hy, h2⟩
      · exact .inl h2
      · exact .inr ⟨y, by simp [hy], h2⟩
theorem mostL_congr (f : Int → Int) (l l' : List Int) (h : ∀ x, x ∈ l ↔ x ∈ l') : mostL f l = mostL f l' := by
  obtain ⟨a0, a1, a2⟩ := mostL_spec f l
  obtain ⟨b0, b1, b2⟩ := mostL_spec f l'
  rcases a2 with a2 | ⟨x, hx, a2⟩
  · rcases b2 with b2 | ⟨y, hy, b2⟩
    · omega
    · have := a1 y ((h y).2 hy); omega
  · have := b1 x ((h x).1 hx)
    rcases b2 with b2 | ⟨y, hy, b2⟩
    · omega
    · have := a1 y ((h y).2 hy); omega

theorem most_l0 (a : Int) (l : List Int) (hl : l.length < 1000000) : ∀ (d i k : Nat), i + d = l.length → d + l.length < k →
    curfewref37_Most.l0 k (mostL (cnt l) (l.take i)) (i : Int) a l = some (mostL (cnt l) l) := by
  intro d
  induction d with
  | zero =>
    intro i k hi hk
    obtain ⟨k, rfl⟩ : ∃ m, k = m + 1 := ⟨k - 1, by omega⟩
    simp only [curfewref37_Most.l0]
    rw [if_neg (by omega), List.take_of_length_le (by omega)]
  | succ d ih =>
    intro i k hi hk
    obtain ⟨k, rfl⟩ : ∃ m, k = m + 1 := ⟨k - 1, by omega⟩
    have h1 := ih (i + 1) k (by omega) (by omega)
    rw [take_rd l i (by omega), mostL_snoc] at h1
    simp only [curfewref37_Most.l0]
    rw [if_pos (by omega), if_pos (by omega), times_f k a l _ (by omega) (by omega), Option.bind_some, wrap_succ (i := (i : Int)) (by omega) (by omega)]
    by_cases h : mostL (cnt l) (l.take i) < cnt l (rd l (i : Int))
    · rw [if_pos h] at h1
      rw [if_pos h]
      exact h1
    · rw [if_neg h] at h1
      rw [if_neg h]
      exact h1
theorem most_f (k : Nat) (a : Int) (l : List Int) (hl : l.length < 1000000) (hk : 2 * l.length < k) : curfewref37_Most.f k a l = some (mostL (cnt l) l) :=
  most_l0 a l hl l.length 0 k (by omega) (by omega)

/-- What the party holds of what it heard. -/
def did (l : List Int) : List Int := dedup l
theorem cnt_zero_iff (l : List Int) (id : Int) : cnt l id = 0 ↔ id ∉ dedup l := by
  rw [mem_dedup]
  constructor
  · intro h hm
    exact (cnt_pos l id).2 hm h
  · intro h
    by_cases hc : cnt l id = 0
    · exact hc
    · exact absurd ((cnt_pos l id).1 hc) h
theorem dedup_step (l : List Int) (id : Int) : (if cnt l id = 0 then dedup l ++ [id] else dedup l) = dedup (l ++ [id]) := by
  rw [dedup_snoc]
  by_cases h : cnt l id = 0
  · rw [if_pos h, if_neg ((cnt_zero_iff l id).1 h)]
  · rw [if_neg h, if_pos]
    by_cases hm : id ∈ dedup l
    · exact hm
    · exact absurd ((cnt_zero_iff l id).2 hm) h
theorem most_dedup (l : List Int) : mostL (cnt l) (dedup l) = mostL (cnt l) l := mostL_congr _ _ _ (fun x => mem_dedup x l)

theorem hear_f (k : Nat) (number : Int) (l : List Int) (id a1 a2 party a4 a5 a6 a7 a8 : Int) (hl : l.length < 1000000) (hk : l.length < k) :
    curfewref37_Hear.f k number l id a1 a2 party a4 a5 a6 a7 a8 = if party = number ∧ id ≠ 0 then some (number, l ++ [id], cnt l id == 0, 0) else some (number, l, false, 2) := by
  unfold curfewref37_Hear.f
  by_cases hp : party = number
  · rw [if_pos hp]
    by_cases hi : id = 0
    · rw [if_pos hi, if_neg (fun h => h.2 hi)]
    · rw [if_neg hi, if_pos ⟨hp, hi⟩, times_f k number l id (by omega) hk]
      simp only [Option.bind_some, List.length_nil, List.nil_append, List.length_cons]
      rw [if_pos (by omega), if_pos (by omega)]
  · rw [if_neg hp, if_neg (fun h => hp h.1)]
end Go.Proofs.Ytbjbejjieibldaa.Pl
