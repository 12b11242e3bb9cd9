/- The queue's small methods: what each call answers and what it leaves in memory. -/
import Derived.Test.YtbjbejjieibldaaRg
import Derived.Test.YtbjbejjieibldaaUt
import Derived.Test.YtbjbejjieibldaaPReadsPlaysx0
import Derived.WalkSpells
namespace Go.Proofs.Ytbjbejjieibldaa.Qa
open Go.RowKit Go.Proofs.YtbjbejjieibldaaW.PrintWords Go.Proofs.YtbjbejjieibldaaW.PrintLast Go.Proofs.YtbjbejjieibldaaW.PrintMore Go.Proofs.Ytbjbejjieibldaa.Rg
open Go.Proofs.Ytbjbejjieibldaa.PReadsPlays (S91 z91 k91 k91_open k91_openM k91_mk k91_mkM rd_T91 at_T91 S147 z147 k147 k147_mkM rd_T147 at_T147 info147)
open Go.Proofs.Ytbjbejjieibldaa
set_option linter.unusedVariables false

abbrev BIG : Int := 1152921504606846976
/-- The cells of a queue that New made. -/
abbrev QC (begun sure : Int) (v : Value) : Obj := .cells #[.bool true, .int .u64 begun, .int .u64 sure, v] 94 (0, 0)
/-- The cells of a queue that no call made. -/
abbrev QZ : Obj := .cells #[.bool false, .int .u64 0, .int .u64 0, .slice none 0 0] 94 (0, 0)

/-- A queue made by New, its blocks among ok. -/
structure IsQ (w : World) (base : Nat) (ok : Nat → Prop) (qb : Nat) (begun sure : Int) (l : List S91) (v : Value) : Prop where
  cell : w.heap[qb]? = some (QC begun sure v)
  mine : base ≤ qb ∧ ok qb
  row : Kd.R k91 91 w base (fun k => ok k ∧ k ≠ qb) v l
  b0 : 0 ≤ begun
  b1 : begun ≤ BIG
  s0 : 0 ≤ sure
  s1 : sure ≤ begun
  len : l.length ≤ 32

section
variable {w w' : World} {base : Nat} {ok ok' : Nat → Prop} {qb : Nat} {begun sure : Int} {l : List S91} {v : Value}
theorem IsQ.kept {S : Nat → Prop} (h : IsQ w base ok qb begun sure l v) (hk : Kept w w' S) (hS : ∀ k, ok k → ¬ S k) : IsQ w' base ok qb begun sure l v :=
  ⟨blk_kept h.cell hk (hS _ h.mine.2), h.mine, Kd.R_kept h.row hk (fun k hk => hS k hk.1), h.b0, h.b1, h.s0, h.s1, h.len⟩
theorem IsQ.below (h : IsQ w base ok qb begun sure l v) (hb : Below w.heap.size w w') : IsQ w' base ok qb begun sure l v := h.kept (Kept.of_below hb (fun _ => False)) (fun _ _ h => h)
theorem IsQ.mono (h : IsQ w base ok qb begun sure l v) (hok : ∀ k, ok k → ok' k) : IsQ w base ok' qb begun sure l v :=
  ⟨h.cell, ⟨h.mine.1, hok _ h.mine.2⟩, Kd.R_mono h.row (fun k hk => ⟨hok k hk.1, hk.2⟩), h.b0, h.b1, h.s0, h.s1, h.len⟩
theorem IsQ.bound (h : IsQ w base ok qb begun sure l v) : IsQ w base (fun k => ok k ∧ base ≤ k ∧ k < w.heap.size) qb begun sure l v :=
  ⟨h.cell, ⟨h.mine.1, h.mine.2, h.mine.1, blk_lt h.cell⟩, Kd.R_mono (Kd.R_bound h.row) (fun k hk => ⟨⟨hk.1.1, hk.2.1, hk.2.2.1⟩, hk.1.2⟩), h.b0, h.b1, h.s0, h.s1, h.len⟩
theorem IsQ.slice (h : IsQ w base ok qb begun sure l v) : ∃ A c, v = .slice A l.length c ∧ l.length ≤ c ∧ Kd.C k91 w A l.length l := Kd.R_reads h.row
end

theorem new_calls (w : World) : Calls Try.prog 27 #[] w fun e w' => ∃ qb, e = .returned (.pointer (some ⟨qb, 0, none⟩)) ∧ IsQ w' w.heap.size (fun _ => True) qb 0 0 [] (.slice none 0 0) ∧ Below w.heap.size w w' := by
  go_enter Try.func27, Try.ntmps27
  go_wp2
  go_ret
  refine ⟨w.heap.size, rfl, ⟨blk_new _ _, ⟨Nat.le_refl _, trivial⟩, Kd.R_nil _ _ _ _ _, by decide, by decide, by decide, by decide, by simp⟩, below_alloc (Below.refl _ _) _⟩

theorem none_some (qb : Nat) (begun sure : Int) (v : Value) (w : World) (h : w.heap[qb]? = some (QC begun sure v)) :
    Calls Try.prog 77 #[.pointer (some ⟨qb, 0, none⟩)] w fun e w' => e = .returned (.bool false) ∧ w = w' := by
  have c0 : w.cell? ⟨qb, 0, none⟩ = some (.bool true) := blk_cell h 0
  clear h
  go_enter Try.func77, Try.ntmps77
  go_wp2
  go_ret
  exact ⟨rfl, rfl⟩
theorem none_nil (w : World) : Calls Try.prog 77 #[.pointer none] w fun e w' => e = .returned (.bool true) ∧ w = w' := by
  go_enter Try.func77, Try.ntmps77
  go_wp2
  go_ret
  exact ⟨rfl, rfl⟩
theorem none_zero (qb : Nat) (w : World) (h : w.heap[qb]? = some QZ) : Calls Try.prog 77 #[.pointer (some ⟨qb, 0, none⟩)] w fun e w' => e = .returned (.bool true) ∧ w = w' := by
  have c0 : w.cell? ⟨qb, 0, none⟩ = some (.bool false) := blk_cell h 0
  clear h
  go_enter Try.func77, Try.ntmps77
  go_wp2
  go_ret
  exact ⟨rfl, rfl⟩

theorem round_calls (qb : Nat) (begun sure : Int) (v : Value) (w : World) (h : w.heap[qb]? = some (QC begun sure v)) :
    Calls Try.prog 39 #[.pointer (some ⟨qb, 0, none⟩)] w fun e w' => e = .returned (.int .u64 begun) ∧ w = w' := by
  have c1 : w.cell? ⟨qb, 1, none⟩ = some (.int .u64 begun) := blk_cell h 1
  have H := Aside0.mk h
  clear h
  go_enter Try.func39, Try.ntmps39
  go_wp2_with (go_at_call 77; refine (none_some qb begun sure v _ H.out).mono ?_; rintro e w' ⟨rfl, rfl⟩)
  go_ret
  exact ⟨rfl, rfl⟩
theorem len_calls (qb : Nat) (begun sure : Int) (A : Option Addr) (n c : Nat) (w : World) (h : w.heap[qb]? = some (QC begun sure (.slice A n c))) :
    Calls Try.prog 40 #[.pointer (some ⟨qb, 0, none⟩)] w fun e w' => e = .returned (.int .i64 n) ∧ w = w' := by
  have c1 : w.cell? ⟨qb, 3, none⟩ = some (.slice A n c) := blk_cell h 3
  have H := Aside0.mk h
  clear h
  go_enter Try.func40, Try.ntmps40
  go_wp2_with (go_at_call 77; refine (none_some qb begun sure _ _ H.out).mono ?_; rintro e w' ⟨rfl, rfl⟩)
  go_ret
  exact ⟨rfl, rfl⟩

def beginOf (begun : Int) : Int := if begun < BIG then begun + 1 else begun
theorem beginOf_le {b : Int} (h : b ≤ BIG) : beginOf b ≤ BIG ∧ b ≤ beginOf b := by unfold beginOf; split <;> omega

attribute [local go_sem] max2_int min2_int max_two min_two max_three min_three max_four min_four

theorem begin_calls (qb : Nat) (begun sure : Int) (v : Value) (w : World) (h : w.heap[qb]? = some (QC begun sure v)) (h0 : 0 ≤ begun) (h1 : begun ≤ BIG) :
    Calls Try.prog 29 #[.pointer (some ⟨qb, 0, none⟩)] w fun e w' => e = .returned (.int .u64 (beginOf begun)) ∧ w' = w.setCell ⟨qb, 1, none⟩ (.int .u64 (beginOf begun)) := by
  have c1 : w.cell? ⟨qb, 1, none⟩ = some (.int .u64 begun) := blk_cell h 1
  have z1 := blk_frozen h 1
  have H := Aside0.mk h
  clear h
  have hw : IntKind.u64.wrap (begun + 1) = begun + 1 := IntWalk.u64_in _ (by unfold BIG at h1; omega)
  go_enter Try.func29, Try.ntmps29
  go_wp2_with (go_at_call 77; refine (none_some qb begun sure _ _ H.out).mono ?_; rintro e w' ⟨rfl, rfl⟩)
  all_goals go_ret
  all_goals unfold BIG at h1
  · have e : beginOf begun = 1152921504606846976 := by unfold beginOf BIG; rw [if_neg (by omega)]; omega
    rw [e]
    exact ⟨rfl, rfl⟩
  · have e : beginOf begun = begun + 1 := by unfold beginOf; rw [if_pos (by unfold BIG; omega)]
    rw [e]
    exact ⟨rfl, rfl⟩

/-- What is confirmed behind Confirm. -/
def confOf (begun sure round : Int) : Int := if sure < (if begun < round then begun else round) then (if begun < round then begun else round) else sure
theorem conf_le {begun sure round : Int} (h : sure ≤ begun) (h0 : 0 ≤ sure) : 0 ≤ confOf begun sure round ∧ confOf begun sure round ≤ begun ∧ sure ≤ confOf begun sure round := by
  unfold confOf
  split <;> split <;> omega
/-- One cell of the queue's block written. -/
theorem setq {w : World} {qb : Nat} {cs : Array Value} {t : TypeId} (h : w.heap[qb]? = some (.cells cs t (0, 0))) (j : Nat) (u : Value) :
    (w.setCell ⟨qb, j, none⟩ u).heap[qb]? = some (.cells (cs.setIfInBounds j u) t (0, 0)) ∧ Kept w (w.setCell ⟨qb, j, none⟩ u) (fun k => k = qb) ∧ ∀ b w0, b ≤ qb → Below b w0 w → Below b w0 (w.setCell ⟨qb, j, none⟩ u) :=
  ⟨blk_set h j u, (Kept.refl w (fun k => k = qb)).setCell (p := ⟨qb, j, none⟩) (.inl rfl) u, fun b w0 hb hB => hB.setCell (p := ⟨qb, j, none⟩) hb _⟩
theorem conf_end {w : World} {qb : Nat} {begun sure round x : Int} {v : Value} (h : w.heap[qb]? = some (QC begun sure v)) (hx : confOf begun sure round = x) :
    (w.setCell ⟨qb, 2, none⟩ (.int .u64 x)).drew.heap[qb]? = some (QC begun (confOf begun sure round) v) ∧ (Kept w (w.setCell ⟨qb, 2, none⟩ (.int .u64 x)).drew (fun k => k = qb)) ∧ ∀ b w0, b ≤ qb → Below b w0 w → Below b w0 (w.setCell ⟨qb, 2, none⟩ (.int .u64 x)).drew := by
  obtain ⟨h1, h2, h3⟩ := setq h 2 (.int .u64 x)
  subst hx
  exact ⟨h1, h2.drew, fun b w0 hb hB => below_drew (h3 b w0 hb hB)⟩

theorem confirm_calls (qb : Nat) (begun sure round : Int) (v : Value) (w : World) (h : w.heap[qb]? = some (QC begun sure v)) :
    Calls Try.prog 31 #[.pointer (some ⟨qb, 0, none⟩), .int .u64 round] w fun e w' => e = .returned (.tuple #[]) ∧ w'.heap[qb]? = some (QC begun (confOf begun sure round) v) ∧ Kept w w' (fun k => k = qb) ∧ ∀ b w0, b ≤ qb → Below b w0 w → Below b w0 w' := by
  have c1 : w.cell? ⟨qb, 1, none⟩ = some (.int .u64 begun) := blk_cell h 1
  have c2 : w.cell? ⟨qb, 2, none⟩ = some (.int .u64 sure) := blk_cell h 2
  have z2 := blk_frozen h 2
  have H := Aside0.mk h
  clear h
  go_enter Try.func31, Try.ntmps31
  go_wp2_with (go_at_call 77; refine (none_some qb begun sure _ _ H.out).mono ?_; rintro e w' ⟨rfl, rfl⟩)
  go_region
  all_goals (try go_wp2)
  all_goals go_end0
  all_goals exact ⟨rfl, conf_end H.out (by unfold confOf; (repeat' split) <;> omega)⟩

section
variable {W0 w : World} {ok : Nat → Prop} {qb : Nat} {begun sure : Int} {l : List S91} {v : Value}
/-- The queue with other numbers of rounds. -/
theorem IsQ.nums {w' : World} {base : Nat} {begun' sure' : Int} (h : IsQ w base ok qb begun sure l v) (hc : w'.heap[qb]? = some (QC begun' sure' v)) (hk : Kept w w' (fun k => k = qb)) (b0 : 0 ≤ begun') (b1 : begun' ≤ BIG) (s0 : 0 ≤ sure') (s1 : sure' ≤ begun') : IsQ w' base ok qb begun' sure' l v :=
  ⟨hc, h.mine, Kd.R_kept h.row hk (fun k hk => hk.2), b0, b1, s0, s1, h.len⟩
theorem IsQ.begin (h : IsQ w W0.heap.size ok qb begun sure l v) (hB : Below W0.heap.size W0 w) :
    Calls Try.prog 29 #[.pointer (some ⟨qb, 0, none⟩)] w fun e w' => e = .returned (.int .u64 (beginOf begun)) ∧ IsQ w' W0.heap.size ok qb (beginOf begun) sure l v ∧ Below W0.heap.size W0 w' ∧ Kept w w' (fun k => k = qb) := by
  refine (begin_calls qb begun sure v w h.cell h.b0 h.b1).mono ?_
  rintro e w' ⟨rfl, rfl⟩
  obtain ⟨h1, h2, h3⟩ := setq h.cell 1 (.int .u64 (beginOf begun))
  have hb := beginOf_le h.b1
  exact ⟨rfl, h.nums h1 h2 (by have := h.b0; omega) hb.1 h.s0 (by have := h.s1; omega), h3 _ _ h.mine.1 hB, h2⟩
theorem IsQ.confirm (h : IsQ w W0.heap.size ok qb begun sure l v) (hB : Below W0.heap.size W0 w) (round : Int) :
    Calls Try.prog 31 #[.pointer (some ⟨qb, 0, none⟩), .int .u64 round] w fun e w' => e = .returned (.tuple #[]) ∧ IsQ w' W0.heap.size ok qb begun (confOf begun sure round) l v ∧ Below W0.heap.size W0 w' ∧ Kept w w' (fun k => k = qb) := by
  refine (confirm_calls qb begun sure round v w h.cell).mono ?_
  rintro e w' ⟨rfl, h1, h2, h3⟩
  have hc := conf_le (round := round) h.s1 h.s0
  exact ⟨rfl, h.nums h1 h2 h.b0 h.b1 hc.1 hc.2.1, h3 _ _ h.mine.1 hB, h2⟩
theorem IsQ.round (h : IsQ w W0.heap.size ok qb begun sure l v) : Calls Try.prog 39 #[.pointer (some ⟨qb, 0, none⟩)] w fun e w' => e = .returned (.int .u64 begun) ∧ w = w' := round_calls qb begun sure v w h.cell
theorem IsQ.length (h : IsQ w W0.heap.size ok qb begun sure l v) : Calls Try.prog 40 #[.pointer (some ⟨qb, 0, none⟩)] w fun e w' => e = .returned (.int .i64 l.length) ∧ w = w' := by
  obtain ⟨A, c, rfl, _, _⟩ := h.slice
  exact len_calls qb begun sure A _ c w h.cell
end
end Go.Proofs.Ytbjbejjieibldaa.Qa
