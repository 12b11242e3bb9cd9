/- A plan of the week: its parts that write nothing: none, a row's clone, the search of a second's span. -/
import Derived.Test.YtbjbejjieibldaaVa
import Derived.Test.YtbjbejjieibldaaLb
import Derived.WalkSpells
namespace Go.Proofs.Ytbjbejjieibldaa.Va
open Go.RowKit Go.Proofs.YtbjbejjieibldaaW.PrintWords Go.Proofs.YtbjbejjieibldaaW.PrintLast Go.Proofs.YtbjbejjieibldaaW.PrintMore Go.Proofs.Ytbjbejjieibldaa.PWeekCounts Go.Proofs.Ytbjbejjieibldaa.Rg Go.Proofs.Ytbjbejjieibldaa.La
open Go.Proofs.Ytbjbejjieibldaa
set_option linter.unusedVariables false

abbrev PB (b : Nat) : Value := .pointer (some ⟨b, 0, none⟩)

theorem none_nil (w : World) : Calls Try.prog 86 #[.pointer none] w fun e w' => e = .returned (.bool true) ∧ w = w' := by
  go_enter Try.func86, Try.ntmps86
  go_wp2
  go_ret
  exact ⟨rfl, rfl⟩
theorem none_zero (pb : Nat) (v : Value) (w : World) (h : w.heap[pb]? = some (.cells #[v, .pointer none] 82 (0, 0))) : Calls Try.prog 86 #[PB pb] w fun e w' => e = .returned (.bool true) ∧ w = w' := by
  have c1 : w.cell? ⟨pb, 1, none⟩ = some (.pointer none) := blk_cell h 1
  clear h
  go_enter Try.func86, Try.ntmps86
  go_wp2
  go_ret
  exact ⟨rfl, rfl⟩
theorem none_some (pb cb : Nat) (v : Value) (w : World) (h : w.heap[pb]? = some (.cells #[v, PB cb] 82 (0, 0))) : Calls Try.prog 86 #[PB pb] w fun e w' => e = .returned (.bool false) ∧ w = w' := by
  have c1 : w.cell? ⟨pb, 1, none⟩ = some (PB cb) := blk_cell h 1
  clear h
  go_enter Try.func86, Try.ntmps86
  go_wp2
  go_ret
  exact ⟨rfl, rfl⟩

/-- slices.Clone of spans. -/
theorem cloneSp (A : Option Addr) (c : Nat) (xs : List Sp) (w : World) (hr : Kd.C k151 w A xs.length xs) (hl : xs.length < 1000) :
    Calls Try.prog 82 #[.slice A xs.length c] w fun e w' => ∃ v, e = .returned v ∧ Kd.R k151 151 w' w.heap.size (fun _ => True) v xs ∧ Below w.heap.size w w' := by
  have hs := fun (w : World) (A : Option Addr) (n c : Nat) => Lib.run_eql_slice_nil (P := Try.prog) w 69 151 A n c 0 0 Try.underlying69
  cases A with
  | none =>
    have hn : xs = [] := by
      rcases Nat.eq_zero_or_pos xs.length with h0 | h0
      · exact List.eq_nil_of_length_eq_zero h0
      · obtain ⟨ad, h, _⟩ := hr.2.2 h0
        cases h
    subst hn
    go_enter Try.func82, Try.ntmps82
    go_wp2
    go_ret
    exact ⟨_, rfl, Kd.R_nil _ _ _ _ _, Below.refl _ _⟩
  | some ad =>
    have HR := Aside0.mk hr
    have HL := Aside0.mk hl
    clear hr hl
    go_enter Try.func82, Try.ntmps82
    go_wp2_with (first
      | ((with_reducible refine gate_dst (N := 5) rfl ?_); refine Kd.R_lit k151 (w0 := w) w.heap.size 151 rfl (N := 5) rfl (xs := ([] : List Sp)) (inner := []) (ok := fun _ => True) (okp := fun _ => True) ?hr (Reps.none _ _) (fun _ h => h) trivial (Below.refl _ _) (Nat.le_refl _) (by simp) ?_; (case hr => first | (go_simp; done) | (go_simp; rfl)); intro v1 w1 ho hb hg hn; have HO := Aside0.mk ho; have HB := Aside0.mk hb; clear ho hb hg hn)
      | ((with_reducible refine gate_dst (N := 7) rfl ?_); refine Kd.R_append_rows k151 (w0 := w) w.heap.size rfl (.tmp 5) (.tmp 6) 69 151 (.agg #[.int .i64 0, .int .i64 0]) 16 rfl Try.underlying69 info151 rfl (by decide) (by omega) v1 [] xs (some ad) xs.length c (fun _ => True) (fun _ => False) rfl rfl HO.out (Kd.C_below HR.out HB.out) (fun _ _ h => h) (fun _ h => h.elim) (fun _ _ => trivial) HB.out HB.out.size (by have := HL.out; simp; omega) ?_; intro v2 w2 ho hb hg hn; have HO2 := Aside0.mk ho; have HB2 := Aside0.mk hb; clear ho hb hg hn))
    go_ret
    exact ⟨_, rfl, HO2.out, HB2.out⟩

/-- at's own function. -/
theorem side_calls (x y t : Int) (w : World) : Calls Try.prog 107 #[.agg #[.int .i64 x, .int .i64 y], .int .i64 t] w fun e w' => e = .returned (.int .i64 (if y ≤ t then -1 else 1)) ∧ Below w.heap.size w w' := by
  by_cases h : y ≤ t
  · have d : decide (y ≤ t) = true := decide_eq_true h
    rw [if_pos h]
    clear h
    go_enter Try.func107, Try.ntmps107
    go_wp2
    go_ret
    exact ⟨rfl, below_alloc (Below.refl _ _) _⟩
  · have d : decide (y ≤ t) = false := decide_eq_false h
    rw [if_neg h]
    clear h
    go_enter Try.func107, Try.ntmps107
    go_wp2
    go_ret
    exact ⟨rfl, below_alloc (Below.refl _ _) _⟩
end Go.Proofs.Ytbjbejjieibldaa.Va
