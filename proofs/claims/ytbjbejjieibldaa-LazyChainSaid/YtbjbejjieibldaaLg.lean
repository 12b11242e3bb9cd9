/- Tables: Rows, Len, Made, At. -/
import Derived.Test.YtbjbejjieibldaaLf
namespace Go.Proofs.Ytbjbejjieibldaa.La
open Go.RowKit Go.Proofs.YtbjbejjieibldaaW.PrintWords Go.Proofs.YtbjbejjieibldaaW.PrintLast Go.Proofs.YtbjbejjieibldaaW.PrintMore Go.Proofs.Ytbjbejjieibldaa.Rg
open Go.Proofs.Ytbjbejjieibldaa
set_option linter.unusedVariables false

/-- A row of a table: not yet asked for, or asked a times. -/
def RowIs (w : World) (lo g5 g3 cb k : Nat) (st : Option Nat) (val : Int) : Prop :=
  match st with
  | none => ∃ g6, lo ≤ g6 ∧ w.heap[cb]? = some (CB 126 0 0 0 0 (FV g5 g3 g6) (.int .i64 0)) ∧ w.heap[g6]? = some (.cells #[.int .i64 k] 3 (0, 0))
  | some a => w.heap[cb]? = some (CB 126 1 0 1 a .nilFunc (.int .i64 val))

/-- A table: all its blocks are lo or above. -/
structure TB (w : World) (lo tb g5 g3 : Nat) (fv : Value) (cbs : List Nat) (A : Option Addr) (c : Nat) (made : Int) (st : Nat → Option Nat) (val : Nat → Int) : Prop where
  tab : w.heap[tb]? = some (.cells #[.slice A cbs.length c, .int .i64 made] 162 (0, 0))
  v5 : w.heap[g5]? = some (.cells #[PB tb] 127 (0, 0))
  v3 : w.heap[g3]? = some (.cells #[fv] 134 (0, 0))
  row : Kd.R kp 106 w lo (fun _ => True) (.slice A cbs.length c) cbs
  cell : ∀ k, k < cbs.length → RowIs w lo g5 g3 (cbs.getD k 0) k (st k) (val k)
  nd : cbs.Nodup
  los : lo ≤ tb ∧ lo ≤ g5 ∧ lo ≤ g3 ∧ ∀ k, k < cbs.length → lo ≤ cbs.getD k 0

theorem RowIs.kept {w w' : World} {lo g5 g3 cb k : Nat} {st : Option Nat} {val : Int} {S : Nat → Prop} (h : RowIs w lo g5 g3 cb k st val) (hk : Kept w w' S) (hS : ∀ j, S j → j ≠ cb ∧ ∀ x, w.heap[j]? ≠ some (.cells #[.int .i64 x] 3 (0, 0))) : RowIs w' lo g5 g3 cb k st val := by
  cases st with
  | none =>
    obtain ⟨g6, h0, h1, h2⟩ := h
    exact ⟨g6, h0, blk_kept h1 hk (fun hs => (hS _ hs).1 rfl), blk_kept h2 hk (fun hs => (hS _ hs).2 _ h2)⟩
  | some a => exact blk_kept h hk (fun hs => (hS _ hs).1 rfl)
theorem TB.below {w w' : World} {lo tb g5 g3 : Nat} {fv : Value} {cbs : List Nat} {A : Option Addr} {c : Nat} {made : Int} {st : Nat → Option Nat} {val : Nat → Int} (h : TB w lo tb g5 g3 fv cbs A c made st val) (hb : Below w.heap.size w w') : TB w' lo tb g5 g3 fv cbs A c made st val :=
  ⟨blk_below h.tab hb, blk_below h.v5 hb, blk_below h.v3 hb, Kd.R_below h.row hb, fun k hk => (h.cell k hk).kept (Kept.of_below hb (fun _ => False)) (fun _ hs => hs.elim), h.nd, h.los⟩

theorem tlen_calls (tb : Nat) (A : Option Addr) (n c : Nat) (m : Int) (w : World) (h : w.heap[tb]? = some (.cells #[.slice A n c, .int .i64 m] 162 (0, 0))) : Calls Try.prog 64 #[PB tb] w fun e w' => e = .returned (.int .i64 n) ∧ w = w' := by
  have c0 := (blk_cell h 0).trans rfl
  clear h
  go_enter Try.func64, Try.ntmps64
  go_wp2
  go_ret
  exact ⟨rfl, rfl⟩
theorem tmade_calls (tb : Nat) (A : Option Addr) (n c : Nat) (m : Int) (w : World) (h : w.heap[tb]? = some (.cells #[.slice A n c, .int .i64 m] 162 (0, 0))) : Calls Try.prog 65 #[PB tb] w fun e w' => e = .returned (.int .i64 m) ∧ w = w' := by
  have c1 : w.cell? ⟨tb, 1, none⟩ = some (.int .i64 m) := (blk_cell h 1).trans rfl
  clear h
  go_enter Try.func65, Try.ntmps65
  go_wp2_with (go_at_call 99; refine (iload_calls ⟨tb, 1, none⟩ m _ c1).mono ?_; rintro e w' ⟨rfl, rfl⟩)
  go_ret
  exact ⟨rfl, rfl⟩

theorem rd_kp {w : World} {A : Option Addr} {n : Nat} {cbs : List Nat} (h : Kd.C kp w A n cbs) (i : Nat) (hi : i < n) : ∃ ad, A = some ad ∧ w.cell? (ad.add i) = some (PB (cbs.getD i 0)) := by
  obtain ⟨ad, c, e, _, hK, hc⟩ := Kd.C_get h 0 (i : Int) (by omega) (by omega)
  have hK : c = [PB (cbs.getD i 0)] := hK
  subst hK
  refine ⟨ad, e, ?_⟩
  have := hc 0 _ rfl
  have e1 : kp.sz = 1 := rfl
  simpa [e1] using this

/-- At: no such row. -/
theorem at_out (tb : Nat) (A : Option Addr) (n c : Nat) (m i : Int) (w : World) (h : w.heap[tb]? = some (.cells #[.slice A n c, .int .i64 m] 162 (0, 0))) (hi : i < 0 ∨ (n : Int) ≤ i) :
    Calls Try.prog 60 #[PB tb, .int .i64 i] w fun e w' => e = .returned (.tuple #[.int .i64 0, .bool false]) ∧ w = w' := by
  by_cases h0 : i < 0
  · have d : decide (i < 0) = true := by simpa using h0
    go_enter Try.func60, Try.ntmps60
    go_wp2
    go_ret2
    exact ⟨rfl, rfl⟩
  · have d : decide (i < 0) = false := by simpa using h0
    have d2 : decide ((n : Int) ≤ i) = true := by simp; omega
    have H := Aside0.mk h
    clear h
    go_enter Try.func60, Try.ntmps60
    go_wp2_with (go_at_call 64; refine (tlen_calls tb A n c m _ H.out).mono ?_; rintro e w' ⟨rfl, rfl⟩)
    go_ret2
    exact ⟨rfl, rfl⟩
/-- At: what the row's Get tells. -/
theorem at_in (tb : Nat) (A : Option Addr) (cbs : List Nat) (c : Nat) (m : Int) (i : Nat) (x : Int) (Q : World → Prop) (w : World) (h : w.heap[tb]? = some (.cells #[.slice A cbs.length c, .int .i64 m] 162 (0, 0))) (hC : Kd.C kp w A cbs.length cbs) (hi : i < cbs.length) (h63 : cbs.length ≤ 1000000)
    (hget : Calls Try.prog 58 #[PB (cbs.getD i 0)] w fun e w' => e = .returned (.int .i64 x) ∧ Q w') :
    Calls Try.prog 60 #[PB tb, .int .i64 i] w fun e w' => e = .returned (.tuple #[.int .i64 x, .bool true]) ∧ Q w' := by
  obtain ⟨ad, ea, hx⟩ := rd_kp hC i hi
  subst ea
  have c0 := (blk_cell h 0).trans rfl
  have d : decide ((i : Int) < 0) = false := by simp
  have d2 : decide ((cbs.length : Int) ≤ i) = false := by simp; omega
  have H := Aside0.mk h
  have HG := Aside0.mk hget
  clear h hget hC
  generalize cbs.getD i 0 = cb at hx HG
  go_enter Try.func60, Try.ntmps60
  go_wp2_with (first
    | (go_at_call 64; refine (tlen_calls tb _ _ c m _ H.out).mono ?_; rintro e w' ⟨rfl, rfl⟩)
    | (go_at_call 58; refine (HG.out).mono ?_; rintro e w' ⟨rfl, hq⟩; have HQ := Aside0.mk hq; clear hq))
  go_ret2
  exact ⟨rfl, HQ.out⟩

/-- A table's row, of no function: 0. -/
theorem rowfn_nil (tb g5 g3 g6 : Nat) (A : Option Addr) (n c : Nat) (m : Int) (w : World) (ht : w.heap[tb]? = some (.cells #[.slice A n c, .int .i64 m] 162 (0, 0))) (h5 : w.heap[g5]? = some (.cells #[PB tb] 127 (0, 0))) (h3 : w.heap[g3]? = some (.cells #[.nilFunc] 134 (0, 0))) (hm : 0 ≤ m ∧ m < 1000000) (htg : tb ≠ g3) :
    Calls Try.prog 100 #[PB g5, PB g3, PB g6] w fun e w' => e = .returned (.int .i64 0) ∧ w'.heap[tb]? = some (.cells #[.slice A n c, .int .i64 (m + 1)] 162 (0, 0)) ∧ Only tb w w' := by
  have c5 := (blk_cell h5 0).trans rfl
  have c1 : w.cell? ⟨tb, 1, none⟩ = some (.int .i64 m) := (blk_cell ht 1).trans rfl
  have z1 := blk_frozen ht 1
  have hrun : ∀ w : World, Sem.run Try.prog (binOp BinOp.eql 134 Value.nilFunc Value.nilFunc) w = .ok (.bool true) w := fun w => by kernel_rfl
  have H3 := Aside0.mk h3
  have HT := Aside0.mk ht
  clear h5 h3 ht
  go_enter Try.func100, Try.ntmps100
  go_wp2_with (go_at_call 94; refine (iadd_calls ⟨tb, 1, none⟩ m _ c1 z1 (by omega)).mono ?_; rintro e w1 ⟨rfl, hw⟩; have K1 : Aside0 (w1.heap[tb]? = some (.cells #[.slice A n c, .int .i64 (m + 1)] 162 (0, 0)) ∧ Only tb w w1) := ⟨by rw [hw]; exact ⟨(setb HT.out 1 _).1, (Only.refl tb w).set 1 _⟩⟩; clear hw; have g3c := (blk_cell (blk_kept H3.out K1.out.2.1 (fun e => htg e.symm)) 0).trans rfl)
  go_ret
  exact ⟨rfl, K1.out⟩

theorem tight_kp {w : World} {lo : Nat} {v : Value} {l : List Nat} (h : Kd.R kp 106 w lo (fun _ => True) v l) : Kd.R kp 106 w lo (fun k => some k = v.ownBlock) v l := ⟨fun k hk => hk.symm, h.2⟩
theorem own_kp {w : World} {lo : Nat} {v : Value} {l : List Nat} (h : Kd.R kp 106 w lo (fun _ => True) v l) (k : Nat) (hk : some k = v.ownBlock) : lo ≤ k ∧ k < w.heap.size ∧ ∃ cells, w.heap[k]? = some (.cells cells 106 (0, 0)) := by
  obtain ⟨_, h1, h2, q, hq, cells, hc⟩ := (Kd.R_bound h).1 k hk.symm
  have hq : q = 106 := by
    rcases List.mem_cons.1 hq with h | h
    · exact h
    · cases h
  subst hq
  exact ⟨h1, h2, cells, hc⟩
section
variable {W w : World} {lo tb g5 g3 g6 cb k : Nat} {fv v : Value} {cbs : List Nat} {A : Option Addr} {c : Nat} {made : Int} {st : Nat → Option Nat} {val : Nat → Int}
theorem RowIs.lt {st : Option Nat} {val : Int} (h : RowIs w lo g5 g3 cb k st val) : cb < w.heap.size ∧ (∀ x t, t ≠ 126 → w.heap[cb]? ≠ some (.cells x t (0, 0))) := by
  cases st with
  | none =>
    obtain ⟨g6, _, h1, _⟩ := h
    exact ⟨blk_lt h1, fun x t ht e => by rw [h1] at e; cases e; exact ht rfl⟩
  | some a =>
    have h : w.heap[cb]? = some (CB 126 1 0 1 a .nilFunc (.int .i64 val)) := h
    exact ⟨blk_lt h, fun x t ht e => by rw [h] at e; cases e; exact ht rfl⟩
/-- One row more. -/
theorem TB.step (h : TB W lo tb g5 g3 fv cbs A c made st val) (h6 : W.heap[g6]? = some (.cells #[.int .i64 k] 3 (0, 0))) (h6l : lo ≤ g6) (hk : Kept W w (fun k => k = tb ∨ some k = (Value.slice A cbs.length c).ownBlock)) (h5 : w.heap[g5]? = some (.cells #[PB tb] 127 (0, 0)))
    (ht : w.heap[tb]? = some (.cells #[v, .int .i64 made] 162 (0, 0))) {okr : Nat → Prop} (hR : Kd.R kp 106 w lo okr v (cbs ++ [cb])) (hcb : W.heap.size ≤ cb) (hlo : lo ≤ W.heap.size) (hcc : w.heap[cb]? = some (CB 126 0 0 0 0 (FV g5 g3 g6) (.int .i64 0))) (hn : cbs.length = k) (hst : st k = none) :
    ∃ A' c', TB w lo tb g5 g3 fv (cbs ++ [cb]) A' c' made st val := by
  obtain ⟨A', c', e⟩ := Kd.R_slice hR
  subst e
  have hown := own_kp h.row
  have hS : ∀ j, (j = tb ∨ some j = (Value.slice A cbs.length c).ownBlock) → ∀ x t, t ≠ 162 → t ≠ 106 → W.heap[j]? ≠ some (.cells x t (0, 0)) := fun j hj x t h1 h2 e => by
    rcases hj with rfl | hj
    · rw [h.tab] at e; cases e; exact h1 rfl
    · obtain ⟨_, _, cells, hc⟩ := hown j hj
      rw [hc] at e; cases e; exact h2 rfl
  refine ⟨A', c', ht, h5, blk_kept h.v3 hk (fun hs => hS _ hs _ _ (by decide) (by decide) h.v3), Kd.R_mono hR (fun _ _ => trivial), fun j hj => ?_, ?_, h.los.1, h.los.2.1, h.los.2.2.1, fun j hj => ?_⟩
  · by_cases hjk : j < cbs.length
    · rw [List.getD_eq_getElem?_getD, List.getElem?_append_left hjk, ← List.getD_eq_getElem?_getD]
      refine (h.cell j hjk).kept hk (fun q hq => ⟨fun e => ?_, fun x e => hS q hq _ _ (by decide) (by decide) e⟩)
      have hc := (h.cell j hjk).lt.2
      rcases hq with rfl | hq
      · exact hc _ 162 (by decide) (e ▸ h.tab)
      · obtain ⟨_, _, cells, hcc⟩ := hown q hq
        exact hc _ 106 (by decide) (e ▸ hcc)
    · have e : j = k := by simp at hj; omega
      subst e
      rw [List.getD_eq_getElem?_getD, List.getElem?_append_right (by omega), hst]
      simp only [show j - cbs.length = 0 by omega, List.getElem?_cons_zero, Option.getD_some]
      exact ⟨g6, h6l, hcc, blk_kept h6 hk (fun hs => hS _ hs _ _ (by decide) (by decide) h6)⟩
  · rw [List.nodup_append]
    refine ⟨h.nd, by simp, fun a ha b hb e => ?_⟩
    obtain ⟨j, hj, ej⟩ := List.mem_iff_getElem.1 ha
    have := (h.cell j hj).lt.1
    rw [List.getD_eq_getElem?_getD, List.getElem?_eq_getElem hj, Option.getD_some, ej] at this
    simp at hb
    omega
  · by_cases hjk : j < cbs.length
    · rw [List.getD_eq_getElem?_getD, List.getElem?_append_left hjk, ← List.getD_eq_getElem?_getD]
      exact h.los.2.2.2 j hjk
    · simp at hj
      rw [List.getD_eq_getElem?_getD, List.getElem?_append_right (by omega)]
      simp only [show j - cbs.length = 0 by omega, List.getElem?_cons_zero, Option.getD_some]
      omega
end
end Go.Proofs.Ytbjbejjieibldaa.La
