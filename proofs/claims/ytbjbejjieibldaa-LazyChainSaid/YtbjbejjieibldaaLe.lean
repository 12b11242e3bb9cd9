/- Cells: New, Made, Asked; what a cell or a table that is nil answers; the chapter's example. -/
import Derived.Test.YtbjbejjieibldaaLc
import Derived.Test.YtbjbejjieibldaaLd
namespace Go.Proofs.Ytbjbejjieibldaa.La
open Go.RowKit Go.Proofs.YtbjbejjieibldaaW.PrintWords Go.Proofs.YtbjbejjieibldaaW.PrintLast Go.Proofs.YtbjbejjieibldaaW.PrintMore Go.Proofs.Ytbjbejjieibldaa.Rg
open Go.Proofs.Ytbjbejjieibldaa
set_option linter.unusedVariables false

theorem newNilIn (w : World) : Calls Try.prog 56 #[.nilFunc] w fun e w' => ∃ cb, e = .returned (.pointer (some ⟨cb, 0, none⟩)) ∧ cb = w.heap.size ∧ w'.heap[cb]? = some (CB 126 0 0 0 0 .nilFunc (.int .i64 0)) ∧ Below w.heap.size w w' := by
  go_enter Try.func56, Try.ntmps56
  go_wp2
  go_ret
  exact ⟨w.heap.size, rfl, rfl, blk_new _ _, below_alloc (Below.refl _ _) _⟩
theorem newFunIn (fn : Fn) (first cap : Array Value) (w : World) : Calls Try.prog 56 #[.func fn first cap] w fun e w' => ∃ cb, e = .returned (.pointer (some ⟨cb, 0, none⟩)) ∧ cb = w.heap.size ∧ w'.heap[cb]? = some (CB 126 0 0 0 0 (.func fn first cap) (.int .i64 0)) ∧ Below w.heap.size w w' := by
  go_enter Try.func56, Try.ntmps56
  go_wp2
  go_ret
  exact ⟨w.heap.size, rfl, rfl, blk_new _ _, below_alloc (Below.refl _ _) _⟩
theorem madeIn (cb : Nat) (d st m a : Int) (f v : Value) (b : Bool) (hm : (m != 0) = b) (w : World) (h : w.heap[cb]? = some (CB 126 d st m a f v)) : Calls Try.prog 59 #[.pointer (some ⟨cb, 0, none⟩)] w fun e w' => e = .returned (.bool b) ∧ w = w' := by
  have h3 : w.cell? ⟨cb, 3, none⟩ = some (.int .u32 m) := (blk_cell h 3).trans rfl
  clear h
  go_enter Try.func59, Try.ntmps59
  go_wp2_with (go_at_call 97; refine (bload_calls ⟨cb, 3, none⟩ m b hm _ h3).mono ?_; rintro e w' ⟨rfl, rfl⟩)
  go_ret
  exact ⟨by simp, rfl⟩
theorem askedIn (cb : Nat) (d st m a : Int) (f v : Value) (w : World) (h : w.heap[cb]? = some (CB 126 d st m a f v)) : Calls Try.prog 66 #[.pointer (some ⟨cb, 0, none⟩)] w fun e w' => e = .returned (.int .i64 a) ∧ w = w' := by
  have h4 : w.cell? ⟨cb, 4, none⟩ = some (.int .i64 a) := (blk_cell h 4).trans rfl
  clear h
  go_enter Try.func66, Try.ntmps66
  go_wp2_with (go_at_call 99; refine (iload_calls ⟨cb, 4, none⟩ a _ h4).mono ?_; rintro e w' ⟨rfl, rfl⟩)
  go_ret
  exact ⟨rfl, rfl⟩
theorem getNoneSt (w : World) : Calls Try.prog 61 #[.pointer none] w fun e w' => e = .returned (.string ByteArray.empty) ∧ w = w' := by
  go_enter Try.func61, Try.ntmps61
  go_wp2
  go_ret
  exact ⟨rfl, rfl⟩
theorem madeNoneSt (w : World) : Calls Try.prog 62 #[.pointer none] w fun e w' => e = .returned (.bool false) ∧ w = w' := by
  go_enter Try.func62, Try.ntmps62
  go_wp2
  go_ret
  exact ⟨rfl, rfl⟩
theorem askedNoneSt (w : World) : Calls Try.prog 63 #[.pointer none] w fun e w' => e = .returned (.int .i64 0) ∧ w = w' := by
  go_enter Try.func63, Try.ntmps63
  go_wp2
  go_ret
  exact ⟨rfl, rfl⟩
theorem lenNone (w : World) : Calls Try.prog 64 #[.pointer none] w fun e w' => e = .returned (.int .i64 0) ∧ w = w' := by
  go_enter Try.func64, Try.ntmps64
  go_wp2
  go_ret
  exact ⟨rfl, rfl⟩
theorem tmadeNone (w : World) : Calls Try.prog 65 #[.pointer none] w fun e w' => e = .returned (.int .i64 0) ∧ w = w' := by
  go_enter Try.func65, Try.ntmps65
  go_wp2
  go_ret
  exact ⟨rfl, rfl⟩
theorem atNone (i : Int) (w : World) : Calls Try.prog 60 #[.pointer none, .int .i64 i] w fun e w' => e = .returned (.tuple #[.int .i64 0, .bool false]) ∧ w = w' := by
  by_cases h : i < 0
  · have d : decide (i < 0) = true := by simpa using h
    go_enter Try.func60, Try.ntmps60
    go_wp2
    go_ret2
    exact ⟨rfl, rfl⟩
  · have d : decide (i < 0) = false := by simpa using h
    have d2 : decide (0 ≤ i) = true := by simp; omega
    go_enter Try.func60, Try.ntmps60
    go_wp2_with (go_at_call 64; refine (lenNone _).mono ?_; rintro e w' ⟨rfl, rfl⟩)
    go_ret2
    exact ⟨rfl, rfl⟩

/-- The example's function. -/
theorem seven_calls (g1 : Nat) (n : Int) (hn : 0 ≤ n ∧ n < 1000) (w : World) (h : w.heap[g1]? = some (.cells #[.int .i64 n] 3 (0, 0))) :
    Calls Try.prog 93 #[.pointer (some ⟨g1, 0, none⟩)] w fun e w' => e = .returned (.int .i64 7) ∧ w'.heap[g1]? = some (.cells #[.int .i64 (n + 1)] 3 (0, 0)) ∧ Only g1 w w' := by
  have c0 := (blk_cell h 0).trans rfl
  have z0 := blk_frozen h 0
  have H := Aside0.mk h
  clear h
  go_enter Try.func93, Try.ntmps93
  go_wp2
  go_ret
  exact ⟨rfl, (setb H.out 0 _).1, (Only.refl g1 w).set 0 _⟩

/-- In the example: the counter at g1, the cell at cb asked a times. -/
structure LV (W0 w : World) (g1 cb : Nat) (a : Int) : Prop where
  count : w.heap[g1]? = some (.cells #[.int .i64 1] 3 (0, 0))
  cell : w.heap[cb]? = some (CB 126 1 0 1 a .nilFunc (.int .i64 7))
  below : Below W0.heap.size W0 w
  ne : g1 ≠ cb
  base : W0.heap.size ≤ cb
theorem LV.get {W0 w : World} {g1 cb : Nat} {a : Int} (h : LV W0 w g1 cb a) (ha : 0 ≤ a ∧ a < 100) : Calls Try.prog 58 #[.pointer (some ⟨cb, 0, none⟩)] w fun e w' => e = .returned (.int .i64 7) ∧ LV W0 w' g1 cb (a + 1) := by
  refine (getFullIn cb a 7 w h.cell (by omega)).mono ?_
  rintro e w' ⟨rfl, h1, h2⟩
  exact ⟨rfl, blk_kept h.count h2.1 h.ne, h1, h2.2 _ _ h.base h.below, h.ne, h.base⟩
theorem LV.first {W0 w : World} {g1 cb : Nat} (hc : w.heap[g1]? = some (.cells #[.int .i64 0] 3 (0, 0))) (h : w.heap[cb]? = some (CB 126 0 0 0 0 (.func (.func 93) #[] #[.pointer (some ⟨g1, 0, none⟩)]) (.int .i64 0))) (hB : Below W0.heap.size W0 w) (hne : g1 ≠ cb) (hb : W0.heap.size ≤ cb) (hb1 : W0.heap.size ≤ g1) :
    Calls Try.prog 58 #[.pointer (some ⟨cb, 0, none⟩)] w fun e w' => e = .returned (.int .i64 7) ∧ LV W0 w' g1 cb 1 := by
  refine (getIn93 cb 0 ⟨g1, 0, none⟩ 0 (fun w2 v => v = .int .i64 7 ∧ w2.heap[g1]? = some (.cells #[.int .i64 1] 3 (0, 0)) ∧ Below W0.heap.size W0 w2) w h (by omega) (fun w1 ho hc1 => ?_) (fun w2 v hq => ⟨7, hq.1⟩)).mono ?_
  · refine (seven_calls g1 0 (by omega) w1 (blk_kept hc ho.1 hne)).mono ?_
    rintro e w2 ⟨rfl, h1, h2⟩
    exact ⟨7, rfl, blk_kept hc1 h2.1 hne.symm, rfl, h1, h2.2 _ _ hb1 (ho.2 _ _ hb hB)⟩
  · rintro e w' ⟨v, w2, rfl, ⟨rfl, h1, h2⟩, h3, h4⟩
    exact ⟨rfl, blk_kept h1 h4.1 hne, h3, h4.2 _ _ hb h2, hne, hb⟩

set_option maxHeartbeats 1000000 in
set_option maxRecDepth 100000 in
theorem lives_calls (w : World) : Calls Try.prog 55 #[] w fun e w' => e = .returned (.bool true) ∧ Below w.heap.size w w' := by
  have hm := hmf
  go_enter Try.func55, Try.ntmps55
  go_wp2_with (first
    | ((with_reducible refine gate_dst (N := 1) rfl ?_); refine box_event ?hg (N := 1) ?hd (cs := #[.int .i64 0]) (t := 3) ?hr ?_; (case hd => rfl); (case hg => rfl); (case hr => first | (go_simp; done) | (go_simp; rfl)); intro g1 hg w1 hbox hb; have E1 := Aside0.mk hg; have K1 := Aside0.mk hbox; have B1 := Aside0.mk hb; clear hg hbox hb; have c0 := (blk_cell K1.out 0).trans rfl; have z0 := blk_frozen K1.out 0)
    | ((with_reducible refine gate_op (Op.store 3 (.tmp 1) (.const (.int .i64 0))) rfl ?_); refine skip_event (w1 := w1.setCell ⟨g1, 0, none⟩ (.int .i64 0)) rfl rfl ?hr ?_; (case hr => first | (go_simp; done) | (go_simp; rfl)); intro w2 hw; have K2 : Aside0 (w2.heap[g1]? = some (.cells #[.int .i64 0] 3 (0, 0))) := ⟨by rw [hw]; exact (setb K1.out 0 _).1⟩; have B2 : Aside0 (Below w.heap.size w w2) := ⟨by rw [hw]; exact (setb K1.out 0 _).2.2 _ _ (Nat.le_of_eq E1.out.symm) B1.out⟩; clear hw c0 z0)
    | (go_at_call 56; refine (newFunIn _ _ _ _).mono ?_; rintro e w3 ⟨cb, rfl, hcb, hc, hb⟩; have K3 := Aside0.mk hc; have C3 := Aside0.mk (blk_below K2.out hb); have B3 := Aside0.mk (below_then B2.out B2.out.size hb); have N3 : Aside0 (g1 ≠ cb ∧ w.heap.size ≤ cb ∧ w.heap.size ≤ g1) := ⟨by have := blk_lt K2.out; have := B2.out.size; have := E1.out; omega⟩; clear hcb hc hb)
    | (go_at_call 59; first
      | (refine (madeIn cb 0 0 0 0 _ _ false rfl _ K3.out).mono ?_; rintro e w' ⟨rfl, rfl⟩)
      | (refine (madeIn cb 1 0 1 3 _ _ true rfl _ L6.out.cell).mono ?_; rintro e w' ⟨rfl, rfl⟩))
    | (go_at_call 58; first
      | (refine (LV.first C3.out K3.out B3.out N3.out.1 N3.out.2.1 N3.out.2.2).mono ?_; rintro e w4 ⟨rfl, h⟩; have L4 := Aside0.mk h; clear h C3 K3)
      | (refine (L4.out.get (by omega)).mono ?_; rintro e w5 ⟨rfl, h⟩; have L5 := Aside0.mk h; clear h L4)
      | (refine (L5.out.get (by omega)).mono ?_; rintro e w6 ⟨rfl, h⟩; have L6 := Aside0.mk h; clear h L5; have c1 := (blk_cell L6.out.count 0).trans rfl))
    | (go_at_call 66; refine (askedIn cb 1 0 1 3 _ _ _ L6.out.cell).mono ?_; rintro e w' ⟨rfl, rfl⟩))
  go_ret
  exact ⟨rfl, L6.out.below⟩

set_option maxHeartbeats 2000000 in
set_option maxRecDepth 100000 in
theorem nobody_walk (i : Int) (w : World) : Calls Try.prog 12 #[.int .i64 i] w fun e w' => e = .returned (.bool true) ∧ Below w.heap.size w w' := by
  have hm := hmf
  go_enter Try.func12, Try.ntmps12
  go_wp2_with (first
    | ((with_reducible refine gate_dst (N := 4) rfl ?_); refine box_event ?hg (N := 4) ?hd (cs := #[.int .u32 0, .int .i32 0, .int .u32 0, .int .u32 0, .int .i64 0, .nilFunc, .int .i64 0]) (t := 126) ?hr ?_; (case hd => rfl); (case hg => rfl); (case hr => first | (go_simp; done) | (go_simp; rfl)); intro g4 hg w1 hbox hb; have E4 := Aside0.mk hg; have K4 := Aside0.mk hbox; have B4 := Aside0.mk hb; clear hg hbox hb)
    | (go_at_call 56; refine (newNilIn _).mono ?_; rintro e w2 ⟨cb, rfl, hcb, hc, hb⟩; have KN := Aside0.mk hc; have K42 := Aside0.mk (blk_below K4.out hb); have B2 := Aside0.mk (below_then B4.out B4.out.size hb); have N2 : Aside0 (g4 ≠ cb ∧ w.heap.size ≤ cb ∧ w.heap.size ≤ g4) := ⟨by have := blk_lt K4.out; have := B4.out.size; have := E4.out; omega⟩; clear hcb hc hb K4)
    | (go_at_call 60; refine (atNone i _).mono ?_; rintro e w' ⟨rfl, rfl⟩)
    | (go_at_call 61; refine (getNoneSt _).mono ?_; rintro e w' ⟨rfl, rfl⟩)
    | (go_at_call 62; refine (madeNoneSt _).mono ?_; rintro e w' ⟨rfl, rfl⟩)
    | (go_at_call 63; refine (askedNoneSt _).mono ?_; rintro e w' ⟨rfl, rfl⟩)
    | (go_at_call 64; refine (lenNone _).mono ?_; rintro e w' ⟨rfl, rfl⟩)
    | (go_at_call 65; refine (tmadeNone _).mono ?_; rintro e w' ⟨rfl, rfl⟩)
    | (go_at_call 58; first
      | (refine (getNilIn g4 0 0 _ K42.out (by omega)).mono ?_; rintro e w3 ⟨rfl, hc, ho⟩; have K3 := Aside0.mk hc; have KN3 := Aside0.mk (blk_kept KN.out ho.1 (fun e => N2.out.1 e.symm)); have B3 := Aside0.mk (ho.2 _ _ N2.out.2.2 B2.out); clear hc ho K42)
      | (refine (getNilIn cb 0 0 _ KN3.out (by omega)).mono ?_; rintro e w4 ⟨rfl, hc, ho⟩; have K5 := Aside0.mk hc; have B5 := Aside0.mk (ho.2 _ _ N2.out.2.1 B3.out); clear hc ho K3))
    | (go_at_call 59; first
      | (refine (madeIn g4 1 0 1 1 _ _ true rfl _ K3.out).mono ?_; rintro e w' ⟨rfl, rfl⟩)
      | (refine (madeIn cb 1 0 1 1 _ _ true rfl _ K5.out).mono ?_; rintro e w' ⟨rfl, rfl⟩))
    | (go_at_call 66; refine (askedIn g4 1 0 1 1 _ _ _ K3.out).mono ?_; rintro e w' ⟨rfl, rfl⟩)
    | (go_at_call 55; refine (lives_calls _).mono ?_; rintro e w6 ⟨rfl, hb⟩; have B6 := Aside0.mk (below_then B5.out B5.out.size hb); clear hb))
  go_ret
  exact ⟨rfl, B6.out⟩
end Go.Proofs.Ytbjbejjieibldaa.La
