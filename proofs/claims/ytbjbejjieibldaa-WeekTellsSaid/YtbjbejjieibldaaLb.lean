/- A lazy cell: what its calls do, for one type of element. -/
import Derived.Test.YtbjbejjieibldaaLa
namespace Go.Proofs.Ytbjbejjieibldaa.La
open Go.RowKit Go.Proofs.YtbjbejjieibldaaW.PrintWords Go.Proofs.YtbjbejjieibldaaW.PrintLast Go.Proofs.YtbjbejjieibldaaW.PrintMore Go.Proofs.Ytbjbejjieibldaa.Rg
open Go.Proofs.Ytbjbejjieibldaa
set_option linter.unusedVariables false

set_option maxRecDepth 100000 in
set_option maxHeartbeats 1600000 in
theorem slowSl (cb : Nat) (a : Int) (f v0 : Value) (Q : World → Value → Prop) (w : World) (h : w.heap[cb]? = some (CB 168 0 0 0 a f v0))
    (hfill : Calls Try.prog 104 #[.pointer (some ⟨cb, 0, none⟩)] (w.setCell ⟨cb, 1, none⟩ (.int .i32 1)) fun e w2 => e = .returned (.tuple #[]) ∧ ∃ v, w2.heap[cb]? = some (CB 168 0 1 1 a .nilFunc v) ∧ Q w2 v) :
    Calls Try.prog 112 #[.pointer (some ⟨cb, 0, none⟩), .func (.func 104) #[.pointer (some ⟨cb, 0, none⟩)] #[]] w fun e w' => e = .returned (.tuple #[]) ∧ ∃ w2 v, Q w2 v ∧ w'.heap[cb]? = some (CB 168 1 0 1 a .nilFunc v) ∧ Only cb w2 w' := by
  have h0 := (blk_cell h 0).trans rfl
  have h1 := (blk_cell h 1).trans rfl
  have f0 := blk_frozen h 0
  have f1 := blk_frozen h 1
  have H1 := Aside0.mk (setb h 1 (.int .i32 1)).1
  have HF := Aside0.mk hfill
  have q0 : (w.setCell ⟨cb, 1, none⟩ (.int .i32 1)).cell? ⟨cb, 0, none⟩ = some (.int .u32 0) := (blk_cell H1.out 0).trans rfl
  have hl := run_call_load (P := Try.prog) Try.func114 (by kernel_rfl) (by kernel_rfl) (by kernel_rfl) .u32 (by kernel_rfl) q0
  have hn := hnot
  clear h hfill
  go_enter_defers Try.func112, Try.ntmps112
  go_wp2_with (first
    | (go_at_call 118; refine (lock_free ⟨cb, 1, none⟩ _ h1 f1).mono ?_; rintro e w' ⟨rfl, rfl⟩)
    | (go_at_call 97; refine (bload_calls ⟨cb, 0, none⟩ 0 false rfl _ q0).mono ?_; rintro e w' ⟨rfl, rfl⟩)
    | (go_at_call 104; refine (HF.out).mono ?_; rintro e w2 ⟨rfl, v, hc, hq⟩; have H2 := Aside0.mk hc; have HQ := Aside0.mk hq; clear hc hq))
  refine leaves_cons (f := 113) (args := #[.pointer (some ⟨cb, 0, none⟩), .bool true]) (by simp) (by simp [go_sem]) ?_
  refine (store_deferred ⟨cb, 0, none⟩ (.int .u32 0) .returning _ ((blk_cell H2.out 0).trans rfl) (blk_frozen H2.out 0)).mono ?_
  rintro e u' w'' ⟨rfl, rfl, rfl⟩
  have H3 := (setb (w := w2.drew) H2.out 0 (.int .u32 1)).1
  refine leaves_cons (f := 119) (args := #[.pointer (some ⟨cb, 1, none⟩)]) (by simp [settle]) (by simp [go_sem]) ?_
  refine (unlock_deferred ⟨cb, 1, none⟩ _ _ ((blk_cell H3 1).trans rfl) (blk_frozen H3 1)).mono ?_
  rintro e u' w'' ⟨rfl, rfl, rfl⟩
  have H4 := (setb H3 1 (.int .i32 0)).1
  have HX : ∃ w3 v3, Q w3 v3 ∧ ((w2.drew.setCell ⟨cb, 0, none⟩ (.int .u32 1)).setCell ⟨cb, 1, none⟩ (.int .i32 0)).heap[cb]? = some (CB 168 1 0 1 a .nilFunc v3) ∧ Only cb w3 ((w2.drew.setCell ⟨cb, 0, none⟩ (.int .u32 1)).setCell ⟨cb, 1, none⟩ (.int .i32 0)) :=
    ⟨w2, v, HQ.out, H4, ((Only.refl cb w2).drew.set 0 _).set 1 _⟩
  clear H3 H4
  simp [Leaves, settle, results, Try.results112]
  exact HX

set_option maxHeartbeats 1000000 in
theorem doFirstSl (cb : Nat) (a : Int) (f v0 : Value) (Q : World → Value → Prop) (w : World) (h : w.heap[cb]? = some (CB 168 0 0 0 a f v0))
    (hfill : Calls Try.prog 104 #[.pointer (some ⟨cb, 0, none⟩)] (w.setCell ⟨cb, 1, none⟩ (.int .i32 1)) fun e w2 => e = .returned (.tuple #[]) ∧ ∃ v, w2.heap[cb]? = some (CB 168 0 1 1 a .nilFunc v) ∧ Q w2 v) :
    Calls Try.prog 95 #[.pointer (some ⟨cb, 0, none⟩), .func (.func 104) #[.pointer (some ⟨cb, 0, none⟩)] #[]] w fun e w' => e = .returned (.tuple #[]) ∧ ∃ w2 v, Q w2 v ∧ w'.heap[cb]? = some (CB 168 1 0 1 a .nilFunc v) ∧ Only cb w2 w' := by
  have h0 : w.cell? ⟨cb, 0, none⟩ = some (.int .u32 0) := (blk_cell h 0).trans rfl
  have HF := Aside0.mk hfill
  have H := Aside0.mk h
  have hn := hnot
  clear h hfill
  go_enter Try.func95, Try.ntmps95
  go_wp2_with (first
    | (go_at_call 97; refine (bload_calls ⟨cb, 0, none⟩ 0 false rfl _ h0).mono ?_; rintro e w' ⟨rfl, rfl⟩)
    | (go_at_call 112; refine (slowSl cb a f v0 Q _ H.out HF.out).mono ?_; rintro e w' ⟨rfl, hx⟩; have HX := Aside0.mk hx; clear hx))
  go_end0
  exact ⟨rfl, HX.out⟩

set_option maxHeartbeats 1000000 in
set_option maxRecDepth 100000 in
/-- Get, made already. -/
theorem getFullSl (cb : Nat) (a : Int) (A : Option Addr) (n c : Nat) (w : World) (h : w.heap[cb]? = some (CB 168 1 0 1 a .nilFunc (.slice A n c))) (ha : 0 ≤ a ∧ a < 4611686018427387904) :
    Calls Try.prog 87 #[.pointer (some ⟨cb, 0, none⟩)] w fun e w' => e = .returned (.slice A n c) ∧ w'.heap[cb]? = some (CB 168 1 0 1 (a + 1) .nilFunc (.slice A n c)) ∧ Only cb w w' := by
  have h4 : w.cell? ⟨cb, 4, none⟩ = some (.int .i64 a) := (blk_cell h 4).trans rfl
  have z4 := blk_frozen h 4
  have H := Aside0.mk h
  have HA := Aside0.mk ha
  have hm := hmf
  clear h
  go_enter Try.func87, Try.ntmps87
  go_wp2_with (first
    | (go_at_call 94; refine (iadd_calls ⟨cb, 4, none⟩ a _ h4 z4 HA.out).mono ?_; rintro e w1 ⟨rfl, hw⟩; have H1 : Aside0 (w1.heap[cb]? = some (CB 168 1 0 1 (a + 1) .nilFunc (.slice A n c))) := ⟨by rw [hw]; exact (setb H.out 4 _).1⟩; have HO : Aside0 (Only cb w w1) := ⟨by rw [hw]; exact (Only.refl cb w).set 4 _⟩; clear hw; have g0 := (blk_cell H1.out 0).trans rfl; have g6 := (blk_cell H1.out 6).trans rfl)
    | (go_at_call 95; refine (doDone cb _ _ g0).mono ?_; rintro e w' ⟨rfl, rfl⟩))
  go_ret
  exact ⟨rfl, H1.out, HO.out⟩
set_option maxHeartbeats 1000000 in
set_option maxRecDepth 100000 in
/-- fill, without a function. -/
theorem fillNilSl (cb : Nat) (a : Int) (A : Option Addr) (n c : Nat) (w : World) (h : w.heap[cb]? = some (CB 168 0 1 0 a .nilFunc (.slice A n c))) :
    Calls Try.prog 104 #[.pointer (some ⟨cb, 0, none⟩)] w fun e w' => e = .returned (.tuple #[]) ∧ w'.heap[cb]? = some (CB 168 0 1 1 a .nilFunc (.slice A n c)) ∧ Only cb w w' := by
  have h5 : w.cell? ⟨cb, 5, none⟩ = some .nilFunc := (blk_cell h 5).trans rfl
  have hrun : ∀ w : World, Sem.run Try.prog (binOp BinOp.neq 155 Value.nilFunc Value.nilFunc) w = .ok (.bool false) w := fun w => by kernel_rfl
  have z5 := blk_frozen h 5
  have H := Aside0.mk h
  clear h
  go_enter Try.func104, Try.ntmps104
  go_wp2_with (first
    | ((with_reducible refine gate_op (Op.store 155 (.tmp 17) (.const .nilFunc)) rfl ?_); refine skip_event (w1 := w.setCell ⟨cb, 5, none⟩ .nilFunc) rfl rfl ?hr ?_; (case hr => first | (go_simp; done) | (go_simp; rfl)); intro w1 hw; have H1 : Aside0 (w1.heap[cb]? = some (CB 168 0 1 0 a .nilFunc (.slice A n c))) := ⟨by rw [hw]; exact (setb H.out 5 _).1⟩; have HO : Aside0 (Only cb w w1) := ⟨by rw [hw]; exact (Only.refl cb w).set 5 _⟩; clear hw h5 z5; have g3 := (blk_cell H1.out 3).trans rfl; have y3 := blk_frozen H1.out 3)
    | (go_at_call 113; refine (store_calls ⟨cb, 3, none⟩ _ _ g3 y3).mono ?_; rintro e w2 ⟨rfl, hw⟩; have H2 : Aside0 (w2.heap[cb]? = some (CB 168 0 1 1 a .nilFunc (.slice A n c))) := ⟨by rw [hw]; exact (setb (w := w1.drew) H1.out 3 _).1⟩; have HO2 : Aside0 (Only cb w w2) := ⟨by rw [hw]; exact (HO.out.drew).set 3 _⟩; clear hw))
  go_end0
  exact ⟨rfl, H2.out, HO2.out⟩

set_option maxHeartbeats 1000000 in
set_option maxRecDepth 100000 in
/-- Get for the first time, without a function. -/
theorem getNilSl (cb : Nat) (a : Int) (A : Option Addr) (n c : Nat) (w : World) (h : w.heap[cb]? = some (CB 168 0 0 0 a .nilFunc (.slice A n c))) (ha : 0 ≤ a ∧ a < 4611686018427387904) :
    Calls Try.prog 87 #[.pointer (some ⟨cb, 0, none⟩)] w fun e w' => e = .returned (.slice A n c) ∧ w'.heap[cb]? = some (CB 168 1 0 1 (a + 1) .nilFunc (.slice A n c)) ∧ Only cb w w' := by
  have h4 : w.cell? ⟨cb, 4, none⟩ = some (.int .i64 a) := (blk_cell h 4).trans rfl
  have z4 := blk_frozen h 4
  have H := Aside0.mk h
  have HA := Aside0.mk ha
  have hm := hmf
  clear h
  go_enter Try.func87, Try.ntmps87
  go_wp2_with (first
    | (go_at_call 94; refine (iadd_calls ⟨cb, 4, none⟩ a _ h4 z4 HA.out).mono ?_; rintro e w1 ⟨rfl, hw⟩; have H1 : Aside0 (w1.heap[cb]? = some (CB 168 0 0 0 (a + 1) .nilFunc (.slice A n c))) := ⟨by rw [hw]; exact (setb H.out 4 _).1⟩; have HO : Aside0 (Only cb w w1) := ⟨by rw [hw]; exact (Only.refl cb w).set 4 _⟩; clear hw h4 z4)
    | (go_at_call 95; refine (doFirstSl cb (a + 1) .nilFunc (.slice A n c) (fun w2 v => v = (.slice A n c) ∧ Only cb w1 w2) _ H1.out ((fillNilSl cb (a + 1) A n c _ (setb H1.out 1 _).1).mono (fun e w2 hx => ⟨hx.1, _, hx.2.1, rfl, ((Only.refl cb w1).set 1 _).trans hx.2.2⟩))).mono ?_; rintro e w3 ⟨rfl, w2, v2, ⟨hv, ho⟩, hc, ho2⟩; subst hv; have H3 := Aside0.mk hc; have HO3 := Aside0.mk ((HO.out.trans ho).trans ho2); clear hc ho ho2; have g6 := (blk_cell H3.out 6).trans rfl))
  go_ret
  exact ⟨rfl, H3.out, HO3.out⟩

set_option maxHeartbeats 2000000 in
set_option maxRecDepth 100000 in
/-- fill, with a function. -/
theorem fillSl84 (cb : Nat) (a : Int) (p : Addr) (v0 : Value) (Q : World → Value → Prop) (w : World) (h : w.heap[cb]? = some (CB 168 0 1 0 a (.func (.func 84) #[.pointer (some p)] #[]) v0))
    (hcall : Calls Try.prog 84 #[.pointer (some p)] w fun e w2 => ∃ (A : Option Addr) (n c : Nat), e = .returned (.slice A n c) ∧ w2.heap[cb]? = some (CB 168 0 1 0 a (.func (.func 84) #[.pointer (some p)] #[]) v0) ∧ Q w2 (.slice A n c)) :
    Calls Try.prog 104 #[.pointer (some ⟨cb, 0, none⟩)] w fun e w' => e = .returned (.tuple #[]) ∧ ∃ v, w'.heap[cb]? = some (CB 168 0 1 1 a .nilFunc v) ∧ ∃ w2, Q w2 v ∧ Only cb w2 w' := by
  have h5 : w.cell? ⟨cb, 5, none⟩ = some (.func (.func 84) #[.pointer (some p)] #[]) := (blk_cell h 5).trans rfl
  have hrun : ∀ w : World, Sem.run Try.prog (binOp BinOp.neq 155 (.func (.func 84) #[.pointer (some p)] #[]) Value.nilFunc) w = .ok (.bool true) w := fun w => by kernel_rfl
  have H := Aside0.mk h
  have HF := Aside0.mk hcall
  clear h hcall
  go_enter Try.func104, Try.ntmps104
  go_wp2_with (first
    | (go_at_call 84; refine (HF.out).mono ?_; rintro e w1 ⟨A, n, c, rfl, hc, hq⟩; have H1 := Aside0.mk hc; have HQ := Aside0.mk hq; clear hc hq h5; have g6 := (blk_cell H1.out 6).trans rfl; have z6 := blk_frozen H1.out 6)
    | ((with_reducible refine gate_op (Op.store 103 (.tmp 14) (.tmp 12)) rfl ?_); refine skip_event (w1 := w1.setCell ⟨cb, 6, none⟩ (.slice A n c)) rfl rfl ?hr ?_; (case hr => first | (go_simp; done) | (go_simp; rfl)); intro w2 hw; have H2 : Aside0 (w2.heap[cb]? = some (CB 168 0 1 0 a (.func (.func 84) #[.pointer (some p)] #[]) (.slice A n c))) := ⟨by rw [hw]; exact (setb H1.out 6 _).1⟩; have HO2 : Aside0 (Only cb w1 w2) := ⟨by rw [hw]; exact (Only.refl cb w1).set 6 _⟩; clear hw g6 z6; have g5 := (blk_cell H2.out 5).trans rfl; have z5 := blk_frozen H2.out 5)
    | ((with_reducible refine gate_op (Op.store 155 (.tmp 17) (.const .nilFunc)) rfl ?_); refine skip_event (w1 := w2.setCell ⟨cb, 5, none⟩ .nilFunc) rfl rfl ?hr ?_; (case hr => first | (go_simp; done) | (go_simp; rfl)); intro w3 hw; have H3 : Aside0 (w3.heap[cb]? = some (CB 168 0 1 0 a .nilFunc (.slice A n c))) := ⟨by rw [hw]; exact (setb H2.out 5 _).1⟩; have HO3 : Aside0 (Only cb w1 w3) := ⟨by rw [hw]; exact HO2.out.set 5 _⟩; clear hw g5 z5; have g3 := (blk_cell H3.out 3).trans rfl; have y3 := blk_frozen H3.out 3)
    | (go_at_call 113; refine (store_calls ⟨cb, 3, none⟩ _ _ g3 y3).mono ?_; rintro e w4 ⟨rfl, hw⟩; have H4 : Aside0 (w4.heap[cb]? = some (CB 168 0 1 1 a .nilFunc (.slice A n c))) := ⟨by rw [hw]; exact (setb (w := w3.drew) H3.out 3 _).1⟩; have HO4 : Aside0 (Only cb w1 w4) := ⟨by rw [hw]; exact (HO3.out.drew).set 3 _⟩; clear hw))
  go_end0
  exact ⟨rfl, _, H4.out, w1, HQ.out, HO4.out⟩

set_option maxHeartbeats 2000000 in
set_option maxRecDepth 100000 in
/-- Get for the first time, with a function. -/
theorem getSl84 (cb : Nat) (a : Int) (p : Addr) (zA : Option Addr) (zn zc : Nat) (Q : World → Value → Prop) (w : World) (h : w.heap[cb]? = some (CB 168 0 0 0 a (.func (.func 84) #[.pointer (some p)] #[]) (.slice zA zn zc))) (ha : 0 ≤ a ∧ a < 4611686018427387904)
    (hcall : ∀ w1, Only cb w w1 → w1.heap[cb]? = some (CB 168 0 1 0 (a + 1) (.func (.func 84) #[.pointer (some p)] #[]) (.slice zA zn zc)) → Calls Try.prog 84 #[.pointer (some p)] w1 fun e w2 => ∃ (A : Option Addr) (n c : Nat), e = .returned (.slice A n c) ∧ w2.heap[cb]? = some (CB 168 0 1 0 (a + 1) (.func (.func 84) #[.pointer (some p)] #[]) (.slice zA zn zc)) ∧ Q w2 (.slice A n c))
    (hshape : ∀ w2 v, Q w2 v → ∃ (A : Option Addr) (n c : Nat), v = (.slice A n c)) :
    Calls Try.prog 87 #[.pointer (some ⟨cb, 0, none⟩)] w fun e w' => ∃ v w2, e = .returned v ∧ Q w2 v ∧ w'.heap[cb]? = some (CB 168 1 0 1 (a + 1) .nilFunc v) ∧ Only cb w2 w' := by
  have h4 : w.cell? ⟨cb, 4, none⟩ = some (.int .i64 a) := (blk_cell h 4).trans rfl
  have z4 := blk_frozen h 4
  have H := Aside0.mk h
  have HA := Aside0.mk ha
  have HC := Aside0.mk hcall
  have HS := Aside0.mk hshape
  have hm := hmf
  clear h hcall hshape
  go_enter Try.func87, Try.ntmps87
  go_wp2_with (first
    | (go_at_call 94; refine (iadd_calls ⟨cb, 4, none⟩ a _ h4 z4 HA.out).mono ?_; rintro e w1 ⟨rfl, hw⟩; have H1 : Aside0 (w1.heap[cb]? = some (CB 168 0 0 0 (a + 1) (.func (.func 84) #[.pointer (some p)] #[]) (.slice zA zn zc))) := ⟨by rw [hw]; exact (setb H.out 4 _).1⟩; have HO : Aside0 (Only cb w w1) := ⟨by rw [hw]; exact (Only.refl cb w).set 4 _⟩; clear hw h4 z4)
    | (go_at_call 95; refine (doFirstSl cb (a + 1) (.func (.func 84) #[.pointer (some p)] #[]) (.slice zA zn zc) (fun w2 v => ∃ w3, Q w3 v ∧ Only cb w3 w2) _ H1.out (fillSl84 cb (a + 1) p (.slice zA zn zc) Q _ (setb H1.out 1 _).1 (HC.out _ (HO.out.set 1 _) (setb H1.out 1 _).1))).mono ?_; rintro e w3 ⟨rfl, w2, v2, ⟨w4, hq, ho⟩, hc, ho2⟩; obtain ⟨A, n, c, hv⟩ := HS.out _ _ hq; subst hv; have H3 := Aside0.mk hc; have HQ3 := Aside0.mk hq; have HO3 := Aside0.mk (ho.trans ho2); clear hc hq ho ho2; have g6 := (blk_cell H3.out 6).trans rfl))
  go_ret
  exact ⟨_, w4, rfl, HQ3.out, H3.out, HO3.out⟩
end Go.Proofs.Ytbjbejjieibldaa.La
