/- A lazy cell: sync.Once's parts for one goroutine, and what fill, Do and Get do, for each type of element. -/
import Derived.Test.YtbjbejjieibldaaProg
import Derived.Test.YtbjbejjieibldaaUt
import Derived.Tactics2
import Derived.Laws.EntriesVeiled
import Derived.Defers
import Derived.Laws.Pointers
import Derived.Laws.LoneSync
import Derived.RegionCalls
import Derived.ChangeAlike
import Derived.WalkKit
namespace Go.Proofs.Ytbjbejjieibldaa.La
open Go.RowKit Go.Proofs.YtbjbejjieibldaaW.PrintWords Go.Proofs.YtbjbejjieibldaaW.PrintLast Go.Proofs.YtbjbejjieibldaaW.PrintMore Go.Proofs.Ytbjbejjieibldaa.Rg
open Go.Proofs.Ytbjbejjieibldaa
set_option linter.unusedVariables false

theorem disable (w : World) : (callFunc 124 #[]).run Try.prog w = .ok (.value (.tuple #[])) w := run_call_mark0 Try.func124 (by kernel_rfl) (by kernel_rfl) (by kernel_rfl) .disable (by kernel_rfl) w
theorem enable (w : World) : (callFunc 126 #[]).run Try.prog w = .ok (.value (.tuple #[])) w := run_call_mark0 Try.func126 (by kernel_rfl) (by kernel_rfl) (by kernel_rfl) .enable (by kernel_rfl) w
theorem acquire (a : Addr) (w : World) : (callFunc 127 #[.pointer (some a)]).run Try.prog w = .ok (.value (.tuple #[])) w := run_call_marked Try.func127 (by kernel_rfl) (by kernel_rfl) (by kernel_rfl) .acquire (by kernel_rfl) a w
theorem releaseMerge (a : Addr) (w : World) : (callFunc 129 #[.pointer (some a)]).run Try.prog w = .ok (.value (.tuple #[])) w := run_call_marked Try.func129 (by kernel_rfl) (by kernel_rfl) (by kernel_rfl) .releaseMerge (by kernel_rfl) a w

/-- Bool.Store(true), entered as a deferred call. -/
theorem store_deferred (a : Addr) (x : Value) (u : FrameMode) (w : World) (hc : w.cell? a = some x) (hz : w.frozen? a = false) :
    CallsD Try.prog 113 #[.pointer (some a), .bool true] u w fun e u' w' => u' = u ∧ (e = .returned (.tuple #[]) ∧ w' = w.drew.setCell a (.int .u32 1)) := by
  have hc' : w.drew.cell? a = some x := by go_simp
  have hz' : w.drew.frozen? a = false := by go_simp
  have hst := run_call_store (P := Try.prog) Try.func120 (by kernel_rfl) (by kernel_rfl) (by kernel_rfl) (by kernel_rfl) (k := .u32) (y := 1) hc' hz'
  go_enter_d Try.func113, Try.ntmps113
  go_wp2
  go_region_calls
  all_goals (go_end0; exact ⟨rfl, rfl⟩)
/-- Bool.Store(true), called. -/
theorem store_calls (a : Addr) (x : Value) (w : World) (hc : w.cell? a = some x) (hz : w.frozen? a = false) :
    Calls Try.prog 113 #[.pointer (some a), .bool true] w fun e w' => e = .returned (.tuple #[]) ∧ w' = w.drew.setCell a (.int .u32 1) := by
  have hc' : w.drew.cell? a = some x := by go_simp
  have hz' : w.drew.frozen? a = false := by go_simp
  have hst := run_call_store (P := Try.prog) Try.func120 (by kernel_rfl) (by kernel_rfl) (by kernel_rfl) (by kernel_rfl) (k := .u32) (y := 1) hc' hz'
  go_enter Try.func113, Try.ntmps113
  go_wp2
  go_region_calls
  all_goals (go_end0; exact ⟨rfl, rfl⟩)
set_option maxRecDepth 100000 in
/-- Unlock, entered as a deferred call, the lock held and nobody waiting. -/
theorem unlock_deferred (a : Addr) (u : FrameMode) (w : World) (hc : w.cell? a = some (.int .i32 1)) (hz : w.frozen? a = false) :
    CallsD Try.prog 119 #[.pointer (some a)] u w fun e u' w' => u' = u ∧ (e = .returned (.tuple #[]) ∧ w' = w.setCell a (.int .i32 0)) := by
  have hd := disable
  have he := enable
  have hr := releaseMerge
  have hadd := run_call_add (P := Try.prog) Try.func130 (by kernel_rfl) (by kernel_rfl) (by kernel_rfl) .i32 (by kernel_rfl) (y := -1) (s := 0) hc hz (by simp [go_sem]; rfl)
  have hcv := run_convert_to_unsafe (P := Try.prog) (src := 188) (dst := 192) Try.underlying188 Try.underlying192 (by kernel_rfl) hc
  go_enter_d Try.func119, Try.ntmps119
  go_wp2
  go_end0
  go_wp2
  go_end0
  exact ⟨rfl, rfl⟩
set_option maxRecDepth 100000 in
/-- Lock, the lock free. -/
theorem lock_free (a : Addr) (w : World) (hc : w.cell? a = some (.int .i32 0)) (hz : w.frozen? a = false) :
    Calls Try.prog 118 #[.pointer (some a)] w fun e w' => e = .returned (.tuple #[]) ∧ w' = w.setCell a (.int .i32 1) := by
  have hd := disable
  have he := enable
  have ha := acquire
  have hcas := run_call_cas_hit (P := Try.prog) Try.func125 (by kernel_rfl) (by kernel_rfl) (by kernel_rfl) .i32 (by kernel_rfl) (y := 1) hc hz
  have hc' : (w.setCell a (.int .i32 1)).cell? a = some (.int .i32 1) := World.cell?_setCell_same w a _ hc
  have hcv := run_convert_to_unsafe (P := Try.prog) (src := 188) (dst := 192) Try.underlying188 Try.underlying192 (by kernel_rfl) hc'
  go_enter Try.func118, Try.ntmps118
  go_wp2
  first | go_end0 | (simp only [Exit.inBlock, Exit.then]; refine bodyPost_ret (results_none rfl _ _ _) rfl ?_) | refine bodyPost_ret (results_none rfl _ _ _) rfl ?_
  go_wp2
  go_end0
  exact ⟨rfl, rfl⟩
theorem bload_calls (a : Addr) (d : Int) (b : Bool) (hd : (d != 0) = b) (w : World) (hc : w.cell? a = some (.int .u32 d)) : Calls Try.prog 97 #[.pointer (some a)] w fun e w' => e = .returned (.bool b) ∧ w = w' := by
  have hl := run_call_load (P := Try.prog) Try.func114 (by kernel_rfl) (by kernel_rfl) (by kernel_rfl) .u32 (by kernel_rfl) hc
  go_enter Try.func97, Try.ntmps97
  go_wp2
  go_ret
  exact ⟨by simp, rfl⟩
theorem iload_calls (a : Addr) (d : Int) (w : World) (hc : w.cell? a = some (.int .i64 d)) : Calls Try.prog 99 #[.pointer (some a)] w fun e w' => e = .returned (.int .i64 d) ∧ w = w' := by
  have hl := run_call_load (P := Try.prog) Try.func115 (by kernel_rfl) (by kernel_rfl) (by kernel_rfl) .i64 (by kernel_rfl) hc
  go_enter Try.func99, Try.ntmps99
  go_wp2
  go_ret
  exact ⟨rfl, rfl⟩
theorem iadd_calls (a : Addr) (d : Int) (w : World) (hc : w.cell? a = some (.int .i64 d)) (hz : w.frozen? a = false) (hd : 0 ≤ d ∧ d < 4611686018427387904) :
    Calls Try.prog 94 #[.pointer (some a), .int .i64 1] w fun e w' => e = .returned (.int .i64 (d + 1)) ∧ w' = w.setCell a (.int .i64 (d + 1)) := by
  have hw : IntKind.i64.wrap (d + 1) = d + 1 := IntWalk.i64_in _ (by omega)
  have hadd := run_call_add (P := Try.prog) Try.func111 (by kernel_rfl) (by kernel_rfl) (by kernel_rfl) .i64 (by kernel_rfl) (y := 1) (s := d + 1) hc hz (by simp [go_sem]; omega)
  go_enter Try.func94, Try.ntmps94
  go_wp2
  go_ret
  exact ⟨rfl, rfl⟩

/-- One cell of a block written. -/
theorem setb {w : World} {g : Nat} {cs : Array Value} {t : TypeId} (h : w.heap[g]? = some (.cells cs t (0, 0))) (j : Nat) (u : Value) :
    (w.setCell ⟨g, j, none⟩ u).heap[g]? = some (.cells (cs.setIfInBounds j u) t (0, 0)) ∧ Kept w (w.setCell ⟨g, j, none⟩ u) (fun k => k = g) ∧ ∀ b w0, b ≤ g → Below b w0 w → Below b w0 (w.setCell ⟨g, j, none⟩ u) :=
  ⟨blk_set h j u, (Kept.refl w (fun k => k = g)).setCell (p := ⟨g, j, none⟩) (.inl rfl) u, fun b w0 hb hB => hB.setCell (p := ⟨g, j, none⟩) hb _⟩

/-- A cell's block: done, the lock's state, made, how often asked, the function, what there is. -/
abbrev CB (T : Nat) (d st m a : Int) (f v : Value) : Obj := .cells #[.int .u32 d, .int .i32 st, .int .u32 0, .int .u32 m, .int .i64 a, f, v] T (0, 0)
/-- From one world to the next, block g alone written. -/
def Only (g : Nat) (w w' : World) : Prop := Kept w w' (fun k => k = g) ∧ ∀ b w0, b ≤ g → Below b w0 w → Below b w0 w'
theorem Only.refl (g : Nat) (w : World) : Only g w w := ⟨Kept.refl _ _, fun _ _ _ h => h⟩
theorem Only.drew {g : Nat} {w w' : World} (h : Only g w w') : Only g w w'.drew := ⟨h.1.drew, fun b w0 hb hB => below_drew (h.2 b w0 hb hB)⟩
theorem Only.set {g : Nat} {w w' : World} (h : Only g w w') (j : Nat) (u : Value) : Only g w (w'.setCell ⟨g, j, none⟩ u) :=
  ⟨h.1.setCell (p := ⟨g, j, none⟩) (.inl rfl) u, fun b w0 hb hB => (h.2 b w0 hb hB).setCell (p := ⟨g, j, none⟩) hb u⟩
theorem Only.trans {g : Nat} {w w' w2 : World} (h : Only g w w') (h2 : Only g w' w2) : Only g w w2 := ⟨h.1.then_ h2.1 (fun k hk => .inl hk), fun b w0 hb hB => h2.2 b w0 hb (h.2 b w0 hb hB)⟩
theorem hnot (x : Bool) (w : World) : (Op.unary .not (.bool x)).run Try.prog w = .ok (.bool (!x)) w := rfl
theorem hmf (fn : Fn) (first cap : Array Value) (w : World) : (Instr.makeFunc fn first cap).run Try.prog w = .ok (.func fn first cap) w := rfl

theorem doDone (cb : Nat) (fv : Value) (w : World) (h0 : w.cell? ⟨cb, 0, none⟩ = some (.int .u32 1)) : Calls Try.prog 95 #[.pointer (some ⟨cb, 0, none⟩), fv] w fun e w' => e = .returned (.tuple #[]) ∧ w = w' := by
  have hn := hnot
  go_enter Try.func95, Try.ntmps95
  go_wp2_with (go_at_call 97; refine (bload_calls ⟨cb, 0, none⟩ 1 true rfl _ h0).mono ?_; rintro e w' ⟨rfl, rfl⟩)
  go_end0
  exact ⟨rfl, rfl⟩
end Go.Proofs.Ytbjbejjieibldaa.La
