/- An append onto a slice without spare room: always a new row, the old one untouched. -/
import Derived.Test.YtbjbejjieibldaaQa
import Derived.ArgAppend
namespace Go.Proofs.Ytbjbejjieibldaa.Qa
open Go.RowKit Go.Proofs.YtbjbejjieibldaaW.PrintWords Go.Proofs.YtbjbejjieibldaaW.PrintLast Go.Proofs.YtbjbejjieibldaaW.PrintMore Go.Proofs.Ytbjbejjieibldaa.Rg
open Go.Proofs.Ytbjbejjieibldaa.PReadsPlays (S91 z91 k91 k91_open k91_openM k91_mk k91_mkM rd_T91 at_T91 S147 z147 k147 k147_mkM rd_T147 at_T147 info147)
set_option linter.unusedVariables false

/-- Its elements lead nowhere. -/
def Flat {α : Type} (d : Kd α) : Prop := ∀ w w' base ok x cs, d.K w x cs → d.M w' base ok x cs
theorem flat91 : Flat k91 := fun w w' base ok x cs h => by rw [k91_open h]; exact k91_mkM _ _ _ _
theorem flat_own {α : Type} {d : Kd α} (hf : Flat d) {w : World} {base e : Nat} {v : Value} {xs : List α} {inner : List Value} {ok : Nat → Prop} (ho : w.ownsRow base e d.sz v xs.length inner) (hr : Reps (d.K w) d.sz xs inner) (hk : ∀ k, v.ownBlock = some k → ok k) : d.R e w base ok v xs :=
  ⟨hk, inner, ho, hr.imp_ (fun _ _ h => hf _ _ _ _ _ _ h)⟩
theorem flat_reps {α : Type} {d : Kd α} (hf : Flat d) {w w' : World} {xs : List α} {inner : List Value} (hr : Reps (d.K w) d.sz xs inner) : Reps (d.K w') d.sz xs inner := hr.imp_ (fun _ _ h => d.K_of_M (hf _ w' 0 (fun _ => True) _ _ h))

section
variable {P : Program} {ops : Array Oper} {o : Oper} {a : Act} {Q : Exit → Act → World → Prop} {Kc : Act → World → Prop} {α : Type}
theorem cap_run (d : Kd α) (hf : Flat d) {W : World} (t ty e : TypeId) (z : Value) (bytes : Nat)
    (ht : P.underlying t = some (.slice e)) (hinfo : (P.info? e).map (fun i => (i.zero, i.size, i.bytes)) = some (some z, d.sz, bytes)) (hz : z.cells.size = d.sz) (hs0 : 0 < d.sz) (hb0 : 0 < bytes)
    (A : Option Addr) (xs ys : List α) (B : Option Addr) (m c : Nat) (h0 : A = none → xs = []) (HA : d.C W A xs.length xs) (HR : d.C W B m ys) (hm0 : 0 < m) (hl : (xs.length + m) * bytes ≤ 140737488355328) :
    ∃ v1 w1, (Builtin.append_ #[t, t] ty #[.slice A xs.length xs.length, .slice B m c]).run P W = .ok v1 w1 ∧ d.R e w1 W.heap.size (fun k => W.heap.size ≤ k) v1 (xs ++ ys) ∧ Below W.heap.size W w1 := by
  obtain ⟨i0, hi, hzz⟩ := Option.map_eq_some_iff.1 hinfo
  simp only [Prod.mk.injEq] at hzz
  obtain ⟨hz0, hz1, hz2⟩ := hzz
  have hm : ys.length = m := HR.1
  have hlen : xs.length + m ≤ 140737488355328 := Nat.le_trans (Nat.le_mul_of_pos_right _ hb0) hl
  obtain ⟨bd, rfl, _⟩ := HR.2.2 hm0
  obtain ⟨news, hnr, hnc⟩ := ReadsRow.inner_ HR
  have hone : ∀ u ∈ news, u.oneCell' = true := by
    intro u hu
    obtain ⟨q, hq, rfl⟩ := List.mem_iff_getElem.1 hu
    have hql : q / d.sz < ys.length := by
      rw [Nat.div_lt_iff_lt_mul hs0]
      rw [← hnr.1]
      exact hq
    have hc := hnr.2 (q / d.sz) _ (List.getElem?_eq_getElem hql)
    refine d.K_one hc _ ?_
    rw [List.mem_iff_getElem?]
    refine ⟨q % d.sz, ?_⟩
    rw [List.getElem?_take, if_pos (Nat.mod_lt _ hs0), List.getElem?_drop, Nat.mul_comm, Nat.div_add_mod, List.getElem?_eq_getElem hq]
  have fin : ∀ v1 w1 olds, Reps (d.K W) d.sz xs olds → w1.ownsRow W.heap.size e d.sz v1 (xs.length + m) (olds ++ news) → W.grownBy w1 none → d.R e w1 W.heap.size (fun k => W.heap.size ≤ k) v1 (xs ++ ys) ∧ Below W.heap.size W w1 := fun v1 w1 olds hol ho hg => by
    refine ⟨flat_own hf (inner := olds ++ news) (by rw [List.length_append, hm]; exact ho) ?_ (own_base ho), below_of_grown hg⟩
    exact flat_reps hf (Kd.reps_append hol hnr)
  cases A with
  | none =>
    obtain rfl := h0 rfl
    obtain ⟨v1, w1, hrun, h2, hg, _, hat⟩ := run_append_own_at (P := P) W W.heap.size t ty e i0 z d.sz bytes ht hi hz0 hz1 hz2 hz hs0 (.slice none 0 0) 0 [] (own_nil _ _ _ _) bd m c news (by rw [hnr.1, hm]) hnc hone (by simp only [maxLen]; omega) (by simpa using hl) (Nat.le_refl _)
    refine ⟨v1, w1, hrun, fin v1 w1 [] (Reps.none _ _) (by simpa using h2) ?_⟩
    exact hg
  | some ad =>
    obtain ⟨olds, hor, hoc⟩ := ReadsRow.inner_ HA
    obtain ⟨v1, w1, hrun, h2, hg⟩ := run_append_arg_grows (P := P) (w := W) t ty e i0 z d.sz bytes ht hi hz0 hz1 hz2 hz hs0 ad xs.length xs.length olds hor.1 hoc bd m c news (by rw [hnr.1, hm]) hnc (by omega) (by simp only [maxLen]; omega) hl
    exact ⟨v1, w1, hrun, fin v1 w1 olds hor h2 hg⟩

theorem cap_append_step (d : Kd α) (hf : Flat d) {W : World} (hw : Region.wanted o (yielded ops a.tmps) = true) (s x : Operand) (t e : TypeId) (z : Value) (bytes : Nat)
    (ho : o.op = .call { callee := .builtin .append, args := #[s, x], argTypes := #[t, t] })
    (ht : P.underlying t = some (.slice e)) (hinfo : (P.info? e).map (fun i => (i.zero, i.size, i.bytes)) = some (some z, d.sz, bytes)) (hz : z.cells.size = d.sz) (hs0 : 0 < d.sz) (hb0 : 0 < bytes)
    (A : Option Addr) (xs ys : List α) (B : Option Addr) (m c : Nat) (hs : a.eval s = .slice A xs.length xs.length) (hx : a.eval x = .slice B m c) (h0 : A = none → xs = []) (HA : d.C W A xs.length xs) (HR : d.C W B m ys) (hm0 : 0 < m) (hl : (xs.length + m) * bytes ≤ 140737488355328)
    (h : ∀ v1 w1, d.R e w1 W.heap.size (fun k => W.heap.size ≤ k) v1 (xs ++ ys) → Below W.heap.size W w1 → Kc (a.put o.dst v1) w1) :
    if Region.wanted o (yielded ops a.tmps) = true then Oper.wp P o a W Kc Q else Kc (a.put o.dst undef) W := by
  obtain ⟨v1, w1, hr, h1, h2⟩ := cap_run (P := P) d hf t o.type e z bytes ht hinfo hz hs0 hb0 A xs ys B m c h0 HA HR hm0 hl
  rw [if_pos hw]
  unfold Oper.wp execOp
  simp only [ho, resolve, invoke, builtin, Sem.run_bind, Sem.run_pure, Result.andThen_ok, List.map_toArray, List.map_cons, List.map_nil, hs, hx, hr]
  exact h v1 w1 h1 h2
end

theorem C_none {α : Type} {d : Kd α} {w : World} {A : Option Addr} {n : Nat} {xs : List α} (h : d.C w A n xs) (hA : A = none) : xs = [] := by
  subst hA
  refine List.eq_nil_of_length_eq_zero ?_
  rcases Nat.eq_zero_or_pos n with h0 | h0
  · exact h.1.trans h0
  · obtain ⟨_, e, _⟩ := h.2.2 h0
    cases e
theorem info91 : (Try.prog.info? 91).map (fun i => (i.zero, i.size, i.bytes)) = some (some (.agg #[(.int .u64 0), (.int .u64 0), (.int .u64 0)]), 3, 24) := by kernel_rfl
theorem reps1_91 (w : World) (base : Nat) (ok : Nat → Prop) (x : S91) : Reps (k91.M w base ok) k91.sz [x] [.int .u64 x.f0, .int .u64 x.f1, .int .u64 x.f2] := by
  have := Reps.snoc (Reps.none (k91.M w base ok) k91.sz) (k91_mkM w base ok x) rfl
  simpa using this
end Go.Proofs.Ytbjbejjieibldaa.Qa
