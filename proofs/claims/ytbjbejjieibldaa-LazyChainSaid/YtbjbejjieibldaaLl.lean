/- LazyChain: what a Get of a chained cell does, by induction. -/
import Derived.Test.YtbjbejjieibldaaLk
namespace Go.Proofs.Ytbjbejjieibldaa.La
open Go.RowKit Go.Proofs.YtbjbejjieibldaaW.PrintWords Go.Proofs.YtbjbejjieibldaaW.PrintLast Go.Proofs.YtbjbejjieibldaaW.PrintMore Go.Maps Go.Proofs.Ytbjbejjieibldaa.Rg
open Go.Proofs.Ytbjbejjieibldaa
set_option linter.unusedVariables false

abbrev F57 (q5 g7 q2 q6 : Nat) : Value := .func (.func 57) #[] #[PB q5, PB g7, PB q2, PB q6]
/-- What the chain's cell i has. -/
def X (l : List Int) : Nat → Int
  | 0 => rd l 0
  | i + 1 => xr (rd l ((i + 1 : Nat) : Int)) (X l i)

structure CH (W0 w : World) (lo q2 q5 q6 gc gp n : Nat) (Al : Option Addr) (cl : Nat) (l : List Int) (cb g7 : Nat → Nat) (blk : Nat → Obj) (cs : Nat → Int) : Prop where
  b2 : w.heap[q2]? = some (.cells #[.slice Al n cl] 103 (0, 0))
  b5 : w.heap[q5]? = some (.cells #[.slice (some ⟨gc, 0, none⟩) n n] 104 (0, 0))
  b6 : w.heap[q6]? = some (.cells #[.slice (some ⟨gp, 0, none⟩) n n] 105 (0, 0))
  cal : Row w gc n cs
  ptr : ∃ arr, w.heap[gp]? = some (.cells arr 106 (0, 0)) ∧ arr.size = n ∧ ∀ k, k < n → arr[k]? = some (PB (cb k))
  v7 : ∀ k, k < n → w.heap[g7 k]? = some (.cells #[.int .i64 k] 3 (0, 0))
  cell : ∀ k, k < n → w.heap[cb k]? = some (blk k)
  inj : ∀ j k, j < n → k < n → cb j = cb k → j = k
  low : ∀ k, k < n → lo ≤ cb k ∧ lo ≤ g7 k
  g7c : ∀ j k, j < n → k < n → g7 j ≠ cb k
  lows : q2 < lo ∧ q5 < lo ∧ q6 < lo ∧ gc < lo ∧ gp < lo
  gcs : gc ≠ q2 ∧ gc ≠ q5 ∧ gc ≠ q6 ∧ gc ≠ gp
  lrd : Kd.C (Kd.int .i64) W0 Al n l
  lal : ∀ a, Al = some a → a.block < W0.heap.size
  base : W0.heap.size ≤ gc
  n1 : n ≤ 1000
  below : Below W0.heap.size W0 w

def setf (blk : Nat → Obj) (i : Nat) (o : Obj) : Nat → Obj := fun k => if k = i then o else blk k
section
variable {W0 w w' : World} {lo q2 q5 q6 gc gp n : Nat} {Al : Option Addr} {cl : Nat} {l : List Int} {cb g7 : Nat → Nat} {blk : Nat → Obj} {cs : Nat → Int}
theorem CH.set (h : CH W0 w lo q2 q5 q6 gc gp n Al cl l cb g7 blk cs) (i : Nat) (hi : i < n) (o : Obj) (hk : Only (cb i) w w') (hc : w'.heap[cb i]? = some o) : CH W0 w' lo q2 q5 q6 gc gp n Al cl l cb g7 (setf blk i o) cs := by
  obtain ⟨l1, l2, l3, l4, l5⟩ := h.lows
  have lc := (h.low i hi).1
  obtain ⟨arr, p1, p2, p3⟩ := h.ptr
  refine ⟨blk_kept h.b2 hk.1 (by omega), blk_kept h.b5 hk.1 (by omega), blk_kept h.b6 hk.1 (by omega), h.cal.kept hk.1 (by omega), ⟨arr, blk_kept p1 hk.1 (by omega), p2, p3⟩, fun k hkn => blk_kept (h.v7 k hkn) hk.1 (h.g7c k i hkn hi), fun k hkn => ?_, h.inj, h.low, h.g7c, h.lows, h.gcs, h.lrd, h.lal, h.base, h.n1, hk.2 _ _ (by have := h.base; omega) h.below⟩
  unfold setf
  by_cases e : k = i
  · subst e; rw [if_pos rfl]; exact hc
  · rw [if_neg e]; exact blk_kept (h.cell k hkn) hk.1 (fun e2 => e (h.inj k i hkn hi e2))
theorem CH.put (h : CH W0 w lo q2 q5 q6 gc gp n Al cl l cb g7 blk cs) (i : Nat) (hi : i < n) (x : Int) : CH W0 (w.setCell ⟨gc, i, none⟩ (.int .i64 x)) lo q2 q5 q6 gc gp n Al cl l cb g7 blk (upd cs i x) := by
  obtain ⟨l1, l2, l3, l4, l5⟩ := h.lows
  obtain ⟨e1, e2, e3, e4⟩ := h.gcs
  obtain ⟨arr, p1, p2, p3⟩ := h.ptr
  have ho : Only gc w (w.setCell ⟨gc, i, none⟩ (.int .i64 x)) := (Only.refl gc w).set i _
  refine ⟨blk_kept h.b2 ho.1 (fun e => e1 e.symm), blk_kept h.b5 ho.1 (fun e => e2 e.symm), blk_kept h.b6 ho.1 (fun e => e3 e.symm), h.cal.put i hi x, ⟨arr, blk_kept p1 ho.1 (fun e => e4 e.symm), p2, p3⟩, fun k hkn => blk_kept (h.v7 k hkn) ho.1 (fun e => by have := (h.low k hkn).2; have e : g7 k = gc := e; omega), fun k hkn => blk_kept (h.cell k hkn) ho.1 (fun e => by have := (h.low k hkn).1; have e : cb k = gc := e; omega), h.inj, h.low, h.g7c, h.lows, h.gcs, h.lrd, h.lal, h.base, h.n1, ho.2 _ _ h.base h.below⟩
theorem CH.drew (h : CH W0 w lo q2 q5 q6 gc gp n Al cl l cb g7 blk cs) : CH W0 w.drew lo q2 q5 q6 gc gp n Al cl l cb g7 blk cs :=
  ⟨h.b2, h.b5, h.b6, h.cal, h.ptr, h.v7, h.cell, h.inj, h.low, h.g7c, h.lows, h.gcs, h.lrd, h.lal, h.base, h.n1, below_drew h.below⟩
theorem CH.at_l (h : CH W0 w lo q2 q5 q6 gc gp n Al cl l cb g7 blk cs) (i : Nat) (hi : i < n) : ∃ ad, Al = some ad ∧ w.cell? (ad.add i) = some (.int .i64 (rd l (i : Int))) := by
  obtain ⟨ad, e, hx⟩ := Kd.at_int (Kd.C_below h.lrd h.below) (i : Int) (by omega) (by omega)
  exact ⟨ad, e, by simpa using hx⟩
theorem CH.at_p (h : CH W0 w lo q2 q5 q6 gc gp n Al cl l cb g7 blk cs) (i : Nat) (hi : i < n) : w.cell? ⟨gp, i, none⟩ = some (PB (cb i)) := by
  obtain ⟨arr, p1, p2, p3⟩ := h.ptr
  exact (blk_cell p1 i).trans (p3 i hi)

set_option maxHeartbeats 2000000 in
set_option maxRecDepth 100000 in
/-- The cells' function, at the chain's end. -/
theorem fn57_zero (h : CH W0 w lo q2 q5 q6 gc gp n Al cl l cb g7 blk cs) (hn : 0 < n) (hc : cs 0 = 0) : Calls Try.prog 57 #[PB q5, PB (g7 0), PB q2, PB q6] w fun e w' => e = .returned (.int .i64 (X l 0)) ∧ CH W0 w' lo q2 q5 q6 gc gp n Al cl l cb g7 blk (upd cs 0 1) := by
  have c5 := (blk_cell h.b5 0).trans rfl
  have c7 := (blk_cell (h.v7 0 hn) 0).trans rfl
  obtain ⟨ci, zi⟩ := h.cal.at_ 0 hn
  rw [hc] at ci
  have H := Aside0.mk h
  have hn2 : (0 : Int) < (n : Int) := by omega
  clear h
  go_enter Try.func57, Try.ntmps57
  go_wp2_with ((with_reducible refine gate_op (Op.store 3 (.tmp 10) (.tmp 9)) rfl ?_); refine skip_event (w1 := w.setCell ⟨gc, 0, none⟩ (.int .i64 1)) rfl rfl ?hr ?_; (case hr => first | (go_simp; done) | (go_simp; rfl)); intro w1 hw; have K1 : Aside0 (CH W0 w1 lo q2 q5 q6 gc gp n Al cl l cb g7 blk (upd cs 0 1)) := ⟨by rw [hw]; exact H.out.put 0 hn 1⟩; clear hw c5 c7 ci zi; have c7 := (blk_cell (K1.out.v7 0 hn) 0).trans rfl; have c2 := (blk_cell K1.out.b2 0).trans rfl; obtain ⟨ad, ea, hx⟩ := K1.out.at_l 0 hn; subst ea; rw [Addr.add_zero'] at hx)
  go_ret
  exact ⟨rfl, K1.out⟩

set_option maxHeartbeats 4000000 in
set_option maxRecDepth 1000000 in
/-- The cells' function, further up. -/
theorem fn57_succ (j : Nat) (h : CH W0 w lo q2 q5 q6 gc gp n Al cl l cb g7 blk cs) (hi : j + 1 < n) (hc : cs (j + 1) = 0) (blk' : Nat → Obj) (cs' : Nat → Int)
    (hget : ∀ w1, CH W0 w1 lo q2 q5 q6 gc gp n Al cl l cb g7 blk (upd cs (j + 1) 1) → Calls Try.prog 58 #[PB (cb j)] w1 fun e w2 => e = .returned (.int .i64 (X l j)) ∧ CH W0 w2 lo q2 q5 q6 gc gp n Al cl l cb g7 blk' cs') :
    Calls Try.prog 57 #[PB q5, PB (g7 (j + 1)), PB q2, PB q6] w fun e w' => e = .returned (.int .i64 (X l (j + 1))) ∧ CH W0 w' lo q2 q5 q6 gc gp n Al cl l cb g7 blk' cs' := by
  have c5 := (blk_cell h.b5 0).trans rfl
  have c7 := (blk_cell (h.v7 (j + 1) hi) 0).trans rfl
  obtain ⟨ci, zi⟩ := h.cal.at_ (j + 1) hi
  rw [hc] at ci
  obtain ⟨i, hij⟩ : ∃ i, i = j + 1 := ⟨_, rfl⟩
  have hX : X l (j + 1) = xr (rd l (i : Int)) (X l j) := by rw [hij]; rfl
  rw [hX]
  have hj : j = i - 1 := by omega
  rw [← hij] at c7 ci zi hi hc hget ⊢
  have H := Aside0.mk h
  have HG := Aside0.mk hget
  have hn1 := h.n1
  have hne : ((i : Int) == 0) = false := by simp; omega
  have hne2 : (i == 0) = false := by simp; omega
  have HJ := Aside0.mk hj
  have hipos : 0 < i := by omega
  clear h hget hX hij hj
  go_enter Try.func57, Try.ntmps57
  go_wp2_with ((with_reducible refine gate_op (Op.store 3 (.tmp 10) (.tmp 9)) rfl ?_); refine skip_event (w1 := w.setCell ⟨gc, i, none⟩ (.int .i64 1)) rfl rfl ?hr ?_; (case hr => first | (go_simp; done) | (go_simp; rfl)); intro w1 hw; have K1 : Aside0 (CH W0 w1 lo q2 q5 q6 gc gp n Al cl l cb g7 blk (upd cs i 1)) := ⟨by rw [hw]; exact H.out.put i hi 1⟩; clear hw c5 c7 ci zi; have c7 := (blk_cell (K1.out.v7 i hi) 0).trans rfl)
  obtain ⟨ad, ea, hx⟩ := K1.out.at_l i hi
  subst ea
  have facts : ∀ (wz : World) (b : Nat → Obj) (c : Nat → Int), CH W0 wz lo q2 q5 q6 gc gp n (some ad) cl l cb g7 b c → wz.cell? ⟨q2, 0, none⟩ = some (.slice (some ad) n cl) ∧ wz.cell? ⟨g7 i, 0, none⟩ = some (.int .i64 i) ∧ wz.cell? (ad.add i) = some (.int .i64 (rd l (i : Int))) ∧ wz.cell? ⟨q6, 0, none⟩ = some (.slice (some ⟨gp, 0, none⟩) n n) ∧ wz.cell? ⟨gp, i - 1, none⟩ = some (PB (cb j)) := fun wz b c hz => by
    refine ⟨(blk_cell hz.b2 0).trans rfl, (blk_cell (hz.v7 i hi) 0).trans rfl, ?_, (blk_cell hz.b6 0).trans rfl, ?_⟩
    · obtain ⟨ad', e, hx'⟩ := hz.at_l i hi
      cases e
      exact hx'
    · rw [HJ.out]
      exact hz.at_p (i - 1) (by omega)
  obtain ⟨f1, f2, f3, f4, f5⟩ := facts w1 _ _ K1.out
  refine r57x4 q2 q6 (g7 i) gp (cb j) i n ad cl (rd l (i : Int)) (X l j) (fun wz => CH W0 wz lo q2 q5 q6 gc gp n (some ad) cl l cb g7 blk' cs') w1 hi (by omega) hn1 (HG.out _ K1.out.drew) (fun wz hz => facts wz _ _ hz) (fun wz => by go_simp; rfl) rfl rfl rfl rfl ⟨f1, f2, f3, f4, f5, fun _ => rfl⟩ (fun v25 w2 b hb hG f25 => ?_)
  have HF := Aside0.mk f25.2
  clear hG f25 hb f1 f2 f3 f4 f5 facts
  simp only [putAll, Act.put, List.setIfInBounds_toArray, List.set_cons_zero, List.set_cons_succ]
  go_wp2
  go_ret
  exact ⟨rfl, HF.out⟩

/-- A cell not yet asked for; one that was. -/
abbrev EMP (q5 g7 q2 q6 : Nat) : Obj := CB 126 0 0 0 0 (F57 q5 g7 q2 q6) (.int .i64 0)
abbrev FUL (a x : Int) : Obj := CB 126 1 0 1 a .nilFunc (.int .i64 x)
def blkA (l : List Int) (i : Nat) (blk : Nat → Obj) : Nat → Obj := fun k => if k ≤ i then FUL 1 (X l k) else blk k
def csA (i : Nat) (cs : Nat → Int) : Nat → Int := fun k => if k ≤ i then 1 else cs k
theorem CH.congr {blk2 : Nat → Obj} {cs2 : Nat → Int} (h : CH W0 w lo q2 q5 q6 gc gp n Al cl l cb g7 blk cs) (hb : blk = blk2) (hc : cs = cs2) : CH W0 w lo q2 q5 q6 gc gp n Al cl l cb g7 blk2 cs2 := by subst hb; subst hc; exact h

theorem chain : ∀ (i : Nat) (w : World) (blk : Nat → Obj) (cs : Nat → Int), CH W0 w lo q2 q5 q6 gc gp n Al cl l cb g7 blk cs → i < n → (∀ j, j ≤ i → blk j = EMP q5 (g7 j) q2 q6 ∧ cs j = 0) →
    Calls Try.prog 58 #[PB (cb i)] w fun e w' => e = .returned (.int .i64 (X l i)) ∧ CH W0 w' lo q2 q5 q6 gc gp n Al cl l cb g7 (blkA l i blk) (csA i cs) := by
  intro i
  induction i with
  | zero =>
    intro w blk cs h hi hall
    obtain ⟨hb, hc⟩ := hall 0 (Nat.le_refl _)
    have hcell := h.cell 0 hi
    rw [hb] at hcell
    refine (getIn57 (cb 0) 0 ⟨q5, 0, none⟩ ⟨g7 0, 0, none⟩ ⟨q2, 0, none⟩ ⟨q6, 0, none⟩ 0 (fun w2 v => v = .int .i64 (X l 0) ∧ CH W0 w2 lo q2 q5 q6 gc gp n Al cl l cb g7 (setf blk 0 (CB 126 0 1 0 (0 + 1) (F57 q5 (g7 0) q2 q6) (.int .i64 0))) (upd cs 0 1)) w hcell (by omega) (fun w1 ho hc1 => ?_) (fun w2 v hq => ⟨_, hq.1⟩)).mono ?_
    · have h1 := h.set 0 hi _ ho hc1
      refine (fn57_zero h1 hi hc).mono ?_
      rintro e w2 ⟨rfl, h2⟩
      have := h2.cell 0 hi
      exact ⟨_, rfl, by simpa [setf] using this, rfl, h2⟩
    · rintro e w' ⟨v, w2, rfl, ⟨rfl, h2⟩, h3, h4⟩
      refine ⟨rfl, (h2.set 0 hi _ h4 h3).congr ?_ ?_⟩
      · funext k
        unfold setf blkA
        by_cases e : k = 0
        · subst e; simp
        · simp [e]
      · funext k
        unfold upd csA
        by_cases e : k = 0
        · subst e; simp
        · simp [e]
  | succ j ih =>
    intro w blk cs h hi hall
    obtain ⟨hb, hc⟩ := hall (j + 1) (Nat.le_refl _)
    have hcell := h.cell (j + 1) hi
    rw [hb] at hcell
    refine (getIn57 (cb (j + 1)) 0 ⟨q5, 0, none⟩ ⟨g7 (j + 1), 0, none⟩ ⟨q2, 0, none⟩ ⟨q6, 0, none⟩ 0 (fun w2 v => v = .int .i64 (X l (j + 1)) ∧ CH W0 w2 lo q2 q5 q6 gc gp n Al cl l cb g7 (blkA l j (setf blk (j + 1) (CB 126 0 1 0 (0 + 1) (F57 q5 (g7 (j + 1)) q2 q6) (.int .i64 0)))) (csA j (upd cs (j + 1) 1))) w hcell (by omega) (fun w1 ho hc1 => ?_) (fun w2 v hq => ⟨_, hq.1⟩)).mono ?_
    · have h1 := h.set (j + 1) hi _ ho hc1
      refine (fn57_succ j h1 hi hc _ _ (fun w3 h3 => ih w3 _ _ h3 (by omega) (fun q hq => ?_))).mono ?_
      · obtain ⟨a1, a2⟩ := hall q (by omega)
        have hne : q ≠ j + 1 := by omega
        unfold setf upd
        rw [if_neg hne, if_neg hne]
        exact ⟨a1, a2⟩
      · rintro e w2 ⟨rfl, h2⟩
        have := h2.cell (j + 1) hi
        have hnle : ¬ j + 1 ≤ j := by omega
        have this2 : w2.heap[cb (j + 1)]? = some (CB 126 0 1 0 (0 + 1) (F57 q5 (g7 (j + 1)) q2 q6) (.int .i64 0)) := by
          simp only [setf, blkA, if_neg hnle, if_true] at this
          exact this
        exact ⟨_, rfl, this2, rfl, h2⟩
    · rintro e w' ⟨v, w2, rfl, ⟨rfl, h2⟩, h3, h4⟩
      refine ⟨rfl, (h2.set (j + 1) hi _ h4 h3).congr ?_ ?_⟩
      · funext k
        simp only [setf, blkA]
        by_cases e : k = j + 1
        · subst e; simp
        · by_cases e2 : k ≤ j
          · simp [e, e2, show k ≤ j + 1 by omega]
          · simp [e, e2, show ¬ k ≤ j + 1 by omega]
      · funext k
        simp only [csA, upd]
        by_cases e : k = j + 1
        · subst e; simp
        · by_cases e2 : k ≤ j
          · simp [e2, show k ≤ j + 1 by omega]
          · simp [e, e2, show ¬ k ≤ j + 1 by omega]
end
end Go.Proofs.Ytbjbejjieibldaa.La
