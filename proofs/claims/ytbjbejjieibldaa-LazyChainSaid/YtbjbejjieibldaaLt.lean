/- LazyRows, walked. -/
import Derived.Test.YtbjbejjieibldaaLr
namespace Go.Proofs.Ytbjbejjieibldaa.La
open Go.RowKit Go.Proofs.YtbjbejjieibldaaW.PrintWords Go.Proofs.YtbjbejjieibldaaW.PrintLast Go.Proofs.YtbjbejjieibldaaW.PrintMore Go.Maps Go.Proofs.Ytbjbejjieibldaa.Rg
open Go.Proofs.Ytbjbejjieibldaa
set_option linter.unusedVariables false

theorem RowIs.kept2 {w w' : World} {lo g5 g3 cb k : Nat} {st : Option Nat} {val : Int} {S : Nat → Prop} (h : RowIs w lo g5 g3 cb k st val) (hk : Kept w w' S) (hS : ∀ j, S j → j ≠ cb ∧ (lo ≤ j → ∀ x, w.heap[j]? ≠ some (.cells #[.int .i64 x] 3 (0, 0)))) : RowIs w' lo g5 g3 cb k st val := by
  cases st with
  | none =>
    obtain ⟨g6, h0, h1, h2⟩ := h
    exact ⟨g6, h0, blk_kept h1 hk (fun hs => (hS _ hs).1 rfl), blk_kept h2 hk (fun hs => (hS _ hs).2 h0 _ h2)⟩
  | some a => exact blk_kept h hk (fun hs => (hS _ hs).1 rfl)
def updO (st : Nat → Option Nat) (i : Nat) (x : Option Nat) : Nat → Option Nat := fun k => if k = i then x else st k

structure RW (W0 w : World) (lo tb g5 g3 q2 q5 gc n : Nat) (Al : Option Addr) (cl : Nat) (l : List Int) (cbs : List Nat) (A : Option Addr) (c : Nat) (made : Int) (st : Nat → Option Nat) (cs : Nat → Int) (K : Nat) : Prop where
  t : TB w lo tb g5 g3 (RF q2 q5) cbs A c made st (fun k => rd l (k : Int))
  len : cbs.length = n
  b2 : w.heap[q2]? = some (.cells #[.slice Al n cl] 103 (0, 0))
  b5 : w.heap[q5]? = some (.cells #[.slice (some ⟨gc, 0, none⟩) n n] 104 (0, 0))
  cal : Row w gc n cs
  lrd : Kd.C (Kd.int .i64) W0 Al n l
  csr : ∀ k, k < n → cs k = if (st k).isSome then 1 else 0
  ask : ∀ k a, st k = some a → a ≤ K
  mad : 0 ≤ made ∧ made ≤ K
  low : W0.heap.size ≤ gc ∧ gc < lo ∧ q2 < lo ∧ q5 < lo ∧ q2 ≠ gc ∧ q5 ≠ gc
  lal : 0 < n → ∀ a, Al = some a → a.block < W0.heap.size
  below : Below W0.heap.size W0 w
/-- A block of cells. -/
def Cells (w : World) (k : Nat) : Prop := ∃ cells t, w.heap[k]? = some (.cells cells t (0, 0))
section
variable {W0 w w' : World} {lo tb g5 g3 q2 q5 gc n : Nat} {Al : Option Addr} {cl : Nat} {l : List Int} {cbs : List Nat} {A : Option Addr} {c : Nat} {made made' : Int} {st : Nat → Option Nat} {cs cs' : Nat → Int} {K : Nat}
/-- Behind one row's Get. -/
theorem RW.turned (h : RW W0 w lo tb g5 g3 q2 q5 gc n Al cl l cbs A c made st cs K) (i : Nat) (hi : i < n) (a : Nat) (hk : Kept w w' (fun k => k = cbs.getD i 0 ∨ k = tb ∨ k = gc)) (htab : w'.heap[tb]? = some (.cells #[.slice A cbs.length c, .int .i64 made'] 162 (0, 0)))
    (hcell : w'.heap[cbs.getD i 0]? = some (CB 126 1 0 1 a .nilFunc (.int .i64 (rd l (i : Int))))) (hcal : Row w' gc n cs') (hcs : ∀ k, k < n → cs' k = if (updO st i (some a) k).isSome then 1 else 0) (ha : a ≤ K + 1) (hm : 0 ≤ made' ∧ made' ≤ (K + 1 : Nat)) (hB : Below W0.heap.size W0 w') :
    RW W0 w' lo tb g5 g3 q2 q5 gc n Al cl l cbs A c made' (updO st i (some a)) cs' (K + 1) := by
  obtain ⟨p1, p2, p3, p4⟩ := h.t.apart
  have hil : i < cbs.length := by rw [h.len]; exact hi
  obtain ⟨r1, r2, r3⟩ := p4 i hil
  obtain ⟨f1, f2, f3, f4, f5, f6⟩ := h.low
  obtain ⟨l1, l2, l3, l4⟩ := h.t.los
  have lc := l4 i hil
  have hown := own_kp h.t.row
  refine ⟨⟨htab, blk_kept h.t.v5 hk (fun e => ?_), blk_kept h.t.v3 hk (fun e => ?_), Kd.R_mono (Kd.R_kept (tight_kp h.t.row) hk (fun q hq e => ?_)) (fun _ _ => trivial), fun k hkl => ?_, h.t.nd, h.t.los⟩, h.len, blk_kept h.b2 hk (fun e => ?_), blk_kept h.b5 hk (fun e => ?_), hcal, h.lrd, hcs, fun k b hb => ?_, hm, h.low, h.lal, hB⟩
  · rcases e with e | e | e
    · exact r2 e.symm
    · exact p1 e.symm
    · omega
  · rcases e with e | e | e
    · exact r3 e.symm
    · exact p2 e.symm
    · omega
  · obtain ⟨o1, o2, cells, hc⟩ := hown q hq
    rcases e with e | e | e
    · exact (h.t.cell i hil).lt.2 cells 106 (by decide) (e ▸ hc)
    · rw [e, h.t.tab] at hc; cases hc
    · omega
  · by_cases hki : k = i
    · subst hki
      unfold updO
      rw [if_pos rfl]
      exact hcell
    · have e : updO st i (some a) k = st k := by unfold updO; rw [if_neg hki]
      rw [e]
      refine (h.t.cell k hkl).kept2 hk (fun j hj => ⟨fun e2 => ?_, fun hlo x e2 => ?_⟩)
      · rcases hj with hj | hj | hj
        · have h1 : cbs[i]? = cbs[k]? := by
            rw [hj] at e2
            rw [List.getD_eq_getElem?_getD, List.getD_eq_getElem?_getD, List.getElem?_eq_getElem hil, List.getElem?_eq_getElem hkl, Option.getD_some, Option.getD_some] at e2
            rw [List.getElem?_eq_getElem hil, List.getElem?_eq_getElem hkl, e2]
          rw [List.getElem?_eq_getElem hil, List.getElem?_eq_getElem hkl] at h1
          exact hki ((List.getElem_inj h.t.nd).1 (Option.some.inj h1)).symm
        · exact (p4 k hkl).1 (e2 ▸ hj)
        · have := l4 k hkl; omega
      · rcases hj with hj | hj | hj
        · exact (h.t.cell i hil).lt.2 _ 3 (by decide) (hj ▸ e2)
        · rw [hj, h.t.tab] at e2; cases e2
        · omega
  · rcases e with e | e | e
    · omega
    · omega
    · exact f5 e
  · rcases e with e | e | e
    · omega
    · omega
    · exact f6 e
  · unfold updO at hb
    split at hb
    · cases hb; exact ha
    · have := h.ask k b hb; omega
/-- Which blocks one ask writes. -/
def AskS (w : World) (cb tb gc : Nat) : Nat → Prop := fun k => k = cb ∨ k = tb ∨ k = gc
theorem RW.first (h : RW W0 w lo tb g5 g3 q2 q5 gc n Al cl l cbs A c made st cs K) (i : Nat) (hi : i < n) (hn : n ≤ 1000) (hK : K ≤ 1000) (hst : st i = none) :
    Calls Try.prog 58 #[PB (cbs.getD i 0)] w fun e w' => e = .returned (.int .i64 (rd l (i : Int))) ∧ RW W0 w' lo tb g5 g3 q2 q5 gc n Al cl l cbs A c (made + 1) (updO st i (some 1)) (upd cs i (cs i + 1)) (K + 1) ∧ Kept w w' (AskS w (cbs.getD i 0) tb gc) := by
  obtain ⟨p1, p2, p3, p4⟩ := h.t.apart
  have hil : i < cbs.length := by rw [h.len]; exact hi
  obtain ⟨r1, r2, r3⟩ := p4 i hil
  obtain ⟨f1, f2, f3, f4, f5, f6⟩ := h.low
  obtain ⟨l1, l2, l3, l4⟩ := h.t.los
  have lc := l4 i hil
  have hc := h.t.cell i hil
  rw [hst] at hc
  obtain ⟨g6, h60, hcc, h6⟩ := hc
  have hs0 := h.below.size
  have csi : cs i = 0 := by rw [h.csr i hi, hst]; rfl
  have n6 : tb ≠ g6 := fun e => by rw [← e, h.t.tab] at h6; cases h6
  have c6 : cbs.getD i 0 ≠ g6 := fun e => by rw [← e, hcc] at h6; cases h6
  have hmad := h.mad
  have hall := h
  generalize hcb : cbs.getD i 0 = cb at r1 r2 r3 lc hcc c6
  refine (getIn100 cb 0 ⟨g5, 0, none⟩ ⟨g3, 0, none⟩ ⟨g6, 0, none⟩ 0 (fun w2 v => v = .int .i64 (rd l (i : Int)) ∧ w2.heap[tb]? = some (.cells #[.slice A cbs.length c, .int .i64 (made + 1)] 162 (0, 0)) ∧ Row w2 gc n (upd cs i (cs i + 1)) ∧ Kept w w2 (AskS w cb tb gc) ∧ Below W0.heap.size W0 w2) w hcc (by omega) (fun w1 ho hc1 => ?_) (fun w2 v hq => ⟨_, hq.1⟩)).mono ?_
  · refine (rowfn_fun tb g5 g3 g6 q2 q5 A cbs.length c i made (rd l (i : Int)) (fun w2 => w2.heap[cb]? = some (CB 126 0 1 0 (0 + 1) (FV g5 g3 g6) (.int .i64 0)) ∧ w2.heap[tb]? = some (.cells #[.slice A cbs.length c, .int .i64 (made + 1)] 162 (0, 0)) ∧ Row w2 gc n (upd cs i (cs i + 1)) ∧ Kept w w2 (AskS w cb tb gc) ∧ Below W0.heap.size W0 w2) w1 (blk_kept h.t.tab ho.1 (fun e => r1 e.symm)) (blk_kept h.t.v5 ho.1 (fun e => r2 e.symm)) (blk_kept h.t.v3 ho.1 (fun e => r3 e.symm)) (blk_kept h6 ho.1 (fun e => c6 e.symm)) (by omega) p2 n6 (fun w3 ho3 ht3 => ?_)).mono ?_
    · have k13 : Kept w w3 (fun k => k = cb ∨ k = tb) := (ho.1.mono (fun k hk => Or.inl hk)).then_ ho3.1 (fun k hk => .inl (.inr hk))
      have hB3 : Below W0.heap.size W0 w3 := ho3.2 _ _ (by omega) (ho.2 _ _ (by omega) h.below)
      refine (rowfn68 i n gc q2 q5 Al cl l cs w3 hi hn (by omega) (blk_kept h.b2 k13 (fun e => by rcases e with e | e <;> omega)) (blk_kept h.b5 k13 (fun e => by rcases e with e | e <;> omega)) (h.cal.kept k13 (fun e => by rcases e with e | e <;> omega)) (Kd.C_below h.lrd hB3) f5 (fun a ha => by have := h.lal (by omega) a ha; omega)).mono ?_
      rintro e w4 ⟨rfl, h1, h2⟩
      exact ⟨rfl, blk_kept (blk_kept hc1 ho3.1 (fun e => r1 e)) h2.1 (fun e => by have e : cb = gc := e; omega), blk_kept ht3 h2.1 (fun e => by have e : tb = gc := e; omega), h1, (k13.mono (fun k hk => hk.elim Or.inl (fun h => Or.inr (Or.inl h)))).then_ h2.1 (fun k hk => .inl (.inr (.inr hk))), h2.2 _ _ (by omega) hB3⟩
    · rintro e w4 ⟨rfl, h1, h2, h3, h4, h5⟩
      exact ⟨_, rfl, h1, rfl, h2, h3, h4, h5⟩
  · rintro e w' ⟨v, w2, rfl, ⟨rfl, h2, h3, h4, h5⟩, h6', h7⟩
    have hk : Kept w w' (AskS w cb tb gc) := h4.then_ h7.1 (fun k hk => .inl (.inl hk))
    refine ⟨rfl, ?_, hk⟩
    subst hcb
    refine h.turned i hi 1 hk (blk_kept h2 h7.1 (fun e => r1 e.symm)) h6' (h3.kept h7.1 (fun e => by have e : gc = cbs.getD i 0 := e; omega)) (fun k hk => ?_) (by omega) (by omega) (h7.2 _ _ (by omega) h5)
    unfold upd updO
    by_cases e : k = i
    · subst e
      rw [if_pos rfl, if_pos rfl, csi]
      rfl
    · rw [if_neg e, if_neg e]
      exact h.csr k hk
theorem RW.again (h : RW W0 w lo tb g5 g3 q2 q5 gc n Al cl l cbs A c made st cs K) (i a : Nat) (hi : i < n) (hn : n ≤ 1000) (hK : K ≤ 1000) (hst : st i = some a) :
    Calls Try.prog 58 #[PB (cbs.getD i 0)] w fun e w' => e = .returned (.int .i64 (rd l (i : Int))) ∧ RW W0 w' lo tb g5 g3 q2 q5 gc n Al cl l cbs A c made (updO st i (some (a + 1))) cs (K + 1) ∧ Kept w w' (AskS w (cbs.getD i 0) tb gc) := by
  obtain ⟨p1, p2, p3, p4⟩ := h.t.apart
  have hil : i < cbs.length := by rw [h.len]; exact hi
  obtain ⟨r1, r2, r3⟩ := p4 i hil
  obtain ⟨f1, f2, f3, f4, f5, f6⟩ := h.low
  obtain ⟨l1, l2, l3, l4⟩ := h.t.los
  have lc := l4 i hil
  have hc := h.t.cell i hil
  rw [hst] at hc
  have hc : w.heap[cbs.getD i 0]? = some (CB 126 1 0 1 a .nilFunc (.int .i64 (rd l (i : Int)))) := hc
  have hs0 := h.below.size
  have hmad := h.mad
  have hask := h.ask i a hst
  refine (getFullIn (cbs.getD i 0) a (rd l (i : Int)) w hc (by omega)).mono ?_
  rintro e w' ⟨rfl, h1, h2⟩
  have hk : Kept w w' (AskS w (cbs.getD i 0) tb gc) := h2.1.mono (fun k hk => Or.inl hk)
  refine ⟨rfl, ?_, hk⟩
  refine h.turned i hi (a + 1) hk (blk_kept h.t.tab h2.1 (fun e => r1 e.symm)) (by rw [Int.natCast_add]; exact h1) (h.cal.kept h2.1 (fun e => by have e : gc = cbs.getD i 0 := e; omega)) (fun k hk => ?_) (by omega) (by omega) (h2.2 _ _ (by omega) h.below)
  rw [h.csr k hk]
  unfold updO
  by_cases e : k = i
  · subst e
    rw [if_pos rfl, hst]
    rfl
  · rw [if_neg e]
/-- One row asked for. -/
theorem RW.at_ (h : RW W0 w lo tb g5 g3 q2 q5 gc n Al cl l cbs A c made st cs K) (i : Nat) (hi : i < n) (hn : n ≤ 1000) (hK : K ≤ 1000) :
    Calls Try.prog 60 #[PB tb, .int .i64 i] w fun e w' => e = .returned (.tuple #[.int .i64 (rd l (i : Int)), .bool true]) ∧ ∃ st' cs' made', RW W0 w' lo tb g5 g3 q2 q5 gc n Al cl l cbs A c made' st' cs' (K + 1) ∧ (∀ k, (st' k).isSome = (decide (k = i) || (st k).isSome)) ∧ made' = (if (st i).isSome = true then made else made + 1) ∧ Kept w w' (AskS w (cbs.getD i 0) tb gc) := by
  have hil : i < cbs.length := by rw [h.len]; exact hi
  refine at_in tb A cbs c made i (rd l (i : Int)) _ w h.t.tab (Kd.R_reads' h.t.row).2.2 hil (by have := h.len; omega) ?_
  cases hst : st i with
  | none =>
    refine (h.first i hi hn hK hst).mono ?_
    rintro e w' ⟨rfl, h1, h2⟩
    refine ⟨rfl, _, _, _, h1, fun k => ?_, by simp, h2⟩
    unfold updO
    by_cases e : k = i
    · subst e; simp
    · simp [e]
  | some a =>
    refine (h.again i a hi hn hK hst).mono ?_
    rintro e w' ⟨rfl, h1, h2⟩
    refine ⟨rfl, _, _, _, h1, fun k => ?_, by simp, h2⟩
    unfold updO
    by_cases e : k = i
    · subst e; simp
    · simp [e]
theorem law3 : Keyed Try.prog 3 := int_keyed Try.underlying3
theorem RW.kept_map (h : RW W0 w lo tb g5 g3 q2 q5 gc n Al cl l cbs A c made st cs K) {mb : Nat} {es : Array MapEntry} {clock : Nat} (hm : w.heap[mb]? = some (.map es clock)) (hk : Kept w w' (fun k => k = mb)) (hB : Below W0.heap.size W0 w') : RW W0 w' lo tb g5 g3 q2 q5 gc n Al cl l cbs A c made st cs K := by
  have hne : ∀ (g : Nat) (cells : Array Value) (t : TypeId), w.heap[g]? = some (.cells cells t (0, 0)) → ¬ g = mb := fun g cells t hg e => by rw [e, hm] at hg; cases hg
  have hown := own_kp h.t.row
  refine ⟨⟨blk_kept h.t.tab hk (hne _ _ _ h.t.tab), blk_kept h.t.v5 hk (hne _ _ _ h.t.v5), blk_kept h.t.v3 hk (hne _ _ _ h.t.v3), Kd.R_mono (Kd.R_kept (tight_kp h.t.row) hk (fun q hq => by obtain ⟨_, _, cells, hc⟩ := hown q hq; exact hne _ _ _ hc)) (fun _ _ => trivial), fun k hkl => ?_, h.t.nd, h.t.los⟩, h.len, blk_kept h.b2 hk (hne _ _ _ h.b2), blk_kept h.b5 hk (hne _ _ _ h.b5), ?_, h.lrd, h.csr, h.ask, h.mad, h.low, h.lal, hB⟩
  · have hc := h.t.cell k hkl
    cases hst : st k with
    | none =>
      rw [hst] at hc
      obtain ⟨g6, h0, h1, h2⟩ := hc
      exact ⟨g6, h0, blk_kept h1 hk (hne _ _ _ h1), blk_kept h2 hk (hne _ _ _ h2)⟩
    | some a =>
      rw [hst] at hc
      have hc : w.heap[cbs.getD k 0]? = some (CB 126 1 0 1 a .nilFunc (.int .i64 (rd l (k : Int)))) := hc
      exact blk_kept hc hk (hne _ _ _ hc)
  · obtain ⟨arr, h1, h2⟩ := h.cal
    exact ⟨arr, blk_kept h1 hk (hne _ _ _ h1), h2⟩
theorem RW.map_on (h : RW W0 w lo tb g5 g3 q2 q5 gc n Al cl l cbs A c made st cs K) {mb N : Nat} {D : DataW Unit} (hm : w.ownsMap Try.prog 3 (plainElem Try.prog 4) mb N D) (i : Nat) (hi : i < n) (hk : Kept w w' (AskS w (cbs.getD i 0) tb gc)) : w'.ownsMap Try.prog 3 (plainElem Try.prog 4) mb N D := by
  have hil : i < cbs.length := by rw [h.len]; exact hi
  obtain ⟨es, clock, hb, F, hs, hD⟩ := hm
  refine ⟨es, clock, blk_kept hb hk (fun e => ?_), F, hs, hD⟩
  rcases e with e | e | e
  · have hc := h.t.cell i hil
    rw [← e] at hc
    cases hst : st i with
    | none =>
      rw [hst] at hc
      obtain ⟨g6, h0, h1, h2⟩ := hc
      rw [h1] at hb; cases hb
    | some a =>
      rw [hst] at hc
      have hc : w.heap[mb]? = some (CB 126 1 0 1 a .nilFunc (.int .i64 (rd l (i : Int)))) := hc
      rw [hc] at hb; cases hb
  · rw [e, h.t.tab] at hb; cases hb
  · obtain ⟨arr, h1, h2⟩ := h.cal
    rw [e, h1] at hb; cases hb

/-- Between two asks. -/
def LP (W0 w : World) (lo tb g5 g3 q2 q5 gc mb n : Nat) (Al : Option Addr) (cl : Nat) (l : List Int) (cbs : List Nat) (A : Option Addr) (c K : Nat) : Prop :=
  ∃ (made : Int) (st : Nat → Option Nat) (cs : Nat → Int) (D : DataW Unit), RW W0 w lo tb g5 g3 q2 q5 gc n Al cl l cbs A c made st cs K ∧ w.ownsMap Try.prog 3 (plainElem Try.prog 4) mb K D ∧ (∀ k, k < n → Maps.has D (.int .i64 (k : Int)) = (st k).isSome) ∧ made = (Maps.size D : Int) ∧ W0.heap.size ≤ mb
end

theorem LP.more {W0 w : World} {lo tb g5 g3 q2 q5 gc mb n : Nat} {Al : Option Addr} {cl : Nat} {l : List Int} {cbs : List Nat} {A : Option Addr} {c K : Nat} (h : LP W0 w lo tb g5 g3 q2 q5 gc mb n Al cl l cbs A c K) : LP W0 w lo tb g5 g3 q2 q5 gc mb n Al cl l cbs A c (K + 1) := by
  obtain ⟨made, st, cs, D, h1, h2, h3, h4, h5⟩ := h
  refine ⟨made, st, cs, D, ⟨h1.t, h1.len, h1.b2, h1.b5, h1.cal, h1.lrd, h1.csr, fun k a hk => ?_, ?_, h1.low, h1.lal, h1.below⟩, h2.mono (by omega), h3, h4, h5⟩
  · have := h1.ask k a hk; omega
  · have := h1.mad; omega
/-- One ask noted in the map. -/
theorem LP.noted {W0 w w1 w2 : World} {lo tb g5 g3 q2 q5 gc mb n : Nat} {Al : Option Addr} {cl : Nat} {l : List Int} {cbs : List Nat} {A : Option Addr} {c K : Nat} {made made' : Int} {st st' : Nat → Option Nat} {cs cs' : Nat → Int} {D : DataW Unit} (h : RW W0 w lo tb g5 g3 q2 q5 gc n Al cl l cbs A c made st cs K) (hm : w.ownsMap Try.prog 3 (plainElem Try.prog 4) mb K D) (hh : ∀ k, k < n → Maps.has D (.int .i64 (k : Int)) = (st k).isSome) (hs : made = (Maps.size D : Int)) (hb : W0.heap.size ≤ mb)
    (i : Nat) (hi : i < n) (h1 : RW W0 w1 lo tb g5 g3 q2 q5 gc n Al cl l cbs A c made' st' cs' (K + 1)) (hst : ∀ k, (st' k).isSome = (decide (k = i) || (st k).isSome)) (hmd : made' = (if (st i).isSome = true then made else made + 1)) (hm1 : w1.ownsMap Try.prog 3 (plainElem Try.prog 4) mb K D)
    (hm2 : w2.ownsMap Try.prog 3 (plainElem Try.prog 4) mb (K + 1) (D.put (.int .i64 (i : Int)) (.lit (.bool true)))) (hg : w1.grownBy w2 (some mb)) :
    RW W0 w2 lo tb g5 g3 q2 q5 gc n Al cl l cbs A c made' st' cs' (K + 1) ∧ (∀ k, k < n → Maps.has (D.put (.int .i64 (i : Int)) (.lit (.bool true))) (.int .i64 (k : Int)) = (st' k).isSome) ∧ made' = (Maps.size (D.put (.int .i64 (i : Int)) (.lit (.bool true))) : Int) := by
  have hk : Kept w1 w2 (fun k => k = mb) := Kept.of_grown hg (Kept.refl w1 _) (fun k e => .inl (Option.some.inj e).symm)
  have ht := hm.tidy law3
  refine ⟨?_, fun k hk' => ?_, ?_⟩
  · obtain ⟨es, clock, hb1, _⟩ := hm1
    exact h1.kept_map hb1 hk (h1.below.grown hg h1.below.size (fun k e => by cases e; exact hb))
  · rw [hst k]
    by_cases e : k = i
    · subst e
      rw [has_put_same ht.isMap (show WideAt.IsKeyLit (.int .i64 (k : Int)) from trivial)]
      simp
    · rw [has_put_other (by intro h; injection h with _ h; exact e (by omega)), hh k hk']
      simp [e]
  · rw [size_put ht, hh i hi, hmd]
    split <;> omega

theorem info3 : (Try.prog.info? 3).map (fun i => (i.zero, i.size, i.bytes)) = some (some (.int .i64 0), 1, 8) := by kernel_rfl
set_option maxHeartbeats 8000000 in
set_option maxRecDepth 100000 in
theorem lazyrows_walk (Al : Option Addr) (cl : Nat) (l : List Int) (Aa : Option Addr) (ca : Nat) (asks : List Int) (w : World) (hC : Kd.C (Kd.int .i64) w Al l.length l) (hD : Kd.C (Kd.int .i64) w Aa asks.length asks) (hU : ∀ x ∈ asks, (Lit.int .i64 x).wf = true) (h1 : l.length ≤ 9223372036854775807) (h2 : asks.length ≤ 9223372036854775807) :
    Calls Try.prog 14 #[.slice Al l.length cl, .slice Aa asks.length ca] w fun e w' => e = .returned (.bool true) ∧ Below w.heap.size w w' := by
  have hm := hmf
  have hmm := @run_makeMap Try.prog
  have HC := Aside0.mk hC
  have HD := Aside0.mk hD
  have HU := Aside0.mk hU
  clear hC hD hU
  by_cases hbad : 300 < l.length ∨ 300 < asks.length
  · by_cases hb1 : 300 < l.length
    · have d1 : decide (300 < (l.length : Int)) = true := by simp; omega
      clear hbad
      go_enter Try.func14, Try.ntmps14
      go_wp2_with (first
        | ((with_reducible refine gate_dst (N := 2) rfl ?_); refine box_event ?hg (N := 2) ?hd (cs := #[.slice Al l.length cl]) (t := 103) ?hr ?_; (case hd => rfl); (case hg => rfl); (case hr => first | (go_simp; done) | (go_simp; rfl)); intro q2 hg w1 hbox hb; have B1 := Aside0.mk hb; have c2 := (blk_cell hbox 0).trans rfl; clear hg hbox hb)
        | (go_at_call 55; refine (lives_calls _).mono ?_; rintro e w' ⟨rfl, hb⟩; have HB := Aside0.mk (below_then B1.out B1.out.size hb); clear hb))
      go_ret
      exact ⟨rfl, HB.out⟩
    · have d1 : decide (300 < (l.length : Int)) = false := by simp; omega
      have d2 : decide (300 < (asks.length : Int)) = true := by simp; omega
      clear hbad
      go_enter Try.func14, Try.ntmps14
      go_wp2_with (first
        | ((with_reducible refine gate_dst (N := 2) rfl ?_); refine box_event ?hg (N := 2) ?hd (cs := #[.slice Al l.length cl]) (t := 103) ?hr ?_; (case hd => rfl); (case hg => rfl); (case hr => first | (go_simp; done) | (go_simp; rfl)); intro q2 hg w1 hbox hb; have B1 := Aside0.mk hb; have c2 := (blk_cell hbox 0).trans rfl; clear hg hbox hb)
        | (go_at_call 55; refine (lives_calls _).mono ?_; rintro e w' ⟨rfl, hb⟩; have HB := Aside0.mk (below_then B1.out B1.out.size hb); clear hb))
      go_ret
      exact ⟨rfl, HB.out⟩
  · have d1 : decide (300 < (l.length : Int)) = false := by simp; omega
    have d2 : decide (300 < (asks.length : Int)) = false := by simp; omega
    have hl300 : l.length ≤ 300 := by omega
    have ha300 : asks.length ≤ 300 := by omega
    have hmake := print_make (P := Try.prog) 104 3 .i64 8 Try.underlying104 info3 (by omega) l.length (by omega)
    have hro : rowsOf (l.length : Int) = l.length := by unfold rowsOf; rw [if_neg (by omega)]; omega
    have HRO := Aside0.mk hro
    clear hbad h1 h2 hro
    go_enter Try.func14, Try.ntmps14
    go_wp2_with (first
      | ((with_reducible refine gate_dst (N := 2) rfl ?_); refine box_event ?hg (N := 2) ?hd (cs := #[.slice Al l.length cl]) (t := 103) ?hr ?_; (case hd => rfl); (case hg => rfl); (case hr => first | (go_simp; done) | (go_simp; rfl)); intro q2 hg w1 hbox hb; have E2 := Aside0.mk hg; have K2 := Aside0.mk hbox; have B1 := Aside0.mk hb; have c2 := (blk_cell hbox 0).trans rfl; clear hg hbox hb)
      | ((with_reducible refine gate_dst (N := 23) rfl ?_); refine value_event (v := .slice (some ⟨w1.heap.size, 0, none⟩) l.length l.length) (w1 := w1.alloc (.cells (madeCells #[.int .i64 0] l.length) 3)) rfl ?hr ?_; (case hr => first | (go_simp; done) | (go_simp; rfl)); intro w2 hw; have K3 : Aside0 (Row w2 w1.heap.size l.length (fun _ => 0) ∧ Below w1.heap.size w1 w2) := ⟨by rw [hw]; exact ⟨Row.made w1 _, below_alloc (Below.refl _ _) _⟩⟩; clear hw)
      | ((with_reducible refine gate_dst (N := 5) rfl ?_); refine box_event ?hg (N := 5) ?hd (cs := #[.slice none 0 0]) (t := 104) ?hr ?_; (case hd => rfl); (case hg => rfl); (case hr => first | (go_simp; done) | (go_simp; rfl)); intro q5 hg w3 hbox hb; have E5 := Aside0.mk hg; have K5 := Aside0.mk hbox; have B3 := Aside0.mk hb; clear hg hbox hb c2; have z0 := blk_frozen K5.out 0; have y0 := (blk_cell K5.out 0).trans rfl)
      | ((with_reducible refine gate_op (Op.store 104 (.tmp 5) (.tmp 23)) rfl ?_); refine skip_event (w1 := w3.setCell ⟨q5, 0, none⟩ (.slice (some ⟨w1.heap.size, 0, none⟩) l.length l.length)) rfl rfl ?hr ?_; (case hr => first | (go_simp; done) | (go_simp; rfl)); intro w4 hw; have K4 : Aside0 (w4.heap[q5]? = some (.cells #[.slice (some ⟨w1.heap.size, 0, none⟩) l.length l.length] 104 (0, 0)) ∧ Below w2.heap.size w2 w4) := ⟨by rw [hw]; exact ⟨(setb K5.out 0 _).1, (setb K5.out 0 _).2.2 _ _ (Nat.le_of_eq E5.out.symm) B3.out⟩⟩; clear hw z0 y0; have K24 := Aside0.mk (blk_below (blk_below K2.out K3.out.2) K4.out.2); have c2 := (blk_cell K24.out 0).trans rfl)
      | (go_at_call 67; refine (rows_fun q2 q5 l.length (fun k => rd l (k : Int)) _).mono ?_; rintro e w5 ⟨tb, g5, g3, cbs, A, c, rfl, hT, hl, hB⟩; rw [HRO.out] at hl; have HT := Aside0.mk hT; have HL := Aside0.mk hl; have HB5 := Aside0.mk hB; clear hT hl hB c2))
    have HLP : Aside0 (LP w (w5.alloc (.map #[] 0)) w4.heap.size tb g5 g3 q2 q5 w1.heap.size w5.heap.size l.length Al cl l cbs A c 0) := ⟨by
      have b14 := below_then K3.out.2 K3.out.2.size K4.out.2
      have bal : Below w5.heap.size w5 (w5.alloc (.map #[] 0)) := below_alloc (Below.refl _ _) _
      have b45 := below_then HB5.out HB5.out.size bal
      have l1 := blk_lt K2.out
      have l2 := (K3.out.1).lt
      have l3 := blk_lt K4.out.1
      have l4 := blk_lt K24.out
      have s4 := K4.out.2.size
      have s1 := B1.out.size
      have s14 := b14.size
      have s45 := b45.size
      have e5 := E5.out
      refine ⟨0, fun _ => none, fun _ => 0, .map [], ⟨HT.out.below bal, HL.out, blk_below K24.out b45, blk_below K4.out.1 b45, ((K3.out.1).kept (Kept.of_below K4.out.2 (fun _ => False)) (fun h => h)).kept (Kept.of_below b45 (fun _ => False)) (fun h => h), HC.out, fun k hk => rfl, (fun k a h => by cases h), (by decide), ⟨s1, by omega, l4, l3, by omega, by omega⟩, fun h0 a ha => ?_, below_then (below_then B1.out s1 b14) (by have := b14.size; omega) b45⟩, World.ownsMap_made _ _ _ _, fun k hk => by simp [has_eq], rfl, ?_⟩
      · obtain ⟨ad, e, hx⟩ := Kd.at_int HC.out 0 (by omega) (by omega)
        rw [ha] at e
        cases e
        have := World.block_lt_of_cell? _ _ hx
        simpa [add_blk] using this
      · have := HB5.out.size; omega⟩
    obtain ⟨mb, hmb⟩ : ∃ mb, mb = w5.heap.size := ⟨_, rfl⟩
    obtain ⟨gc, hgc⟩ : ∃ gc, gc = w1.heap.size := ⟨_, rfl⟩
    obtain ⟨lo, hlo⟩ : ∃ lo, lo = w4.heap.size := ⟨_, rfl⟩
    rw [← hmb, ← hgc, ← hlo] at HLP
    rw [← hmb]
    clear HT HL HB5 K24 K4 K3 K5 K2 B1 B3 E2 E5
    clear hmb hgc hlo
    go_loopw [31] (fun i wr => ∃ k : Nat, k ≤ asks.length ∧ i = .int .i64 k ∧ Aside0 (LP w wr lo tb g5 g3 q2 q5 gc mb l.length Al cl l cbs A c k)) (fun i _ => asks.length - (intOf i).toNat)
    case atStart => exact ⟨0, Nat.zero_le _, rfl, HLP⟩
    case round =>
      clear HLP
      obtain ⟨k, hk, rfl, HLP⟩ := hrel
      obtain ⟨made, st, cs, D, p1, p2, p3, p4, p5⟩ := HLP.out
      have HR := Aside0.mk p1
      have HM := Aside0.mk p2
      have HH := Aside0.mk p3
      have HS := Aside0.mk p4
      have HMB := Aside0.mk p5
      clear p1 p2 p3 p4 p5
      have c2 := (blk_cell HR.out.b2 0).trans rfl
      by_cases hlt : k < asks.length
      · obtain ⟨ad, ea, hx⟩ := Kd.at_int (Kd.C_below HD.out HR.out.below) (k : Int) (by omega) (by omega)
        cases ea
        simp only [Int.toNat_natCast] at hx
        have hyU : (Lit.int .i64 (rd asks (k : Int))).wf = true := HU.out _ (by unfold rd; rw [Int.toNat_natCast, List.getD_eq_getElem?_getD, List.getElem?_eq_getElem hlt]; exact List.getElem_mem _)
        generalize rd asks (k : Int) = y at hx hyU
        by_cases h0 : y < 0
        · have f0 : decide (y < 0) = true := by simpa using h0
          go_wp2_with (go_at_call 60; refine (at_out tb A cbs.length c made y _ HR.out.t.tab (.inl h0)).mono ?_; rintro e w' ⟨rfl, rfl⟩)
          go_roundw
          case rel => exact ⟨k + 1, by omega, by go_num, ⟨HLP.out.more⟩⟩
          case measure => simp [intOf]; omega
        · have f0 : decide (y < 0) = false := by simpa using h0
          by_cases h1 : (l.length : Int) ≤ y
          · have f1 : decide ((l.length : Int) ≤ y) = true := by simpa using h1
            go_wp2_with (go_at_call 60; refine (at_out tb A cbs.length c made y _ HR.out.t.tab (.inr (by rw [HR.out.len]; exact h1))).mono ?_; rintro e w' ⟨rfl, rfl⟩)
            go_roundw
            case rel => exact ⟨k + 1, by omega, by go_num, ⟨HLP.out.more⟩⟩
            case measure => simp [intOf]; omega
          · obtain ⟨j, rfl⟩ : ∃ j : Nat, y = j := ⟨y.toNat, by omega⟩
            have hj : j < l.length := by omega
            have f1 : decide ((l.length : Int) ≤ (j : Int)) = false := by simp; omega
            have f2 : decide (l.length ≤ j) = false := by simp; omega
            have HKEY := Aside0.mk (keyOf_int_mk Try.underlying3 hyU)
            clear hyU
            go_wp2_with (first
              | (go_at_call 60; refine (HR.out.at_ j hj (by omega) (by omega)).mono ?_; rintro e w2 ⟨rfl, st', cs', made', q1, q2', q3, q4⟩; have HR2 := Aside0.mk q1; have HST := Aside0.mk q2'; have HMD := Aside0.mk q3; have HM2 := Aside0.mk (HR.out.map_on HM.out j hj q4); clear q1 q2' q3 q4 c2; have c2 := (blk_cell HR2.out.b2 0).trans rfl)
              | (at_mapUpdate; refine wpList_mapUpdate_own _ rfl _ _ _ 135 rfl 3 4 law3 Try.underlying135 (plainElem Try.prog 4) mb k D rfl HM2.out (by unfold maxLen; omega) _ _ (.int .i64 (j : Int)) rfl rfl HKEY.out (.lit (.bool true)) [] (plainElem_bool Try.underlying4 true) ?_; intro w3 hown hgrow; obtain ⟨n1, n2, n3⟩ := LP.noted HR.out HM.out HH.out HS.out HMB.out j hj HR2.out HST.out HMD.out HM2.out hown hgrow; have HR3 := Aside0.mk n1; have HH3 := Aside0.mk n2; have HS3 := Aside0.mk n3; have HM3 := Aside0.mk hown; clear n1 n2 n3 hown hgrow c2; have c2 := (blk_cell HR3.out.b2 0).trans rfl; have c5 := (blk_cell HR3.out.b5 0).trans rfl; obtain ⟨ad3, ea3, hx3⟩ := Kd.at_int (Kd.C_below HR3.out.lrd HR3.out.below) (j : Int) (by omega) (by omega); (cases ea3); (simp only [Int.toNat_natCast] at hx3); have hcj := (HR3.out.cal.at_ j hj).1; have hone : cs' j = 1 := (by rw [HR3.out.csr j hj, HST.out j]; simp); rw [hone] at hcj; have hlen : Sem.run Try.prog (Builtin.len_ #[135] 3 #[Value.map (some mb)]) w3 = .ok (.int .i64 made') w3 := (by rw [HS3.out]; exact HM3.out.len Try.underlying135 3))
              | (go_at_call 65; refine (tmade_calls tb A cbs.length c made' _ HR3.out.t.tab).mono ?_; rintro e w' ⟨rfl, rfl⟩))
            go_roundw
            case rel => exact ⟨k + 1, by omega, by go_num, ⟨made', st', cs', _, HR3.out, HM3.out, HH3.out, HS3.out, HMB.out⟩⟩
            case measure => simp [intOf]; omega
      · go_wp2
        refine r14x17 tb q2 mb l.length k A Al c cl made D wr (by have := HR.out.t.tab; rw [HR.out.len] at this; exact this) HR.out.b2 (fun wz hz => by obtain ⟨es, clock, hb, r⟩ := HM.out; exact ⟨es, clock, blk_below hb hz, r⟩) HS.out rfl rfl rfl rfl (below_drew (Below.refl _ _)) (fun w7 b hb hG => ?_)
        have HB7 := Aside0.mk (below_then HR.out.below HR.out.below.size hG)
        clear hG hb
        simp only [putAll, Act.put, List.setIfInBounds_toArray, List.set_cons_zero, List.set_cons_succ]
        go_wp2
        go_ret
        exact ⟨rfl, HB7.out⟩
end Go.Proofs.Ytbjbejjieibldaa.La
