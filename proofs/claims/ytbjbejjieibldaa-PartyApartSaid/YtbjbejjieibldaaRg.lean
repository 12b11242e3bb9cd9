/- A region whose order is open, by one fact for each operation: each fact lasts while the other operations run; so behind all of them all facts hold, whatever order was drawn. -/
import Derived.Test.YtbjbejjieibldaaWInvWords
import Derived.Test.YtbjbejjieibldaaWKept
import Derived.Test.YtbjbejjieibldaaWMore
namespace Go.Proofs.Ytbjbejjieibldaa.Rg
open Go.RowKit Go.Proofs.YtbjbejjieibldaaW.PrintWords Go.Proofs.YtbjbejjieibldaaW.PrintLast

section
variable {P : Program} {ops : Array Oper} {Q : Exit → Act → World → Prop}

/-- The places of the destinations: L tells (operation, slot) of each operation that has one, each slot once, none beyond the frame. -/
def okL (ops : Array Oper) (L : List (Nat × Tmp)) (m : Nat) : Bool :=
  (List.range ops.size).all (fun i => match ops[i]? with
    | some o => match o.dst with
      | some t => L.contains (i, t)
      | none => L.all fun e => !(e.1 == i)
    | none => false) && L.all (fun e => decide (e.2 < m) && decide (e.1 < ops.size)) && decide ((L.map (·.1)).Nodup) && decide ((L.map (·.2)).Nodup)

def fill (L : List (Nat × Tmp)) (v : Nat → Value) : List (Nat × Tmp × Value) := L.map fun e => (e.1, e.2, v e.1)

theorem fill_all {p : Nat → Tmp → Bool} {L : List (Nat × Tmp)} {v : Nat → Value} : ((fill L v).all fun e => p e.1 e.2.1) = L.all fun e => p e.1 e.2 := by
  induction L with
  | nil => rfl
  | cons e r ih =>
    unfold fill at ih ⊢
    rw [List.map_cons, List.all_cons, List.all_cons, ih]

/-- One step: operation i, all that it waits for being done. -/
def Step (P : Program) (ops : Array Oper) (Q : Exit → Act → World → Prop) (B : List Nat) (L : List (Nat × Tmp)) (G : (Nat → Bool) → World → Prop) (St : Nat → World → World → Prop) (F : Nat → Value → World → Prop) (a0 : Act) (i : Nat) : Prop :=
  ∃ oi, ops[i]? = some oi ∧ ∀ b a w, G b w → b i = false → (∀ d, d < ops.size → (B.getD d 0).testBit i = true → b d = false) → (∀ j t, (j, t) ∈ L → (B.getD i 0).testBit j = true → ∃ v, a.tmps[t]? = some v ∧ F j v w) →
    (∀ t, (L.all fun e => !(e.2 == t)) = true → a.tmps[t]? = a0.tmps[t]?) →
    ∀ K : Act → World → Prop, Shut (∀ v w', St i w w' → F i v w' → K (a.put oi.dst v) w') → if Region.wanted oi (yielded ops a.tmps) = true then Oper.wp P oi a w K Q else K (a.put oi.dst undef) w

theorem mem_fill {L : List (Nat × Tmp)} {v : Nat → Value} {j : Nat} {t : Tmp} (h : (j, t) ∈ L) : ∃ k : Nat, (fill L v)[k]? = some (j, t, v j) ∧ L[k]? = some (j, t) := by
  obtain ⟨k, hk, he⟩ := List.mem_iff_getElem.1 h
  refine ⟨k, ?_, by rw [List.getElem?_eq_getElem hk, he]⟩
  unfold fill
  rw [List.getElem?_map, List.getElem?_eq_getElem hk, he]
  rfl

theorem nodup_at {α β : Type} [BEq β] [LawfulBEq β] {f : α → β} {L : List α} (hn : (L.map f).Nodup) {k : Nat} {e : α} (hk : L[k]? = some e) : ∀ x ∈ L.take k ++ L.drop (k + 1), f x ≠ f e := by
  have hlt := (List.getElem?_eq_some_iff.1 hk).1
  have he := (List.getElem?_eq_some_iff.1 hk).2
  have h1 : L = L.take k ++ e :: L.drop (k + 1) := by rw [← he, List.getElem_cons_drop, List.take_append_drop]
  rw [h1, List.map_append, List.map_cons, List.nodup_append] at hn
  obtain ⟨_, h3, h4⟩ := hn
  rw [List.nodup_cons] at h3
  intro x hx
  rcases List.mem_append.1 hx with hx | hx
  · exact h4 _ (List.mem_map_of_mem hx) _ List.mem_cons_self
  · intro hxe
    exact h3.1 (by rw [← hxe]; exact List.mem_map_of_mem hx)

theorem putSel_all {b : Nat → Bool} : ∀ {L : List (Nat × Tmp × Value)} {a : Act}, (∀ e ∈ L, b e.1 = true) → putSel a b L = putAll a (L.map fun e => (e.2.1, e.2.2))
  | [], _, _ => rfl
  | e :: r, a, h => by
    unfold putSel
    rw [if_pos (h e List.mem_cons_self), putSel_all (fun x hx => h x (List.mem_cons_of_mem _ hx))]
    rfl

theorem below_of_grown {w w' : World} (h : w.grownBy w' none) : Below w.heap.size w w' := ⟨h.os, h.tape, h.output, h.size, fun k hk => h.block k hk (by simp)⟩

/-- The region's operations written out ('rfl' finds them). -/
theorem region_lit {id : Nat} {ops ops' : Array Oper} {d : Bool} {a : Act} {w : World} (h : ops = ops') (hh : (Code.region id ops' d).wp P Q a w) : (Code.region id ops d).wp P Q a w := by
  subst h
  exact hh

theorem all_nil {p : Nat → Prop} : ∀ i ∈ ([] : List Nat), p i := fun _ h => by cases h
theorem all_cons {p : Nat → Prop} {i : Nat} {r : List Nat} (h : p i) (hs : ∀ j ∈ r, p j) : ∀ j ∈ i :: r, p j := fun j hj => by
  rcases List.mem_cons.1 hj with rfl | hj
  · exact h
  · exact hs j hj

theorem region_facts {id n : Nat} {a0 : Act} {w0 : World} {T : Bool × List (List Nat × List Nat)} {B : List Nat} (L : List (Nat × Tmp)) (G : (Nat → Bool) → World → Prop) (St : Nat → World → World → Prop) (F : Nat → Value → World → Prop)
    (hm : P.follows .mixedOrders = true) (hn : ops.size = n) (hT : rtab .any ops = T) (hw : waitsOk T.2 B = true) (hk : baseOk T.2 (List.range n) = true) (hL : okL ops L a0.tmps.size = true)
    (hG0 : G (fun _ => false) w0.drew) (hSt : ∀ i b w w', i < n → b i = false → (∀ d, d < n → (B.getD d 0).testBit i = true → b d = false) → G b w → St i w w' → G (up b i) w') (hF : ∀ i j b v w w', i ≠ j → i < n → j < n → b i = false → b j = true → (∀ d, d < n → (B.getD d 0).testBit i = true → b d = false) → G b w → St i w w' → F j v w → F j v w')
    (hs : ∀ i ∈ List.range n, Step P ops Q B L G St F a0 i)
    (hend : ∀ (b : Nat → Bool) (v : Nat → Value) w, (∀ i, i < n → b i = true) → G b w → (∀ i, i < n → F i (v i) w) → Q .normal (putAll a0 (L.map fun e => (e.2, v e.1))) w) : (Code.region id ops true).wp P Q a0 w0 := by
  subst hn
  have hL' := hL
  simp only [okL, Bool.and_eq_true, decide_eq_true_eq] at hL'
  obtain ⟨⟨⟨hL1, hL2⟩, hL3⟩, hL4⟩ := hL'
  have hTl : T.2.length = ops.size := by rw [← hT, rtab_length]
  refine wp_region_last (S := fun _ => True) (ds := []) hm ?_
  refine inv_ (T := T) (B := B) (List.range ops.size) (fun b a w => G b w ∧ ∃ v : Nat → Value, a = putSel a0 b (fill L v) ∧ ∀ i, i < ops.size → b i = true → F i (v i) w) hT hw hk ?_ ⟨hG0, fun _ => undef, ?_, fun i _ h => by cases h⟩ ?_ ?_
  · rw [Bool.and_eq_true, beq_iff_eq, beq_iff_eq]
    refine ⟨?_, by simp⟩
    rw [hTl]
    apply List.ext_getElem?
    intro j
    by_cases hj : j < ops.size
    · simp [lof, hj]
    · simp [lof, hj]
  · have : ∀ (M : List (Nat × Tmp × Value)) (a : Act), putSel a (fun _ => false) M = a := by
      intro M
      induction M with
      | nil => exact fun _ => rfl
      | cons e r ih => intro a; unfold putSel; simpa using ih a
    exact (this _ _).symm
  · intro i hi b a w hI hb hon hoff
    obtain ⟨hGw, v, rfl, hv⟩ := hI
    obtain ⟨oi, hoi, hst⟩ := hs i hi
    refine ⟨oi, hoi, fun K hK => ?_⟩
    have hilt : i < ops.size := List.mem_range.1 hi
    have hoff' : ∀ d, d < ops.size → (B.getD d 0).testBit i = true → b d = false := fun d hd hbit => hoff d (by rw [Bool.and_eq_true]; exact ⟨List.contains_iff_mem.2 (List.mem_range.2 hd), hbit⟩)
    refine hst b _ w hGw hb hoff' ?_ ?_ K (fun v1 w' hstep hf => ?_)
    · intro j t hjt hbit
      have hjl : j < ops.size := by
        have := List.all_eq_true.1 hL2 _ hjt
        simp only [Bool.and_eq_true, decide_eq_true_eq] at this
        exact this.2
      have hjb : b j = true := by
        refine hon j ?_
        rw [Bool.and_eq_true]
        exact ⟨List.contains_iff_mem.2 (List.mem_range.2 hjl), hbit⟩
      obtain ⟨k, hk1, hk2⟩ := mem_fill (v := v) hjt
      refine ⟨v j, ?_, hv j hjl hjb⟩
      refine putSel_on (e := (j, t, v j)) k hk1 ?_ hjb ?_
      · refine List.all_eq_true.2 (fun x hx => ?_)
        unfold fill at hx
        rw [← List.map_drop] at hx
        obtain ⟨y, hy, rfl⟩ := List.mem_map.1 hx
        have := nodup_at hL4 hk2 y (List.mem_append_right _ hy)
        simpa using this
      · have := List.all_eq_true.1 hL2 _ hjt
        simp only [Bool.and_eq_true, decide_eq_true_eq] at this
        exact Nat.ble_eq_true_of_le this.1
    · intro t ht
      exact putSel_off (by rw [fill_all (p := fun _ s => !(s == t))]; exact ht)
    · refine hK _ _ ⟨hSt i b w w' hilt hb hoff' hGw hstep, fun j => if j = i then v1 else v j, ?_, ?_⟩
      · have hrow := List.all_eq_true.1 hL1 i (List.mem_range.2 hilt)
        rw [hoi] at hrow
        simp only at hrow
        cases hd : oi.dst with
        | none =>
          rw [hd] at hrow
          simp only at hrow
          have e1 : fill L (fun j => if j = i then v1 else v j) = fill L v := by
            unfold fill
            refine List.map_congr_left (fun e he => ?_)
            have := List.all_eq_true.1 hrow e he
            have hne : e.1 ≠ i := by simpa using this
            simp [hne]
          rw [e1]
          exact putSel_none (by rw [fill_all (p := fun q _ => !(q == i))]; exact hrow)
        | some t =>
          rw [hd] at hrow
          simp only at hrow
          have hmem : (i, t) ∈ L := List.contains_iff_mem.1 hrow
          obtain ⟨k, hk1, hk2⟩ := mem_fill (v := v) hmem
          refine putSel_upk (v0 := v i) k hb hk1 ?_ ?_
          · apply List.ext_getElem?
            intro q
            unfold fill
            by_cases hq : q = k
            · subst hq
              have hlt : q < (L.map fun e => (e.1, e.2, v e.1)).length := (List.getElem?_eq_some_iff.1 hk1).1
              rw [List.getElem?_set_self hlt, List.getElem?_map, hk2]
              simp
            · rw [List.getElem?_set_ne (fun e => hq e.symm), List.getElem?_map, List.getElem?_map]
              cases hLq : L[q]? with
              | none => rfl
              | some e =>
                have hne : e.1 ≠ i := by
                  refine nodup_at hL3 hk2 e ?_
                  rcases Nat.lt_or_ge q k with h | h
                  · refine List.mem_append_left _ (List.mem_of_getElem? (i := q) ?_)
                    rw [List.getElem?_take_of_lt h]
                    exact hLq
                  · refine List.mem_append_right _ (List.mem_of_getElem? (i := q - (k + 1)) ?_)
                    rw [List.getElem?_drop, show k + 1 + (q - (k + 1)) = q by omega]
                    exact hLq
                simp [hne]
          · refine List.all_eq_true.2 (fun x hx => ?_)
            have hx2 : ∃ y ∈ L.take k ++ L.drop (k + 1), x = (y.1, y.2, v y.1) := by
              unfold fill at hx
              rw [← List.map_take, ← List.map_drop, ← List.map_append] at hx
              obtain ⟨y, hy, rfl⟩ := List.mem_map.1 hx
              exact ⟨y, hy, rfl⟩
            obtain ⟨y, hy, rfl⟩ := hx2
            have h1 := nodup_at hL3 hk2 y hy
            have h2 := nodup_at hL4 hk2 y hy
            simp only [Bool.and_eq_true, Bool.not_eq_true', beq_eq_false_iff_ne]
            exact ⟨h1, h2⟩
      · intro j hj hbj
        by_cases hji : j = i
        · subst hji
          simpa using hf
        · rw [up_ne hji] at hbj
          simp only [hji, if_false]
          exact hF i j b _ w w' (Ne.symm hji) hilt hj hb hbj hoff' hGw hstep (hv j hj hbj)
  · intro b a w hall hI
    obtain ⟨hGw, v, rfl, hv⟩ := hI
    have hb : ∀ i, i < ops.size → b i = true := fun i hi => hall i (List.contains_iff_mem.2 (List.mem_range.2 hi))
    have := hend b v w hb hGw (fun i hi => hv i hi (hb i hi))
    rw [putSel_all, show (fill L v).map (fun e => (e.2.1, e.2.2)) = L.map fun e => (e.2, v e.1) by simp [fill]]
    · exact this
    · intro e he
      unfold fill at he
      obtain ⟨y, hy, rfl⟩ := List.mem_map.1 he
      refine hb _ ?_
      have := List.all_eq_true.1 hL2 _ hy
      simp only [Bool.and_eq_true, decide_eq_true_eq] at this
      exact this.2
end
end Go.Proofs.Ytbjbejjieibldaa.Rg
