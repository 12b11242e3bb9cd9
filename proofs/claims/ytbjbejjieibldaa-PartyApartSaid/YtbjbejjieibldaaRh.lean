/- A region whose order is open, by one fact for each operation and facts between their values. -/
import Derived.Test.YtbjbejjieibldaaRg
namespace Go.Proofs.Ytbjbejjieibldaa.Rg
open Go.RowKit Go.Proofs.YtbjbejjieibldaaW.PrintWords Go.Proofs.YtbjbejjieibldaaW.PrintLast

section
variable {P : Program} {ops : Array Oper} {Q : Exit → Act → World → Prop}
/-- The values with number i's told. -/
def sv (v : Nat → Value) (i : Nat) (x : Value) : Nat → Value := fun j => if j = i then x else v j
theorem sv_self (v : Nat → Value) (i : Nat) (x : Value) : sv v i x i = x := by simp [sv]
theorem sv_ne {v : Nat → Value} {i j : Nat} {x : Value} (h : j ≠ i) : sv v i x j = v j := by simp [sv, h]

/-- One step: operation i, all that it waits for being done. -/
def StepV (P : Program) (ops : Array Oper) (Q : Exit → Act → World → Prop) (B : List Nat) (L : List (Nat × Tmp)) (G : (Nat → Bool) → (Nat → Value) → World → Prop) (St : Nat → (Nat → Value) → World → World → Prop) (F : Nat → Value → World → Prop) (a0 : Act) (i : Nat) : Prop :=
  ∃ oi, ops[i]? = some oi ∧ ∀ b v a w, G b v w → b i = false → (∀ d, d < ops.size → (B.getD d 0).testBit i = true → b d = false) → (∀ j t, (j, t) ∈ L → (B.getD i 0).testBit j = true → b j = true ∧ a.tmps[t]? = some (v j) ∧ F j (v j) w) →
    (∀ t, (L.all fun e => !(e.2 == t)) = true → a.tmps[t]? = a0.tmps[t]?) →
    ∀ K : Act → World → Prop, Shut (∀ x w', St i v w w' → F i x w' → G (up b i) (sv v i x) w' → K (a.put oi.dst x) w') → if Region.wanted oi (yielded ops a.tmps) = true then Oper.wp P oi a w K Q else K (a.put oi.dst undef) w

theorem region_factsV {id n : Nat} {a0 : Act} {w0 : World} {T : Bool × List (List Nat × List Nat)} {B : List Nat} (L : List (Nat × Tmp)) (G : (Nat → Bool) → (Nat → Value) → World → Prop) (St : Nat → (Nat → Value) → World → World → Prop) (F : Nat → Value → World → Prop)
    (hm : P.follows .mixedOrders = true) (hn : ops.size = n) (hT : rtab .any ops = T) (hw : waitsOk T.2 B = true) (hk : baseOk T.2 (List.range n) = true) (hL : okL ops L a0.tmps.size = true)
    (hG0 : G (fun _ => false) (fun _ => undef) w0.drew) (hF : ∀ i j b v w w', i ≠ j → i < n → j < n → b i = false → b j = true → (∀ d, d < n → (B.getD d 0).testBit i = true → b d = false) → G b v w → St i v w w' → F j (v j) w → F j (v j) w')
    (hs : ∀ i ∈ List.range n, StepV P ops Q B L G St F a0 i)
    (hend : ∀ (b : Nat → Bool) (v : Nat → Value) w, (∀ i, i < n → b i = true) → G b v w → (∀ i, i < n → F i (v i) w) → Q .normal (putAll a0 (L.map fun e => (e.2, v e.1))) w) : (Code.region id ops true).wp P Q a0 w0 := by
  subst hn
  have hL' := hL
  simp only [okL, Bool.and_eq_true, decide_eq_true_eq] at hL'
  obtain ⟨⟨⟨hL1, hL2⟩, hL3⟩, hL4⟩ := hL'
  have hTl : T.2.length = ops.size := by rw [← hT, rtab_length]
  refine wp_region_last (S := fun _ => True) (ds := []) hm ?_
  refine inv_ (T := T) (B := B) (List.range ops.size) (fun b a w => ∃ v : Nat → Value, G b v w ∧ a = putSel a0 b (fill L v) ∧ ∀ i, i < ops.size → b i = true → F i (v i) w) hT hw hk ?_ ⟨fun _ => undef, hG0, ?_, fun i _ h => by cases h⟩ ?_ ?_
  · rw [Bool.and_eq_true, beq_iff_eq, beq_iff_eq]
    refine ⟨?_, by simp⟩
    rw [hTl]
    apply List.ext_getElem?
    intro j
    by_cases hj : j < ops.size
    · simp [lof, hj]
    · simp [lof, hj]
  · have : ∀ (M : List (Nat × Tmp × Value)) (a : Act), putSel a (fun _ => false) M = a := by
      intro M
      induction M with
      | nil => exact fun _ => rfl
      | cons e r ih => intro a; unfold putSel; simpa using ih a
    exact (this _ _).symm
  · intro i hi b a w hI hb hon hoff
    obtain ⟨v, hGw, rfl, hv⟩ := hI
    obtain ⟨oi, hoi, hst⟩ := hs i hi
    refine ⟨oi, hoi, fun K hK => ?_⟩
    have hilt : i < ops.size := List.mem_range.1 hi
    have hoff' : ∀ d, d < ops.size → (B.getD d 0).testBit i = true → b d = false := fun d hd hbit => hoff d (by rw [Bool.and_eq_true]; exact ⟨List.contains_iff_mem.2 (List.mem_range.2 hd), hbit⟩)
    refine hst b v _ w hGw hb hoff' ?_ ?_ K (fun v1 w' hstep hf hG2 => ?_)
    · intro j t hjt hbit
      have hjl : j < ops.size := by
        have := List.all_eq_true.1 hL2 _ hjt
        simp only [Bool.and_eq_true, decide_eq_true_eq] at this
        exact this.2
      have hjb : b j = true := by
        refine hon j ?_
        rw [Bool.and_eq_true]
        exact ⟨List.contains_iff_mem.2 (List.mem_range.2 hjl), hbit⟩
      obtain ⟨k, hk1, hk2⟩ := mem_fill (v := v) hjt
      refine ⟨hjb, ?_, hv j hjl hjb⟩
      refine putSel_on (e := (j, t, v j)) k hk1 ?_ hjb ?_
      · refine List.all_eq_true.2 (fun x hx => ?_)
        unfold fill at hx
        rw [← List.map_drop] at hx
        obtain ⟨y, hy, rfl⟩ := List.mem_map.1 hx
        have := nodup_at hL4 hk2 y (List.mem_append_right _ hy)
        simpa using this
      · have := List.all_eq_true.1 hL2 _ hjt
        simp only [Bool.and_eq_true, decide_eq_true_eq] at this
        exact Nat.ble_eq_true_of_le this.1
    · intro t ht
      exact putSel_off (by rw [fill_all (p := fun _ s => !(s == t))]; exact ht)
    · refine hK _ _ ⟨sv v i v1, hG2, ?_, ?_⟩
      · have hrow := List.all_eq_true.1 hL1 i (List.mem_range.2 hilt)
        rw [hoi] at hrow
        simp only at hrow
        cases hd : oi.dst with
        | none =>
          rw [hd] at hrow
          simp only at hrow
          have e1 : fill L (sv v i v1) = fill L v := by
            unfold fill
            refine List.map_congr_left (fun e he => ?_)
            have := List.all_eq_true.1 hrow e he
            have hne : e.1 ≠ i := by simpa using this
            simp [hne, sv]
          rw [e1]
          exact putSel_none (by rw [fill_all (p := fun q _ => !(q == i))]; exact hrow)
        | some t =>
          rw [hd] at hrow
          simp only at hrow
          have hmem : (i, t) ∈ L := List.contains_iff_mem.1 hrow
          obtain ⟨k, hk1, hk2⟩ := mem_fill (v := v) hmem
          refine putSel_upk (v0 := v i) k hb hk1 ?_ ?_
          · apply List.ext_getElem?
            intro q
            unfold fill
            by_cases hq : q = k
            · subst hq
              have hlt : q < (L.map fun e => (e.1, e.2, v e.1)).length := (List.getElem?_eq_some_iff.1 hk1).1
              rw [List.getElem?_set_self hlt, List.getElem?_map, hk2]
              simp [sv]
            · rw [List.getElem?_set_ne (fun e => hq e.symm), List.getElem?_map, List.getElem?_map]
              cases hLq : L[q]? with
              | none => rfl
              | some e =>
                have hne : e.1 ≠ i := by
                  refine nodup_at hL3 hk2 e ?_
                  rcases Nat.lt_or_ge q k with h | h
                  · refine List.mem_append_left _ (List.mem_of_getElem? (i := q) ?_)
                    rw [List.getElem?_take_of_lt h]
                    exact hLq
                  · refine List.mem_append_right _ (List.mem_of_getElem? (i := q - (k + 1)) ?_)
                    rw [List.getElem?_drop, show k + 1 + (q - (k + 1)) = q by omega]
                    exact hLq
                simp [hne, sv]
          · refine List.all_eq_true.2 (fun x hx => ?_)
            have hx2 : ∃ y ∈ L.take k ++ L.drop (k + 1), x = (y.1, y.2, v y.1) := by
              unfold fill at hx
              rw [← List.map_take, ← List.map_drop, ← List.map_append] at hx
              obtain ⟨y, hy, rfl⟩ := List.mem_map.1 hx
              exact ⟨y, hy, rfl⟩
            obtain ⟨y, hy, rfl⟩ := hx2
            have h1 := nodup_at hL3 hk2 y hy
            have h2 := nodup_at hL4 hk2 y hy
            simp only [Bool.and_eq_true, Bool.not_eq_true', beq_eq_false_iff_ne]
            exact ⟨h1, h2⟩
      · intro j hj hbj
        by_cases hji : j = i
        · subst hji
          simpa [sv] using hf
        · rw [up_ne hji] at hbj
          simp only [sv, hji, if_false]
          exact hF i j b v w w' (Ne.symm hji) hilt hj hb hbj hoff' hGw hstep (hv j hj hbj)
  · intro b a w hall hI
    obtain ⟨v, hGw, rfl, hv⟩ := hI
    have hb : ∀ i, i < ops.size → b i = true := fun i hi => hall i (List.contains_iff_mem.2 (List.mem_range.2 hi))
    have := hend b v w hb hGw (fun i hi => hv i hi (hb i hi))
    rw [putSel_all, show (fill L v).map (fun e => (e.2.1, e.2.2)) = L.map fun e => (e.2, v e.1) by simp [fill]]
    · exact this
    · intro e he
      unfold fill at he
      obtain ⟨y, hy, rfl⟩ := List.mem_map.1 he
      refine hb _ ?_
      have := List.all_eq_true.1 hL2 _ hy
      simp only [Bool.and_eq_true, decide_eq_true_eq] at this
      exact this.2
end
end Go.Proofs.Ytbjbejjieibldaa.Rg
