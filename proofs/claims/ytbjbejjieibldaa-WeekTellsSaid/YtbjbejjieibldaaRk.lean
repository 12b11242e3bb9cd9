/- A region whose order is open, by one fact for each operation; an operation may read a variable that a later one of the region writes. -/
import Derived.Test.YtbjbejjieibldaaRg
namespace Go.Proofs.Ytbjbejjieibldaa.Rg
open Go.RowKit Go.Proofs.YtbjbejjieibldaaW.PrintWords Go.Proofs.YtbjbejjieibldaaW.PrintLast

section
variable {P : Program} {ops : Array Oper} {Q : Exit → Act → World → Prop}
theorem putSel_keep {b : Nat → Bool} {t : Tmp} : ∀ {L : List (Nat × Tmp × Value)} {a : Act}, (∀ e ∈ L, e.2.1 = t → b e.1 = false) → (putSel a b L).tmps[t]? = a.tmps[t]?
  | [], a, _ => rfl
  | e :: r, a, h => by
    unfold putSel
    by_cases hb : b e.1 = true
    · rw [if_pos hb, putSel_keep (fun x hx => h x (List.mem_cons_of_mem _ hx))]
      have hne : e.2.1 ≠ t := fun he => by rw [h e List.mem_cons_self he] at hb; cases hb
      simp [Act.put, hne]
    · rw [if_neg hb, putSel_keep (fun x hx => h x (List.mem_cons_of_mem _ hx))]
/-- One step: operation i, all that it waits for being done. -/
def StepL (P : Program) (ops : Array Oper) (Q : Exit → Act → World → Prop) (B : List Nat) (L : List (Nat × Tmp)) (G : (Nat → Bool) → World → Prop) (St : Nat → World → World → Prop) (F : Nat → Value → World → Prop) (a0 : Act) (i : Nat) : Prop :=
  ∃ oi, ops[i]? = some oi ∧ ∀ b a w, G b w → b i = false → (∀ d, d < ops.size → (B.getD d 0).testBit i = true → b d = false) → (∀ j t, (j, t) ∈ L → (B.getD i 0).testBit j = true → ∃ v, a.tmps[t]? = some v ∧ F j v w) →
    (∀ t, (L.all fun e => !(e.2 == t)) = true → a.tmps[t]? = a0.tmps[t]?) → (∀ j t, (j, t) ∈ L → b j = false → a.tmps[t]? = a0.tmps[t]?) →
    ∀ K : Act → World → Prop, Shut (∀ v w', St i w w' → F i v w' → K (a.put oi.dst v) w') → if Region.wanted oi (yielded ops a.tmps) = true then Oper.wp P oi a w K Q else K (a.put oi.dst undef) w

theorem region_factsL {id n : Nat} {a0 : Act} {w0 : World} {T : Bool × List (List Nat × List Nat)} {B : List Nat} (L : List (Nat × Tmp)) (G : (Nat → Bool) → World → Prop) (St : Nat → World → World → Prop) (F : Nat → Value → World → Prop)
    (hm : P.follows .mixedOrders = true) (hn : ops.size = n) (hT : rtab .any ops = T) (hw : waitsOk T.2 B = true) (hk : baseOk T.2 (List.range n) = true) (hL : okL ops L a0.tmps.size = true)
    (hG0 : G (fun _ => false) w0.drew) (hSt : ∀ i b w w', i < n → b i = false → (∀ d, d < n → (B.getD d 0).testBit i = true → b d = false) → G b w → St i w w' → G (up b i) w') (hF : ∀ i j b v w w', i ≠ j → i < n → j < n → b i = false → b j = true → (∀ d, d < n → (B.getD d 0).testBit i = true → b d = false) → G b w → St i w w' → F j v w → F j v w')
    (hs : ∀ i ∈ List.range n, StepL P ops Q B L G St F a0 i)
    (hend : ∀ (b : Nat → Bool) (v : Nat → Value) w, (∀ i, i < n → b i = true) → G b w → (∀ i, i < n → F i (v i) w) → Q .normal (putAll a0 (L.map fun e => (e.2, v e.1))) w) : (Code.region id ops true).wp P Q a0 w0 := by
  subst hn
  have hL' := hL
  simp only [okL, Bool.and_eq_true, decide_eq_true_eq] at hL'
  obtain ⟨⟨⟨hL1, hL2⟩, hL3⟩, hL4⟩ := hL'
  have hTl : T.2.length = ops.size := by rw [← hT, rtab_length]
  refine wp_region_last (S := fun _ => True) (ds := []) hm ?_
  refine inv_ (T := T) (B := B) (List.range ops.size) (fun b a w => G b w ∧ ∃ v : Nat → Value, a = putSel a0 b (fill L v) ∧ ∀ i, i < ops.size → b i = true → F i (v i) w) hT hw hk ?_ ⟨hG0, fun _ => undef, ?_, fun i _ h => by cases h⟩ ?_ ?_
  · rw [Bool.and_eq_true, beq_iff_eq, beq_iff_eq]
    refine ⟨?_, by simp⟩
    rw [hTl]
    apply List.ext_getElem?
    intro j
    by_cases hj : j < ops.size
    · simp [lof, hj]
    · simp [lof, hj]
  · have : ∀ (M : List (Nat × Tmp × Value)) (a : Act), putSel a (fun _ => false) M = a := by
      intro M
      induction M with
      | nil => exact fun _ => rfl
      | cons e r ih => intro a; unfold putSel; simpa using ih a
    exact (this _ _).symm
  · intro i hi b a w hI hb hon hoff
    obtain ⟨hGw, v, rfl, hv⟩ := hI
    obtain ⟨oi, hoi, hst⟩ := hs i hi
    refine ⟨oi, hoi, fun K hK => ?_⟩
    have hilt : i < ops.size := List.mem_range.1 hi
    have hoff' : ∀ d, d < ops.size → (B.getD d 0).testBit i = true → b d = false := fun d hd hbit => hoff d (by rw [Bool.and_eq_true]; exact ⟨List.contains_iff_mem.2 (List.mem_range.2 hd), hbit⟩)
    refine hst b _ w hGw hb hoff' ?_ ?_ ?_ K (fun v1 w' hstep hf => ?_)
    · intro j t hjt hbit
      have hjl : j < ops.size := by
        have := List.all_eq_true.1 hL2 _ hjt
        simp only [Bool.and_eq_true, decide_eq_true_eq] at this
        exact this.2
      have hjb : b j = true := by
        refine hon j ?_
        rw [Bool.and_eq_true]
        exact ⟨List.contains_iff_mem.2 (List.mem_range.2 hjl), hbit⟩
      obtain ⟨k, hk1, hk2⟩ := mem_fill (v := v) hjt
      refine ⟨v j, ?_, hv j hjl hjb⟩
      refine putSel_on (e := (j, t, v j)) k hk1 ?_ hjb ?_
      · refine List.all_eq_true.2 (fun x hx => ?_)
        unfold fill at hx
        rw [← List.map_drop] at hx
        obtain ⟨y, hy, rfl⟩ := List.mem_map.1 hx
        have := nodup_at hL4 hk2 y (List.mem_append_right _ hy)
        simpa using this
      · have := List.all_eq_true.1 hL2 _ hjt
        simp only [Bool.and_eq_true, decide_eq_true_eq] at this
        exact Nat.ble_eq_true_of_le this.1
    · intro t ht
      exact putSel_off (by rw [fill_all (p := fun _ s => !(s == t))]; exact ht)
    · intro j t hjt hbj
      refine putSel_keep (fun e he het => ?_)
      unfold fill at he
      obtain ⟨x, hx, rfl⟩ := List.mem_map.1 he
      obtain ⟨k, hk, hke⟩ := List.mem_iff_getElem.1 hjt
      by_cases hxe : x = (j, t)
      · subst hxe; exact hbj
      · refine absurd het ?_
        have h1 : L[k]? = some (j, t) := by rw [List.getElem?_eq_getElem hk, hke]
        refine nodup_at (f := fun e : Nat × Tmp => e.2) hL4 h1 x ?_
        obtain ⟨q, hq, hqe⟩ := List.mem_iff_getElem.1 hx
        rcases Nat.lt_trichotomy q k with h | h | h
        · exact List.mem_append_left _ (List.mem_of_getElem? (i := q) (by rw [List.getElem?_take_of_lt h, List.getElem?_eq_getElem hq, hqe]))
        · subst h; exact absurd (hqe.symm.trans hke) hxe
        · exact List.mem_append_right _ (List.mem_of_getElem? (i := q - (k + 1)) (by rw [List.getElem?_drop, show k + 1 + (q - (k + 1)) = q by omega, List.getElem?_eq_getElem hq, hqe]))
    · refine hK _ _ ⟨hSt i b w w' hilt hb hoff' hGw hstep, fun j => if j = i then v1 else v j, ?_, ?_⟩
      · have hrow := List.all_eq_true.1 hL1 i (List.mem_range.2 hilt)
        rw [hoi] at hrow
        simp only at hrow
        cases hd : oi.dst with
        | none =>
          rw [hd] at hrow
          simp only at hrow
          have e1 : fill L (fun j => if j = i then v1 else v j) = fill L v := by
            unfold fill
            refine List.map_congr_left (fun e he => ?_)
            have := List.all_eq_true.1 hrow e he
            have hne : e.1 ≠ i := by simpa using this
            simp [hne]
          rw [e1]
          exact putSel_none (by rw [fill_all (p := fun q _ => !(q == i))]; exact hrow)
        | some t =>
          rw [hd] at hrow
          simp only at hrow
          have hmem : (i, t) ∈ L := List.contains_iff_mem.1 hrow
          obtain ⟨k, hk1, hk2⟩ := mem_fill (v := v) hmem
          refine putSel_upk (v0 := v i) k hb hk1 ?_ ?_
          · apply List.ext_getElem?
            intro q
            unfold fill
            by_cases hq : q = k
            · subst hq
              have hlt : q < (L.map fun e => (e.1, e.2, v e.1)).length := (List.getElem?_eq_some_iff.1 hk1).1
              rw [List.getElem?_set_self hlt, List.getElem?_map, hk2]
              simp
            · rw [List.getElem?_set_ne (fun e => hq e.symm), List.getElem?_map, List.getElem?_map]
              cases hLq : L[q]? with
              | none => rfl
              | some e =>
                have hne : e.1 ≠ i := by
                  refine nodup_at hL3 hk2 e ?_
                  rcases Nat.lt_or_ge q k with h | h
                  · refine List.mem_append_left _ (List.mem_of_getElem? (i := q) ?_)
                    rw [List.getElem?_take_of_lt h]
                    exact hLq
                  · refine List.mem_append_right _ (List.mem_of_getElem? (i := q - (k + 1)) ?_)
                    rw [List.getElem?_drop, show k + 1 + (q - (k + 1)) = q by omega]
                    exact hLq
                simp [hne]
          · refine List.all_eq_true.2 (fun x hx => ?_)
            have hx2 : ∃ y ∈ L.take k ++ L.drop (k + 1), x = (y.1, y.2, v y.1) := by
              unfold fill at hx
              rw [← List.map_take, ← List.map_drop, ← List.map_append] at hx
              obtain ⟨y, hy, rfl⟩ := List.mem_map.1 hx
              exact ⟨y, hy, rfl⟩
            obtain ⟨y, hy, rfl⟩ := hx2
            have h1 := nodup_at hL3 hk2 y hy
            have h2 := nodup_at hL4 hk2 y hy
            simp only [Bool.and_eq_true, Bool.not_eq_true', beq_eq_false_iff_ne]
            exact ⟨h1, h2⟩
      · intro j hj hbj
        by_cases hji : j = i
        · subst hji
          simpa using hf
        · rw [up_ne hji] at hbj
          simp only [hji, if_false]
          exact hF i j b _ w w' (Ne.symm hji) hilt hj hb hbj hoff' hGw hstep (hv j hj hbj)
  · intro b a w hall hI
    obtain ⟨hGw, v, rfl, hv⟩ := hI
    have hb : ∀ i, i < ops.size → b i = true := fun i hi => hall i (List.contains_iff_mem.2 (List.mem_range.2 hi))
    have := hend b v w hb hGw (fun i hi => hv i hi (hb i hi))
    rw [putSel_all, show (fill L v).map (fun e => (e.2.1, e.2.2)) = L.map fun e => (e.2, v e.1) by simp [fill]]
    · exact this
    · intro e he
      unfold fill at he
      obtain ⟨y, hy, rfl⟩ := List.mem_map.1 he
      refine hb _ ?_
      have := List.all_eq_true.1 hL2 _ hy
      simp only [Bool.and_eq_true, decide_eq_true_eq] at this
      exact this.2
end
end Go.Proofs.Ytbjbejjieibldaa.Rg
