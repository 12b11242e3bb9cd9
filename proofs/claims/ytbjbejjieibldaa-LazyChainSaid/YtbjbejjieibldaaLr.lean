/- LazyRows: what its function does; a row asked for; the region of open order at its end. -/
import Derived.Test.YtbjbejjieibldaaLs
import Derived.Maps.OwnSet
namespace Go.Proofs.Ytbjbejjieibldaa.La
open Go.RowKit Go.Proofs.YtbjbejjieibldaaW.PrintWords Go.Proofs.YtbjbejjieibldaaW.PrintLast Go.Proofs.YtbjbejjieibldaaW.PrintMore Go.Maps Go.Proofs.Ytbjbejjieibldaa.Rg
open Go.Proofs.Ytbjbejjieibldaa
set_option linter.unusedVariables false
set_option linter.unusedSimpArgs false

/-- A row of counters in a block. -/
def Row (w : World) (gc n : Nat) (cs : Nat → Int) : Prop := ∃ arr, w.heap[gc]? = some (.cells arr 3 (0, 0)) ∧ arr.size = n ∧ ∀ k, k < n → arr[k]? = some (.int .i64 (cs k))
def upd (cs : Nat → Int) (i : Nat) (x : Int) : Nat → Int := fun k => if k = i then x else cs k
theorem Row.kept {w w' : World} {gc n : Nat} {cs : Nat → Int} {S : Nat → Prop} (h : Row w gc n cs) (hk : Kept w w' S) (hS : ¬ S gc) : Row w' gc n cs := by
  obtain ⟨arr, h1, h2⟩ := h
  exact ⟨arr, blk_kept h1 hk hS, h2⟩
theorem Row.at_ {w : World} {gc n : Nat} {cs : Nat → Int} (h : Row w gc n cs) (k : Nat) (hk : k < n) : w.cell? ⟨gc, k, none⟩ = some (.int .i64 (cs k)) ∧ w.frozen? ⟨gc, k, none⟩ = false := by
  obtain ⟨arr, h1, h2, h3⟩ := h
  exact ⟨(blk_cell h1 k).trans (h3 k hk), blk_frozen h1 k⟩
theorem Row.put {w : World} {gc n : Nat} {cs : Nat → Int} (h : Row w gc n cs) (i : Nat) (hi : i < n) (x : Int) : Row (w.setCell ⟨gc, i, none⟩ (.int .i64 x)) gc n (upd cs i x) := by
  obtain ⟨arr, h1, h2, h3⟩ := h
  refine ⟨_, (setb h1 i _).1, by simp [h2], fun k hk => ?_⟩
  unfold upd
  by_cases e : k = i
  · subst e
    rw [if_pos rfl, Array.getElem?_setIfInBounds_self_of_lt (by omega)]
  · rw [if_neg e, Array.getElem?_setIfInBounds_ne (fun e2 => e e2.symm)]
    exact h3 k hk
theorem Row.made (w : World) (n : Nat) : Row (w.alloc (.cells (madeCells #[.int .i64 0] n) 3)) w.heap.size n (fun _ => 0) := by
  refine ⟨_, blk_new _ _, by simp [size_madeCells], fun k hk => ?_⟩
  unfold madeCells
  simp [hk, Nat.mod_one]
theorem Row.lt {w : World} {gc n : Nat} {cs : Nat → Int} (h : Row w gc n cs) : gc < w.heap.size := by
  obtain ⟨arr, h1, _⟩ := h
  exact blk_lt h1

theorem add_blk (a : Addr) (i : Nat) : (a.add i).block = a.block := by unfold Addr.add; split <;> rfl
abbrev RF (q2 q5 : Nat) : Value := .func (.func 68) #[] #[PB q2, PB q5]
set_option maxHeartbeats 1000000 in
theorem rowfn68 (i n gc q2 q5 : Nat) (Al : Option Addr) (cl : Nat) (l : List Int) (cs : Nat → Int) (w : World) (hi : i < n) (hn : n ≤ 1000) (hc0 : 0 ≤ cs i ∧ cs i < 1000) (h2 : w.heap[q2]? = some (.cells #[.slice Al n cl] 103 (0, 0))) (h5 : w.heap[q5]? = some (.cells #[.slice (some ⟨gc, 0, none⟩) n n] 104 (0, 0)))
    (hr : Row w gc n cs) (hl : Kd.C (Kd.int .i64) w Al n l) (hq2 : q2 ≠ gc) (hlc : ∀ a, Al = some a → a.block ≠ gc) :
    Calls Try.prog 68 #[.int .i64 i, PB q2, PB q5] w fun e w' => e = .returned (.int .i64 (rd l (i : Int))) ∧ Row w' gc n (upd cs i (cs i + 1)) ∧ Only gc w w' := by
  have c2 := (blk_cell h2 0).trans rfl
  have c5 := (blk_cell h5 0).trans rfl
  obtain ⟨ci, zi⟩ := hr.at_ i hi
  obtain ⟨ad, ea, hx⟩ := Kd.at_int hl (i : Int) (by omega) (by omega)
  subst ea
  simp only [Int.toNat_natCast] at hx
  have had := hlc ad rfl
  have d1 : decide ((i : Int) < 0) = false := by simp
  have d2 : decide ((n : Int) ≤ i) = false := by simp; omega
  have d3 : decide (n ≤ i) = false := by simp; omega
  have HR := Aside0.mk hr
  have H2 := Aside0.mk h2
  clear h2 h5 hr hl hlc
  generalize rd l (i : Int) = x at hx
  have HX := Aside0.mk hx
  go_enter Try.func68, Try.ntmps68
  go_wp2_with ((with_reducible refine gate_op (Op.store 3 (.tmp 18) (.tmp 17)) rfl ?_); refine skip_event (w1 := w.setCell ⟨gc, i, none⟩ (.int .i64 (cs i + 1))) rfl rfl ?hr ?_; (case hr => first | (go_simp; done) | (go_simp; rfl)); intro w1 hw; have K1 : Aside0 (Row w1 gc n (upd cs i (cs i + 1)) ∧ Only gc w w1) := ⟨by rw [hw]; exact ⟨HR.out.put i hi _, (Only.refl gc w).set i _⟩⟩; have c2' := (blk_cell (blk_kept H2.out K1.out.2.1 hq2) 0).trans rfl; have hx' := cell_kept HX.out K1.out.2.1 (by show ¬ (ad.add i).block = gc; rw [add_blk]; exact had); clear hw ci zi c2 c5 hx)
  go_ret
  exact ⟨rfl, K1.out⟩

/-- A table's row, of LazyRows' function. -/
theorem rowfn_fun (tb g5 g3 g6 q2 q5 : Nat) (A : Option Addr) (n c k : Nat) (m x : Int) (Q : World → Prop) (w : World) (ht : w.heap[tb]? = some (.cells #[.slice A n c, .int .i64 m] 162 (0, 0))) (h5 : w.heap[g5]? = some (.cells #[PB tb] 127 (0, 0))) (h3 : w.heap[g3]? = some (.cells #[RF q2 q5] 134 (0, 0))) (h6 : w.heap[g6]? = some (.cells #[.int .i64 k] 3 (0, 0))) (hm : 0 ≤ m ∧ m < 1000000) (htg : tb ≠ g3) (ht6 : tb ≠ g6)
    (hrow : ∀ w1, Only tb w w1 → w1.heap[tb]? = some (.cells #[.slice A n c, .int .i64 (m + 1)] 162 (0, 0)) → Calls Try.prog 68 #[.int .i64 k, PB q2, PB q5] w1 fun e w2 => e = .returned (.int .i64 x) ∧ Q w2) :
    Calls Try.prog 100 #[PB g5, PB g3, PB g6] w fun e w' => e = .returned (.int .i64 x) ∧ Q w' := by
  have c5 := (blk_cell h5 0).trans rfl
  have c1 : w.cell? ⟨tb, 1, none⟩ = some (.int .i64 m) := (blk_cell ht 1).trans rfl
  have z1 := blk_frozen ht 1
  have hrun : ∀ w : World, Sem.run Try.prog (binOp BinOp.eql 134 (RF q2 q5) Value.nilFunc) w = .ok (.bool false) w := fun w => by kernel_rfl
  have H3 := Aside0.mk h3
  have H6 := Aside0.mk h6
  have HT := Aside0.mk ht
  have HR := Aside0.mk hrow
  clear h5 h3 ht h6 hrow
  go_enter Try.func100, Try.ntmps100
  go_wp2_with (first
    | (go_at_call 94; refine (iadd_calls ⟨tb, 1, none⟩ m _ c1 z1 (by omega)).mono ?_; rintro e w1 ⟨rfl, hw⟩; have K1 : Aside0 (w1.heap[tb]? = some (.cells #[.slice A n c, .int .i64 (m + 1)] 162 (0, 0)) ∧ Only tb w w1) := ⟨by rw [hw]; exact ⟨(setb HT.out 1 _).1, (Only.refl tb w).set 1 _⟩⟩; clear hw; have g3c := (blk_cell (blk_kept H3.out K1.out.2.1 (fun e => htg e.symm)) 0).trans rfl; have g6c := (blk_cell (blk_kept H6.out K1.out.2.1 (fun e => ht6 e.symm)) 0).trans rfl)
    | (go_at_call 68; refine (HR.out _ K1.out.2 K1.out.1).mono ?_; rintro e w2 ⟨rfl, hq⟩; have HQ := Aside0.mk hq; clear hq))
  go_ret
  exact ⟨rfl, HQ.out⟩
/-! ### region 17 of function 14 -/
def r14x17.T : Bool × List (List Nat × List Nat) := (true, [([], []), ([0], [0]), ([], []), ([2], [2]), ([1, 3], [1, 3]), ([4, 1], [4]), ([5], [5]), ([6, 5, 5], [5, 6]), ([5], [5]), ([8, 7, 5], [5, 8]), ([7, 9, 5], [5, 7, 9]), ([5, 10], [5, 10]), ([11, 9], [11]), ([12, 12], [12]), ([12, 13], [12, 13]), ([14, 13, 0, 1, 2, 3, 4, 5, 6, 7, 8, 9, 10, 11, 12, 13, 14], [14])])
def r14x17.B : List Nat := [0, 1, 0, 4, 15, 31, 63, 127, 63, 511, 1023, 2047, 4095, 8191, 16383, 32767]
def r14x17.L : List (Nat × Tmp) := [(0, 81), (1, 82), (2, 83), (3, 84), (4, 85), (5, 86), (6, 87), (7, 88), (8, 89), (9, 90), (10, 91), (11, 92), (12, 93), (13, 94), (14, 95), (15, 4)]
theorem r14x17.tab : rtab .any (opsOf Try.f14 17) = r14x17.T := by kernel_rfl
theorem r14x17.bits : waitsOk r14x17.T.2 r14x17.B = true := by kernel_rfl
theorem r14x17.base : baseOk r14x17.T.2 (List.range 16) = true := by kernel_rfl
theorem r14x17.okl : okL (opsOf Try.f14 17) r14x17.L 96 = true := by kernel_rfl
def r14x17.F (tb q2 mb n N : Nat) (A Al : Option Addr) (c cl : Nat) (m : Int) (D : DataW Unit) (W : World) (i : Nat) : Value → World → Prop := match i with
  | 0 => fun v _ => v = (.pointer (some ⟨tb, 0, none⟩))
  | 1 => fun v _ => v = (.int .i64 n)
  | 2 => fun v _ => v = (.slice Al n cl)
  | 3 => fun v _ => v = (.int .i64 n)
  | 4 => fun v _ => v = (.bool true)
  | 5 => fun v _ => v = (.bool true)
  | 6 => fun v _ => v = (.pointer (some ⟨tb, 0, none⟩))
  | 7 => fun v _ => v = (.int .i64 m)
  | 8 => fun v _ => v = (.map (some mb))
  | 9 => fun v _ => v = (.int .i64 m)
  | 10 => fun v _ => v = (.bool true)
  | 11 => fun v _ => v = (.bool true)
  | 12 => fun v _ => v = (.bool true)
  | 13 => fun v _ => v = (.bool true)
  | 14 => fun v _ => v = (.bool true)
  | 15 => fun v _ => v = (.bool true)
  | _ => fun _ _ => True
def r14x17.St (tb q2 mb n N : Nat) (A Al : Option Addr) (c cl : Nat) (m : Int) (D : DataW Unit) (W : World) (i : Nat) : World → World → Prop := match i with
  | 13 => fun w w' => Below w.heap.size w w'
  | _ => fun w w' => w' = w
def r14x17.G (tb q2 mb n N : Nat) (A Al : Option Addr) (c cl : Nat) (m : Int) (D : DataW Unit) (W : World) : (Nat → Bool) → World → Prop := fun b w => Below W.heap.size W w
set_option maxHeartbeats 4000000 in
set_option maxRecDepth 100000 in
theorem r14x17 (tb q2 mb n N : Nat) (A Al : Option Addr) (c cl : Nat) (m : Int) (D : DataW Unit) (W : World) (ht : W.heap[tb]? = some (.cells #[.slice A n c, .int .i64 m] 162 (0, 0))) (hq2b : W.heap[q2]? = some (.cells #[.slice Al n cl] 103 (0, 0))) (hmap : ∀ w, Below W.heap.size W w → w.ownsMap Try.prog 3 (plainElem Try.prog 4) mb N D) (hsize : m = (Maps.size D : Int)) {Q : Exit → Act → World → Prop} {a0 : Act} {w0 : World} (hz : a0.tmps.size = 96) (z2 : a0.tmps[2]? = some (.pointer (some ⟨q2, 0, none⟩))) (z6 : a0.tmps[6]? = some (.pointer (some ⟨tb, 0, none⟩))) (z7 : a0.tmps[7]? = some (.map (some mb))) (hG0 : (r14x17.G tb q2 mb n N A Al c cl m D W) (fun _ => false) w0.drew)
    (hend : ∀ (w : World) (b : Nat → Bool), (∀ i, i < 16 → b i = true) → (r14x17.G tb q2 mb n N A Al c cl m D W) b w → Q .normal (putAll a0 [(81, (.pointer (some ⟨tb, 0, none⟩))), (82, (.int .i64 n)), (83, (.slice Al n cl)), (84, (.int .i64 n)), (85, (.bool true)), (86, (.bool true)), (87, (.pointer (some ⟨tb, 0, none⟩))), (88, (.int .i64 m)), (89, (.map (some mb))), (90, (.int .i64 m)), (91, (.bool true)), (92, (.bool true)), (93, (.bool true)), (94, (.bool true)), (95, (.bool true)), (4, (.bool true))]) w) :
    (Code.region 17 (opsOf Try.f14 17) true).wp Try.prog Q a0 w0 := by
  refine region_lit (ops' := #[_, _, _, _, _, _, _, _, _, _, _, _, _, _, _, _]) rfl ?_
  refine region_facts (n := 16) (T := r14x17.T) (B := r14x17.B) r14x17.L (r14x17.G tb q2 mb n N A Al c cl m D W) (r14x17.St tb q2 mb n N A Al c cl m D W) (r14x17.F tb q2 mb n N A Al c cl m D W) (by kernel_rfl) (by kernel_rfl) r14x17.tab r14x17.bits r14x17.base (by rw [hz]; exact r14x17.okl) hG0 ?hSt ?hF ((all_cons ?s0 (all_cons ?s1 (all_cons ?s2 (all_cons ?s3 (all_cons ?s4 (all_cons ?s5 (all_cons ?s6 (all_cons ?s7 (all_cons ?s8 (all_cons ?s9 (all_cons ?s10 (all_cons ?s11 (all_cons ?s12 (all_cons ?s13 (all_cons ?s14 (all_cons ?s15 all_nil))))))))))))))))) ?hend
  case hSt =>
    intro i b w w' hi hb hoff hG hst
    match i, hi, hb, hoff, hst with
    | 0, _, hb, hoff, hst =>
      obtain rfl : w' = w := hst
      exact hG
    | 1, _, hb, hoff, hst =>
      obtain rfl : w' = w := hst
      exact hG
    | 2, _, hb, hoff, hst =>
      obtain rfl : w' = w := hst
      exact hG
    | 3, _, hb, hoff, hst =>
      obtain rfl : w' = w := hst
      exact hG
    | 4, _, hb, hoff, hst =>
      obtain rfl : w' = w := hst
      exact hG
    | 5, _, hb, hoff, hst =>
      obtain rfl : w' = w := hst
      exact hG
    | 6, _, hb, hoff, hst =>
      obtain rfl : w' = w := hst
      exact hG
    | 7, _, hb, hoff, hst =>
      obtain rfl : w' = w := hst
      exact hG
    | 8, _, hb, hoff, hst =>
      obtain rfl : w' = w := hst
      exact hG
    | 9, _, hb, hoff, hst =>
      obtain rfl : w' = w := hst
      exact hG
    | 10, _, hb, hoff, hst =>
      obtain rfl : w' = w := hst
      exact hG
    | 11, _, hb, hoff, hst =>
      obtain rfl : w' = w := hst
      exact hG
    | 12, _, hb, hoff, hst =>
      obtain rfl : w' = w := hst
      exact hG
    | 13, _, hb, hoff, hst =>
      have hst' : Below w.heap.size w w' := hst
      have hG' : Below W.heap.size W w := hG
      exact below_then hG' hG'.size hst'
    | 14, _, hb, hoff, hst =>
      obtain rfl : w' = w := hst
      exact hG
    | 15, _, hb, hoff, hst =>
      obtain rfl : w' = w := hst
      exact hG
    | i + 16, hi, _, _, _ => exact absurd hi (by omega)
  case hF =>
    intro i j b v w w' hij hi hj hb hbj hoff hG hst hf
    match i, hi, hij, hb, hoff, hst with
    | 0, _, hij, hb, hoff, hst =>
      obtain rfl : w' = w := hst
      exact hf
    | 1, _, hij, hb, hoff, hst =>
      obtain rfl : w' = w := hst
      exact hf
    | 2, _, hij, hb, hoff, hst =>
      obtain rfl : w' = w := hst
      exact hf
    | 3, _, hij, hb, hoff, hst =>
      obtain rfl : w' = w := hst
      exact hf
    | 4, _, hij, hb, hoff, hst =>
      obtain rfl : w' = w := hst
      exact hf
    | 5, _, hij, hb, hoff, hst =>
      obtain rfl : w' = w := hst
      exact hf
    | 6, _, hij, hb, hoff, hst =>
      obtain rfl : w' = w := hst
      exact hf
    | 7, _, hij, hb, hoff, hst =>
      obtain rfl : w' = w := hst
      exact hf
    | 8, _, hij, hb, hoff, hst =>
      obtain rfl : w' = w := hst
      exact hf
    | 9, _, hij, hb, hoff, hst =>
      obtain rfl : w' = w := hst
      exact hf
    | 10, _, hij, hb, hoff, hst =>
      obtain rfl : w' = w := hst
      exact hf
    | 11, _, hij, hb, hoff, hst =>
      obtain rfl : w' = w := hst
      exact hf
    | 12, _, hij, hb, hoff, hst =>
      obtain rfl : w' = w := hst
      exact hf
    | 13, _, hij, hb, hoff, hst =>
      match j, hj, hij, hbj, hf with
      | 0, _, hij, hbj, hf => 
        exact hf
      | 1, _, hij, hbj, hf => 
        exact hf
      | 2, _, hij, hbj, hf => 
        exact hf
      | 3, _, hij, hbj, hf => 
        exact hf
      | 4, _, hij, hbj, hf => 
        exact hf
      | 5, _, hij, hbj, hf => 
        exact hf
      | 6, _, hij, hbj, hf => 
        exact hf
      | 7, _, hij, hbj, hf => 
        exact hf
      | 8, _, hij, hbj, hf => 
        exact hf
      | 9, _, hij, hbj, hf => 
        exact hf
      | 10, _, hij, hbj, hf => 
        exact hf
      | 11, _, hij, hbj, hf => 
        exact hf
      | 12, _, hij, hbj, hf => 
        exact hf
      | 13, _, hij, hbj, hf => exact absurd rfl hij
      | 14, _, hij, hbj, hf => exact absurd hbj (by rw [hoff 14 (by decide) (by decide)]; decide)
      | 15, _, hij, hbj, hf => exact absurd hbj (by rw [hoff 15 (by decide) (by decide)]; decide)
      | j + 16, hj, _, _, _ => exact absurd hj (by omega)
    | 14, _, hij, hb, hoff, hst =>
      obtain rfl : w' = w := hst
      exact hf
    | 15, _, hij, hb, hoff, hst =>
      obtain rfl : w' = w := hst
      exact hf
    | i + 16, hi, _, _, _, _ => exact absurd hi (by omega)
  case s0 =>
    refine ⟨_, rfl, fun b a w hG hb hoff hd hs K hK => ?_⟩
    have h6 := (hs 6 (by decide)).trans z6
    have e6 := eval_of h6
    refine value_ (v := (.pointer (some ⟨tb, 0, none⟩))) rfl rfl ?_ (hK _ _ rfl rfl)
    clear hd hs hK hoff
    clear e6
    go_simp
  case s1 =>
    refine ⟨_, rfl, fun b a w hG hb hoff hd hs K hK => ?_⟩
    obtain ⟨y81, h81, f81⟩ := hd 0 81 (by decide) (by decide)
    replace f81 : y81 = (.pointer (some ⟨tb, 0, none⟩)) := f81
    subst y81
    have e81 := eval_of h81
    refine goes_ Try.func64 (by kernel_rfl) rfl #[PB tb] rfl rfl rfl (by simp [e81]) ?_
    refine (tlen_calls tb A n c m w (blk_below ht hG)).mono ?_
    rintro e w' ⟨rfl, rfl⟩
    exact ⟨_, rfl, hK _ _ rfl rfl⟩
  case s2 =>
    refine ⟨_, rfl, fun b a w hG hb hoff hd hs K hK => ?_⟩
    have h2 := (hs 2 (by decide)).trans z2
    have e2 := eval_of h2
    refine value_ (v := (.slice Al n cl)) rfl rfl ?_ (hK _ _ rfl rfl)
    have hc := (blk_cell (blk_below hq2b hG) 0).trans rfl
    clear hG
    clear hd hs hK hoff
    clear e2
    go_simp
  case s3 =>
    refine ⟨_, rfl, fun b a w hG hb hoff hd hs K hK => ?_⟩
    obtain ⟨y83, h83, f83⟩ := hd 2 83 (by decide) (by decide)
    replace f83 : y83 = (.slice Al n cl) := f83
    subst y83
    have e83 := eval_of h83
    refine value_ (v := (.int .i64 n)) rfl rfl ?_ (hK _ _ rfl rfl)
    clear hG
    clear hd hs hK hoff
    clear e83
    go_simp
  case s4 =>
    refine ⟨_, rfl, fun b a w hG hb hoff hd hs K hK => ?_⟩
    obtain ⟨y82, h82, f82⟩ := hd 1 82 (by decide) (by decide)
    replace f82 : y82 = (.int .i64 n) := f82
    subst y82
    have e82 := eval_of h82
    obtain ⟨y84, h84, f84⟩ := hd 3 84 (by decide) (by decide)
    replace f84 : y84 = (.int .i64 n) := f84
    subst y84
    have e84 := eval_of h84
    refine value_ (v := (.bool true)) rfl rfl ?_ (hK _ _ rfl rfl)
    clear hG
    clear hd hs hK hoff
    clear e82
    clear e84
    go_simp
  case s5 =>
    refine ⟨_, rfl, fun b a w hG hb hoff hd hs K hK => ?_⟩
    obtain ⟨y85, h85, f85⟩ := hd 4 85 (by decide) (by decide)
    replace f85 : y85 = (.bool true) := f85
    subst y85
    have e85 := eval_of h85
    refine value_ (v := (.bool true)) rfl rfl ?_ (hK _ _ rfl rfl)
    clear hG
    clear hd hs hK hoff
    clear e85
    go_simp
  case s6 =>
    refine ⟨_, rfl, fun b a w hG hb hoff hd hs K hK => ?_⟩
    have h6 := (hs 6 (by decide)).trans z6
    have e6 := eval_of h6
    obtain ⟨y86, h86, f86⟩ := hd 5 86 (by decide) (by decide)
    replace f86 : y86 = (.bool true) := f86
    subst y86
    have e86 := eval_of h86
    refine value_ (v := (.pointer (some ⟨tb, 0, none⟩))) (wanted_on rfl rfl rfl h86) rfl ?_ (hK _ _ rfl rfl)
    clear hd hs hK hoff
    clear e6
    clear e86
    go_simp
  case s7 =>
    refine ⟨_, rfl, fun b a w hG hb hoff hd hs K hK => ?_⟩
    obtain ⟨y86, h86, f86⟩ := hd 5 86 (by decide) (by decide)
    replace f86 : y86 = (.bool true) := f86
    subst y86
    have e86 := eval_of h86
    obtain ⟨y87, h87, f87⟩ := hd 6 87 (by decide) (by decide)
    replace f87 : y87 = (.pointer (some ⟨tb, 0, none⟩)) := f87
    subst y87
    have e87 := eval_of h87
    refine goes_ Try.func65 (by kernel_rfl) rfl #[PB tb] (wanted_on rfl rfl rfl h86) rfl rfl (by simp [e87]) ?_
    refine (tmade_calls tb A n c m w (blk_below ht hG)).mono ?_
    rintro e w' ⟨rfl, rfl⟩
    exact ⟨_, rfl, hK _ _ rfl rfl⟩
  case s8 =>
    refine ⟨_, rfl, fun b a w hG hb hoff hd hs K hK => ?_⟩
    have h7 := (hs 7 (by decide)).trans z7
    have e7 := eval_of h7
    obtain ⟨y86, h86, f86⟩ := hd 5 86 (by decide) (by decide)
    replace f86 : y86 = (.bool true) := f86
    subst y86
    have e86 := eval_of h86
    refine value_ (v := (.map (some mb))) (wanted_on rfl rfl rfl h86) rfl ?_ (hK _ _ rfl rfl)
    clear hd hs hK hoff
    clear e7
    clear e86
    go_simp
  case s9 =>
    refine ⟨_, rfl, fun b a w hG hb hoff hd hs K hK => ?_⟩
    obtain ⟨y86, h86, f86⟩ := hd 5 86 (by decide) (by decide)
    replace f86 : y86 = (.bool true) := f86
    subst y86
    have e86 := eval_of h86
    obtain ⟨y89, h89, f89⟩ := hd 8 89 (by decide) (by decide)
    replace f89 : y89 = (.map (some mb)) := f89
    subst y89
    have e89 := eval_of h89
    refine value_ (v := (.int .i64 m)) (wanted_on rfl rfl rfl h86) rfl ?_ (hK _ _ rfl rfl)
    have hrun := World.ownsMap.len (hmap w hG) Try.underlying135
    have hs := hsize
    clear hG
    clear hd hs hK hoff
    clear e86
    clear e89
    go_simp
  case s10 =>
    refine ⟨_, rfl, fun b a w hG hb hoff hd hs K hK => ?_⟩
    obtain ⟨y86, h86, f86⟩ := hd 5 86 (by decide) (by decide)
    replace f86 : y86 = (.bool true) := f86
    subst y86
    have e86 := eval_of h86
    obtain ⟨y88, h88, f88⟩ := hd 7 88 (by decide) (by decide)
    replace f88 : y88 = (.int .i64 m) := f88
    subst y88
    have e88 := eval_of h88
    obtain ⟨y90, h90, f90⟩ := hd 9 90 (by decide) (by decide)
    replace f90 : y90 = (.int .i64 m) := f90
    subst y90
    have e90 := eval_of h90
    refine value_ (v := (.bool true)) (wanted_on rfl rfl rfl h86) rfl ?_ (hK _ _ rfl rfl)
    clear hG
    clear hd hs hK hoff
    clear e86
    clear e88
    clear e90
    go_simp
  case s11 =>
    refine ⟨_, rfl, fun b a w hG hb hoff hd hs K hK => ?_⟩
    obtain ⟨y86, h86, f86⟩ := hd 5 86 (by decide) (by decide)
    replace f86 : y86 = (.bool true) := f86
    subst y86
    have e86 := eval_of h86
    obtain ⟨y91, h91, f91⟩ := hd 10 91 (by decide) (by decide)
    replace f91 : y91 = (.bool true) := f91
    subst y91
    have e91 := eval_of h91
    refine value_ (v := (.bool true)) rfl rfl ?_ (hK _ _ rfl rfl)
    clear hG
    clear hd hs hK hoff
    clear e86
    clear e91
    go_simp
  case s12 =>
    refine ⟨_, rfl, fun b a w hG hb hoff hd hs K hK => ?_⟩
    obtain ⟨y92, h92, f92⟩ := hd 11 92 (by decide) (by decide)
    replace f92 : y92 = (.bool true) := f92
    subst y92
    have e92 := eval_of h92
    refine value_ (v := (.bool true)) rfl rfl ?_ (hK _ _ rfl rfl)
    clear hG
    clear hd hs hK hoff
    clear e92
    go_simp
  case s13 =>
    refine ⟨_, rfl, fun b a w hG hb hoff hd hs K hK => ?_⟩
    obtain ⟨y93, h93, f93⟩ := hd 12 93 (by decide) (by decide)
    replace f93 : y93 = (.bool true) := f93
    subst y93
    have e93 := eval_of h93
    refine goes_ Try.func55 (by kernel_rfl) rfl #[] (wanted_on rfl rfl rfl h93) rfl rfl (by simp) ?_
    refine (lives_calls w).mono ?_
    rintro e w' ⟨rfl, hb2⟩
    exact ⟨_, rfl, hK _ _ hb2 rfl⟩
  case s14 =>
    refine ⟨_, rfl, fun b a w hG hb hoff hd hs K hK => ?_⟩
    obtain ⟨y93, h93, f93⟩ := hd 12 93 (by decide) (by decide)
    replace f93 : y93 = (.bool true) := f93
    subst y93
    have e93 := eval_of h93
    obtain ⟨y94, h94, f94⟩ := hd 13 94 (by decide) (by decide)
    replace f94 : y94 = (.bool true) := f94
    subst y94
    have e94 := eval_of h94
    refine value_ (v := (.bool true)) rfl rfl ?_ (hK _ _ rfl rfl)
    clear hG
    clear hd hs hK hoff
    clear e93
    clear e94
    go_simp
  case s15 =>
    refine ⟨_, rfl, fun b a w hG hb hoff hd hs K hK => ?_⟩
    obtain ⟨y95, h95, f95⟩ := hd 14 95 (by decide) (by decide)
    replace f95 : y95 = (.bool true) := f95
    subst y95
    have e95 := eval_of h95
    refine value_ (v := (.bool true)) rfl rfl ?_ (hK _ _ rfl rfl)
    clear hG
    clear hd hs hK hoff
    clear e95
    go_simp
  case hend =>
    intro b v w hb hG hv
    have f0 := hv 0 (by decide)
    have f1 := hv 1 (by decide)
    have f2 := hv 2 (by decide)
    have f3 := hv 3 (by decide)
    have f4 := hv 4 (by decide)
    have f5 := hv 5 (by decide)
    have f6 := hv 6 (by decide)
    have f7 := hv 7 (by decide)
    have f8 := hv 8 (by decide)
    have f9 := hv 9 (by decide)
    have f10 := hv 10 (by decide)
    have f11 := hv 11 (by decide)
    have f12 := hv 12 (by decide)
    have f13 := hv 13 (by decide)
    have f14 := hv 14 (by decide)
    have f15 := hv 15 (by decide)
    have := hend w b hb hG 
    have gv0 : v 0 = (.pointer (some ⟨tb, 0, none⟩)) := f0
    have gv1 : v 1 = (.int .i64 n) := f1
    have gv2 : v 2 = (.slice Al n cl) := f2
    have gv3 : v 3 = (.int .i64 n) := f3
    have gv4 : v 4 = (.bool true) := f4
    have gv5 : v 5 = (.bool true) := f5
    have gv6 : v 6 = (.pointer (some ⟨tb, 0, none⟩)) := f6
    have gv7 : v 7 = (.int .i64 m) := f7
    have gv8 : v 8 = (.map (some mb)) := f8
    have gv9 : v 9 = (.int .i64 m) := f9
    have gv10 : v 10 = (.bool true) := f10
    have gv11 : v 11 = (.bool true) := f11
    have gv12 : v 12 = (.bool true) := f12
    have gv13 : v 13 = (.bool true) := f13
    have gv14 : v 14 = (.bool true) := f14
    have gv15 : v 15 = (.bool true) := f15
    have e : (r14x17.L.map fun e => (e.2, v e.1)) = [(81, (.pointer (some ⟨tb, 0, none⟩))), (82, (.int .i64 n)), (83, (.slice Al n cl)), (84, (.int .i64 n)), (85, (.bool true)), (86, (.bool true)), (87, (.pointer (some ⟨tb, 0, none⟩))), (88, (.int .i64 m)), (89, (.map (some mb))), (90, (.int .i64 m)), (91, (.bool true)), (92, (.bool true)), (93, (.bool true)), (94, (.bool true)), (95, (.bool true)), (4, (.bool true))] := by
      simp only [r14x17.L, List.map_cons, List.map_nil, gv0, gv1, gv2, gv3, gv4, gv5, gv6, gv7, gv8, gv9, gv10, gv11, gv12, gv13, gv14, gv15]
    rw [e]
    exact this

end Go.Proofs.Ytbjbejjieibldaa.La
