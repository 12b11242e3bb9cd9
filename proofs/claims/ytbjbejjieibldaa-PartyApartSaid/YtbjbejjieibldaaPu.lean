/- Clone: a party told anew; what a party that is nil, or that no call made, answers. -/
import Derived.Test.YtbjbejjieibldaaPt
import Derived.Laws.Externs
import Derived.MapKept
namespace Go.Proofs.Ytbjbejjieibldaa.Pa
open Go.RowKit Go.Proofs.YtbjbejjieibldaaW.PrintWords Go.Proofs.YtbjbejjieibldaaW.PrintLast Go.Proofs.YtbjbejjieibldaaW.PrintMore Go.Maps Go.Proofs.Ytbjbejjieibldaa.Rg
open Go.Proofs.Ytbjbejjieibldaa.Pl (cnt dedup mostL same_f cnt_snoc dedup_step most_dedup times_f most_f did_f hear_f)
open Go.Proofs.Ytbjbejjieibldaa
set_option linter.unusedVariables false
set_option linter.unusedSimpArgs false

/-! ### maps.Clone -/
theorem run_assert_map (w : World) (t xT k e : TypeId) (v : Value) (h : Try.prog.underlying t = some (.map k e)) : (Instr.typeAssert (.iface t v) xT t false).run Try.prog w = .ok v w := by
  simp [Instr.typeAssert, run_underlying h, go_sem, Result.andThen]
theorem run_copy_map {w : World} {r : Nat} {es : Array MapEntry} {clock : Nat} (t : TypeId) (hb : w.heap[r]? = some (.map es clock)) :
    (Extern.MapsClone.clone #[.iface t (.map (some r))]).run Try.prog w = .ok (.iface t (.map (some w.heap.size))) (w.alloc (.map es clock)) := by
  have e : Extern.MapsClone.clone #[.iface t (.map (some r))] = (getObj r >>= fun o => match o with
      | .map entries clock => (newObj (.map entries clock) >>= fun n => pure (.iface t (.map (some n))))
      | _ => stuck "maps.clone: a map expected") := rfl
  rw [e]
  simp [MapKept.run_getObj_map hb, Result.andThen, go_sem]
set_option maxHeartbeats 2000000 in
set_option maxRecDepth 100000 in
theorem copy_map (b : Nat) (es : Array MapEntry) (clock : Nat) (w : World) (hb : w.heap[b]? = some (.map es clock)) :
    Calls Try.prog 92 #[.map (some b)] w fun e w' => e = .returned (.map (some w.heap.size)) ∧ w' = w.alloc (.map es clock) := by
  have hq := fun w => run_eql_map_nil (P := Try.prog) w 98 23 3 (some b) Try.underlying98
  go_enter Try.func92, Try.ntmps92
  go_wp2
  rw [run_callFunc_extern Try.func110 (by kernel_rfl) (by kernel_rfl) (by kernel_rfl) (e := Extern.MapsClone.clone) (by kernel_rfl), run_copy_map 98 hb]
  simp only [Result.andThen]
  rw [Oper.upon_value]
  go_wp2
  rw [run_assert_map _ 98 20 _ _ _ Try.underlying98]
  simp only [Result.andThen]
  rw [Oper.upon_value]
  go_wp2
  go_ret
  exact ⟨rfl, rfl⟩
theorem copy_owns (b n : Nat) (D : DataW Unit) (w : World) (hown : w.ownsMap Try.prog 23 (plainElem Try.prog 3) b n D) :
    Calls Try.prog 92 #[.map (some b)] w fun e w' => e = .returned (.map (some w.heap.size)) ∧ w'.ownsMap Try.prog 23 (plainElem Try.prog 3) w.heap.size n D ∧ Below w.heap.size w w' := by
  have hlt := hown.lt
  obtain ⟨es, clock, hb, F, hs, hD⟩ := hown
  refine (copy_map b es clock w hb).mono fun e w' ⟨he, hw⟩ => ?_
  subst hw
  exact ⟨he, ⟨es, clock, (MapKept.heap_alloc w _).1, F, hs, hD⟩, below_alloc (Below.refl _ _) _⟩

/-! ### region 3 of function 53 -/
def r53x3.T : Bool × List (List Nat × List Nat) := (true, [([], []), ([0], [0]), ([1], [1]), ([2], [2]), ([], []), ([4], [4]), ([5], [5]), ([6], [6]), ([7], [7]), ([], []), ([9, 8], [9]), ([3, 8, 10], [3, 8, 10]), ([11], [11]), ([12, 10, 0, 1, 2, 3, 4, 5, 6, 7, 8, 9, 10, 11, 12], [12])])
def r53x3.B : List Nat := [0, 1, 3, 7, 0, 16, 48, 112, 240, 0, 1008, 2047, 4095, 8191]
def r53x3.L : List (Nat × Tmp) := [(0, 7), (1, 8), (2, 9), (3, 10), (4, 11), (5, 12), (6, 13), (7, 14), (8, 15), (9, 16), (10, 17), (11, 18), (12, 19), (13, 2)]
theorem r53x3.tab : rtab .any (opsOf Try.f53 3) = r53x3.T := by kernel_rfl
theorem r53x3.bits : waitsOk r53x3.T.2 r53x3.B = true := by kernel_rfl
theorem r53x3.base : baseOk r53x3.T.2 (List.range 14) = true := by kernel_rfl
theorem r53x3.okl : okL (opsOf Try.f53 3) r53x3.L 20 = true := by kernel_rfl
def r53x3.F (pb mb : Nat) (number : Int) (v0 : Value) (did : List Int) (times : Int → Int) (n : Nat) (D : DataW Unit) (base : Nat) (ok : Nat → Prop) (W : World) (i : Nat) : Value → World → Prop := match i with
  | 0 => fun v _ => v = (.pointer (some ⟨pb, 0, none⟩))
  | 1 => fun v _ => v = (.pointer (some ⟨pb, 0, none⟩))
  | 2 => fun v _ => v = (.pointer (some ⟨pb, 0, none⟩))
  | 3 => fun v _ => v = (.int .i64 number)
  | 4 => fun v _ => v = (.pointer (some ⟨pb, 0, none⟩))
  | 5 => fun v _ => v = (.pointer (some ⟨pb, 0, none⟩))
  | 6 => fun v _ => v = (.pointer (some ⟨pb, 1, none⟩))
  | 7 => fun v _ => v = (.map (some mb))
  | 8 => fun v w => ∃ mb2, v = .map (some mb2) ∧ W.heap.size ≤ mb2 ∧ w.ownsMap Try.prog 23 (plainElem Try.prog 3) mb2 n D
  | 9 => fun v _ => v = (.pointer (some ⟨pb, 0, none⟩))
  | 10 => fun v w => Kd.R (Kd.int .u64) 23 w W.heap.size (fun _ => True) v did
  | 11 => fun v w => ∃ mb2 A c, v = .agg #[.int .i64 number, .map (some mb2), .slice A did.length c] ∧ W.heap.size ≤ mb2 ∧ w.ownsMap Try.prog 23 (plainElem Try.prog 3) mb2 n D ∧ Kd.R (Kd.int .u64) 23 w W.heap.size (fun _ => True) (.slice A did.length c) did
  | 12 => fun v w => ∃ qb, v = .pointer (some ⟨qb, 0, none⟩) ∧ IsP w W.heap.size (fun _ => True) qb number did times n
  | 13 => fun v w => ∃ qb, v = .pointer (some ⟨qb, 0, none⟩) ∧ IsP w W.heap.size (fun _ => True) qb number did times n
  | _ => fun _ _ => True
def r53x3.St (pb mb : Nat) (number : Int) (v0 : Value) (did : List Int) (times : Int → Int) (n : Nat) (D : DataW Unit) (base : Nat) (ok : Nat → Prop) (W : World) (i : Nat) : World → World → Prop := match i with
  | 8 => fun w w' => Below w.heap.size w w'
  | 10 => fun w w' => Below w.heap.size w w'
  | 12 => fun w w' => Below w.heap.size w w'
  | _ => fun w w' => w' = w
def r53x3.G (pb mb : Nat) (number : Int) (v0 : Value) (did : List Int) (times : Int → Int) (n : Nat) (D : DataW Unit) (base : Nat) (ok : Nat → Prop) (W : World) : (Nat → Bool) → World → Prop := fun b w => Below W.heap.size W w ∧ IsP w base ok pb number did times n
set_option maxHeartbeats 4000000 in
set_option maxRecDepth 100000 in
theorem r53x3 (pb mb : Nat) (number : Int) (v0 : Value) (did : List Int) (times : Int → Int) (n : Nat) (D : DataW Unit) (base : Nat) (ok : Nat → Prop) (W : World) (hblk : ∀ w : World, Below W.heap.size W w → w.heap[pb]? = some (.cells #[.int .i64 number, .map (some mb), v0] 100 (0, 0))) (hmap : ∀ w : World, Below W.heap.size W w → w.ownsMap Try.prog 23 (plainElem Try.prog 3) mb n D) (hat : (∀ id, U id → D.atKey (.int .u64 id) (.lit (.int .i64 0)) = .lit (.int .i64 (times id))) ∧ (∀ id, 0 ≤ times id ∧ times id ≤ n) ∧ did.length ≤ n ∧ n ≤ 1000 ∧ ∀ x ∈ did, U x) {Q : Exit → Act → World → Prop} {a0 : Act} {w0 : World} (hz : a0.tmps.size = 20) (z0 : a0.tmps[0]? = some (.pointer (some ⟨pb, 0, none⟩))) (hG0 : (r53x3.G pb mb number v0 did times n D base ok W) (fun _ => false) w0.drew)
    (hend : ∀ (v15 : Value) (v17 : Value) (v18 : Value) (v19 : Value) (v2 : Value) (w : World) (b : Nat → Bool), (∀ i, i < 14 → b i = true) → (r53x3.G pb mb number v0 did times n D base ok W) b w → r53x3.F pb mb number v0 did times n D base ok W 8 v15 w → r53x3.F pb mb number v0 did times n D base ok W 10 v17 w → r53x3.F pb mb number v0 did times n D base ok W 11 v18 w → r53x3.F pb mb number v0 did times n D base ok W 12 v19 w → r53x3.F pb mb number v0 did times n D base ok W 13 v2 w → Q .normal (putAll a0 [(7, (.pointer (some ⟨pb, 0, none⟩))), (8, (.pointer (some ⟨pb, 0, none⟩))), (9, (.pointer (some ⟨pb, 0, none⟩))), (10, (.int .i64 number)), (11, (.pointer (some ⟨pb, 0, none⟩))), (12, (.pointer (some ⟨pb, 0, none⟩))), (13, (.pointer (some ⟨pb, 1, none⟩))), (14, (.map (some mb))), (15, v15), (16, (.pointer (some ⟨pb, 0, none⟩))), (17, v17), (18, v18), (19, v19), (2, v2)]) w) :
    (Code.region 3 (opsOf Try.f53 3) true).wp Try.prog Q a0 w0 := by
  refine region_lit (ops' := #[_, _, _, _, _, _, _, _, _, _, _, _, _, _]) rfl ?_
  refine region_facts (n := 14) (T := r53x3.T) (B := r53x3.B) r53x3.L (r53x3.G pb mb number v0 did times n D base ok W) (r53x3.St pb mb number v0 did times n D base ok W) (r53x3.F pb mb number v0 did times n D base ok W) (by kernel_rfl) (by kernel_rfl) r53x3.tab r53x3.bits r53x3.base (by rw [hz]; exact r53x3.okl) hG0 ?hSt ?hF ((all_cons ?s0 (all_cons ?s1 (all_cons ?s2 (all_cons ?s3 (all_cons ?s4 (all_cons ?s5 (all_cons ?s6 (all_cons ?s7 (all_cons ?s8 (all_cons ?s9 (all_cons ?s10 (all_cons ?s11 (all_cons ?s12 (all_cons ?s13 all_nil))))))))))))))) ?hend
  case hSt =>
    intro i b w w' hi hb hoff hG hst
    match i, hi, hb, hoff, hst with
    | 0, _, hb, hoff, hst =>
      obtain rfl : w' = w := hst
      exact hG
    | 1, _, hb, hoff, hst =>
      obtain rfl : w' = w := hst
      exact hG
    | 2, _, hb, hoff, hst =>
      obtain rfl : w' = w := hst
      exact hG
    | 3, _, hb, hoff, hst =>
      obtain rfl : w' = w := hst
      exact hG
    | 4, _, hb, hoff, hst =>
      obtain rfl : w' = w := hst
      exact hG
    | 5, _, hb, hoff, hst =>
      obtain rfl : w' = w := hst
      exact hG
    | 6, _, hb, hoff, hst =>
      obtain rfl : w' = w := hst
      exact hG
    | 7, _, hb, hoff, hst =>
      obtain rfl : w' = w := hst
      exact hG
    | 8, _, hb, hoff, hst =>
      obtain ⟨g1, g2⟩ := hG
      have hst' : Below w.heap.size w w' := hst
      exact ⟨below_then g1 g1.size hst', g2.below hst'⟩
    | 9, _, hb, hoff, hst =>
      obtain rfl : w' = w := hst
      exact hG
    | 10, _, hb, hoff, hst =>
      obtain ⟨g1, g2⟩ := hG
      have hst' : Below w.heap.size w w' := hst
      exact ⟨below_then g1 g1.size hst', g2.below hst'⟩
    | 11, _, hb, hoff, hst =>
      obtain rfl : w' = w := hst
      exact hG
    | 12, _, hb, hoff, hst =>
      obtain ⟨g1, g2⟩ := hG
      have hst' : Below w.heap.size w w' := hst
      exact ⟨below_then g1 g1.size hst', g2.below hst'⟩
    | 13, _, hb, hoff, hst =>
      obtain rfl : w' = w := hst
      exact hG
    | i + 14, hi, _, _, _ => exact absurd hi (by omega)
  case hF =>
    intro i j b v w w' hij hi hj hb hbj hoff hG hst hf
    match i, hi, hij, hb, hoff, hst with
    | 0, _, hij, hb, hoff, hst =>
      obtain rfl : w' = w := hst
      exact hf
    | 1, _, hij, hb, hoff, hst =>
      obtain rfl : w' = w := hst
      exact hf
    | 2, _, hij, hb, hoff, hst =>
      obtain rfl : w' = w := hst
      exact hf
    | 3, _, hij, hb, hoff, hst =>
      obtain rfl : w' = w := hst
      exact hf
    | 4, _, hij, hb, hoff, hst =>
      obtain rfl : w' = w := hst
      exact hf
    | 5, _, hij, hb, hoff, hst =>
      obtain rfl : w' = w := hst
      exact hf
    | 6, _, hij, hb, hoff, hst =>
      obtain rfl : w' = w := hst
      exact hf
    | 7, _, hij, hb, hoff, hst =>
      obtain rfl : w' = w := hst
      exact hf
    | 8, _, hij, hb, hoff, hst =>
      match j, hj, hij, hbj, hf with
      | 0, _, hij, hbj, hf => 
        exact hf
      | 1, _, hij, hbj, hf => 
        exact hf
      | 2, _, hij, hbj, hf => 
        exact hf
      | 3, _, hij, hbj, hf => 
        exact hf
      | 4, _, hij, hbj, hf => 
        exact hf
      | 5, _, hij, hbj, hf => 
        exact hf
      | 6, _, hij, hbj, hf => 
        exact hf
      | 7, _, hij, hbj, hf => 
        exact hf
      | 8, _, hij, hbj, hf => exact absurd rfl hij
      | 9, _, hij, hbj, hf => 
        exact hf
      | 10, _, hij, hbj, hf => exact absurd hbj (by rw [hoff 10 (by decide) (by decide)]; decide)
      | 11, _, hij, hbj, hf => exact absurd hbj (by rw [hoff 11 (by decide) (by decide)]; decide)
      | 12, _, hij, hbj, hf => exact absurd hbj (by rw [hoff 12 (by decide) (by decide)]; decide)
      | 13, _, hij, hbj, hf => exact absurd hbj (by rw [hoff 13 (by decide) (by decide)]; decide)
      | j + 14, hj, _, _, _ => exact absurd hj (by omega)
    | 9, _, hij, hb, hoff, hst =>
      obtain rfl : w' = w := hst
      exact hf
    | 10, _, hij, hb, hoff, hst =>
      match j, hj, hij, hbj, hf with
      | 0, _, hij, hbj, hf => 
        exact hf
      | 1, _, hij, hbj, hf => 
        exact hf
      | 2, _, hij, hbj, hf => 
        exact hf
      | 3, _, hij, hbj, hf => 
        exact hf
      | 4, _, hij, hbj, hf => 
        exact hf
      | 5, _, hij, hbj, hf => 
        exact hf
      | 6, _, hij, hbj, hf => 
        exact hf
      | 7, _, hij, hbj, hf => 
        exact hf
      | 8, _, hij, hbj, hf => 
        obtain ⟨mb2, a, b2, c2⟩ := hf
        exact ⟨mb2, a, b2, map_kept c2 (Kept.of_below (show Below w.heap.size w w' from hst) (fun _ => False)) (fun h => h)⟩
      | 9, _, hij, hbj, hf => 
        exact hf
      | 10, _, hij, hbj, hf => exact absurd rfl hij
      | 11, _, hij, hbj, hf => exact absurd hbj (by rw [hoff 11 (by decide) (by decide)]; decide)
      | 12, _, hij, hbj, hf => exact absurd hbj (by rw [hoff 12 (by decide) (by decide)]; decide)
      | 13, _, hij, hbj, hf => exact absurd hbj (by rw [hoff 13 (by decide) (by decide)]; decide)
      | j + 14, hj, _, _, _ => exact absurd hj (by omega)
    | 11, _, hij, hb, hoff, hst =>
      obtain rfl : w' = w := hst
      exact hf
    | 12, _, hij, hb, hoff, hst =>
      match j, hj, hij, hbj, hf with
      | 0, _, hij, hbj, hf => 
        exact hf
      | 1, _, hij, hbj, hf => 
        exact hf
      | 2, _, hij, hbj, hf => 
        exact hf
      | 3, _, hij, hbj, hf => 
        exact hf
      | 4, _, hij, hbj, hf => 
        exact hf
      | 5, _, hij, hbj, hf => 
        exact hf
      | 6, _, hij, hbj, hf => 
        exact hf
      | 7, _, hij, hbj, hf => 
        exact hf
      | 8, _, hij, hbj, hf => 
        obtain ⟨mb2, a, b2, c2⟩ := hf
        exact ⟨mb2, a, b2, map_kept c2 (Kept.of_below (show Below w.heap.size w w' from hst) (fun _ => False)) (fun h => h)⟩
      | 9, _, hij, hbj, hf => 
        exact hf
      | 10, _, hij, hbj, hf => 
        exact Kd.R_below hf (show Below w.heap.size w w' from hst)
      | 11, _, hij, hbj, hf => 
        obtain ⟨mb2, A, c, a, b2, c2, d2⟩ := hf
        exact ⟨mb2, A, c, a, b2, map_kept c2 (Kept.of_below (show Below w.heap.size w w' from hst) (fun _ => False)) (fun h => h), Kd.R_below d2 (show Below w.heap.size w w' from hst)⟩
      | 12, _, hij, hbj, hf => exact absurd rfl hij
      | 13, _, hij, hbj, hf => exact absurd hbj (by rw [hoff 13 (by decide) (by decide)]; decide)
      | j + 14, hj, _, _, _ => exact absurd hj (by omega)
    | 13, _, hij, hb, hoff, hst =>
      obtain rfl : w' = w := hst
      exact hf
    | i + 14, hi, _, _, _, _ => exact absurd hi (by omega)
  case s0 =>
    refine ⟨_, rfl, fun b a w hG hb hoff hd hs K hK => ?_⟩
    have h0 := (hs 0 (by decide)).trans z0
    have e0 := eval_of h0
    refine value_ (v := (.pointer (some ⟨pb, 0, none⟩))) rfl rfl ?_ (hK _ _ rfl rfl)
    clear hd hs hK hoff
    clear e0
    go_simp
  case s1 =>
    refine ⟨_, rfl, fun b a w hG hb hoff hd hs K hK => ?_⟩
    obtain ⟨y7, h7, f7⟩ := hd 0 7 (by decide) (by decide)
    replace f7 : y7 = (.pointer (some ⟨pb, 0, none⟩)) := f7
    subst y7
    have e7 := eval_of h7
    refine value_ (v := (.pointer (some ⟨pb, 0, none⟩))) rfl rfl ?_ (hK _ _ rfl rfl)
    clear hd hs hK hoff
    clear e7
    go_simp
  case s2 =>
    refine ⟨_, rfl, fun b a w hG hb hoff hd hs K hK => ?_⟩
    obtain ⟨y8, h8, f8⟩ := hd 1 8 (by decide) (by decide)
    replace f8 : y8 = (.pointer (some ⟨pb, 0, none⟩)) := f8
    subst y8
    have e8 := eval_of h8
    refine value_ (v := (.pointer (some ⟨pb, 0, none⟩))) rfl rfl ?_ (hK _ _ rfl rfl)
    clear hd hs hK hoff
    clear e8
    go_simp
  case s3 =>
    refine ⟨_, rfl, fun b a w hG hb hoff hd hs K hK => ?_⟩
    obtain ⟨y9, h9, f9⟩ := hd 2 9 (by decide) (by decide)
    replace f9 : y9 = (.pointer (some ⟨pb, 0, none⟩)) := f9
    subst y9
    have e9 := eval_of h9
    refine value_ (v := (.int .i64 number)) rfl rfl ?_ (hK _ _ rfl rfl)
    have hc := (blk_cell (hblk w hG.1) 0).trans rfl
    clear hG
    clear hd hs hK hoff
    clear e9
    go_simp
  case s4 =>
    refine ⟨_, rfl, fun b a w hG hb hoff hd hs K hK => ?_⟩
    have h0 := (hs 0 (by decide)).trans z0
    have e0 := eval_of h0
    refine value_ (v := (.pointer (some ⟨pb, 0, none⟩))) rfl rfl ?_ (hK _ _ rfl rfl)
    clear hd hs hK hoff
    clear e0
    go_simp
  case s5 =>
    refine ⟨_, rfl, fun b a w hG hb hoff hd hs K hK => ?_⟩
    obtain ⟨y11, h11, f11⟩ := hd 4 11 (by decide) (by decide)
    replace f11 : y11 = (.pointer (some ⟨pb, 0, none⟩)) := f11
    subst y11
    have e11 := eval_of h11
    refine value_ (v := (.pointer (some ⟨pb, 0, none⟩))) rfl rfl ?_ (hK _ _ rfl rfl)
    clear hd hs hK hoff
    clear e11
    go_simp
  case s6 =>
    refine ⟨_, rfl, fun b a w hG hb hoff hd hs K hK => ?_⟩
    obtain ⟨y12, h12, f12⟩ := hd 5 12 (by decide) (by decide)
    replace f12 : y12 = (.pointer (some ⟨pb, 0, none⟩)) := f12
    subst y12
    have e12 := eval_of h12
    refine value_ (v := (.pointer (some ⟨pb, 1, none⟩))) rfl rfl ?_ (hK _ _ rfl rfl)
    clear hd hs hK hoff
    clear e12
    go_simp
  case s7 =>
    refine ⟨_, rfl, fun b a w hG hb hoff hd hs K hK => ?_⟩
    obtain ⟨y13, h13, f13⟩ := hd 6 13 (by decide) (by decide)
    replace f13 : y13 = (.pointer (some ⟨pb, 1, none⟩)) := f13
    subst y13
    have e13 := eval_of h13
    refine value_ (v := (.map (some mb))) rfl rfl ?_ (hK _ _ rfl rfl)
    have hc := (blk_cell (hblk w hG.1) 1).trans rfl
    clear hG
    clear hd hs hK hoff
    clear e13
    go_simp
  case s8 =>
    refine ⟨_, rfl, fun b a w hG hb hoff hd hs K hK => ?_⟩
    obtain ⟨y14, h14, f14⟩ := hd 7 14 (by decide) (by decide)
    replace f14 : y14 = (.map (some mb)) := f14
    subst y14
    have e14 := eval_of h14
    obtain ⟨g1, g2⟩ := hG
    refine goes_ Try.func92 (by kernel_rfl) rfl #[.map (some mb)] rfl rfl rfl (by simp [e14]) ?_
    refine (copy_owns mb n D w (hmap w g1)).mono ?_
    rintro e w' ⟨rfl, hm, hb2⟩
    exact ⟨_, rfl, hK _ _ hb2 ⟨_, rfl, g1.size, hm⟩⟩
  case s9 =>
    refine ⟨_, rfl, fun b a w hG hb hoff hd hs K hK => ?_⟩
    have h0 := (hs 0 (by decide)).trans z0
    have e0 := eval_of h0
    refine value_ (v := (.pointer (some ⟨pb, 0, none⟩))) rfl rfl ?_ (hK _ _ rfl rfl)
    clear hd hs hK hoff
    clear e0
    go_simp
  case s10 =>
    refine ⟨_, rfl, fun b a w hG hb hoff hd hs K hK => ?_⟩
    obtain ⟨y16, h16, f16⟩ := hd 9 16 (by decide) (by decide)
    replace f16 : y16 = (.pointer (some ⟨pb, 0, none⟩)) := f16
    subst y16
    have e16 := eval_of h16
    obtain ⟨g1, g2⟩ := hG
    refine goes_ Try.func25 (by kernel_rfl) rfl #[.pointer (some ⟨pb, 0, none⟩)] rfl rfl rfl (by simp [e16]) ?_
    refine (did_calls w g2).mono ?_
    rintro e w' ⟨v, rfl, ho, hb2⟩
    exact ⟨_, rfl, hK _ _ hb2 (Kd.R_lower ho g1.size)⟩
  case s11 =>
    refine ⟨_, rfl, fun b a w hG hb hoff hd hs K hK => ?_⟩
    obtain ⟨y10, h10, f10⟩ := hd 3 10 (by decide) (by decide)
    replace f10 : y10 = (.int .i64 number) := f10
    subst y10
    have e10 := eval_of h10
    obtain ⟨v15, h15, f15⟩ := hd 8 15 (by decide) (by decide)
    have e15 := eval_of h15
    obtain ⟨v17, h17, f17⟩ := hd 10 17 (by decide) (by decide)
    have e17 := eval_of h17
    obtain ⟨mb2, hv, hmb, hm⟩ := f15
    subst hv
    obtain ⟨A, c, hv⟩ := Kd.R_slice f17
    subst hv
    refine value_ (v := .agg #[.int .i64 number, .map (some mb2), .slice A did.length c]) rfl rfl ?_ (hK _ _ rfl ⟨mb2, A, c, rfl, hmb, hm, f17⟩)
    clear hd hs hK hoff hG hm f17
    go_simp
  case s12 =>
    refine ⟨_, rfl, fun b a w hG hb hoff hd hs K hK => ?_⟩
    obtain ⟨v18, h18, f18⟩ := hd 11 18 (by decide) (by decide)
    have e18 := eval_of h18
    obtain ⟨g1, g2⟩ := hG
    obtain ⟨mb2, A, c, hv, hmb, hm, ho⟩ := f18
    subst hv
    refine value_ (v := .pointer (some ⟨w.heap.size, 0, none⟩)) (w1 := w.alloc (.cells #[.int .i64 number, .map (some mb2), .slice A did.length c] 100)) rfl rfl ?_ (hK _ _ (below_alloc (Below.refl _ _) _) ⟨_, rfl, mb2, .slice A did.length c, D, blk_new _ _, ⟨g1.size, trivial⟩, ⟨hmb, trivial⟩, hm.alloc _, ?_, hat⟩)
    · clear hd hs hK hoff g1 g2 hm ho
      go_simp
    · exact Kd.R_mono (Kd.R_below (Kd.R_bound ho) (below_alloc (Below.refl _ _) _)) (fun k hk => ⟨trivial, by have := hk.2.2.1; omega⟩)
  case s13 =>
    refine ⟨_, rfl, fun b a w hG hb hoff hd hs K hK => ?_⟩
    obtain ⟨v19, h19, f19⟩ := hd 12 19 (by decide) (by decide)
    have e19 := eval_of h19
    obtain ⟨qb, hv, hp⟩ := f19
    subst hv
    refine value_ (v := .pointer (some ⟨qb, 0, none⟩)) rfl rfl ?_ (hK _ _ rfl ⟨qb, rfl, hp⟩)
    clear hd hs hK hoff hG hp
    go_simp
  case hend =>
    intro b v w hb hG hv
    have f0 := hv 0 (by decide)
    have f1 := hv 1 (by decide)
    have f2 := hv 2 (by decide)
    have f3 := hv 3 (by decide)
    have f4 := hv 4 (by decide)
    have f5 := hv 5 (by decide)
    have f6 := hv 6 (by decide)
    have f7 := hv 7 (by decide)
    have f8 := hv 8 (by decide)
    have f9 := hv 9 (by decide)
    have f10 := hv 10 (by decide)
    have f11 := hv 11 (by decide)
    have f12 := hv 12 (by decide)
    have f13 := hv 13 (by decide)
    have := hend (v 8) (v 10) (v 11) (v 12) (v 13) w b hb hG f8 f10 f11 f12 f13
    have gv0 : v 0 = (.pointer (some ⟨pb, 0, none⟩)) := f0
    have gv1 : v 1 = (.pointer (some ⟨pb, 0, none⟩)) := f1
    have gv2 : v 2 = (.pointer (some ⟨pb, 0, none⟩)) := f2
    have gv3 : v 3 = (.int .i64 number) := f3
    have gv4 : v 4 = (.pointer (some ⟨pb, 0, none⟩)) := f4
    have gv5 : v 5 = (.pointer (some ⟨pb, 0, none⟩)) := f5
    have gv6 : v 6 = (.pointer (some ⟨pb, 1, none⟩)) := f6
    have gv7 : v 7 = (.map (some mb)) := f7
    have gv9 : v 9 = (.pointer (some ⟨pb, 0, none⟩)) := f9
    have e : (r53x3.L.map fun e => (e.2, v e.1)) = [(7, (.pointer (some ⟨pb, 0, none⟩))), (8, (.pointer (some ⟨pb, 0, none⟩))), (9, (.pointer (some ⟨pb, 0, none⟩))), (10, (.int .i64 number)), (11, (.pointer (some ⟨pb, 0, none⟩))), (12, (.pointer (some ⟨pb, 0, none⟩))), (13, (.pointer (some ⟨pb, 1, none⟩))), (14, (.map (some mb))), (15, v 8), (16, (.pointer (some ⟨pb, 0, none⟩))), (17, v 10), (18, v 11), (19, v 12), (2, v 13)] := by
      simp only [r53x3.L, List.map_cons, List.map_nil, gv0, gv1, gv2, gv3, gv4, gv5, gv6, gv7, gv9]
    rw [e]
    exact this

section
variable {base : Nat} {ok : Nat → Prop} {pb : Nat} {number : Int} {did : List Int} {times : Int → Int} {n : Nat}
theorem clone_party (w : World) (h : IsP w base ok pb number did times n) :
    Calls Try.prog 53 #[.pointer (some ⟨pb, 0, none⟩)] w fun e w' => ∃ qb, e = .returned (.pointer (some ⟨qb, 0, none⟩)) ∧ IsP w' w.heap.size (fun _ => True) qb number did times n ∧ Below w.heap.size w w' := by
  have H := Aside0.mk h
  obtain ⟨mb, v, D, h1, h2, h3, h4, h5, h6⟩ := h
  have H1 := Aside0.mk h1
  have H4 := Aside0.mk h4
  have H6 := Aside0.mk h6
  clear h1 h2 h3 h4 h5 h6
  go_enter Try.func53, Try.ntmps53
  go_wp2_with (go_at_call 75; refine (none_some pb mb number v _ H1.out).mono ?_; rintro e w' ⟨rfl, rfl⟩)
  refine r53x3 pb mb number v did times n D base ok w (fun w' hb => blk_below H1.out hb) (fun w' hb => map_kept H4.out (Kept.of_below hb (fun _ => False)) (fun h => h)) H6.out rfl rfl ⟨below_drew (Below.refl _ _), H.out.below (below_drew (Below.refl _ _))⟩ (fun v15 v17 v18 v19 v2 w2 b hb hG f15 f17 f18 f19 f2 => ?_)
  obtain ⟨qb, hv, hp⟩ := f2
  have HP := Aside0.mk hp
  have HG := Aside0.mk hG.1
  subst hv
  clear hp hG f15 f17 f18 f19 hb
  simp only [putAll, Act.put, List.setIfInBounds_toArray, List.set_cons_zero, List.set_cons_succ]
  go_wp2
  go_ret
  exact ⟨qb, rfl, HP.out, HG.out⟩
end
theorem cloneH {w : World} {base : Nat} {ok : Nat → Prop} {pb : Nat} {number : Int} {l : List Int} (h : Heard w base ok pb number l) :
    Calls Try.prog 53 #[.pointer (some ⟨pb, 0, none⟩)] w fun e w' => ∃ qb, e = .returned (.pointer (some ⟨qb, 0, none⟩)) ∧ Heard w' w.heap.size (fun _ => True) qb number l ∧ Below w.heap.size w w' := clone_party w h

/-! ### a party that is nil, or that no call made -/
def NoParty (p : Option Addr) (w : World) : Prop := p = none ∨ ∃ qb, p = some ⟨qb, 0, none⟩ ∧ ∃ number v, w.heap[qb]? = some (.cells #[.int .i64 number, .map none, v] 100 (0, 0))
theorem NoParty.below {p : Option Addr} {w w' : World} (h : NoParty p w) (hb : Below w.heap.size w w') : NoParty p w' := by
  rcases h with h | ⟨qb, h, number, v, hc⟩
  · exact .inl h
  · exact .inr ⟨qb, h, number, v, blk_below hc hb⟩
theorem NoParty.none_ {p : Option Addr} {w : World} (h : NoParty p w) : Calls Try.prog 75 #[.pointer p] w fun e w' => e = .returned (.bool true) ∧ w = w' := by
  rcases h with h | ⟨qb, h, number, v, hc⟩
  · subst h; exact none_nil w
  · subst h; exact none_zero qb number v w hc
theorem NoParty.times {p : Option Addr} {w : World} (h : NoParty p w) (id : Int) : Calls Try.prog 21 #[.pointer p, .int .u64 id] w fun e w' => e = .returned (.int .i64 0) ∧ w = w' := by
  rcases h with h | ⟨qb, h, number, v, hc⟩
  · subst h; exact times_nil id w
  · subst h; exact times_zero qb number id v w hc
theorem NoParty.did {p : Option Addr} {w : World} (h : NoParty p w) : Calls Try.prog 25 #[.pointer p] w fun e w' => e = .returned (.slice none 0 0) ∧ w = w' := by
  have H := Aside0.mk h
  clear h
  go_enter Try.func25, Try.ntmps25
  go_wp2_with (go_at_call 75; refine (H.out.none_).mono ?_; rintro e w' ⟨rfl, rfl⟩)
  go_ret
  exact ⟨rfl, rfl⟩
theorem NoParty.most {p : Option Addr} {w : World} (h : NoParty p w) : Calls Try.prog 54 #[.pointer p] w fun e w' => e = .returned (.int .i64 0) ∧ Below w.heap.size w w' := by
  have H := Aside0.mk h
  clear h
  go_enter Try.func54, Try.ntmps54
  go_wp2_with (go_at_call 25; refine (NoParty.did H.out).mono ?_; rintro e w' ⟨rfl, rfl⟩)
  go_loopw [2, 8] (fun m i wr => m = .int .i64 0 ∧ i = .int .i64 0 ∧ Aside0 (Below w.heap.size w wr)) (fun _ _ _ => 0)
  case atStart => exact ⟨rfl, rfl, ⟨by repeat (first | exact Below.refl _ _ | refine pw_below_drewN ?_ _ | refine below_drew ?_)⟩⟩
  case round =>
    obtain ⟨rfl, rfl, HB⟩ := hrel
    go_wp2
    go_ret
    exact ⟨rfl, HB.out⟩
theorem NoParty.clone {p : Option Addr} {w : World} (h : NoParty p w) : Calls Try.prog 53 #[.pointer p] w fun e w' => ∃ qb, e = .returned (.pointer (some ⟨qb, 0, none⟩)) ∧ w'.heap[qb]? = some (.cells #[.int .i64 0, .map none, .slice none 0 0] 100 (0, 0)) ∧ Below w.heap.size w w' := by
  have H := Aside0.mk h
  clear h
  go_enter Try.func53, Try.ntmps53
  go_wp2_with (go_at_call 75; refine (H.out.none_).mono ?_; rintro e w' ⟨rfl, rfl⟩)
  go_ret
  exact ⟨_, rfl, blk_new _ _, below_alloc (Below.refl _ _) _⟩
set_option maxHeartbeats 1000000 in
set_option maxRecDepth 100000 in
theorem NoParty.hear {p : Option Addr} {w : World} (h : NoParty p w) (id ticket level party state tries retry wait next : Int) :
    Calls Try.prog 23 #[.pointer p, NV id ticket level party state tries retry wait next] w fun e w' => e = .returned (.tuple #[.bool false, .int .i64 1]) ∧ Below w.heap.size w w' := by
  have hu := Try.underlying31
  have H := Aside0.mk h
  clear h
  go_enter Try.func23, Try.ntmps23
  go_wp2_with (first
    | ((with_reducible refine gate_dst (N := 3) rfl ?_); refine box_event ?hg (N := 3) ?hd (cs := #[.int .u64 id, .int .u64 ticket, .int .i64 level, .int .i64 party, .int .i64 state, .int .i64 tries, .int .i64 retry, .int .i64 wait, .int .i64 next]) (t := 31) ?hr ?_; (case hd => rfl); (case hg => rfl); (case hr => first | (go_simp; done) | (go_simp; rfl)); intro gb hg w1 hbox hb; have HB1 := Aside0.mk hb; clear hbox hb hg)
    | (go_at_call 75; refine ((H.out.below HB1.out).none_).mono ?_; rintro e w' ⟨rfl, rfl⟩))
  go_ret2
  exact ⟨rfl, HB1.out⟩

end Go.Proofs.Ytbjbejjieibldaa.Pa
