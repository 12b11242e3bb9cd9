/- PartyPlays: the comparison at the end of a round. -/
import Derived.Test.YtbjbejjieibldaaPf
namespace Go.Proofs.Ytbjbejjieibldaa.Pa
open Go.RowKit Go.Proofs.YtbjbejjieibldaaW.PrintWords Go.Proofs.YtbjbejjieibldaaW.PrintLast Go.Proofs.YtbjbejjieibldaaW.PrintMore Go.Maps Go.Proofs.Ytbjbejjieibldaa.Rg
open Go.Proofs.Ytbjbejjieibldaa.Pl (cnt dedup mostL same_f cnt_snoc dedup_step most_dedup times_f most_f did_f)
open Go.Proofs.Ytbjbejjieibldaa
set_option linter.unusedVariables false
set_option linter.unusedSimpArgs false

/-! ### region 14 of function 3 -/
def r3x14.T : Bool × List (List Nat × List Nat) := (true, [([], []), ([0], [0]), ([1], [1]), ([2], [2]), ([2], [2]), ([3, 4, 2, 2], [2, 3, 4]), ([2], [2]), ([2], [2]), ([6, 7, 5, 2], [2, 6, 7]), ([5, 8, 2], [2, 5, 8]), ([2, 9], [2, 9])])
def r3x14.B : List Nat := [0, 1, 3, 7, 7, 31, 7, 7, 255, 511, 1023]
def r3x14.L : List (Nat × Tmp) := [(0, 48), (1, 49), (2, 50), (3, 51), (4, 52), (5, 53), (6, 54), (7, 55), (8, 56), (9, 57), (10, 58)]
theorem r3x14.tab : rtab .any (opsOf Try.f3 14) = r3x14.T := by kernel_rfl
theorem r3x14.bits : waitsOk r3x14.T.2 r3x14.B = true := by kernel_rfl
theorem r3x14.base : baseOk r3x14.T.2 (List.range 11) = true := by kernel_rfl
theorem r3x14.okl : okL (opsOf Try.f3 14) r3x14.L 61 = true := by kernel_rfl
def r3x14.F (pb xb : Nat) (number id : Int) (A : Option Addr) (c : Nat) (l : List Int) (base : Nat) (W : World) (i : Nat) : Value → World → Prop := match i with
  | 0 => fun v _ => v = (.bool true)
  | 1 => fun v _ => v = (.bool false)
  | 2 => fun v _ => v = (.bool false)
  | 3 => fun v _ => v = (.pointer (some ⟨pb, 0, none⟩))
  | 4 => fun v _ => v = (.int .u64 id)
  | 5 => fun v _ => v = (.int .i64 (cnt l id))
  | 6 => fun v _ => v = (.agg #[.int .i64 number, .slice A l.length c])
  | 7 => fun v _ => v = (.int .u64 id)
  | 8 => fun v _ => v = (.int .i64 (cnt l id))
  | 9 => fun v _ => v = (.bool false)
  | 10 => fun v _ => v = (.bool false)
  | _ => fun _ _ => True
def r3x14.St (pb xb : Nat) (number id : Int) (A : Option Addr) (c : Nat) (l : List Int) (base : Nat) (W : World) (i : Nat) : World → World → Prop := match i with
  | 8 => fun w w' => Below w.heap.size w w'
  | _ => fun w w' => w' = w
def r3x14.G (pb xb : Nat) (number id : Int) (A : Option Addr) (c : Nat) (l : List Int) (base : Nat) (W : World) : (Nat → Bool) → World → Prop := fun b w => Below W.heap.size W w ∧ Below base W w ∧ True ∧ w.heap[xb]? = some (.cells #[.int .i64 number, .slice A l.length c] 29 (0, 0))
set_option maxHeartbeats 4000000 in
set_option maxRecDepth 100000 in
theorem r3x14 (pb xb : Nat) (number id : Int) (A : Option Addr) (c : Nat) (l : List Int) (base : Nat) (W : World) {ok1 : Nat → Prop} {base1 : Nat} (hid : U id) (hl : l.length < 1000) (hbase0 : base ≤ W.heap.size) (hP : ∀ w, Below W.heap.size W w → Heard w base1 ok1 pb number l) (hR : ∀ w, Below W.heap.size W w → l.length = l.length ∧ l.length ≤ c ∧ (Kd.int .u64).C w A l.length l) {Q : Exit → Act → World → Prop} {a0 : Act} {w0 : World} (hz : a0.tmps.size = 61) (z2 : a0.tmps[2]? = some (.int .u64 id)) (z7 : a0.tmps[7]? = some (.pointer (some ⟨pb, 0, none⟩))) (z8 : a0.tmps[8]? = some (.pointer (some ⟨xb, 0, none⟩))) (z12 : a0.tmps[12]? = some (.bool true)) (hG0 : (r3x14.G pb xb number id A c l base W) (fun _ => false) w0.drew)
    (hend : ∀ (w : World) (b : Nat → Bool), (∀ i, i < 11 → b i = true) → (r3x14.G pb xb number id A c l base W) b w → Q .normal (putAll a0 [(48, (.bool true)), (49, (.bool false)), (50, (.bool false)), (51, (.pointer (some ⟨pb, 0, none⟩))), (52, (.int .u64 id)), (53, (.int .i64 (cnt l id))), (54, (.agg #[.int .i64 number, .slice A l.length c])), (55, (.int .u64 id)), (56, (.int .i64 (cnt l id))), (57, (.bool false)), (58, (.bool false))]) w) :
    (Code.region 14 (opsOf Try.f3 14) true).wp Try.prog Q a0 w0 := by
  refine region_lit (ops' := #[_, _, _, _, _, _, _, _, _, _, _]) rfl ?_
  refine region_facts (n := 11) (T := r3x14.T) (B := r3x14.B) r3x14.L (r3x14.G pb xb number id A c l base W) (r3x14.St pb xb number id A c l base W) (r3x14.F pb xb number id A c l base W) (by kernel_rfl) (by kernel_rfl) r3x14.tab r3x14.bits r3x14.base (by rw [hz]; exact r3x14.okl) hG0 ?hSt ?hF ((all_cons ?s0 (all_cons ?s1 (all_cons ?s2 (all_cons ?s3 (all_cons ?s4 (all_cons ?s5 (all_cons ?s6 (all_cons ?s7 (all_cons ?s8 (all_cons ?s9 (all_cons ?s10 all_nil)))))))))))) ?hend
  case hSt =>
    intro i b w w' hi hb hoff hG hst
    match i, hi, hb, hoff, hst with
    | 0, _, hb, hoff, hst =>
      obtain rfl : w' = w := hst
      exact hG
    | 1, _, hb, hoff, hst =>
      obtain rfl : w' = w := hst
      exact hG
    | 2, _, hb, hoff, hst =>
      obtain rfl : w' = w := hst
      exact hG
    | 3, _, hb, hoff, hst =>
      obtain rfl : w' = w := hst
      exact hG
    | 4, _, hb, hoff, hst =>
      obtain rfl : w' = w := hst
      exact hG
    | 5, _, hb, hoff, hst =>
      obtain rfl : w' = w := hst
      exact hG
    | 6, _, hb, hoff, hst =>
      obtain rfl : w' = w := hst
      exact hG
    | 7, _, hb, hoff, hst =>
      obtain rfl : w' = w := hst
      exact hG
    | 8, _, hb, hoff, hst =>
      obtain ⟨h1, h2, h3, h4⟩ := hG
      have hst' : Below w.heap.size w w' := hst
      exact ⟨below_then h1 h1.size hst', below_then h2 (Nat.le_trans hbase0 h1.size) hst', trivial, blk_below h4 hst'⟩
    | 9, _, hb, hoff, hst =>
      obtain rfl : w' = w := hst
      exact hG
    | 10, _, hb, hoff, hst =>
      obtain rfl : w' = w := hst
      exact hG
    | i + 11, hi, _, _, _ => exact absurd hi (by omega)
  case hF =>
    intro i j b v w w' hij hi hj hb hbj hoff hG hst hf
    match i, hi, hij, hb, hoff, hst with
    | 0, _, hij, hb, hoff, hst =>
      obtain rfl : w' = w := hst
      exact hf
    | 1, _, hij, hb, hoff, hst =>
      obtain rfl : w' = w := hst
      exact hf
    | 2, _, hij, hb, hoff, hst =>
      obtain rfl : w' = w := hst
      exact hf
    | 3, _, hij, hb, hoff, hst =>
      obtain rfl : w' = w := hst
      exact hf
    | 4, _, hij, hb, hoff, hst =>
      obtain rfl : w' = w := hst
      exact hf
    | 5, _, hij, hb, hoff, hst =>
      obtain rfl : w' = w := hst
      exact hf
    | 6, _, hij, hb, hoff, hst =>
      obtain rfl : w' = w := hst
      exact hf
    | 7, _, hij, hb, hoff, hst =>
      obtain rfl : w' = w := hst
      exact hf
    | 8, _, hij, hb, hoff, hst =>
      match j, hj, hij, hbj, hf with
      | 0, _, hij, hbj, hf => 
        exact hf
      | 1, _, hij, hbj, hf => 
        exact hf
      | 2, _, hij, hbj, hf => 
        exact hf
      | 3, _, hij, hbj, hf => 
        exact hf
      | 4, _, hij, hbj, hf => 
        exact hf
      | 5, _, hij, hbj, hf => 
        exact hf
      | 6, _, hij, hbj, hf => 
        exact hf
      | 7, _, hij, hbj, hf => 
        exact hf
      | 8, _, hij, hbj, hf => exact absurd rfl hij
      | 9, _, hij, hbj, hf => exact absurd hbj (by rw [hoff 9 (by decide) (by decide)]; decide)
      | 10, _, hij, hbj, hf => exact absurd hbj (by rw [hoff 10 (by decide) (by decide)]; decide)
      | j + 11, hj, _, _, _ => exact absurd hj (by omega)
    | 9, _, hij, hb, hoff, hst =>
      obtain rfl : w' = w := hst
      exact hf
    | 10, _, hij, hb, hoff, hst =>
      obtain rfl : w' = w := hst
      exact hf
    | i + 11, hi, _, _, _, _ => exact absurd hi (by omega)
  case s0 =>
    refine ⟨_, rfl, fun b a w hG hb hoff hd hs K hK => ?_⟩
    have h12 := (hs 12 (by decide)).trans z12
    have e12 := eval_of h12
    refine value_ (v := (.bool true)) rfl rfl ?_ (hK _ _ rfl rfl)
    clear hd hs hK hoff
    clear e12
    go_simp
  case s1 =>
    refine ⟨_, rfl, fun b a w hG hb hoff hd hs K hK => ?_⟩
    obtain ⟨y48, h48, f48⟩ := hd 0 48 (by decide) (by decide)
    replace f48 : y48 = (.bool true) := f48
    subst y48
    have e48 := eval_of h48
    refine value_ (v := (.bool false)) rfl rfl ?_ (hK _ _ rfl rfl)
    clear hd hs hK hoff
    clear e48
    go_simp
  case s2 =>
    refine ⟨_, rfl, fun b a w hG hb hoff hd hs K hK => ?_⟩
    obtain ⟨y49, h49, f49⟩ := hd 1 49 (by decide) (by decide)
    replace f49 : y49 = (.bool false) := f49
    subst y49
    have e49 := eval_of h49
    refine value_ (v := (.bool false)) rfl rfl ?_ (hK _ _ rfl rfl)
    clear hd hs hK hoff
    clear e49
    go_simp
  case s3 =>
    refine ⟨_, rfl, fun b a w hG hb hoff hd hs K hK => ?_⟩
    have h7 := (hs 7 (by decide)).trans z7
    have e7 := eval_of h7
    obtain ⟨y50, h50, f50⟩ := hd 2 50 (by decide) (by decide)
    replace f50 : y50 = (.bool false) := f50
    subst y50
    have e50 := eval_of h50
    refine value_ (v := (.pointer (some ⟨pb, 0, none⟩))) (wanted_on rfl rfl rfl h50) rfl ?_ (hK _ _ rfl rfl)
    clear hd hs hK hoff
    clear e7
    clear e50
    go_simp
  case s4 =>
    refine ⟨_, rfl, fun b a w hG hb hoff hd hs K hK => ?_⟩
    have h2 := (hs 2 (by decide)).trans z2
    have e2 := eval_of h2
    obtain ⟨y50, h50, f50⟩ := hd 2 50 (by decide) (by decide)
    replace f50 : y50 = (.bool false) := f50
    subst y50
    have e50 := eval_of h50
    refine value_ (v := (.int .u64 id)) (wanted_on rfl rfl rfl h50) rfl ?_ (hK _ _ rfl rfl)
    clear hd hs hK hoff
    clear e2
    clear e50
    go_simp
  case s5 =>
    refine ⟨_, rfl, fun b a w hG hb hoff hd hs K hK => ?_⟩
    obtain ⟨y50, h50, f50⟩ := hd 2 50 (by decide) (by decide)
    replace f50 : y50 = (.bool false) := f50
    subst y50
    have e50 := eval_of h50
    obtain ⟨y51, h51, f51⟩ := hd 3 51 (by decide) (by decide)
    replace f51 : y51 = (.pointer (some ⟨pb, 0, none⟩)) := f51
    subst y51
    have e51 := eval_of h51
    obtain ⟨y52, h52, f52⟩ := hd 4 52 (by decide) (by decide)
    replace f52 : y52 = (.int .u64 id) := f52
    subst y52
    have e52 := eval_of h52
    refine goes_ Try.func21 (by kernel_rfl) rfl #[.pointer (some ⟨pb, 0, none⟩), .int .u64 id] (wanted_on rfl rfl rfl h50) rfl rfl (by simp [e51, e52]) ?_
    refine (times_calls id w (hP w hG.1) hid).mono ?_
    rintro e w' ⟨rfl, rfl⟩
    exact ⟨_, rfl, hK _ _ rfl rfl⟩
  case s6 =>
    refine ⟨_, rfl, fun b a w hG hb hoff hd hs K hK => ?_⟩
    have h8 := (hs 8 (by decide)).trans z8
    have e8 := eval_of h8
    obtain ⟨y50, h50, f50⟩ := hd 2 50 (by decide) (by decide)
    replace f50 : y50 = (.bool false) := f50
    subst y50
    have e50 := eval_of h50
    refine value_ (v := (.agg #[.int .i64 number, .slice A l.length c])) (wanted_on rfl rfl rfl h50) rfl ?_ (hK _ _ rfl rfl)
    have hc0 := (blk_cell (hG.2.2.2) 0).trans rfl
    have hc1 := (blk_cell (hG.2.2.2) 1).trans rfl
    have hu := Try.underlying29
    clear hG
    clear hd hs hK hoff
    clear e8
    clear e50
    go_simp
  case s7 =>
    refine ⟨_, rfl, fun b a w hG hb hoff hd hs K hK => ?_⟩
    have h2 := (hs 2 (by decide)).trans z2
    have e2 := eval_of h2
    obtain ⟨y50, h50, f50⟩ := hd 2 50 (by decide) (by decide)
    replace f50 : y50 = (.bool false) := f50
    subst y50
    have e50 := eval_of h50
    refine value_ (v := (.int .u64 id)) (wanted_on rfl rfl rfl h50) rfl ?_ (hK _ _ rfl rfl)
    clear hd hs hK hoff
    clear e2
    clear e50
    go_simp
  case s8 =>
    refine ⟨_, rfl, fun b a w hG hb hoff hd hs K hK => ?_⟩
    obtain ⟨y50, h50, f50⟩ := hd 2 50 (by decide) (by decide)
    replace f50 : y50 = (.bool false) := f50
    subst y50
    have e50 := eval_of h50
    obtain ⟨y54, h54, f54⟩ := hd 6 54 (by decide) (by decide)
    replace f54 : y54 = (.agg #[.int .i64 number, .slice A l.length c]) := f54
    subst y54
    have e54 := eval_of h54
    obtain ⟨y55, h55, f55⟩ := hd 7 55 (by decide) (by decide)
    replace f55 : y55 = (.int .u64 id) := f55
    subst y55
    have e55 := eval_of h55
    refine goes_ Try.func22 (by kernel_rfl) rfl #[.agg #[.int .i64 number, .slice A l.length c], .int .u64 id] (wanted_on rfl rfl rfl h50) rfl rfl (by simp [e54, e55]) ?_
    refine (PPartyPlays.curfewref37_Times.calls (l.length + 1) number A c l id (cnt l id) w (hR w hG.1).2.2 (hR w hG.1).2.1 (times_f _ _ _ _ (by omega) (by omega))).mono ?_
    rintro e w' ⟨rfl, hb1⟩
    exact ⟨_, rfl, hK _ _ hb1 rfl⟩
  case s9 =>
    refine ⟨_, rfl, fun b a w hG hb hoff hd hs K hK => ?_⟩
    obtain ⟨y50, h50, f50⟩ := hd 2 50 (by decide) (by decide)
    replace f50 : y50 = (.bool false) := f50
    subst y50
    have e50 := eval_of h50
    obtain ⟨y53, h53, f53⟩ := hd 5 53 (by decide) (by decide)
    replace f53 : y53 = (.int .i64 (cnt l id)) := f53
    subst y53
    have e53 := eval_of h53
    obtain ⟨y56, h56, f56⟩ := hd 8 56 (by decide) (by decide)
    replace f56 : y56 = (.int .i64 (cnt l id)) := f56
    subst y56
    have e56 := eval_of h56
    refine value_ (v := (.bool false)) (wanted_on rfl rfl rfl h50) rfl ?_ (hK _ _ rfl rfl)
    clear hd hs hK hoff
    clear e50
    clear e53
    clear e56
    go_simp
  case s10 =>
    refine ⟨_, rfl, fun b a w hG hb hoff hd hs K hK => ?_⟩
    obtain ⟨y50, h50, f50⟩ := hd 2 50 (by decide) (by decide)
    replace f50 : y50 = (.bool false) := f50
    subst y50
    have e50 := eval_of h50
    obtain ⟨y57, h57, f57⟩ := hd 9 57 (by decide) (by decide)
    replace f57 : y57 = (.bool false) := f57
    subst y57
    have e57 := eval_of h57
    refine value_ (v := (.bool false)) rfl rfl ?_ (hK _ _ rfl rfl)
    clear hd hs hK hoff
    clear e50
    clear e57
    go_simp
  case hend =>
    intro b v w hb hG hv
    have f0 := hv 0 (by decide)
    have f1 := hv 1 (by decide)
    have f2 := hv 2 (by decide)
    have f3 := hv 3 (by decide)
    have f4 := hv 4 (by decide)
    have f5 := hv 5 (by decide)
    have f6 := hv 6 (by decide)
    have f7 := hv 7 (by decide)
    have f8 := hv 8 (by decide)
    have f9 := hv 9 (by decide)
    have f10 := hv 10 (by decide)
    have := hend w b hb hG 
    have g0 : v 0 = (.bool true) := f0
    have g1 : v 1 = (.bool false) := f1
    have g2 : v 2 = (.bool false) := f2
    have g3 : v 3 = (.pointer (some ⟨pb, 0, none⟩)) := f3
    have g4 : v 4 = (.int .u64 id) := f4
    have g5 : v 5 = (.int .i64 (cnt l id)) := f5
    have g6 : v 6 = (.agg #[.int .i64 number, .slice A l.length c]) := f6
    have g7 : v 7 = (.int .u64 id) := f7
    have g8 : v 8 = (.int .i64 (cnt l id)) := f8
    have g9 : v 9 = (.bool false) := f9
    have g10 : v 10 = (.bool false) := f10
    have e : (r3x14.L.map fun e => (e.2, v e.1)) = [(48, (.bool true)), (49, (.bool false)), (50, (.bool false)), (51, (.pointer (some ⟨pb, 0, none⟩))), (52, (.int .u64 id)), (53, (.int .i64 (cnt l id))), (54, (.agg #[.int .i64 number, .slice A l.length c])), (55, (.int .u64 id)), (56, (.int .i64 (cnt l id))), (57, (.bool false)), (58, (.bool false))] := by
      simp only [r3x14.L, List.map_cons, List.map_nil, g0, g1, g2, g3, g4, g5, g6, g7, g8, g9, g10]
    rw [e]
    exact this

end Go.Proofs.Ytbjbejjieibldaa.Pa
