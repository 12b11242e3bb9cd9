/- A plan's Until. -/
import Derived.Test.YtbjbejjieibldaaVg
namespace Go.Proofs.Ytbjbejjieibldaa.Va
open Go.RowKit Go.Proofs.YtbjbejjieibldaaW.PrintWords Go.Proofs.YtbjbejjieibldaaW.PrintLast Go.Proofs.YtbjbejjieibldaaW.PrintMore Go.Proofs.Ytbjbejjieibldaa.PWeekCounts Go.Proofs.Ytbjbejjieibldaa.Rg Go.Proofs.Ytbjbejjieibldaa.La
open Go.Proofs.Ytbjbejjieibldaa
set_option linter.unusedVariables false
set_option linter.unusedSimpArgs false

/-! ### region 6 of function 51 -/
def r51x6.T : Bool × List (List Nat × List Nat) := (true, [([], []), ([], []), ([1], [1]), ([0, 2], [0, 2]), ([], []), ([4], [4]), ([5], [5]), ([6], [6]), ([7, 2], [7]), ([], []), ([8, 9], [8, 9]), ([10], [10]), ([3, 11], [3, 11]), ([12, 8, 0, 1, 2, 3, 4, 5, 6, 7, 8, 9, 10, 11, 12], [12])])
def r51x6.B : List Nat := [0, 0, 2, 7, 0, 16, 48, 112, 246, 0, 1014, 2038, 4095, 8191]
def r51x6.L : List (Nat × Tmp) := [(0, 21), (1, 22), (2, 23), (3, 24), (4, 25), (5, 26), (6, 27), (7, 28), (8, 29), (9, 30), (10, 31), (11, 32), (12, 33), (13, 8)]
theorem r51x6.tab : rtab .any (opsOf Try.f51 6) = r51x6.T := by kernel_rfl
theorem r51x6.bits : waitsOk r51x6.T.2 r51x6.B = true := by kernel_rfl
theorem r51x6.base : baseOk r51x6.T.2 (List.range 14) = true := by kernel_rfl
theorem r51x6.okl : okL (opsOf Try.f51 6) r51x6.L 55 = true := by kernel_rfl
def r51x6.F (pb cb : Nat) (A : Option Addr) (c : Nat) (l : List Sp) (N ii : Nat) (q : Int) (W0 W : World) (i : Nat) : Value → World → Prop := match i with
  | 0 => fun v _ => v = (.int .i64 q)
  | 1 => fun v _ => v = (.pointer (some ⟨pb, 0, none⟩))
  | 2 => fun v _ => v = (.int .i64 (lsum l))
  | 3 => fun v _ => v = (.int .i64 (q * lsum l))
  | 4 => fun v _ => v = (.pointer (some ⟨pb, 0, none⟩))
  | 5 => fun v _ => v = (.pointer (some ⟨pb, 0, none⟩))
  | 6 => fun v _ => v = (.pointer (some ⟨pb, 1, none⟩))
  | 7 => fun v _ => v = (PB cb)
  | 8 => fun v w => SumR W0 w cb l v
  | 9 => fun v _ => v = (.int .i64 (ii : Int))
  | 10 => fun v w => ∃ ad n c2, v = .pointer (some (Addr.add ad ii)) ∧ SumR W0 w cb l (.slice (some ad) n c2)
  | 11 => fun v _ => v = (.int .i64 (lsum (l.take ii)))
  | 12 => fun v _ => v = (.int .i64 (q * lsum l + lsum (l.take ii)))
  | 13 => fun v _ => v = (.int .i64 (q * lsum l + lsum (l.take ii)))
  | _ => fun _ _ => True
def r51x6.St (pb cb : Nat) (A : Option Addr) (c : Nat) (l : List Sp) (N ii : Nat) (q : Int) (W0 W : World) (i : Nat) : World → World → Prop := match i with
  | 2 => fun w w' => Turn W0 pb cb A c l 1 w w'
  | 8 => fun w w' => Turn W0 pb cb A c l 1 w w'
  | _ => fun w w' => w' = w
def r51x6.G (pb cb : Nat) (A : Option Addr) (c : Nat) (l : List Sp) (N ii : Nat) (q : Int) (W0 W : World) : (Nat → Bool) → World → Prop := fun b w => Kept W w (fun k => k = cb) ∧ Wk W0 w pb cb A c l (N + ((if b 2 then 1 else 0) + if b 8 then 1 else 0))
set_option maxHeartbeats 4000000 in
set_option maxRecDepth 100000 in
theorem r51x6 (pb cb : Nat) (A : Option Addr) (c : Nat) (l : List Sp) (N ii : Nat) (q : Int) (W0 W : World) (hN : N < 990000) (hi : ii ≤ l.length) (hq : 0 ≤ q * lsum l ∧ q * lsum l ≤ 2251799813685248) (hsl : 0 ≤ lsum (l.take ii) ∧ lsum (l.take ii) ≤ 604800) {Q : Exit → Act → World → Prop} {a0 : Act} {w0 : World} (hz : a0.tmps.size = 55) (z0 : a0.tmps[0]? = some (.pointer (some ⟨pb, 0, none⟩))) (z5 : a0.tmps[5]? = some (.int .i64 q)) (z7 : a0.tmps[7]? = some (.int .i64 (ii : Int))) (hG0 : (r51x6.G pb cb A c l N ii q W0 W) (fun _ => false) w0.drew)
    (hend : ∀ (v29 : Value) (v31 : Value) (w : World) (b : Nat → Bool), (∀ i, i < 14 → b i = true) → (r51x6.G pb cb A c l N ii q W0 W) b w → r51x6.F pb cb A c l N ii q W0 W 8 v29 w → r51x6.F pb cb A c l N ii q W0 W 10 v31 w → Q .normal (putAll a0 [(21, (.int .i64 q)), (22, (.pointer (some ⟨pb, 0, none⟩))), (23, (.int .i64 (lsum l))), (24, (.int .i64 (q * lsum l))), (25, (.pointer (some ⟨pb, 0, none⟩))), (26, (.pointer (some ⟨pb, 0, none⟩))), (27, (.pointer (some ⟨pb, 1, none⟩))), (28, (PB cb)), (29, v29), (30, (.int .i64 (ii : Int))), (31, v31), (32, (.int .i64 (lsum (l.take ii)))), (33, (.int .i64 (q * lsum l + lsum (l.take ii)))), (8, (.int .i64 (q * lsum l + lsum (l.take ii))))]) w) :
    (Code.region 6 (opsOf Try.f51 6) true).wp Try.prog Q a0 w0 := by
  refine region_lit (ops' := #[_, _, _, _, _, _, _, _, _, _, _, _, _, _]) rfl ?_
  refine region_facts (n := 14) (T := r51x6.T) (B := r51x6.B) r51x6.L (r51x6.G pb cb A c l N ii q W0 W) (r51x6.St pb cb A c l N ii q W0 W) (r51x6.F pb cb A c l N ii q W0 W) (by kernel_rfl) (by kernel_rfl) r51x6.tab r51x6.bits r51x6.base (by rw [hz]; exact r51x6.okl) hG0 ?hSt ?hF ((all_cons ?s0 (all_cons ?s1 (all_cons ?s2 (all_cons ?s3 (all_cons ?s4 (all_cons ?s5 (all_cons ?s6 (all_cons ?s7 (all_cons ?s8 (all_cons ?s9 (all_cons ?s10 (all_cons ?s11 (all_cons ?s12 (all_cons ?s13 all_nil))))))))))))))) ?hend
  case hSt =>
    intro i b w w' hi hb hoff hG hst
    match i, hi, hb, hoff, hst with
    | 0, _, hb, hoff, hst =>
      obtain rfl : w' = w := hst
      obtain ⟨g1, g2⟩ := hG
      refine ⟨g1, ?_⟩
      rw [up_ne (by decide : (2 : Nat) ≠ _)]
      rw [up_ne (by decide : (8 : Nat) ≠ _)]
      exact g2
    | 1, _, hb, hoff, hst =>
      obtain rfl : w' = w := hst
      obtain ⟨g1, g2⟩ := hG
      refine ⟨g1, ?_⟩
      rw [up_ne (by decide : (2 : Nat) ≠ _)]
      rw [up_ne (by decide : (8 : Nat) ≠ _)]
      exact g2
    | 2, _, hb, hoff, hst =>
      obtain ⟨g1, g2⟩ := hG
      have hst' : Turn W0 pb cb A c l 1 w w' := hst
      refine ⟨g1.then_ hst'.1 (fun k hk => .inl hk), ?_⟩
      rw [up_self, up_ne (by decide : (8 : Nat) ≠ _)]
      rw [hb] at g2
      rw [show N + ((if true = true then 1 else 0) + if b 8 = true then 1 else 0) = N + ((if false = true then 1 else 0) + if b 8 = true then 1 else 0) + 1 by simp; omega]
      exact hst'.2 _ g2
    | 3, _, hb, hoff, hst =>
      obtain rfl : w' = w := hst
      obtain ⟨g1, g2⟩ := hG
      refine ⟨g1, ?_⟩
      rw [up_ne (by decide : (2 : Nat) ≠ _)]
      rw [up_ne (by decide : (8 : Nat) ≠ _)]
      exact g2
    | 4, _, hb, hoff, hst =>
      obtain rfl : w' = w := hst
      obtain ⟨g1, g2⟩ := hG
      refine ⟨g1, ?_⟩
      rw [up_ne (by decide : (2 : Nat) ≠ _)]
      rw [up_ne (by decide : (8 : Nat) ≠ _)]
      exact g2
    | 5, _, hb, hoff, hst =>
      obtain rfl : w' = w := hst
      obtain ⟨g1, g2⟩ := hG
      refine ⟨g1, ?_⟩
      rw [up_ne (by decide : (2 : Nat) ≠ _)]
      rw [up_ne (by decide : (8 : Nat) ≠ _)]
      exact g2
    | 6, _, hb, hoff, hst =>
      obtain rfl : w' = w := hst
      obtain ⟨g1, g2⟩ := hG
      refine ⟨g1, ?_⟩
      rw [up_ne (by decide : (2 : Nat) ≠ _)]
      rw [up_ne (by decide : (8 : Nat) ≠ _)]
      exact g2
    | 7, _, hb, hoff, hst =>
      obtain rfl : w' = w := hst
      obtain ⟨g1, g2⟩ := hG
      refine ⟨g1, ?_⟩
      rw [up_ne (by decide : (2 : Nat) ≠ _)]
      rw [up_ne (by decide : (8 : Nat) ≠ _)]
      exact g2
    | 8, _, hb, hoff, hst =>
      obtain ⟨g1, g2⟩ := hG
      have hst' : Turn W0 pb cb A c l 1 w w' := hst
      refine ⟨g1.then_ hst'.1 (fun k hk => .inl hk), ?_⟩
      rw [up_self, up_ne (by decide : (2 : Nat) ≠ _)]
      rw [hb] at g2
      rw [show N + ((if b 2 = true then 1 else 0) + if true = true then 1 else 0) = N + ((if b 2 = true then 1 else 0) + if false = true then 1 else 0) + 1 by simp; omega]
      exact hst'.2 _ g2
    | 9, _, hb, hoff, hst =>
      obtain rfl : w' = w := hst
      obtain ⟨g1, g2⟩ := hG
      refine ⟨g1, ?_⟩
      rw [up_ne (by decide : (2 : Nat) ≠ _)]
      rw [up_ne (by decide : (8 : Nat) ≠ _)]
      exact g2
    | 10, _, hb, hoff, hst =>
      obtain rfl : w' = w := hst
      obtain ⟨g1, g2⟩ := hG
      refine ⟨g1, ?_⟩
      rw [up_ne (by decide : (2 : Nat) ≠ _)]
      rw [up_ne (by decide : (8 : Nat) ≠ _)]
      exact g2
    | 11, _, hb, hoff, hst =>
      obtain rfl : w' = w := hst
      obtain ⟨g1, g2⟩ := hG
      refine ⟨g1, ?_⟩
      rw [up_ne (by decide : (2 : Nat) ≠ _)]
      rw [up_ne (by decide : (8 : Nat) ≠ _)]
      exact g2
    | 12, _, hb, hoff, hst =>
      obtain rfl : w' = w := hst
      obtain ⟨g1, g2⟩ := hG
      refine ⟨g1, ?_⟩
      rw [up_ne (by decide : (2 : Nat) ≠ _)]
      rw [up_ne (by decide : (8 : Nat) ≠ _)]
      exact g2
    | 13, _, hb, hoff, hst =>
      obtain rfl : w' = w := hst
      obtain ⟨g1, g2⟩ := hG
      refine ⟨g1, ?_⟩
      rw [up_ne (by decide : (2 : Nat) ≠ _)]
      rw [up_ne (by decide : (8 : Nat) ≠ _)]
      exact g2
    | i + 14, hi, _, _, _ => exact absurd hi (by omega)
  case hF =>
    intro i j b v w w' hij hi hj hb hbj hoff hG hst hf
    match i, hi, hij, hb, hoff, hst with
    | 0, _, hij, hb, hoff, hst =>
      obtain rfl : w' = w := hst
      exact hf
    | 1, _, hij, hb, hoff, hst =>
      obtain rfl : w' = w := hst
      exact hf
    | 2, _, hij, hb, hoff, hst =>
      match j, hj, hij, hbj, hf with
      | 0, _, hij, hbj, hf => 
        exact hf
      | 1, _, hij, hbj, hf => 
        exact hf
      | 2, _, hij, hbj, hf => exact absurd rfl hij
      | 3, _, hij, hbj, hf => exact absurd hbj (by rw [hoff 3 (by decide) (by decide)]; decide)
      | 4, _, hij, hbj, hf => 
        exact hf
      | 5, _, hij, hbj, hf => 
        exact hf
      | 6, _, hij, hbj, hf => 
        exact hf
      | 7, _, hij, hbj, hf => 
        exact hf
      | 8, _, hij, hbj, hf => exact absurd hbj (by rw [hoff 8 (by decide) (by decide)]; decide)
      | 9, _, hij, hbj, hf => 
        exact hf
      | 10, _, hij, hbj, hf => exact absurd hbj (by rw [hoff 10 (by decide) (by decide)]; decide)
      | 11, _, hij, hbj, hf => exact absurd hbj (by rw [hoff 11 (by decide) (by decide)]; decide)
      | 12, _, hij, hbj, hf => exact absurd hbj (by rw [hoff 12 (by decide) (by decide)]; decide)
      | 13, _, hij, hbj, hf => exact absurd hbj (by rw [hoff 13 (by decide) (by decide)]; decide)
      | j + 14, hj, _, _, _ => exact absurd hj (by omega)
    | 3, _, hij, hb, hoff, hst =>
      obtain rfl : w' = w := hst
      exact hf
    | 4, _, hij, hb, hoff, hst =>
      obtain rfl : w' = w := hst
      exact hf
    | 5, _, hij, hb, hoff, hst =>
      obtain rfl : w' = w := hst
      exact hf
    | 6, _, hij, hb, hoff, hst =>
      obtain rfl : w' = w := hst
      exact hf
    | 7, _, hij, hb, hoff, hst =>
      obtain rfl : w' = w := hst
      exact hf
    | 8, _, hij, hb, hoff, hst =>
      match j, hj, hij, hbj, hf with
      | 0, _, hij, hbj, hf => 
        exact hf
      | 1, _, hij, hbj, hf => 
        exact hf
      | 2, _, hij, hbj, hf => 
        exact hf
      | 3, _, hij, hbj, hf => 
        exact hf
      | 4, _, hij, hbj, hf => 
        exact hf
      | 5, _, hij, hbj, hf => 
        exact hf
      | 6, _, hij, hbj, hf => 
        exact hf
      | 7, _, hij, hbj, hf => 
        exact hf
      | 8, _, hij, hbj, hf => exact absurd rfl hij
      | 9, _, hij, hbj, hf => 
        exact hf
      | 10, _, hij, hbj, hf => exact absurd hbj (by rw [hoff 10 (by decide) (by decide)]; decide)
      | 11, _, hij, hbj, hf => exact absurd hbj (by rw [hoff 11 (by decide) (by decide)]; decide)
      | 12, _, hij, hbj, hf => exact absurd hbj (by rw [hoff 12 (by decide) (by decide)]; decide)
      | 13, _, hij, hbj, hf => exact absurd hbj (by rw [hoff 13 (by decide) (by decide)]; decide)
      | j + 14, hj, _, _, _ => exact absurd hj (by omega)
    | 9, _, hij, hb, hoff, hst =>
      obtain rfl : w' = w := hst
      exact hf
    | 10, _, hij, hb, hoff, hst =>
      obtain rfl : w' = w := hst
      exact hf
    | 11, _, hij, hb, hoff, hst =>
      obtain rfl : w' = w := hst
      exact hf
    | 12, _, hij, hb, hoff, hst =>
      obtain rfl : w' = w := hst
      exact hf
    | 13, _, hij, hb, hoff, hst =>
      obtain rfl : w' = w := hst
      exact hf
    | i + 14, hi, _, _, _, _ => exact absurd hi (by omega)
  case s0 =>
    refine ⟨_, rfl, fun b a w hG hb hoff hd hs K hK => ?_⟩
    have h5 := (hs 5 (by decide)).trans z5
    have e5 := eval_of h5
    refine value_ (v := (.int .i64 q)) rfl rfl ?_ (hK _ _ rfl rfl)
    clear hd hs hK hoff
    clear e5
    go_simp
  case s1 =>
    refine ⟨_, rfl, fun b a w hG hb hoff hd hs K hK => ?_⟩
    have h0 := (hs 0 (by decide)).trans z0
    have e0 := eval_of h0
    refine value_ (v := (.pointer (some ⟨pb, 0, none⟩))) rfl rfl ?_ (hK _ _ rfl rfl)
    clear hd hs hK hoff
    clear e0
    go_simp
  case s2 =>
    refine ⟨_, rfl, fun b a w hG hb hoff hd hs K hK => ?_⟩
    obtain ⟨y22, h22, f22⟩ := hd 1 22 (by decide) (by decide)
    replace f22 : y22 = (.pointer (some ⟨pb, 0, none⟩)) := f22
    subst y22
    have e22 := eval_of h22
    have hW := hG.2
    refine goes_ Try.func44 (by kernel_rfl) rfl #[PB pb] rfl rfl rfl (by simp [e22]) ?_
    refine (hW.total ?hn).mono ?_
    case hn => split <;> split <;> omega
    rintro e w' ⟨rfl, hw2, hk2⟩
    exact ⟨_, rfl, hK _ _ (hW.turn hw2 hk2) rfl⟩
  case s3 =>
    refine ⟨_, rfl, fun b a w hG hb hoff hd hs K hK => ?_⟩
    obtain ⟨y21, h21, f21⟩ := hd 0 21 (by decide) (by decide)
    replace f21 : y21 = (.int .i64 q) := f21
    subst y21
    have e21 := eval_of h21
    obtain ⟨y23, h23, f23⟩ := hd 2 23 (by decide) (by decide)
    replace f23 : y23 = (.int .i64 (lsum l)) := f23
    subst y23
    have e23 := eval_of h23
    refine value_ (v := (.int .i64 (q * lsum l))) rfl rfl ?_ (hK _ _ rfl rfl)
    clear hG
    clear hd hs hK hoff
    clear e21
    clear e23
    go_simp
    exact IntWalk.i64_in _ (by omega)
  case s4 =>
    refine ⟨_, rfl, fun b a w hG hb hoff hd hs K hK => ?_⟩
    have h0 := (hs 0 (by decide)).trans z0
    have e0 := eval_of h0
    refine value_ (v := (.pointer (some ⟨pb, 0, none⟩))) rfl rfl ?_ (hK _ _ rfl rfl)
    clear hd hs hK hoff
    clear e0
    go_simp
  case s5 =>
    refine ⟨_, rfl, fun b a w hG hb hoff hd hs K hK => ?_⟩
    obtain ⟨y25, h25, f25⟩ := hd 4 25 (by decide) (by decide)
    replace f25 : y25 = (.pointer (some ⟨pb, 0, none⟩)) := f25
    subst y25
    have e25 := eval_of h25
    refine value_ (v := (.pointer (some ⟨pb, 0, none⟩))) rfl rfl ?_ (hK _ _ rfl rfl)
    clear hd hs hK hoff
    clear e25
    go_simp
  case s6 =>
    refine ⟨_, rfl, fun b a w hG hb hoff hd hs K hK => ?_⟩
    obtain ⟨y26, h26, f26⟩ := hd 5 26 (by decide) (by decide)
    replace f26 : y26 = (.pointer (some ⟨pb, 0, none⟩)) := f26
    subst y26
    have e26 := eval_of h26
    refine value_ (v := (.pointer (some ⟨pb, 1, none⟩))) rfl rfl ?_ (hK _ _ rfl rfl)
    clear hd hs hK hoff
    clear e26
    go_simp
  case s7 =>
    refine ⟨_, rfl, fun b a w hG hb hoff hd hs K hK => ?_⟩
    obtain ⟨y27, h27, f27⟩ := hd 6 27 (by decide) (by decide)
    replace f27 : y27 = (.pointer (some ⟨pb, 1, none⟩)) := f27
    subst y27
    have e27 := eval_of h27
    refine value_ (v := (PB cb)) rfl rfl ?_ (hK _ _ rfl rfl)
    have hc := (blk_cell hG.2.blk 1).trans rfl
    clear hG
    clear hd hs hK hoff
    clear e27
    go_simp
  case s8 =>
    refine ⟨_, rfl, fun b a w hG hb hoff hd hs K hK => ?_⟩
    obtain ⟨y28, h28, f28⟩ := hd 7 28 (by decide) (by decide)
    replace f28 : y28 = (PB cb) := f28
    subst y28
    have e28 := eval_of h28
    have hW := hG.2
    refine goes_ Try.func87 (by kernel_rfl) rfl #[PB cb] rfl rfl rfl (by simp [e28]) ?_
    refine (hW.get ?hn).mono ?_
    case hn => split <;> split <;> omega
    rintro e w' ⟨v, rfl, hs2, hw2, hk2⟩
    exact ⟨_, rfl, hK _ _ (hW.turn hw2 hk2) hs2⟩
  case s9 =>
    refine ⟨_, rfl, fun b a w hG hb hoff hd hs K hK => ?_⟩
    have h7 := (hs 7 (by decide)).trans z7
    have e7 := eval_of h7
    refine value_ (v := (.int .i64 (ii : Int))) rfl rfl ?_ (hK _ _ rfl rfl)
    clear hd hs hK hoff
    clear e7
    go_simp
  case s10 =>
    refine ⟨_, rfl, fun b a w hG hb hoff hd hs K hK => ?_⟩
    obtain ⟨v29, h29, f29⟩ := hd 8 29 (by decide) (by decide)
    have e29 := eval_of h29
    obtain ⟨y30, h30, f30⟩ := hd 9 30 (by decide) (by decide)
    replace f30 : y30 = (.int .i64 (ii : Int)) := f30
    subst y30
    have e30 := eval_of h30
    obtain ⟨ad, n, c2, hv, hin, hx⟩ := SumR.at_ f29 ii hi
    subst hv
    have hin2 : (ii : Int) < (n : Int) := by omega
    refine value_ (v := .pointer (some (ad.add ii))) rfl rfl ?_ (hK _ _ rfl ⟨ad, n, c2, rfl, f29⟩)
    clear hd hs hK hoff hG f29 hx
    go_simp
  case s11 =>
    refine ⟨_, rfl, fun b a w hG hb hoff hd hs K hK => ?_⟩
    obtain ⟨v31, h31, f31⟩ := hd 10 31 (by decide) (by decide)
    have e31 := eval_of h31
    obtain ⟨ad, n, c2, hv, hS⟩ := f31
    subst hv
    obtain ⟨ad2, n2, c3, he, hin, hx⟩ := SumR.at_ hS ii hi
    cases he
    refine value_ (v := .int .i64 (lsum (l.take ii))) rfl rfl ?_ (hK _ _ rfl rfl)
    clear hd hs hK hoff hG hS
    go_simp
  case s12 =>
    refine ⟨_, rfl, fun b a w hG hb hoff hd hs K hK => ?_⟩
    obtain ⟨y24, h24, f24⟩ := hd 3 24 (by decide) (by decide)
    replace f24 : y24 = (.int .i64 (q * lsum l)) := f24
    subst y24
    have e24 := eval_of h24
    obtain ⟨y32, h32, f32⟩ := hd 11 32 (by decide) (by decide)
    replace f32 : y32 = (.int .i64 (lsum (l.take ii))) := f32
    subst y32
    have e32 := eval_of h32
    refine value_ (v := (.int .i64 (q * lsum l + lsum (l.take ii)))) rfl rfl ?_ (hK _ _ rfl rfl)
    clear hG
    clear hd hs hK hoff
    clear e24
    clear e32
    go_simp
    exact IntWalk.i64_in _ (by omega)
  case s13 =>
    refine ⟨_, rfl, fun b a w hG hb hoff hd hs K hK => ?_⟩
    obtain ⟨y33, h33, f33⟩ := hd 12 33 (by decide) (by decide)
    replace f33 : y33 = (.int .i64 (q * lsum l + lsum (l.take ii))) := f33
    subst y33
    have e33 := eval_of h33
    refine value_ (v := (.int .i64 (q * lsum l + lsum (l.take ii)))) rfl rfl ?_ (hK _ _ rfl rfl)
    clear hd hs hK hoff
    clear e33
    go_simp
  case hend =>
    intro b v w hb hG hv
    have f0 := hv 0 (by decide)
    have f1 := hv 1 (by decide)
    have f2 := hv 2 (by decide)
    have f3 := hv 3 (by decide)
    have f4 := hv 4 (by decide)
    have f5 := hv 5 (by decide)
    have f6 := hv 6 (by decide)
    have f7 := hv 7 (by decide)
    have f8 := hv 8 (by decide)
    have f9 := hv 9 (by decide)
    have f10 := hv 10 (by decide)
    have f11 := hv 11 (by decide)
    have f12 := hv 12 (by decide)
    have f13 := hv 13 (by decide)
    have := hend (v 8) (v 10) w b hb hG f8 f10
    have gv0 : v 0 = (.int .i64 q) := f0
    have gv1 : v 1 = (.pointer (some ⟨pb, 0, none⟩)) := f1
    have gv2 : v 2 = (.int .i64 (lsum l)) := f2
    have gv3 : v 3 = (.int .i64 (q * lsum l)) := f3
    have gv4 : v 4 = (.pointer (some ⟨pb, 0, none⟩)) := f4
    have gv5 : v 5 = (.pointer (some ⟨pb, 0, none⟩)) := f5
    have gv6 : v 6 = (.pointer (some ⟨pb, 1, none⟩)) := f6
    have gv7 : v 7 = (PB cb) := f7
    have gv9 : v 9 = (.int .i64 (ii : Int)) := f9
    have gv11 : v 11 = (.int .i64 (lsum (l.take ii))) := f11
    have gv12 : v 12 = (.int .i64 (q * lsum l + lsum (l.take ii))) := f12
    have gv13 : v 13 = (.int .i64 (q * lsum l + lsum (l.take ii))) := f13
    have e : (r51x6.L.map fun e => (e.2, v e.1)) = [(21, (.int .i64 q)), (22, (.pointer (some ⟨pb, 0, none⟩))), (23, (.int .i64 (lsum l))), (24, (.int .i64 (q * lsum l))), (25, (.pointer (some ⟨pb, 0, none⟩))), (26, (.pointer (some ⟨pb, 0, none⟩))), (27, (.pointer (some ⟨pb, 1, none⟩))), (28, (PB cb)), (29, v 8), (30, (.int .i64 (ii : Int))), (31, v 10), (32, (.int .i64 (lsum (l.take ii)))), (33, (.int .i64 (q * lsum l + lsum (l.take ii)))), (8, (.int .i64 (q * lsum l + lsum (l.take ii))))] := by
      simp only [r51x6.L, List.map_cons, List.map_nil, gv0, gv1, gv2, gv3, gv4, gv5, gv6, gv7, gv9, gv11, gv12, gv13]
    rw [e]
    exact this

theorem max2_mx (k k' : IntKind) (x y : Int) : Builtin.max2 (.int k x) (.int k' y) = pure (.int k (mx x y)) := max2_int k k' x y
theorem min2_mn (k k' : IntKind) (x y : Int) : Builtin.min2 (.int k x) (.int k' y) = pure (.int k (mn x y)) := min2_int k k' x y
attribute [local go_sem] max2_mx min2_mn max_two min_two
theorem ret_i {k : IntKind} {a b : Int} (h : a = b) : Ending.returned (.int k a) = .returned (.int k b) := by rw [h]
set_option maxHeartbeats 1000000 in
set_option maxRecDepth 100000 in
/-- Until. -/
theorem Wk.until_ {W0 w : World} {pb cb : Nat} {A : Option Addr} {c : Nat} {l : List Sp} {N : Nat} (h : Wk W0 w pb cb A c l N) (hN : N < 990000) (t : Int) :
    Calls Try.prog 51 #[PB pb, .int .i64 t] w fun e w' => e = .returned (.int .i64 (untilP l t)) ∧ Wk W0 w' pb cb A c l (N + 2) := by
  obtain ⟨x, hx⟩ : ∃ x : Int, x = max 0 (min t lastS) := ⟨_, rfl⟩
  have hxb : 0 ≤ x ∧ x ≤ 2251799813685248 := by unfold lastS at hx; omega
  have hmm : mn (mx t 0) 2251799813685248 = x := by unfold mn mx; unfold lastS at hx; omega
  have hr : x.tmod 604800 = x % 604800 := Int.tmod_eq_emod_of_nonneg hxb.1
  have hq : x.tdiv 604800 = x / 604800 := Int.tdiv_eq_ediv_of_nonneg hxb.1
  have HU : Aside0 (untilP l t = x / 604800 * lsum l + bef l (x % 604800)) := ⟨by unfold untilP; rw [← hx]⟩
  clear hx
  have H := Aside0.mk h
  have HX := Aside0.mk (fun i ha => bef_at h.good (t := x % 604800) (i := i) ha)
  have hs := lsum_nonneg h.good
  have hs2 := lsum_le (by omega) h.good
  have HQ : Aside0 ((0 ≤ x / 604800 ∧ x / 604800 ≤ 3723213977) ∧ (0 ≤ x % 604800 ∧ x % 604800 < 604800)) := ⟨by omega⟩
  have HQS : Aside0 (0 ≤ x / 604800 * lsum l ∧ x / 604800 * lsum l ≤ 2251799813289600) := ⟨Int.mul_nonneg HQ.out.1.1 hs, by
    have : x / 604800 * lsum l ≤ 3723213977 * 604800 := Int.mul_le_mul HQ.out.1.2 (by omega) hs (by omega)
    omega⟩
  clear h hxb hs hs2
  generalize x % 604800 = r at *
  generalize x / 604800 = q at *
  have hwq : wrap64 q = q := by have := HQ.out; unfold wrap64; omega
  go_enter Try.func51, Try.ntmps51
  go_wp2_with (first
    | (go_at_call 86; refine (H.out.made86).mono ?_; rintro e w' ⟨rfl, rfl⟩)
    | (go_at_call 89; refine (H.out.at_ r).mono ?_; rintro e w1 ⟨i, rfl, ha, hw⟩; have HA := Aside0.mk ha; have HW := Aside0.mk hw; clear ha hw))
  have hi := HA.out.1
  have hsb := lsum_take_bound H.out.good i
  have HM := Aside0.mk (HX.out i HA.out)
  refine r51x6 pb cb A c l N i q W0 w1 (by omega) hi (by have := HQS.out; omega) hsb rfl rfl rfl rfl ⟨(Kept.refl w1 _).drew, by have := HW.out.drew; simpa using this⟩ (fun v29 v31 w2 b hb hG f29 f31 => ?_)
  have HW2 : Aside0 (Wk W0 w2 pb cb A c l (N + 2)) := ⟨by have := hG.2; rw [hb 2 (by decide), hb 8 (by decide)] at this; exact this⟩
  clear hG f29 f31 hb HX hi
  simp only [putAll, Act.put, List.setIfInBounds_toArray, List.set_cons_zero, List.set_cons_succ]
  have c0 : w2.cell? ⟨pb, 0, none⟩ = some (.slice A l.length c) := blk_cell HW2.out.blk 0
  by_cases hil : i < l.length
  · have d2 : decide ((i : Int) < (l.length : Int)) = true := decide_eq_true (by omega)
    obtain ⟨ap, e1, x0, x1⟩ := at_T151 HW2.out.cells (i : Int) (by omega) (by omega)
    cases e1
    rw [rd_el] at x0 x1
    simp only [Int.toNat_natCast] at x0 x1
    have hel := H.out.good.el i hil
    have hm := HM.out
    rw [if_pos hil] at hm
    obtain ⟨s, hsd⟩ : ∃ s : Sp, s = el l i := ⟨_, rfl⟩
    rw [← hsd] at x0 x1 hel hm
    clear hsd
    have HS := Aside0.mk hel
    have HM2 := Aside0.mk hm
    have w1' : IntKind.i64.wrap (r - s.f0) = r - s.f0 := IntWalk.i64_in _ (by have := HQ.out; omega)
    have w2' : IntKind.i64.wrap (q * lsum l + lsum (l.take i) + mx (r - s.f0) 0) = q * lsum l + lsum (l.take i) + mx (r - s.f0) 0 := IntWalk.i64_in _ (by have := HQ.out; have := HQS.out; unfold mx; split <;> omega)
    have w3 : wrap64 (r - s.f0) = r - s.f0 := by have := HQ.out; unfold wrap64; omega
    have HSB := Aside0.mk hsb
    clear hel hm hsb
    go_wp2
    go_ret
    refine ⟨?_, HW2.out⟩
    rw [HU.out, HM2.out]
    refine ret_i ?_
    unfold mx
    split <;> omega
  · have d2 : decide ((i : Int) < (l.length : Int)) = false := decide_eq_false (by omega)
    go_wp2
    go_ret
    refine ⟨?_, HW2.out⟩
    have hm := HM.out
    rw [if_neg hil] at hm
    rw [HU.out, hm]
    refine ret_i ?_
    omega

end Go.Proofs.Ytbjbejjieibldaa.Va
