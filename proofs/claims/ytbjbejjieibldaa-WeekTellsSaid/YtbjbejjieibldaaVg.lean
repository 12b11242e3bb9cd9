/- A plan's Total. -/
import Derived.Test.YtbjbejjieibldaaVf
namespace Go.Proofs.Ytbjbejjieibldaa.Va
open Go.RowKit Go.Proofs.YtbjbejjieibldaaW.PrintWords Go.Proofs.YtbjbejjieibldaaW.PrintLast Go.Proofs.YtbjbejjieibldaaW.PrintMore Go.Proofs.Ytbjbejjieibldaa.PWeekCounts Go.Proofs.Ytbjbejjieibldaa.Rg Go.Proofs.Ytbjbejjieibldaa.La
open Go.Proofs.Ytbjbejjieibldaa
set_option linter.unusedVariables false
set_option linter.unusedSimpArgs false

/-- From one world to the next: the plan's cell asked n times more. -/
def Turn (W0 : World) (pb cb : Nat) (A : Option Addr) (c : Nat) (l : List Sp) (n : Nat) (w w' : World) : Prop := Kept w w' (fun k => k = cb) ∧ ∀ M, Wk W0 w pb cb A c l M → Wk W0 w' pb cb A c l (M + n)
theorem Wk.turn {W0 w w' : World} {pb cb : Nat} {A : Option Addr} {c : Nat} {l : List Sp} {N n : Nat} (h : Wk W0 w pb cb A c l N) (h2 : Wk W0 w' pb cb A c l (N + n)) (hk : Kept w w' (fun k => k = cb)) : Turn W0 pb cb A c l n w w' :=
  ⟨hk, fun M hM => by rw [hM.same h]; exact h2⟩
theorem Wk.drew {W0 w : World} {pb cb : Nat} {A : Option Addr} {c : Nat} {l : List Sp} {N : Nat} (h : Wk W0 w pb cb A c l N) : Wk W0 w.drew pb cb A c l N := h.later (below_drew (Below.refl _ _))
theorem SumR.at_ {W0 w : World} {cb : Nat} {l : List Sp} {v : Value} (h : SumR W0 w cb l v) (i : Nat) (hi : i ≤ l.length) : ∃ (ad : Addr) (n c2 : Nat), v = .slice (some ad) n c2 ∧ i < n ∧ w.cell? (ad.add i) = some (.int .i64 (lsum (l.take i))) := by
  obtain ⟨ad, c2, hv⟩ := Kd.R_slice1 h (by rw [sumsL_length]; omega)
  subst hv
  obtain ⟨ad2, e2, hx⟩ := Kd.at_int (Kd.R_reads' h).2.2 (i : Int) (by omega) (by rw [sumsL_length]; omega)
  cases e2
  rw [sumsL_rd _ _ _ hi] at hx
  exact ⟨ad, _, c2, rfl, by rw [sumsL_length]; omega, by simpa using hx⟩

/-! ### region 3 of function 44 -/
def r44x3.T : Bool × List (List Nat × List Nat) := (true, [([], []), ([0], [0]), ([1], [1]), ([2], [2]), ([3], [3]), ([], []), ([5], [5]), ([6], [6]), ([7], [7]), ([8], [8]), ([4, 9], [4, 9]), ([10], [10]), ([11, 4, 0, 1, 2, 3, 4, 5, 6, 7, 8, 9, 10, 11], [11])])
def r44x3.B : List Nat := [0, 1, 3, 7, 15, 0, 32, 96, 224, 480, 1023, 2047, 4095]
def r44x3.L : List (Nat × Tmp) := [(0, 5), (1, 6), (2, 7), (3, 8), (4, 9), (5, 10), (6, 11), (7, 12), (8, 13), (9, 14), (10, 15), (11, 16), (12, 2)]
theorem r44x3.tab : rtab .any (opsOf Try.f44 3) = r44x3.T := by kernel_rfl
theorem r44x3.bits : waitsOk r44x3.T.2 r44x3.B = true := by kernel_rfl
theorem r44x3.base : baseOk r44x3.T.2 (List.range 13) = true := by kernel_rfl
theorem r44x3.okl : okL (opsOf Try.f44 3) r44x3.L 17 = true := by kernel_rfl
def r44x3.F (pb cb : Nat) (A : Option Addr) (c : Nat) (l : List Sp) (N : Nat) (W0 W : World) (i : Nat) : Value → World → Prop := match i with
  | 0 => fun v _ => v = (.pointer (some ⟨pb, 0, none⟩))
  | 1 => fun v _ => v = (.pointer (some ⟨pb, 0, none⟩))
  | 2 => fun v _ => v = (.pointer (some ⟨pb, 1, none⟩))
  | 3 => fun v _ => v = (PB cb)
  | 4 => fun v w => SumR W0 w cb l v
  | 5 => fun v _ => v = (.pointer (some ⟨pb, 0, none⟩))
  | 6 => fun v _ => v = (.pointer (some ⟨pb, 0, none⟩))
  | 7 => fun v _ => v = (.pointer (some ⟨pb, 0, none⟩))
  | 8 => fun v _ => v = (.slice A l.length c)
  | 9 => fun v _ => v = (.int .i64 (l.length : Int))
  | 10 => fun v w => ∃ ad, v = .pointer (some ad) ∧ w.cell? ad = some (.int .i64 (lsum (l.take l.length)))
  | 11 => fun v _ => v = (.int .i64 (lsum (l.take l.length)))
  | 12 => fun v _ => v = (.int .i64 (lsum (l.take l.length)))
  | _ => fun _ _ => True
def r44x3.St (pb cb : Nat) (A : Option Addr) (c : Nat) (l : List Sp) (N : Nat) (W0 W : World) (i : Nat) : World → World → Prop := match i with
  | 4 => fun w w' => Turn W0 pb cb A c l 1 w w'
  | _ => fun w w' => w' = w
def r44x3.G (pb cb : Nat) (A : Option Addr) (c : Nat) (l : List Sp) (N : Nat) (W0 W : World) : (Nat → Bool) → World → Prop := fun b w => Kept W w (fun k => k = cb) ∧ Wk W0 w pb cb A c l (N + if b 4 then 1 else 0)
set_option maxHeartbeats 4000000 in
set_option maxRecDepth 100000 in
theorem r44x3 (pb cb : Nat) (A : Option Addr) (c : Nat) (l : List Sp) (N : Nat) (W0 W : World) (hN : N < 999000) {Q : Exit → Act → World → Prop} {a0 : Act} {w0 : World} (hz : a0.tmps.size = 17) (z0 : a0.tmps[0]? = some (.pointer (some ⟨pb, 0, none⟩))) (hG0 : (r44x3.G pb cb A c l N W0 W) (fun _ => false) w0.drew)
    (hend : ∀ (v9 : Value) (v15 : Value) (w : World) (b : Nat → Bool), (∀ i, i < 13 → b i = true) → (r44x3.G pb cb A c l N W0 W) b w → r44x3.F pb cb A c l N W0 W 4 v9 w → r44x3.F pb cb A c l N W0 W 10 v15 w → Q .normal (putAll a0 [(5, (.pointer (some ⟨pb, 0, none⟩))), (6, (.pointer (some ⟨pb, 0, none⟩))), (7, (.pointer (some ⟨pb, 1, none⟩))), (8, (PB cb)), (9, v9), (10, (.pointer (some ⟨pb, 0, none⟩))), (11, (.pointer (some ⟨pb, 0, none⟩))), (12, (.pointer (some ⟨pb, 0, none⟩))), (13, (.slice A l.length c)), (14, (.int .i64 (l.length : Int))), (15, v15), (16, (.int .i64 (lsum (l.take l.length)))), (2, (.int .i64 (lsum (l.take l.length))))]) w) :
    (Code.region 3 (opsOf Try.f44 3) true).wp Try.prog Q a0 w0 := by
  refine region_lit (ops' := #[_, _, _, _, _, _, _, _, _, _, _, _, _]) rfl ?_
  refine region_facts (n := 13) (T := r44x3.T) (B := r44x3.B) r44x3.L (r44x3.G pb cb A c l N W0 W) (r44x3.St pb cb A c l N W0 W) (r44x3.F pb cb A c l N W0 W) (by kernel_rfl) (by kernel_rfl) r44x3.tab r44x3.bits r44x3.base (by rw [hz]; exact r44x3.okl) hG0 ?hSt ?hF ((all_cons ?s0 (all_cons ?s1 (all_cons ?s2 (all_cons ?s3 (all_cons ?s4 (all_cons ?s5 (all_cons ?s6 (all_cons ?s7 (all_cons ?s8 (all_cons ?s9 (all_cons ?s10 (all_cons ?s11 (all_cons ?s12 all_nil)))))))))))))) ?hend
  case hSt =>
    intro i b w w' hi hb hoff hG hst
    match i, hi, hb, hoff, hst with
    | 0, _, hb, hoff, hst =>
      obtain rfl : w' = w := hst
      obtain ⟨g1, g2⟩ := hG
      refine ⟨g1, ?_⟩
      rw [up_ne (by decide : (4 : Nat) ≠ _)]
      exact g2
    | 1, _, hb, hoff, hst =>
      obtain rfl : w' = w := hst
      obtain ⟨g1, g2⟩ := hG
      refine ⟨g1, ?_⟩
      rw [up_ne (by decide : (4 : Nat) ≠ _)]
      exact g2
    | 2, _, hb, hoff, hst =>
      obtain rfl : w' = w := hst
      obtain ⟨g1, g2⟩ := hG
      refine ⟨g1, ?_⟩
      rw [up_ne (by decide : (4 : Nat) ≠ _)]
      exact g2
    | 3, _, hb, hoff, hst =>
      obtain rfl : w' = w := hst
      obtain ⟨g1, g2⟩ := hG
      refine ⟨g1, ?_⟩
      rw [up_ne (by decide : (4 : Nat) ≠ _)]
      exact g2
    | 4, _, hb, hoff, hst =>
      obtain ⟨g1, g2⟩ := hG
      have hst' : Turn W0 pb cb A c l 1 w w' := hst
      refine ⟨g1.then_ hst'.1 (fun k hk => .inl hk), ?_⟩
      rw [up_self]
      rw [hb] at g2
      have := hst'.2 _ g2
      simpa using this
    | 5, _, hb, hoff, hst =>
      obtain rfl : w' = w := hst
      obtain ⟨g1, g2⟩ := hG
      refine ⟨g1, ?_⟩
      rw [up_ne (by decide : (4 : Nat) ≠ _)]
      exact g2
    | 6, _, hb, hoff, hst =>
      obtain rfl : w' = w := hst
      obtain ⟨g1, g2⟩ := hG
      refine ⟨g1, ?_⟩
      rw [up_ne (by decide : (4 : Nat) ≠ _)]
      exact g2
    | 7, _, hb, hoff, hst =>
      obtain rfl : w' = w := hst
      obtain ⟨g1, g2⟩ := hG
      refine ⟨g1, ?_⟩
      rw [up_ne (by decide : (4 : Nat) ≠ _)]
      exact g2
    | 8, _, hb, hoff, hst =>
      obtain rfl : w' = w := hst
      obtain ⟨g1, g2⟩ := hG
      refine ⟨g1, ?_⟩
      rw [up_ne (by decide : (4 : Nat) ≠ _)]
      exact g2
    | 9, _, hb, hoff, hst =>
      obtain rfl : w' = w := hst
      obtain ⟨g1, g2⟩ := hG
      refine ⟨g1, ?_⟩
      rw [up_ne (by decide : (4 : Nat) ≠ _)]
      exact g2
    | 10, _, hb, hoff, hst =>
      obtain rfl : w' = w := hst
      obtain ⟨g1, g2⟩ := hG
      refine ⟨g1, ?_⟩
      rw [up_ne (by decide : (4 : Nat) ≠ _)]
      exact g2
    | 11, _, hb, hoff, hst =>
      obtain rfl : w' = w := hst
      obtain ⟨g1, g2⟩ := hG
      refine ⟨g1, ?_⟩
      rw [up_ne (by decide : (4 : Nat) ≠ _)]
      exact g2
    | 12, _, hb, hoff, hst =>
      obtain rfl : w' = w := hst
      obtain ⟨g1, g2⟩ := hG
      refine ⟨g1, ?_⟩
      rw [up_ne (by decide : (4 : Nat) ≠ _)]
      exact g2
    | i + 13, hi, _, _, _ => exact absurd hi (by omega)
  case hF =>
    intro i j b v w w' hij hi hj hb hbj hoff hG hst hf
    match i, hi, hij, hb, hoff, hst with
    | 0, _, hij, hb, hoff, hst =>
      obtain rfl : w' = w := hst
      exact hf
    | 1, _, hij, hb, hoff, hst =>
      obtain rfl : w' = w := hst
      exact hf
    | 2, _, hij, hb, hoff, hst =>
      obtain rfl : w' = w := hst
      exact hf
    | 3, _, hij, hb, hoff, hst =>
      obtain rfl : w' = w := hst
      exact hf
    | 4, _, hij, hb, hoff, hst =>
      match j, hj, hij, hbj, hf with
      | 0, _, hij, hbj, hf => 
        exact hf
      | 1, _, hij, hbj, hf => 
        exact hf
      | 2, _, hij, hbj, hf => 
        exact hf
      | 3, _, hij, hbj, hf => 
        exact hf
      | 4, _, hij, hbj, hf => exact absurd rfl hij
      | 5, _, hij, hbj, hf => 
        exact hf
      | 6, _, hij, hbj, hf => 
        exact hf
      | 7, _, hij, hbj, hf => 
        exact hf
      | 8, _, hij, hbj, hf => 
        exact hf
      | 9, _, hij, hbj, hf => 
        exact hf
      | 10, _, hij, hbj, hf => exact absurd hbj (by rw [hoff 10 (by decide) (by decide)]; decide)
      | 11, _, hij, hbj, hf => exact absurd hbj (by rw [hoff 11 (by decide) (by decide)]; decide)
      | 12, _, hij, hbj, hf => exact absurd hbj (by rw [hoff 12 (by decide) (by decide)]; decide)
      | j + 13, hj, _, _, _ => exact absurd hj (by omega)
    | 5, _, hij, hb, hoff, hst =>
      obtain rfl : w' = w := hst
      exact hf
    | 6, _, hij, hb, hoff, hst =>
      obtain rfl : w' = w := hst
      exact hf
    | 7, _, hij, hb, hoff, hst =>
      obtain rfl : w' = w := hst
      exact hf
    | 8, _, hij, hb, hoff, hst =>
      obtain rfl : w' = w := hst
      exact hf
    | 9, _, hij, hb, hoff, hst =>
      obtain rfl : w' = w := hst
      exact hf
    | 10, _, hij, hb, hoff, hst =>
      obtain rfl : w' = w := hst
      exact hf
    | 11, _, hij, hb, hoff, hst =>
      obtain rfl : w' = w := hst
      exact hf
    | 12, _, hij, hb, hoff, hst =>
      obtain rfl : w' = w := hst
      exact hf
    | i + 13, hi, _, _, _, _ => exact absurd hi (by omega)
  case s0 =>
    refine ⟨_, rfl, fun b a w hG hb hoff hd hs K hK => ?_⟩
    have h0 := (hs 0 (by decide)).trans z0
    have e0 := eval_of h0
    refine value_ (v := (.pointer (some ⟨pb, 0, none⟩))) rfl rfl ?_ (hK _ _ rfl rfl)
    clear hd hs hK hoff
    clear e0
    go_simp
  case s1 =>
    refine ⟨_, rfl, fun b a w hG hb hoff hd hs K hK => ?_⟩
    obtain ⟨y5, h5, f5⟩ := hd 0 5 (by decide) (by decide)
    replace f5 : y5 = (.pointer (some ⟨pb, 0, none⟩)) := f5
    subst y5
    have e5 := eval_of h5
    refine value_ (v := (.pointer (some ⟨pb, 0, none⟩))) rfl rfl ?_ (hK _ _ rfl rfl)
    clear hd hs hK hoff
    clear e5
    go_simp
  case s2 =>
    refine ⟨_, rfl, fun b a w hG hb hoff hd hs K hK => ?_⟩
    obtain ⟨y6, h6, f6⟩ := hd 1 6 (by decide) (by decide)
    replace f6 : y6 = (.pointer (some ⟨pb, 0, none⟩)) := f6
    subst y6
    have e6 := eval_of h6
    refine value_ (v := (.pointer (some ⟨pb, 1, none⟩))) rfl rfl ?_ (hK _ _ rfl rfl)
    clear hd hs hK hoff
    clear e6
    go_simp
  case s3 =>
    refine ⟨_, rfl, fun b a w hG hb hoff hd hs K hK => ?_⟩
    obtain ⟨y7, h7, f7⟩ := hd 2 7 (by decide) (by decide)
    replace f7 : y7 = (.pointer (some ⟨pb, 1, none⟩)) := f7
    subst y7
    have e7 := eval_of h7
    refine value_ (v := (PB cb)) rfl rfl ?_ (hK _ _ rfl rfl)
    have hc := (blk_cell hG.2.blk 1).trans rfl
    clear hG
    clear hd hs hK hoff
    clear e7
    go_simp
  case s4 =>
    refine ⟨_, rfl, fun b a w hG hb hoff hd hs K hK => ?_⟩
    obtain ⟨y8, h8, f8⟩ := hd 3 8 (by decide) (by decide)
    replace f8 : y8 = (PB cb) := f8
    subst y8
    have e8 := eval_of h8
    have hW := hG.2
    refine goes_ Try.func87 (by kernel_rfl) rfl #[PB cb] rfl rfl rfl (by simp [e8]) ?_
    refine (hW.get ?hn).mono ?_
    case hn => simp only [hb]; simp; omega
    rintro e w' ⟨v, rfl, hs2, hw2, hk2⟩
    exact ⟨_, rfl, hK _ _ (hW.turn hw2 hk2) hs2⟩
  case s5 =>
    refine ⟨_, rfl, fun b a w hG hb hoff hd hs K hK => ?_⟩
    have h0 := (hs 0 (by decide)).trans z0
    have e0 := eval_of h0
    refine value_ (v := (.pointer (some ⟨pb, 0, none⟩))) rfl rfl ?_ (hK _ _ rfl rfl)
    clear hd hs hK hoff
    clear e0
    go_simp
  case s6 =>
    refine ⟨_, rfl, fun b a w hG hb hoff hd hs K hK => ?_⟩
    obtain ⟨y10, h10, f10⟩ := hd 5 10 (by decide) (by decide)
    replace f10 : y10 = (.pointer (some ⟨pb, 0, none⟩)) := f10
    subst y10
    have e10 := eval_of h10
    refine value_ (v := (.pointer (some ⟨pb, 0, none⟩))) rfl rfl ?_ (hK _ _ rfl rfl)
    clear hd hs hK hoff
    clear e10
    go_simp
  case s7 =>
    refine ⟨_, rfl, fun b a w hG hb hoff hd hs K hK => ?_⟩
    obtain ⟨y11, h11, f11⟩ := hd 6 11 (by decide) (by decide)
    replace f11 : y11 = (.pointer (some ⟨pb, 0, none⟩)) := f11
    subst y11
    have e11 := eval_of h11
    refine value_ (v := (.pointer (some ⟨pb, 0, none⟩))) rfl rfl ?_ (hK _ _ rfl rfl)
    clear hd hs hK hoff
    clear e11
    go_simp
  case s8 =>
    refine ⟨_, rfl, fun b a w hG hb hoff hd hs K hK => ?_⟩
    obtain ⟨y12, h12, f12⟩ := hd 7 12 (by decide) (by decide)
    replace f12 : y12 = (.pointer (some ⟨pb, 0, none⟩)) := f12
    subst y12
    have e12 := eval_of h12
    refine value_ (v := (.slice A l.length c)) rfl rfl ?_ (hK _ _ rfl rfl)
    have hc := (blk_cell hG.2.blk 0).trans rfl
    clear hG
    clear hd hs hK hoff
    clear e12
    go_simp
  case s9 =>
    refine ⟨_, rfl, fun b a w hG hb hoff hd hs K hK => ?_⟩
    obtain ⟨y13, h13, f13⟩ := hd 8 13 (by decide) (by decide)
    replace f13 : y13 = (.slice A l.length c) := f13
    subst y13
    have e13 := eval_of h13
    refine value_ (v := (.int .i64 (l.length : Int))) rfl rfl ?_ (hK _ _ rfl rfl)
    clear hG
    clear hd hs hK hoff
    clear e13
    go_simp
  case s10 =>
    refine ⟨_, rfl, fun b a w hG hb hoff hd hs K hK => ?_⟩
    obtain ⟨v9, h9, f9⟩ := hd 4 9 (by decide) (by decide)
    have e9 := eval_of h9
    obtain ⟨y14, h14, f14⟩ := hd 9 14 (by decide) (by decide)
    replace f14 : y14 = (.int .i64 (l.length : Int)) := f14
    subst y14
    have e14 := eval_of h14
    obtain ⟨ad, n, c2, hv, hin, hx⟩ := SumR.at_ f9 l.length (Nat.le_refl _)
    subst hv
    have hin2 : (l.length : Int) < (n : Int) := by omega
    refine value_ (v := .pointer (some (ad.add l.length))) rfl rfl ?_ (hK _ _ rfl ⟨_, rfl, hx⟩)
    clear hd hs hK hoff hG f9 hx
    go_simp
  case s11 =>
    refine ⟨_, rfl, fun b a w hG hb hoff hd hs K hK => ?_⟩
    obtain ⟨v15, h15, f15⟩ := hd 10 15 (by decide) (by decide)
    have e15 := eval_of h15
    obtain ⟨ad, hv, hx⟩ := f15
    subst hv
    refine value_ (v := .int .i64 (lsum (l.take l.length))) rfl rfl ?_ (hK _ _ rfl rfl)
    clear hd hs hK hoff hG
    go_simp
  case s12 =>
    refine ⟨_, rfl, fun b a w hG hb hoff hd hs K hK => ?_⟩
    obtain ⟨y16, h16, f16⟩ := hd 11 16 (by decide) (by decide)
    replace f16 : y16 = (.int .i64 (lsum (l.take l.length))) := f16
    subst y16
    have e16 := eval_of h16
    refine value_ (v := (.int .i64 (lsum (l.take l.length)))) rfl rfl ?_ (hK _ _ rfl rfl)
    clear hd hs hK hoff
    clear e16
    go_simp
  case hend =>
    intro b v w hb hG hv
    have f0 := hv 0 (by decide)
    have f1 := hv 1 (by decide)
    have f2 := hv 2 (by decide)
    have f3 := hv 3 (by decide)
    have f4 := hv 4 (by decide)
    have f5 := hv 5 (by decide)
    have f6 := hv 6 (by decide)
    have f7 := hv 7 (by decide)
    have f8 := hv 8 (by decide)
    have f9 := hv 9 (by decide)
    have f10 := hv 10 (by decide)
    have f11 := hv 11 (by decide)
    have f12 := hv 12 (by decide)
    have := hend (v 4) (v 10) w b hb hG f4 f10
    have gv0 : v 0 = (.pointer (some ⟨pb, 0, none⟩)) := f0
    have gv1 : v 1 = (.pointer (some ⟨pb, 0, none⟩)) := f1
    have gv2 : v 2 = (.pointer (some ⟨pb, 1, none⟩)) := f2
    have gv3 : v 3 = (PB cb) := f3
    have gv5 : v 5 = (.pointer (some ⟨pb, 0, none⟩)) := f5
    have gv6 : v 6 = (.pointer (some ⟨pb, 0, none⟩)) := f6
    have gv7 : v 7 = (.pointer (some ⟨pb, 0, none⟩)) := f7
    have gv8 : v 8 = (.slice A l.length c) := f8
    have gv9 : v 9 = (.int .i64 (l.length : Int)) := f9
    have gv11 : v 11 = (.int .i64 (lsum (l.take l.length))) := f11
    have gv12 : v 12 = (.int .i64 (lsum (l.take l.length))) := f12
    have e : (r44x3.L.map fun e => (e.2, v e.1)) = [(5, (.pointer (some ⟨pb, 0, none⟩))), (6, (.pointer (some ⟨pb, 0, none⟩))), (7, (.pointer (some ⟨pb, 1, none⟩))), (8, (PB cb)), (9, v 4), (10, (.pointer (some ⟨pb, 0, none⟩))), (11, (.pointer (some ⟨pb, 0, none⟩))), (12, (.pointer (some ⟨pb, 0, none⟩))), (13, (.slice A l.length c)), (14, (.int .i64 (l.length : Int))), (15, v 10), (16, (.int .i64 (lsum (l.take l.length)))), (2, (.int .i64 (lsum (l.take l.length))))] := by
      simp only [r44x3.L, List.map_cons, List.map_nil, gv0, gv1, gv2, gv3, gv5, gv6, gv7, gv8, gv9, gv11, gv12]
    rw [e]
    exact this

/-- Total. -/
theorem Wk.total {W0 w : World} {pb cb : Nat} {A : Option Addr} {c : Nat} {l : List Sp} {N : Nat} (h : Wk W0 w pb cb A c l N) (hN : N < 999000) :
    Calls Try.prog 44 #[PB pb] w fun e w' => e = .returned (.int .i64 (lsum l)) ∧ Wk W0 w' pb cb A c l (N + 1) ∧ Kept w w' (fun k => k = cb) := by
  have H := Aside0.mk h
  clear h
  go_enter Try.func44, Try.ntmps44
  go_wp2_with (go_at_call 86; refine (H.out.made86).mono ?_; rintro e w' ⟨rfl, rfl⟩)
  refine r44x3 pb cb A c l N W0 w hN rfl rfl ⟨(Kept.refl w _).drew, by have := H.out.drew; simpa using this⟩ (fun v9 v15 w2 b hb hG f9 f15 => ?_)
  have HG := Aside0.mk hG
  have h4 := hb 4 (by decide)
  clear hG f9 f15 hb
  simp only [putAll, Act.put, List.setIfInBounds_toArray, List.set_cons_zero, List.set_cons_succ]
  go_wp2
  go_ret
  refine ⟨by first | rfl | simp, ?_, HG.out.1⟩
  have := HG.out.2
  rw [h4] at this
  exact this

end Go.Proofs.Ytbjbejjieibldaa.Va
