/- LazyChain: its cells' function. -/
import Derived.Test.YtbjbejjieibldaaLr
namespace Go.Proofs.Ytbjbejjieibldaa.La
open Go.RowKit Go.Proofs.YtbjbejjieibldaaW.PrintWords Go.Proofs.YtbjbejjieibldaaW.PrintLast Go.Proofs.YtbjbejjieibldaaW.PrintMore Go.Maps Go.Proofs.Ytbjbejjieibldaa.Rg
open Go.Proofs.Ytbjbejjieibldaa
set_option linter.unusedVariables false
set_option linter.unusedSimpArgs false

def xr (x y : Int) : Int := bits .xor .i64 x y
/-! ### region 4 of function 57 -/
def r57x4.T : Bool × List (List Nat × List Nat) := (true, [([], []), ([], []), ([0, 1], [0, 1]), ([2], [2]), ([], []), ([], []), ([5], [5]), ([4, 6], [4, 6]), ([7], [7]), ([8], [8]), ([3, 9], [3, 9]), ([10, 9, 0, 1, 2, 3, 4, 5, 6, 7, 8, 9, 10], [10])])
def r57x4.B : List Nat := [0, 0, 3, 7, 0, 0, 32, 112, 240, 496, 1023, 2047]
def r57x4.L : List (Nat × Tmp) := [(0, 16), (1, 17), (2, 18), (3, 19), (4, 20), (5, 21), (6, 22), (7, 23), (8, 24), (9, 25), (10, 26), (11, 4)]
theorem r57x4.tab : rtab .any (opsOf Try.f57 4) = r57x4.T := by kernel_rfl
theorem r57x4.bits : waitsOk r57x4.T.2 r57x4.B = true := by kernel_rfl
theorem r57x4.base : baseOk r57x4.T.2 (List.range 12) = true := by kernel_rfl
theorem r57x4.okl : okL (opsOf Try.f57 4) r57x4.L 27 = true := by kernel_rfl
def r57x4.F (q2 q6 g7 gp cb ii n : Nat) (ad : Addr) (cl : Nat) (x y : Int) (R : World → Prop) (W : World) (i : Nat) : Value → World → Prop := match i with
  | 0 => fun v _ => v = (.slice (some ad) n cl)
  | 1 => fun v _ => v = (.int .i64 ii)
  | 2 => fun v _ => v = (.pointer (some (ad.add ii)))
  | 3 => fun v _ => v = (.int .i64 x)
  | 4 => fun v _ => v = (.slice (some ⟨gp, 0, none⟩) n n)
  | 5 => fun v _ => v = (.int .i64 ii)
  | 6 => fun v _ => v = (.int .i64 ((ii - 1 : Nat) : Int))
  | 7 => fun v _ => v = (.pointer (some ⟨gp, ii - 1, none⟩))
  | 8 => fun v _ => v = (PB cb)
  | 9 => fun v w => v = .int .i64 y ∧ R w
  | 10 => fun v _ => v = (.int .i64 (xr x y))
  | 11 => fun v _ => v = (.int .i64 (xr x y))
  | _ => fun _ _ => True
def r57x4.St (q2 q6 g7 gp cb ii n : Nat) (ad : Addr) (cl : Nat) (x y : Int) (R : World → Prop) (W : World) (i : Nat) : World → World → Prop := match i with
  | 9 => fun w w' => R w'
  | _ => fun w w' => w' = w
def r57x4.G (q2 q6 g7 gp cb ii n : Nat) (ad : Addr) (cl : Nat) (x y : Int) (R : World → Prop) (W : World) : (Nat → Bool) → World → Prop := fun b w => w.cell? ⟨q2, 0, none⟩ = some (.slice (some ad) n cl) ∧ w.cell? ⟨g7, 0, none⟩ = some (.int .i64 ii) ∧ w.cell? (ad.add ii) = some (.int .i64 x) ∧ w.cell? ⟨q6, 0, none⟩ = some (.slice (some ⟨gp, 0, none⟩) n n) ∧ w.cell? ⟨gp, ii - 1, none⟩ = some (PB cb) ∧ (b 9 = false → w = W.drew)
set_option maxHeartbeats 4000000 in
set_option maxRecDepth 100000 in
theorem r57x4 (q2 q6 g7 gp cb ii n : Nat) (ad : Addr) (cl : Nat) (x y : Int) (R : World → Prop) (W : World) (hin : ii < n) (hi0 : 0 < ii) (hn : n ≤ 1000) (hget : Calls Try.prog 58 #[PB cb] W.drew fun e w2 => e = .returned (.int .i64 y) ∧ R w2) (hR : ∀ w, R w → w.cell? ⟨q2, 0, none⟩ = some (.slice (some ad) n cl) ∧ w.cell? ⟨g7, 0, none⟩ = some (.int .i64 ii) ∧ w.cell? (ad.add ii) = some (.int .i64 x) ∧ w.cell? ⟨q6, 0, none⟩ = some (.slice (some ⟨gp, 0, none⟩) n n) ∧ w.cell? ⟨gp, ii - 1, none⟩ = some (PB cb)) (hxor : ∀ w : World, Sem.run Try.prog (binOp BinOp.xor 2 (.int .i64 x) (.int .i64 y)) w = .ok (.int .i64 (xr x y)) w) {Q : Exit → Act → World → Prop} {a0 : Act} {w0 : World} (hz : a0.tmps.size = 27) (z1 : a0.tmps[1]? = some (.pointer (some ⟨g7, 0, none⟩))) (z2 : a0.tmps[2]? = some (.pointer (some ⟨q2, 0, none⟩))) (z3 : a0.tmps[3]? = some (.pointer (some ⟨q6, 0, none⟩))) (hG0 : (r57x4.G q2 q6 g7 gp cb ii n ad cl x y R W) (fun _ => false) w0.drew)
    (hend : ∀ (v25 : Value) (w : World) (b : Nat → Bool), (∀ i, i < 12 → b i = true) → (r57x4.G q2 q6 g7 gp cb ii n ad cl x y R W) b w → r57x4.F q2 q6 g7 gp cb ii n ad cl x y R W 9 v25 w → Q .normal (putAll a0 [(16, (.slice (some ad) n cl)), (17, (.int .i64 ii)), (18, (.pointer (some (ad.add ii)))), (19, (.int .i64 x)), (20, (.slice (some ⟨gp, 0, none⟩) n n)), (21, (.int .i64 ii)), (22, (.int .i64 ((ii - 1 : Nat) : Int))), (23, (.pointer (some ⟨gp, ii - 1, none⟩))), (24, (PB cb)), (25, v25), (26, (.int .i64 (xr x y))), (4, (.int .i64 (xr x y)))]) w) :
    (Code.region 4 (opsOf Try.f57 4) true).wp Try.prog Q a0 w0 := by
  refine region_lit (ops' := #[_, _, _, _, _, _, _, _, _, _, _, _]) rfl ?_
  refine region_facts (n := 12) (T := r57x4.T) (B := r57x4.B) r57x4.L (r57x4.G q2 q6 g7 gp cb ii n ad cl x y R W) (r57x4.St q2 q6 g7 gp cb ii n ad cl x y R W) (r57x4.F q2 q6 g7 gp cb ii n ad cl x y R W) (by kernel_rfl) (by kernel_rfl) r57x4.tab r57x4.bits r57x4.base (by rw [hz]; exact r57x4.okl) hG0 ?hSt ?hF ((all_cons ?s0 (all_cons ?s1 (all_cons ?s2 (all_cons ?s3 (all_cons ?s4 (all_cons ?s5 (all_cons ?s6 (all_cons ?s7 (all_cons ?s8 (all_cons ?s9 (all_cons ?s10 (all_cons ?s11 all_nil))))))))))))) ?hend
  case hSt =>
    intro i b w w' hi hb hoff hG hst
    match i, hi, hb, hoff, hst with
    | 0, _, hb, hoff, hst =>
      obtain rfl : w' = w := hst
      obtain ⟨a1, a2, a3, a4, a5, a6⟩ := hG
      exact ⟨a1, a2, a3, a4, a5, fun h => a6 (by rw [up_ne (by decide)] at h; exact h)⟩
    | 1, _, hb, hoff, hst =>
      obtain rfl : w' = w := hst
      obtain ⟨a1, a2, a3, a4, a5, a6⟩ := hG
      exact ⟨a1, a2, a3, a4, a5, fun h => a6 (by rw [up_ne (by decide)] at h; exact h)⟩
    | 2, _, hb, hoff, hst =>
      obtain rfl : w' = w := hst
      obtain ⟨a1, a2, a3, a4, a5, a6⟩ := hG
      exact ⟨a1, a2, a3, a4, a5, fun h => a6 (by rw [up_ne (by decide)] at h; exact h)⟩
    | 3, _, hb, hoff, hst =>
      obtain rfl : w' = w := hst
      obtain ⟨a1, a2, a3, a4, a5, a6⟩ := hG
      exact ⟨a1, a2, a3, a4, a5, fun h => a6 (by rw [up_ne (by decide)] at h; exact h)⟩
    | 4, _, hb, hoff, hst =>
      obtain rfl : w' = w := hst
      obtain ⟨a1, a2, a3, a4, a5, a6⟩ := hG
      exact ⟨a1, a2, a3, a4, a5, fun h => a6 (by rw [up_ne (by decide)] at h; exact h)⟩
    | 5, _, hb, hoff, hst =>
      obtain rfl : w' = w := hst
      obtain ⟨a1, a2, a3, a4, a5, a6⟩ := hG
      exact ⟨a1, a2, a3, a4, a5, fun h => a6 (by rw [up_ne (by decide)] at h; exact h)⟩
    | 6, _, hb, hoff, hst =>
      obtain rfl : w' = w := hst
      obtain ⟨a1, a2, a3, a4, a5, a6⟩ := hG
      exact ⟨a1, a2, a3, a4, a5, fun h => a6 (by rw [up_ne (by decide)] at h; exact h)⟩
    | 7, _, hb, hoff, hst =>
      obtain rfl : w' = w := hst
      obtain ⟨a1, a2, a3, a4, a5, a6⟩ := hG
      exact ⟨a1, a2, a3, a4, a5, fun h => a6 (by rw [up_ne (by decide)] at h; exact h)⟩
    | 8, _, hb, hoff, hst =>
      obtain rfl : w' = w := hst
      obtain ⟨a1, a2, a3, a4, a5, a6⟩ := hG
      exact ⟨a1, a2, a3, a4, a5, fun h => a6 (by rw [up_ne (by decide)] at h; exact h)⟩
    | 9, _, hb, hoff, hst =>
      obtain ⟨a1, a2, a3, a4, a5⟩ := hR _ hst
      exact ⟨a1, a2, a3, a4, a5, fun h => by rw [up_self] at h; cases h⟩
    | 10, _, hb, hoff, hst =>
      obtain rfl : w' = w := hst
      obtain ⟨a1, a2, a3, a4, a5, a6⟩ := hG
      exact ⟨a1, a2, a3, a4, a5, fun h => a6 (by rw [up_ne (by decide)] at h; exact h)⟩
    | 11, _, hb, hoff, hst =>
      obtain rfl : w' = w := hst
      obtain ⟨a1, a2, a3, a4, a5, a6⟩ := hG
      exact ⟨a1, a2, a3, a4, a5, fun h => a6 (by rw [up_ne (by decide)] at h; exact h)⟩
    | i + 12, hi, _, _, _ => exact absurd hi (by omega)
  case hF =>
    intro i j b v w w' hij hi hj hb hbj hoff hG hst hf
    match i, hi, hij, hb, hoff, hst with
    | 0, _, hij, hb, hoff, hst =>
      obtain rfl : w' = w := hst
      exact hf
    | 1, _, hij, hb, hoff, hst =>
      obtain rfl : w' = w := hst
      exact hf
    | 2, _, hij, hb, hoff, hst =>
      obtain rfl : w' = w := hst
      exact hf
    | 3, _, hij, hb, hoff, hst =>
      obtain rfl : w' = w := hst
      exact hf
    | 4, _, hij, hb, hoff, hst =>
      obtain rfl : w' = w := hst
      exact hf
    | 5, _, hij, hb, hoff, hst =>
      obtain rfl : w' = w := hst
      exact hf
    | 6, _, hij, hb, hoff, hst =>
      obtain rfl : w' = w := hst
      exact hf
    | 7, _, hij, hb, hoff, hst =>
      obtain rfl : w' = w := hst
      exact hf
    | 8, _, hij, hb, hoff, hst =>
      obtain rfl : w' = w := hst
      exact hf
    | 9, _, hij, hb, hoff, hst =>
      match j, hj, hij, hbj, hf with
      | 0, _, hij, hbj, hf => 
        exact hf
      | 1, _, hij, hbj, hf => 
        exact hf
      | 2, _, hij, hbj, hf => 
        exact hf
      | 3, _, hij, hbj, hf => 
        exact hf
      | 4, _, hij, hbj, hf => 
        exact hf
      | 5, _, hij, hbj, hf => 
        exact hf
      | 6, _, hij, hbj, hf => 
        exact hf
      | 7, _, hij, hbj, hf => 
        exact hf
      | 8, _, hij, hbj, hf => 
        exact hf
      | 9, _, hij, hbj, hf => exact absurd rfl hij
      | 10, _, hij, hbj, hf => exact absurd hbj (by rw [hoff 10 (by decide) (by decide)]; decide)
      | 11, _, hij, hbj, hf => exact absurd hbj (by rw [hoff 11 (by decide) (by decide)]; decide)
      | j + 12, hj, _, _, _ => exact absurd hj (by omega)
    | 10, _, hij, hb, hoff, hst =>
      obtain rfl : w' = w := hst
      exact hf
    | 11, _, hij, hb, hoff, hst =>
      obtain rfl : w' = w := hst
      exact hf
    | i + 12, hi, _, _, _, _ => exact absurd hi (by omega)
  case s0 =>
    refine ⟨_, rfl, fun b a w hG hb hoff hd hs K hK => ?_⟩
    have h2 := (hs 2 (by decide)).trans z2
    have e2 := eval_of h2
    refine value_ (v := (.slice (some ad) n cl)) rfl rfl ?_ (hK _ _ rfl rfl)
    have hc := hG.1
    clear hG
    clear hd hs hK hoff
    clear e2
    go_simp
  case s1 =>
    refine ⟨_, rfl, fun b a w hG hb hoff hd hs K hK => ?_⟩
    have h1 := (hs 1 (by decide)).trans z1
    have e1 := eval_of h1
    refine value_ (v := (.int .i64 ii)) rfl rfl ?_ (hK _ _ rfl rfl)
    have hc := hG.2.1
    clear hG
    clear hd hs hK hoff
    clear e1
    go_simp
  case s2 =>
    refine ⟨_, rfl, fun b a w hG hb hoff hd hs K hK => ?_⟩
    obtain ⟨y16, h16, f16⟩ := hd 0 16 (by decide) (by decide)
    replace f16 : y16 = (.slice (some ad) n cl) := f16
    subst y16
    have e16 := eval_of h16
    obtain ⟨y17, h17, f17⟩ := hd 1 17 (by decide) (by decide)
    replace f17 : y17 = (.int .i64 ii) := f17
    subst y17
    have e17 := eval_of h17
    refine value_ (v := (.pointer (some (ad.add ii)))) rfl rfl ?_ (hK _ _ rfl rfl)
    have hi2 := hin
    clear hG
    clear hd hs hK hoff
    clear e16
    clear e17
    go_simp
  case s3 =>
    refine ⟨_, rfl, fun b a w hG hb hoff hd hs K hK => ?_⟩
    obtain ⟨y18, h18, f18⟩ := hd 2 18 (by decide) (by decide)
    replace f18 : y18 = (.pointer (some (ad.add ii))) := f18
    subst y18
    have e18 := eval_of h18
    refine value_ (v := (.int .i64 x)) rfl rfl ?_ (hK _ _ rfl rfl)
    have hc := hG.2.2.1
    clear hG
    clear hd hs hK hoff
    clear e18
    go_simp
  case s4 =>
    refine ⟨_, rfl, fun b a w hG hb hoff hd hs K hK => ?_⟩
    have h3 := (hs 3 (by decide)).trans z3
    have e3 := eval_of h3
    refine value_ (v := (.slice (some ⟨gp, 0, none⟩) n n)) rfl rfl ?_ (hK _ _ rfl rfl)
    have hc := hG.2.2.2.1
    clear hG
    clear hd hs hK hoff
    clear e3
    go_simp
  case s5 =>
    refine ⟨_, rfl, fun b a w hG hb hoff hd hs K hK => ?_⟩
    have h1 := (hs 1 (by decide)).trans z1
    have e1 := eval_of h1
    refine value_ (v := (.int .i64 ii)) rfl rfl ?_ (hK _ _ rfl rfl)
    have hc := hG.2.1
    clear hG
    clear hd hs hK hoff
    clear e1
    go_simp
  case s6 =>
    refine ⟨_, rfl, fun b a w hG hb hoff hd hs K hK => ?_⟩
    obtain ⟨y21, h21, f21⟩ := hd 5 21 (by decide) (by decide)
    replace f21 : y21 = (.int .i64 ii) := f21
    subst y21
    have e21 := eval_of h21
    refine value_ (v := (.int .i64 ((ii - 1 : Nat) : Int))) rfl rfl ?_ (hK _ _ rfl rfl)
    have hw : IntKind.i64.wrap ((ii : Int) - 1) = ((ii - 1 : Nat) : Int) := by rw [IntWalk.i64_in _ (by omega)]; omega
    clear hG
    clear hd hs hK hoff
    clear e21
    go_simp
  case s7 =>
    refine ⟨_, rfl, fun b a w hG hb hoff hd hs K hK => ?_⟩
    obtain ⟨y20, h20, f20⟩ := hd 4 20 (by decide) (by decide)
    replace f20 : y20 = (.slice (some ⟨gp, 0, none⟩) n n) := f20
    subst y20
    have e20 := eval_of h20
    obtain ⟨y22, h22, f22⟩ := hd 6 22 (by decide) (by decide)
    replace f22 : y22 = (.int .i64 ((ii - 1 : Nat) : Int)) := f22
    subst y22
    have e22 := eval_of h22
    refine value_ (v := (.pointer (some ⟨gp, ii - 1, none⟩))) rfl rfl ?_ (hK _ _ rfl rfl)
    clear hG
    have hi2 : ((ii - 1 : Nat) : Int) < (n : Int) := by omega
    have hi3 : (0 : Int) ≤ ((ii - 1 : Nat) : Int) := by omega
    clear hd hs hK hoff
    clear e20
    clear e22
    go_simp
  case s8 =>
    refine ⟨_, rfl, fun b a w hG hb hoff hd hs K hK => ?_⟩
    obtain ⟨y23, h23, f23⟩ := hd 7 23 (by decide) (by decide)
    replace f23 : y23 = (.pointer (some ⟨gp, ii - 1, none⟩)) := f23
    subst y23
    have e23 := eval_of h23
    refine value_ (v := (PB cb)) rfl rfl ?_ (hK _ _ rfl rfl)
    have hc := hG.2.2.2.2.1
    clear hG
    clear hd hs hK hoff
    clear e23
    go_simp
  case s9 =>
    refine ⟨_, rfl, fun b a w hG hb hoff hd hs K hK => ?_⟩
    obtain ⟨y24, h24, f24⟩ := hd 8 24 (by decide) (by decide)
    replace f24 : y24 = (PB cb) := f24
    subst y24
    have e24 := eval_of h24
    refine goes_ Try.func58 (by kernel_rfl) rfl #[PB cb] rfl rfl rfl (by simp [e24]) ?_
    have hw := hG.2.2.2.2.2 hb
    subst hw
    refine hget.mono ?_
    rintro e w' ⟨rfl, hr⟩
    exact ⟨_, rfl, hK _ _ hr ⟨rfl, hr⟩⟩
  case s10 =>
    refine ⟨_, rfl, fun b a w hG hb hoff hd hs K hK => ?_⟩
    obtain ⟨y19, h19, f19⟩ := hd 3 19 (by decide) (by decide)
    replace f19 : y19 = (.int .i64 x) := f19
    subst y19
    have e19 := eval_of h19
    obtain ⟨v25, h25, f25⟩ := hd 9 25 (by decide) (by decide)
    have e25 := eval_of h25
    refine value_ (v := (.int .i64 (xr x y))) rfl rfl ?_ (hK _ _ rfl rfl)
    obtain ⟨f25a, _⟩ := f25
    subst f25a
    clear hG
    clear hd hs hK hoff
    clear e19
    clear e25
    go_simp
    rfl
  case s11 =>
    refine ⟨_, rfl, fun b a w hG hb hoff hd hs K hK => ?_⟩
    obtain ⟨y26, h26, f26⟩ := hd 10 26 (by decide) (by decide)
    replace f26 : y26 = (.int .i64 (xr x y)) := f26
    subst y26
    have e26 := eval_of h26
    refine value_ (v := (.int .i64 (xr x y))) rfl rfl ?_ (hK _ _ rfl rfl)
    clear hG
    clear hd hs hK hoff
    clear e26
    go_simp
  case hend =>
    intro b v w hb hG hv
    have f0 := hv 0 (by decide)
    have f1 := hv 1 (by decide)
    have f2 := hv 2 (by decide)
    have f3 := hv 3 (by decide)
    have f4 := hv 4 (by decide)
    have f5 := hv 5 (by decide)
    have f6 := hv 6 (by decide)
    have f7 := hv 7 (by decide)
    have f8 := hv 8 (by decide)
    have f9 := hv 9 (by decide)
    have f10 := hv 10 (by decide)
    have f11 := hv 11 (by decide)
    have := hend (v 9) w b hb hG f9
    have gv0 : v 0 = (.slice (some ad) n cl) := f0
    have gv1 : v 1 = (.int .i64 ii) := f1
    have gv2 : v 2 = (.pointer (some (ad.add ii))) := f2
    have gv3 : v 3 = (.int .i64 x) := f3
    have gv4 : v 4 = (.slice (some ⟨gp, 0, none⟩) n n) := f4
    have gv5 : v 5 = (.int .i64 ii) := f5
    have gv6 : v 6 = (.int .i64 ((ii - 1 : Nat) : Int)) := f6
    have gv7 : v 7 = (.pointer (some ⟨gp, ii - 1, none⟩)) := f7
    have gv8 : v 8 = (PB cb) := f8
    have gv10 : v 10 = (.int .i64 (xr x y)) := f10
    have gv11 : v 11 = (.int .i64 (xr x y)) := f11
    have e : (r57x4.L.map fun e => (e.2, v e.1)) = [(16, (.slice (some ad) n cl)), (17, (.int .i64 ii)), (18, (.pointer (some (ad.add ii)))), (19, (.int .i64 x)), (20, (.slice (some ⟨gp, 0, none⟩) n n)), (21, (.int .i64 ii)), (22, (.int .i64 ((ii - 1 : Nat) : Int))), (23, (.pointer (some ⟨gp, ii - 1, none⟩))), (24, (PB cb)), (25, v 9), (26, (.int .i64 (xr x y))), (4, (.int .i64 (xr x y)))] := by
      simp only [r57x4.L, List.map_cons, List.map_nil, gv0, gv1, gv2, gv3, gv4, gv5, gv6, gv7, gv8, gv10, gv11]
    rw [e]
    exact this

/-! ### region 8 of function 11 -/
def r11x8.T : Bool × List (List Nat × List Nat) := (true, [([], []), ([], []), ([], []), ([2], [2]), ([0, 1, 0, 1, 2, 3], [0, 1]), ([4, 3, 3, 0, 1, 2, 3], [3, 4])])
def r11x8.B : List Nat := [0, 0, 0, 4, 15, 31]
def r11x8.L : List (Nat × Tmp) := [(0, 33), (1, 34), (2, 35), (3, 36), (4, 37)]
theorem r11x8.tab : rtab .any (opsOf Try.f11 8) = r11x8.T := by kernel_rfl
theorem r11x8.bits : waitsOk r11x8.T.2 r11x8.B = true := by kernel_rfl
theorem r11x8.base : baseOk r11x8.T.2 (List.range 6) = true := by kernel_rfl
theorem r11x8.okl : okL (opsOf Try.f11 8) r11x8.L 97 = true := by kernel_rfl
def r11x8.F (q2 q5 q6 g7 gp ii n : Nat) (arr : Array Value) (base : Nat) (W : World) (i : Nat) : Value → World → Prop := match i with
  | 0 => fun v _ => v = (.slice (some ⟨gp, 0, none⟩) n n)
  | 1 => fun v _ => v = (.int .i64 ii)
  | 2 => fun v _ => v = (.func (.func 57) #[] #[PB q5, PB g7, PB q2, PB q6])
  | 3 => fun v w => ∃ cb, v = PB cb ∧ W.heap.size ≤ cb ∧ w.heap[cb]? = some (CB 126 0 0 0 0 (.func (.func 57) #[] #[PB q5, PB g7, PB q2, PB q6]) (.int .i64 0))
  | 4 => fun v _ => v = (.pointer (some ⟨gp, ii, none⟩))
  | 5 => fun v w => ∃ cb, v = PB cb ∧ w.heap[gp]? = some (.cells (arr.setIfInBounds ii (PB cb)) 106 (0, 0)) ∧ W.heap.size ≤ cb ∧ w.heap[cb]? = some (CB 126 0 0 0 0 (.func (.func 57) #[] #[PB q5, PB g7, PB q2, PB q6]) (.int .i64 0))
  | _ => fun _ _ => True
def r11x8.St (q2 q5 q6 g7 gp ii n : Nat) (arr : Array Value) (base : Nat) (W : World) (i : Nat) : World → World → Prop := match i with
  | 3 => fun w w' => Below w.heap.size w w'
  | 5 => fun w w' => ∃ u, w' = w.setCell ⟨gp, ii, none⟩ u
  | _ => fun w w' => w' = w
def r11x8.G (q2 q5 q6 g7 gp ii n : Nat) (arr : Array Value) (base : Nat) (W : World) : (Nat → Bool) → World → Prop := fun b w => Kept W w (fun k => k = gp) ∧ w.heap[q6]? = some (.cells #[.slice (some ⟨gp, 0, none⟩) n n] 105 (0, 0)) ∧ w.heap[g7]? = some (.cells #[.int .i64 ii] 3 (0, 0)) ∧ (b 5 = false → w.heap[gp]? = some (.cells arr 106 (0, 0))) ∧ Below base W w
set_option maxHeartbeats 4000000 in
set_option maxRecDepth 100000 in
theorem r11x8 (q2 q5 q6 g7 gp ii n : Nat) (arr : Array Value) (base : Nat) (W : World) (hbase0 : base ≤ W.heap.size) (hgl : gp < W.heap.size) (hbg : base ≤ gp) (h6p : q6 ≠ gp) (h7p : g7 ≠ gp) (hin : ii < n) (hn : n ≤ 1000) (hya : ∃ y, arr[ii]? = some y) {Q : Exit → Act → World → Prop} {a0 : Act} {w0 : World} (hz : a0.tmps.size = 97) (z2 : a0.tmps[2]? = some (.pointer (some ⟨q2, 0, none⟩))) (z5 : a0.tmps[5]? = some (.pointer (some ⟨q5, 0, none⟩))) (z6 : a0.tmps[6]? = some (.pointer (some ⟨q6, 0, none⟩))) (z7 : a0.tmps[7]? = some (.pointer (some ⟨g7, 0, none⟩))) (hG0 : (r11x8.G q2 q5 q6 g7 gp ii n arr base W) (fun _ => false) w0.drew)
    (hend : ∀ (v36 : Value) (v5 : Value) (w : World) (b : Nat → Bool), (∀ i, i < 6 → b i = true) → (r11x8.G q2 q5 q6 g7 gp ii n arr base W) b w → r11x8.F q2 q5 q6 g7 gp ii n arr base W 3 v36 w → r11x8.F q2 q5 q6 g7 gp ii n arr base W 5 v5 w → Q .normal (putAll a0 [(33, (.slice (some ⟨gp, 0, none⟩) n n)), (34, (.int .i64 ii)), (35, (.func (.func 57) #[] #[PB q5, PB g7, PB q2, PB q6])), (36, v36), (37, (.pointer (some ⟨gp, ii, none⟩)))]) w) :
    (Code.region 8 (opsOf Try.f11 8) true).wp Try.prog Q a0 w0 := by
  refine region_lit (ops' := #[_, _, _, _, _, _]) rfl ?_
  refine region_facts (n := 6) (T := r11x8.T) (B := r11x8.B) r11x8.L (r11x8.G q2 q5 q6 g7 gp ii n arr base W) (r11x8.St q2 q5 q6 g7 gp ii n arr base W) (r11x8.F q2 q5 q6 g7 gp ii n arr base W) (by kernel_rfl) (by kernel_rfl) r11x8.tab r11x8.bits r11x8.base (by rw [hz]; exact r11x8.okl) hG0 ?hSt ?hF ((all_cons ?s0 (all_cons ?s1 (all_cons ?s2 (all_cons ?s3 (all_cons ?s4 (all_cons ?s5 all_nil))))))) ?hend
  case hSt =>
    intro i b w w' hi hb hoff hG hst
    match i, hi, hb, hoff, hst with
    | 0, _, hb, hoff, hst =>
      obtain rfl : w' = w := hst
      obtain ⟨hk, h6, h7, hp, hbl⟩ := hG
      exact ⟨hk, h6, h7, fun h => hp (by rw [up_ne (by decide)] at h; exact h), hbl⟩
    | 1, _, hb, hoff, hst =>
      obtain rfl : w' = w := hst
      obtain ⟨hk, h6, h7, hp, hbl⟩ := hG
      exact ⟨hk, h6, h7, fun h => hp (by rw [up_ne (by decide)] at h; exact h), hbl⟩
    | 2, _, hb, hoff, hst =>
      obtain rfl : w' = w := hst
      obtain ⟨hk, h6, h7, hp, hbl⟩ := hG
      exact ⟨hk, h6, h7, fun h => hp (by rw [up_ne (by decide)] at h; exact h), hbl⟩
    | 3, _, hb, hoff, hst =>
      obtain ⟨hk, h6, h7, hp, hbl⟩ := hG
      have hst' : Below w.heap.size w w' := hst
      exact ⟨hk.below hst', blk_below h6 hst', blk_below h7 hst', fun h => blk_below (hp (by rw [up_ne (by decide)] at h; exact h)) hst', below_then hbl (Nat.le_trans hbase0 hk.1) hst'⟩
    | 4, _, hb, hoff, hst =>
      obtain rfl : w' = w := hst
      obtain ⟨hk, h6, h7, hp, hbl⟩ := hG
      exact ⟨hk, h6, h7, fun h => hp (by rw [up_ne (by decide)] at h; exact h), hbl⟩
    | 5, _, hb, hoff, hst =>
      obtain ⟨hk, h6, h7, hp, hbl⟩ := hG
      obtain ⟨u, rfl⟩ : ∃ u, w' = w.setCell ⟨gp, ii, none⟩ u := hst
      refine ⟨hk.setCell (p := ⟨gp, ii, none⟩) (.inl rfl) u, blk_far h6 (by exact h6p) u, blk_far h7 (by exact h7p) u, fun h => ?_, hbl.setCell (p := ⟨gp, ii, none⟩) hbg u⟩
      rw [up_self] at h; cases h
    | i + 6, hi, _, _, _ => exact absurd hi (by omega)
  case hF =>
    intro i j b v w w' hij hi hj hb hbj hoff hG hst hf
    match i, hi, hij, hb, hoff, hst with
    | 0, _, hij, hb, hoff, hst =>
      obtain rfl : w' = w := hst
      exact hf
    | 1, _, hij, hb, hoff, hst =>
      obtain rfl : w' = w := hst
      exact hf
    | 2, _, hij, hb, hoff, hst =>
      obtain rfl : w' = w := hst
      exact hf
    | 3, _, hij, hb, hoff, hst =>
      match j, hj, hij, hbj, hf with
      | 0, _, hij, hbj, hf => 
        exact hf
      | 1, _, hij, hbj, hf => 
        exact hf
      | 2, _, hij, hbj, hf => 
        exact hf
      | 3, _, hij, hbj, hf => exact absurd rfl hij
      | 4, _, hij, hbj, hf => exact absurd hbj (by rw [hoff 4 (by decide) (by decide)]; decide)
      | 5, _, hij, hbj, hf => exact absurd hbj (by rw [hoff 5 (by decide) (by decide)]; decide)
      | j + 6, hj, _, _, _ => exact absurd hj (by omega)
    | 4, _, hij, hb, hoff, hst =>
      obtain rfl : w' = w := hst
      exact hf
    | 5, _, hij, hb, hoff, hst =>
      match j, hj, hij, hbj, hf with
      | 0, _, hij, hbj, hf => 
        exact hf
      | 1, _, hij, hbj, hf => 
        exact hf
      | 2, _, hij, hbj, hf => 
        exact hf
      | 3, _, hij, hbj, hf => 
        obtain ⟨u, rfl⟩ : ∃ u, w' = w.setCell ⟨gp, ii, none⟩ u := hst
        obtain ⟨cb, a, b2, c2⟩ := hf
        exact ⟨cb, a, b2, blk_far c2 (by show cb ≠ gp; omega) u⟩
      | 4, _, hij, hbj, hf => 
        exact hf
      | 5, _, hij, hbj, hf => exact absurd rfl hij
      | j + 6, hj, _, _, _ => exact absurd hj (by omega)
    | i + 6, hi, _, _, _, _ => exact absurd hi (by omega)
  case s0 =>
    refine ⟨_, rfl, fun b a w hG hb hoff hd hs K hK => ?_⟩
    have h6 := (hs 6 (by decide)).trans z6
    have e6 := eval_of h6
    refine value_ (v := (.slice (some ⟨gp, 0, none⟩) n n)) rfl rfl ?_ (hK _ _ rfl rfl)
    have hc := (blk_cell hG.2.1 0).trans rfl
    clear hG
    clear hd hs hK hoff
    clear e6
    go_simp
  case s1 =>
    refine ⟨_, rfl, fun b a w hG hb hoff hd hs K hK => ?_⟩
    have h7 := (hs 7 (by decide)).trans z7
    have e7 := eval_of h7
    refine value_ (v := (.int .i64 ii)) rfl rfl ?_ (hK _ _ rfl rfl)
    have hc := (blk_cell hG.2.2.1 0).trans rfl
    clear hG
    clear hd hs hK hoff
    clear e7
    go_simp
  case s2 =>
    refine ⟨_, rfl, fun b a w hG hb hoff hd hs K hK => ?_⟩
    have h2 := (hs 2 (by decide)).trans z2
    have e2 := eval_of h2
    have h5 := (hs 5 (by decide)).trans z5
    have e5 := eval_of h5
    have h6 := (hs 6 (by decide)).trans z6
    have e6 := eval_of h6
    have h7 := (hs 7 (by decide)).trans z7
    have e7 := eval_of h7
    refine value_ (v := (.func (.func 57) #[] #[PB q5, PB g7, PB q2, PB q6])) rfl rfl ?_ (hK _ _ rfl rfl)
    have hm := hmf
    clear hG
    clear hd hs hK hoff
    clear e2
    clear e5
    clear e6
    clear e7
    go_simp
  case s3 =>
    refine ⟨_, rfl, fun b a w hG hb hoff hd hs K hK => ?_⟩
    obtain ⟨y35, h35, f35⟩ := hd 2 35 (by decide) (by decide)
    replace f35 : y35 = (.func (.func 57) #[] #[PB q5, PB g7, PB q2, PB q6]) := f35
    subst y35
    have e35 := eval_of h35
    obtain ⟨hk, h6, h7, hp, hbl⟩ := hG
    have hle := hk.1
    refine goes_ Try.func56 (by kernel_rfl) rfl #[(.func (.func 57) #[] #[PB q5, PB g7, PB q2, PB q6])] rfl rfl rfl (by simp [e35]) ?_
    refine (newFunIn _ _ _ w).mono ?_
    rintro e w' ⟨cb, rfl, hcb, hc, hb2⟩
    exact ⟨_, rfl, hK _ _ hb2 ⟨cb, rfl, by omega, hc⟩⟩
  case s4 =>
    refine ⟨_, rfl, fun b a w hG hb hoff hd hs K hK => ?_⟩
    obtain ⟨y33, h33, f33⟩ := hd 0 33 (by decide) (by decide)
    replace f33 : y33 = (.slice (some ⟨gp, 0, none⟩) n n) := f33
    subst y33
    have e33 := eval_of h33
    obtain ⟨y34, h34, f34⟩ := hd 1 34 (by decide) (by decide)
    replace f34 : y34 = (.int .i64 ii) := f34
    subst y34
    have e34 := eval_of h34
    refine value_ (v := (.pointer (some ⟨gp, ii, none⟩))) rfl rfl ?_ (hK _ _ rfl rfl)
    have hi2 := hin
    clear hG
    clear hd hs hK hoff
    clear e33
    clear e34
    go_simp
  case s5 =>
    refine ⟨_, rfl, fun b a w hG hb hoff hd hs K hK => ?_⟩
    obtain ⟨v36, h36, f36⟩ := hd 3 36 (by decide) (by decide)
    have e36 := eval_of h36
    obtain ⟨y37, h37, f37⟩ := hd 4 37 (by decide) (by decide)
    replace f37 : y37 = (.pointer (some ⟨gp, ii, none⟩)) := f37
    subst y37
    have e37 := eval_of h37
    obtain ⟨cb, hv, hcb, hcc⟩ := f36
    subst hv
    obtain ⟨hk, h6, h7, hp, hbl⟩ := hG
    have hpp := hp hb
    obtain ⟨y, hy⟩ := hya
    have hc := (blk_cell hpp ii).trans hy
    have hz := blk_frozen hpp ii
    have hlt := blk_lt hcc
    refine skip_ (w1 := w.setCell ⟨gp, ii, none⟩ (PB cb)) rfl rfl ?_ (hK (PB cb) _ ⟨_, rfl⟩ ⟨cb, rfl, (setb hpp ii _).1, hcb, blk_far hcc (by show cb ≠ gp; omega) _⟩)
    clear hd hs hK hoff hk h6 h7 hp hbl hcc hpp
    go_simp
  case hend =>
    intro b v w hb hG hv
    have f0 := hv 0 (by decide)
    have f1 := hv 1 (by decide)
    have f2 := hv 2 (by decide)
    have f3 := hv 3 (by decide)
    have f4 := hv 4 (by decide)
    have f5 := hv 5 (by decide)
    have := hend (v 3) (v 5) w b hb hG f3 f5
    have gv0 : v 0 = (.slice (some ⟨gp, 0, none⟩) n n) := f0
    have gv1 : v 1 = (.int .i64 ii) := f1
    have gv2 : v 2 = (.func (.func 57) #[] #[PB q5, PB g7, PB q2, PB q6]) := f2
    have gv4 : v 4 = (.pointer (some ⟨gp, ii, none⟩)) := f4
    have e : (r11x8.L.map fun e => (e.2, v e.1)) = [(33, (.slice (some ⟨gp, 0, none⟩) n n)), (34, (.int .i64 ii)), (35, (.func (.func 57) #[] #[PB q5, PB g7, PB q2, PB q6])), (36, v 3), (37, (.pointer (some ⟨gp, ii, none⟩)))] := by
      simp only [r11x8.L, List.map_cons, List.map_nil, gv0, gv1, gv2, gv4]
    rw [e]
    exact this

end Go.Proofs.Ytbjbejjieibldaa.La
