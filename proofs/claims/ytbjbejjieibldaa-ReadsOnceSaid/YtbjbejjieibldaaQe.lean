/- part, Take, Drop: what is taken out of a queue and what is left in it. -/
import Derived.Test.YtbjbejjieibldaaQd
namespace Go.Proofs.Ytbjbejjieibldaa.Qa
open Go.RowKit Go.Proofs.YtbjbejjieibldaaW.PrintWords Go.Proofs.YtbjbejjieibldaaW.PrintLast Go.Proofs.YtbjbejjieibldaaW.PrintMore Go.Proofs.Ytbjbejjieibldaa.Rg
open Go.Proofs.Ytbjbejjieibldaa.PReadsPlays (S91 z91 k91 k91_open k91_openM k91_mk k91_mkM rd_T91 at_T91 S147 z147 k147 k147_mkM rd_T147 at_T147 info147)
set_option linter.unusedVariables false

/-- A read as a value. -/
abbrev RV (x : S91) : Value := .agg #[.int .u64 x.f0, .int .u64 x.f1, .int .u64 x.f2]
def sureOf (sure applied : Int) (x : S91) : Bool := if x.f2 ≤ sure then decide (x.f1 ≤ applied) else false

set_option maxHeartbeats 1000000 in
theorem take1_calls (x : S91) (g2 g3 qb : Nat) (begun sure applied : Int) (v : Value) (w : World) (h2 : w.heap[g2]? = some (.cells #[.pointer (some ⟨qb, 0, none⟩)] 44 (0, 0))) (h3 : w.heap[g3]? = some (.cells #[.int .u64 applied] 23 (0, 0))) (hq : w.heap[qb]? = some (QC begun sure v)) :
    Calls Try.prog 79 #[RV x, .pointer (some ⟨g2, 0, none⟩), .pointer (some ⟨g3, 0, none⟩)] w fun e w' => e = .returned (.bool (sureOf sure applied x)) ∧ Below w.heap.size w w' := by
  have B := below_alloc (Below.refl w.heap.size w) (.cells #[.int .u64 x.f0, .int .u64 x.f1, .int .u64 x.f2] 91)
  have c2 := (blk_cell (blk_below h2 B) 0).trans rfl
  have c3 := (blk_cell (blk_below h3 B) 0).trans rfl
  have c4 := (blk_cell (blk_below hq B) 2).trans rfl
  have hu := Try.underlying91
  have BK := blk_new w (.cells #[.int .u64 x.f0, .int .u64 x.f1, .int .u64 x.f2] 91)
  have d1 := (blk_cell BK 1).trans rfl
  have d2 := (blk_cell BK 2).trans rfl
  clear h2 h3 hq BK B
  by_cases h : x.f2 ≤ sure
  · have e : sureOf sure applied x = decide (x.f1 ≤ applied) := by unfold sureOf; rw [if_pos h]
    have d0 : decide (x.f2 ≤ sure) = true := by simpa using h
    rw [e]
    clear e h
    go_enter Try.func79, Try.ntmps79
    go_wp2
    go_quiet (fail)
    go_wp2
    go_ret
    exact ⟨by simp, by repeat (first | exact below_alloc (Below.refl _ _) _ | refine pw_below_drewN ?_ _ | refine below_drew ?_)⟩
  · have e : sureOf sure applied x = false := by unfold sureOf; rw [if_neg h]
    have d0 : decide (x.f2 ≤ sure) = false := by simpa using h
    rw [e]
    clear e h
    go_enter Try.func79, Try.ntmps79
    go_wp2
    go_quiet (fail)
    go_wp2
    go_ret
    exact ⟨by simp, by repeat (first | exact below_alloc (Below.refl _ _) _ | refine pw_below_drewN ?_ _ | refine below_drew ?_)⟩

theorem drop1_calls (x : S91) (w : World) : Calls Try.prog 80 #[RV x] w fun e w' => e = .returned (.bool true) ∧ Below w.heap.size w w' := by
  have hu := Try.underlying91
  go_enter Try.func80, Try.ntmps80
  go_wp2
  go_ret
  exact ⟨rfl, below_alloc (Below.refl _ _) _⟩

/-- Every read. -/
def allOf (x : S91) : Bool := true
theorem all_true (l : List S91) : l.filter allOf = l := List.filter_eq_self.2 (fun _ _ => rfl)
theorem all_false (l : List S91) : l.filter (fun x => !allOf x) = [] := List.filter_eq_nil_iff.2 (fun _ _ => by simp [allOf])

/-- Three cells of one block stored. -/
theorem set3_at {w w1 : World} {g : Nat} {t : TypeId} {x0 x1 x2 y0 y1 y2 : Value} (h : w.heap[g]? = some (.cells #[x0, x1, x2] t (0, 0))) (hw : w1 = ((w.setCell ⟨g, 0, none⟩ y0).setCell ⟨g, 1, none⟩ y1).setCell ⟨g, 2, none⟩ y2) :
    w1.heap[g]? = some (.cells #[y0, y1, y2] t (0, 0)) := by
  subst hw
  exact blk_set (blk_set (blk_set h 0 y0) 1 y1) 2 y2
theorem set3_kept {w w1 : World} {g : Nat} {y0 y1 y2 : Value} (hw : w1 = ((w.setCell ⟨g, 0, none⟩ y0).setCell ⟨g, 1, none⟩ y1).setCell ⟨g, 2, none⟩ y2) : Kept w w1 (fun k => k = g) := by
  subst hw
  exact (((Kept.refl w (fun k => k = g)).setCell (p := ⟨g, 0, none⟩) (.inl rfl) y0).setCell (p := ⟨g, 1, none⟩) (.inl rfl) y1).setCell (p := ⟨g, 2, none⟩) (.inl rfl) y2
theorem set3_below {w w1 w0 : World} {B g : Nat} {y0 y1 y2 : Value} (h : Below B w0 w) (hg : B ≤ g) (hw : w1 = ((w.setCell ⟨g, 0, none⟩ y0).setCell ⟨g, 1, none⟩ y1).setCell ⟨g, 2, none⟩ y2) : Below B w0 w1 := by
  subst hw
  exact ((h.setCell (p := ⟨g, 0, none⟩) hg y0).setCell (p := ⟨g, 1, none⟩) hg y1).setCell (p := ⟨g, 2, none⟩) hg y2

/-- Two rows of the call's own, apart. -/
structure PP (W w : World) (u v : Value) (a b : List S91) (o1 o2 : Nat → Prop) : Prop where
  r1 : Kd.R k91 91 w W.heap.size o1 u a
  r2 : Kd.R k91 91 w W.heap.size o2 v b
  apart : ∀ k, o1 k → ¬ o2 k
  b1 : ∀ k, o1 k → k < w.heap.size
  b2 : ∀ k, o2 k → k < w.heap.size
  below : Below W.heap.size W w
def P2 (W w : World) (u v : Value) (a b : List S91) : Prop := ∃ o1 o2, PP W w u v a b o1 o2
theorem P2.later {W w w' : World} {u v : Value} {a b : List S91} (h : P2 W w u v a b) (hb : Below w.heap.size w w') : P2 W w' u v a b := by
  obtain ⟨o1, o2, h⟩ := h
  exact ⟨o1, o2, Kd.R_below h.r1 hb, Kd.R_below h.r2 hb, h.apart, fun k hk => Nat.lt_of_lt_of_le (h.b1 k hk) hb.size, fun k hk => Nat.lt_of_lt_of_le (h.b2 k hk) hb.size, below_then h.below h.below.size hb⟩
theorem P2.swap {W w : World} {u v : Value} {a b : List S91} (h : P2 W w u v a b) : P2 W w v u b a := by
  obtain ⟨o1, o2, h⟩ := h
  exact ⟨o2, o1, h.r2, h.r1, fun k h2 h1 => h.apart k h1 h2, h.b2, h.b1, h.below⟩
/-- Behind an append to the first. -/
theorem PP.grown {W w w' : World} {u u' v : Value} {a a' b : List S91} {o1 o2 : Nat → Prop} (h : PP W w u v a b o1 o2) (hR : Kd.R k91 91 w' W.heap.size (fun k => o1 k ∨ w.heap.size ≤ k) u' a') (hb : Below W.heap.size W w') (hg : w.grownBy w' u.ownBlock) : P2 W w' u' v a' b := by
  have hk : Kept w w' o1 := Kept.of_grown hg (Kept.refl w o1) (fun k e => .inl (h.r1.1 k e))
  refine ⟨fun k => (o1 k ∨ w.heap.size ≤ k) ∧ k < w'.heap.size, o2, Kd.R_mono (Kd.R_bound hR) (fun k hk => ⟨hk.1, hk.2.2.1⟩), Kd.R_kept h.r2 hk (fun k h2 h1 => h.apart k h1 h2), fun k h1 h2 => ?_, fun k hk => hk.2, fun k h2 => Nat.lt_of_lt_of_le (h.b2 k h2) hk.1, hb⟩
  rcases h1.1 with h1 | h1
  · exact h.apart k h1 h2
  · have := h.b2 k h2; omega

/-- The cell that one round lays, written. -/
theorem P2.noted {W w w1 w2 : World} {u v : Value} {a b : List S91} {g : Nat} {y0 y1 y2 : Value} (h : P2 W w u v a b) (hg : g = w.heap.size) (hb : Below w.heap.size w w1)
    (hw : w2 = ((w1.setCell ⟨g, 0, none⟩ y0).setCell ⟨g, 1, none⟩ y1).setCell ⟨g, 2, none⟩ y2) : P2 W w2 u v a b := by
  refine h.later ?_
  exact set3_below hb (by omega) hw

theorem filter_snoc (p : S91 → Bool) (l : List S91) (k : Nat) (h : k < l.length) : (l.take (k + 1)).filter p = if p (rd_T91 l (k : Int)) = true then (l.take k).filter p ++ [rd_T91 l (k : Int)] else (l.take k).filter p := by
  have e : rd_T91 l (k : Int) = l[k] := by unfold rd_T91; simp [List.getD_eq_getElem?_getD, h]
  rw [List.take_succ_eq_append_getElem h, List.filter_append, e]
  by_cases hp : p l[k] = true <;> simp [hp]

/-- Behind part. -/
def Parted (W0 w w' : World) (qb : Nat) (begun sure : Int) (ok : Nat → Prop) (u v : Value) (taken left : List S91) : Prop :=
  ∃ okq oko, IsQ w' W0.heap.size okq qb begun sure left v ∧ Kd.R k91 91 w' w.heap.size oko u taken ∧ (∀ k, okq k → ¬ oko k) ∧ (∀ k, okq k → ok k ∨ w.heap.size ≤ k) ∧ Below W0.heap.size W0 w' ∧ Kept w w' (fun k => k = qb)
theorem Parted.intro {W0 w w1 w2 : World} {qb : Nat} {begun sure : Int} {ok : Nat → Prop} {l : List S91} {v0 u v : Value} {taken left : List S91} {y : Value}
    (h : IsQ w W0.heap.size ok qb begun sure l v0) (hB : Below W0.heap.size W0 w) (hp : P2 w w1 u v taken left) (hw : w2 = w1.setCell ⟨qb, 3, none⟩ v) (hl : left.length ≤ 32) : Parted W0 w w2 qb begun sure ok u v taken left := by
  obtain ⟨o1, o2, hp⟩ := hp
  have hlt := blk_lt h.cell
  have hs := hB.size
  have hk : Kept w1 w2 (fun k => k = qb) := by subst hw; exact (setq (blk_below h.cell hp.below) 3 v).2.1
  have hc : w2.heap[qb]? = some (QC begun sure v) := by subst hw; exact (setq (blk_below h.cell hp.below) 3 v).1
  refine ⟨fun k => k = qb ∨ (o2 k ∧ w.heap.size ≤ k), fun k => o1 k ∧ w.heap.size ≤ k, ⟨hc, ⟨h.mine.1, .inl rfl⟩, ?_, h.b0, h.b1, h.s0, h.s1, hl⟩, ?_, fun k h2 h1 => ?_, fun k hk => ?_, ?_, ?_⟩
  · have h2 := Kd.R_lower (Kd.R_kept (Kd.R_mono (Kd.R_bound hp.r2) (ok' := fun k => o2 k ∧ w.heap.size ≤ k) (fun k hk => ⟨hk.1, hk.2.1⟩)) hk (fun k hk e => by have e : k = qb := e; have := hk.2; omega)) hs
    exact Kd.R_mono h2 (fun k hk => ⟨.inr hk, fun e => by have := hk.2; omega⟩)
  · exact Kd.R_kept (Kd.R_mono (Kd.R_bound hp.r1) (ok' := fun k => o1 k ∧ w.heap.size ≤ k) (fun k hk => ⟨hk.1, hk.2.1⟩)) hk (fun k hk e => by have e : k = qb := e; have := hk.2; omega)
  · rcases h2 with h2 | h2
    · have := h1.2; omega
    · exact hp.apart k h1.1 h2.1
  · rcases hk with hk | hk
    · exact .inl (hk ▸ h.mine.2)
    · exact .inr hk.2
  · subst hw
    exact (setq (blk_below h.cell hp.below) 3 v).2.2 _ _ h.mine.1 (below_then hB hs hp.below)
  · exact (Kept.of_below hp.below _).then_ hk (fun k hk => .inl hk)

set_option maxHeartbeats 4000000 in
set_option maxRecDepth 100000 in
theorem part_79 (g2 g3 : Nat) (applied : Int) {W0 : World} {ok : Nat → Prop} {qb : Nat} {begun sure : Int} {l : List S91} {v0 : Value} (w : World) (h : IsQ w W0.heap.size ok qb begun sure l v0) (hB : Below W0.heap.size W0 w) (h2 : w.heap[g2]? = some (.cells #[.pointer (some ⟨qb, 0, none⟩)] 44 (0, 0))) (h3 : w.heap[g3]? = some (.cells #[.int .u64 applied] 23 (0, 0))) :
    Calls Try.prog 78 #[.pointer (some ⟨qb, 0, none⟩), .func (.func 79) #[] #[.pointer (some ⟨g2, 0, none⟩), .pointer (some ⟨g3, 0, none⟩)]] w fun e w' => ∃ u v, e = .returned u ∧ Parted W0 w w' qb begun sure ok u v (l.filter (sureOf sure applied)) (l.filter (fun x => !(sureOf sure applied) x)) := by
  obtain ⟨A, c, hv, hlc, hC⟩ := h.slice
  subst hv
  have H := Aside0.mk h
  have HW : Aside0 (∀ {u v : Value} {a b : List S91} (wz : World), P2 w wz u v a b → wz.heap[g2]? = some (.cells #[.pointer (some ⟨qb, 0, none⟩)] 44 (0, 0)) ∧ wz.heap[g3]? = some (.cells #[.int .u64 applied] 23 (0, 0)) ∧ wz.heap[qb]? = some (QC begun sure (.slice A l.length c))) := ⟨fun wz hz => by
    obtain ⟨_, _, hz⟩ := hz
    exact ⟨blk_below h2 hz.below, blk_below h3 hz.below, blk_below h.cell hz.below⟩⟩
  clear h2 h3
  have HB := Aside0.mk hB
  have HC := Aside0.mk hC
  have hl32 := h.len
  have hu91 := Try.underlying91
  have c3 : w.cell? ⟨qb, 3, none⟩ = some (.slice A l.length c) := blk_cell h.cell 3
  clear h hB hC
  go_enter Try.func78, Try.ntmps78
  go_wp2_with (go_at_call 77; refine (none_some qb begun sure _ _ H.out.cell).mono ?_; rintro e w' ⟨rfl, rfl⟩)
  go_loopw [4, 5, 15] (fun u v i wr => ∃ (k : Nat) (Au Av : Option Addr) (cu cv : Nat), k ≤ l.length ∧ i = .int .i64 k ∧ u = .slice Au ((l.take k).filter (sureOf sure applied)).length cu ∧ v = .slice Av ((l.take k).filter (fun x => !(sureOf sure applied) x)).length cv ∧ Aside0 (P2 w wr (.slice Au ((l.take k).filter (sureOf sure applied)).length cu) (.slice Av ((l.take k).filter (fun x => !(sureOf sure applied) x)).length cv) ((l.take k).filter (sureOf sure applied)) ((l.take k).filter (fun x => !(sureOf sure applied) x)))) (fun _ _ i _ => l.length - (intOf i).toNat)
  case atStart => exact ⟨0, none, none, 0, 0, Nat.zero_le _, rfl, rfl, rfl, ⟨fun _ => False, fun _ => False, Kd.R_nil _ _ _ _ _, Kd.R_nil _ _ _ _ _, fun _ h => h.elim, fun _ h => h.elim, fun _ h => h.elim, Below.refl _ _⟩⟩
  case round =>
    obtain ⟨k, Au, Av, cu, cv, hk, rfl, rfl, rfl, HP⟩ := hrel
    by_cases hlt : k < l.length
    · have HBW : Aside0 (Below w.heap.size w wr) := ⟨by obtain ⟨_, _, h⟩ := HP.out; exact h.below⟩
      obtain ⟨ad, ea, x0, x1, x2⟩ := at_T91 (Kd.C_below HC.out HBW.out) (k : Int) (by omega) (by omega)
      cases ea
      simp only [Int.toNat_natCast] at x0 x1 x2
      have HT := Aside0.mk (filter_snoc (sureOf sure applied) l k hlt)
      have HU := Aside0.mk (filter_snoc (fun x => !(sureOf sure applied) x) l k hlt)
      have HL : Aside0 (((l.take k).filter (sureOf sure applied)).length ≤ 32 ∧ ((l.take k).filter (fun x => !(sureOf sure applied) x)).length ≤ 32) := ⟨by
        have h1 := List.length_filter_le (sureOf sure applied) (l.take k)
        have h2 := List.length_filter_le (fun x => !(sureOf sure applied) x) (l.take k)
        have h3 := List.length_take_le k l
        omega⟩
      generalize rd_T91 l (k : Int) = y at x0 x1 x2 HT HU
      generalize (l.take k).filter (sureOf sure applied) = la at HP HT HL
      generalize (l.take k).filter (fun x => !(sureOf sure applied) x) = lb at HP HU HL
      by_cases hp : (sureOf sure applied) y = true
      · rw [if_pos hp] at HT
        rw [if_neg (by simp [hp])] at HU
        go_wp2_with (first
          | ((with_reducible refine gate_dst (N := 7) rfl ?_); refine box_event ?hg (N := 7) ?hd (cs := #[.int .u64 0, .int .u64 0, .int .u64 0]) (t := 91) ?hr ?_; (case hd => rfl); (case hg => rfl); (case hr => first | (go_simp; done) | (go_simp; rfl)); intro g7 hg w2 hbox hb; have E7 := Aside0.mk hg; have K7 := Aside0.mk hbox; have B7 := Aside0.mk hb; clear hg hbox hb x0 x1 x2; have d0 := (blk_cell K7.out 0).trans rfl; have z0 := blk_frozen K7.out 0; have d1 := (blk_cell K7.out 1).trans rfl; have z1 := blk_frozen K7.out 1; have d2 := (blk_cell K7.out 2).trans rfl; have z2 := blk_frozen K7.out 2)
          | ((with_reducible refine gate_op (Op.store 91 (.tmp 7) (.tmp 18)) rfl ?_); refine skip_event (w1 := ((w2.setCell ⟨g7, 0, none⟩ (.int .u64 y.f0)).setCell ⟨g7, 1, none⟩ (.int .u64 y.f1)).setCell ⟨g7, 2, none⟩ (.int .u64 y.f2)) rfl rfl ?hr ?_; (case hr => first | (go_simp; done) | (go_simp; rfl)); intro w3 hw3; have HP3 := Aside0.mk (P2.noted HP.out E7.out B7.out hw3); have K3 := Aside0.mk (set3_at K7.out hw3); clear hw3 d0 z0 d1 z1 d2 z2; have d0 := (blk_cell K3.out 0).trans rfl; have d1 := (blk_cell K3.out 1).trans rfl; have d2 := (blk_cell K3.out 2).trans rfl; clear K7 E7 B7 HP)
          | (go_at_call 79; refine (take1_calls y g2 g3 qb begun sure applied _ _ (HW.out _ HP3.out).1 (HW.out _ HP3.out).2.1 (HW.out _ HP3.out).2.2).mono ?_; rw [hp]; rintro e w4 ⟨rfl, hb⟩; obtain ⟨o1, o2, hp4⟩ := HP3.out.later hb; have HP4 := Aside0.mk hp4; have K4 := blk_below K3.out hb; clear d0 d1 d2 hp4 hb HP3 K3; have d0 := (blk_cell K4 0).trans rfl; have d1 := (blk_cell K4 1).trans rfl; have d2 := (blk_cell K4 2).trans rfl; clear K4)
          | ((with_reducible refine gate_builtin (b := .append) (xs := #[.tmp 22, .tmp 24]) rfl ?_); at_builtin; refine Kd.R_append k91 (w0 := w) w.heap.size rfl (.tmp 22) (.tmp 24) 60 91 (.agg #[(.int .u64 0), (.int .u64 0), (.int .u64 0)]) 24 rfl Try.underlying60 info91 rfl (by decide) (by omega) (.slice Au la.length cu) la y [.int .u64 y.f0, .int .u64 y.f1, .int .u64 y.f2] (fun k => o1 k ∨ w4.heap.size ≤ k) (fun _ => False) rfl rfl ?aP (fun _ hk => hk.elim) ?aF ?aO ?aB ?aS ?aL ?_; (case aP => exact k91_mkM _ _ _ _); (case aF => exact fun k hk => .inr hk); (case aO => exact Kd.R_mono HP4.out.r1 (fun k hk => .inl hk)); (case aB => exact HP4.out.below); (case aS => exact HP4.out.below.size); (case aL => have := HL.out; omega); intro v5 w5 ho hb hg hat; have HP5 := Aside0.mk (PP.grown HP4.out ho hb hg); obtain ⟨A5, c5, e5⟩ := Kd.R_slice ho; subst e5; clear ho hb hg hat d0 d1 d2))
        go_roundw
        case rel => exact ⟨k + 1, A5, Av, c5, cv, by omega, by go_num, by rw [HT.out]; try simp, by rw [HU.out]; try simp, ⟨by rw [HT.out, HU.out]; exact HP5.out⟩⟩
        case measure => simp [intOf]; omega
      · have hp : (sureOf sure applied) y = false := by simpa using hp
        rw [if_neg (by simp [hp])] at HT
        rw [if_pos (by simp [hp])] at HU
        go_wp2_with (first
          | ((with_reducible refine gate_dst (N := 7) rfl ?_); refine box_event ?hg (N := 7) ?hd (cs := #[.int .u64 0, .int .u64 0, .int .u64 0]) (t := 91) ?hr ?_; (case hd => rfl); (case hg => rfl); (case hr => first | (go_simp; done) | (go_simp; rfl)); intro g7 hg w2 hbox hb; have E7 := Aside0.mk hg; have K7 := Aside0.mk hbox; have B7 := Aside0.mk hb; clear hg hbox hb x0 x1 x2; have d0 := (blk_cell K7.out 0).trans rfl; have z0 := blk_frozen K7.out 0; have d1 := (blk_cell K7.out 1).trans rfl; have z1 := blk_frozen K7.out 1; have d2 := (blk_cell K7.out 2).trans rfl; have z2 := blk_frozen K7.out 2)
          | ((with_reducible refine gate_op (Op.store 91 (.tmp 7) (.tmp 18)) rfl ?_); refine skip_event (w1 := ((w2.setCell ⟨g7, 0, none⟩ (.int .u64 y.f0)).setCell ⟨g7, 1, none⟩ (.int .u64 y.f1)).setCell ⟨g7, 2, none⟩ (.int .u64 y.f2)) rfl rfl ?hr ?_; (case hr => first | (go_simp; done) | (go_simp; rfl)); intro w3 hw3; have HP3 := Aside0.mk (P2.noted HP.out E7.out B7.out hw3); have K3 := Aside0.mk (set3_at K7.out hw3); clear hw3 d0 z0 d1 z1 d2 z2; have d0 := (blk_cell K3.out 0).trans rfl; have d1 := (blk_cell K3.out 1).trans rfl; have d2 := (blk_cell K3.out 2).trans rfl; clear K7 E7 B7 HP)
          | (go_at_call 79; refine (take1_calls y g2 g3 qb begun sure applied _ _ (HW.out _ HP3.out).1 (HW.out _ HP3.out).2.1 (HW.out _ HP3.out).2.2).mono ?_; rw [hp]; rintro e w4 ⟨rfl, hb⟩; obtain ⟨o1, o2, hp4⟩ := (HP3.out.later hb).swap; have HP4 := Aside0.mk hp4; have K4 := blk_below K3.out hb; clear d0 d1 d2 hp4 hb HP3 K3; have d0 := (blk_cell K4 0).trans rfl; have d1 := (blk_cell K4 1).trans rfl; have d2 := (blk_cell K4 2).trans rfl; clear K4)
          | ((with_reducible refine gate_builtin (b := .append) (xs := #[.tmp 26, .tmp 28]) rfl ?_); at_builtin; refine Kd.R_append k91 (w0 := w) w.heap.size rfl (.tmp 26) (.tmp 28) 60 91 (.agg #[(.int .u64 0), (.int .u64 0), (.int .u64 0)]) 24 rfl Try.underlying60 info91 rfl (by decide) (by omega) (.slice Av lb.length cv) lb y [.int .u64 y.f0, .int .u64 y.f1, .int .u64 y.f2] (fun k => o1 k ∨ w4.heap.size ≤ k) (fun _ => False) rfl rfl ?aP (fun _ hk => hk.elim) ?aF ?aO ?aB ?aS ?aL ?_; (case aP => exact k91_mkM _ _ _ _); (case aF => exact fun k hk => .inr hk); (case aO => exact Kd.R_mono HP4.out.r1 (fun k hk => .inl hk)); (case aB => exact HP4.out.below); (case aS => exact HP4.out.below.size); (case aL => have := HL.out; omega); intro v5 w5 ho hb hg hat; have HP5 := Aside0.mk (PP.grown HP4.out ho hb hg).swap; obtain ⟨A5, c5, e5⟩ := Kd.R_slice ho; subst e5; clear ho hb hg hat d0 d1 d2))
        go_roundw
        case rel => exact ⟨k + 1, Au, A5, cu, c5, by omega, by go_num, by rw [HT.out]; try simp, by rw [HU.out]; try simp, ⟨by rw [HT.out, HU.out]; exact HP5.out⟩⟩
        case measure => simp [intOf]; omega
    · obtain rfl : k = l.length := by omega
      rw [List.take_length] at HP
      simp only [List.take_length]
      have K := Aside0.mk (show wr.heap[qb]? = some (QC begun sure (.slice A l.length c)) from by obtain ⟨_, _, h⟩ := HP.out; exact blk_below H.out.cell h.below)
      have d3 := (blk_cell K.out 3).trans rfl
      have z3 := blk_frozen K.out 3
      go_wp2_with ((with_reducible refine gate_op (Op.store 60 (.tmp 34) (.tmp 32)) rfl ?_); refine skip_event (w1 := wr.setCell ⟨qb, 3, none⟩ (.slice Av (l.filter (fun x => !(sureOf sure applied) x)).length cv)) rfl rfl ?hr ?_; (case hr => first | (go_simp; done) | (go_simp; rfl)); intro w3 hw3; have HF := Aside0.mk (Parted.intro (y := .nilIface) H.out HB.out HP.out hw3 (by have := List.length_filter_le (fun x => !(sureOf sure applied) x) l; omega)); clear hw3 d3 z3)
      go_ret
      exact ⟨_, _, rfl, HF.out⟩

set_option maxHeartbeats 4000000 in
set_option maxRecDepth 100000 in
theorem part_80 {W0 : World} {ok : Nat → Prop} {qb : Nat} {begun sure : Int} {l : List S91} {v0 : Value} (w : World) (h : IsQ w W0.heap.size ok qb begun sure l v0) (hB : Below W0.heap.size W0 w) :
    Calls Try.prog 78 #[.pointer (some ⟨qb, 0, none⟩), .func (.func 80) #[] #[]] w fun e w' => ∃ u v, e = .returned u ∧ Parted W0 w w' qb begun sure ok u v (l.filter allOf) (l.filter (fun x => !allOf x)) := by
  obtain ⟨A, c, hv, hlc, hC⟩ := h.slice
  subst hv
  have H := Aside0.mk h
  have HB := Aside0.mk hB
  have HC := Aside0.mk hC
  have hl32 := h.len
  have hu91 := Try.underlying91
  have c3 : w.cell? ⟨qb, 3, none⟩ = some (.slice A l.length c) := blk_cell h.cell 3
  clear h hB hC
  go_enter Try.func78, Try.ntmps78
  go_wp2_with (go_at_call 77; refine (none_some qb begun sure _ _ H.out.cell).mono ?_; rintro e w' ⟨rfl, rfl⟩)
  go_loopw [4, 5, 15] (fun u v i wr => ∃ (k : Nat) (Au Av : Option Addr) (cu cv : Nat), k ≤ l.length ∧ i = .int .i64 k ∧ u = .slice Au ((l.take k).filter allOf).length cu ∧ v = .slice Av ((l.take k).filter (fun x => !allOf x)).length cv ∧ Aside0 (P2 w wr (.slice Au ((l.take k).filter allOf).length cu) (.slice Av ((l.take k).filter (fun x => !allOf x)).length cv) ((l.take k).filter allOf) ((l.take k).filter (fun x => !allOf x)))) (fun _ _ i _ => l.length - (intOf i).toNat)
  case atStart => exact ⟨0, none, none, 0, 0, Nat.zero_le _, rfl, rfl, rfl, ⟨fun _ => False, fun _ => False, Kd.R_nil _ _ _ _ _, Kd.R_nil _ _ _ _ _, fun _ h => h.elim, fun _ h => h.elim, fun _ h => h.elim, Below.refl _ _⟩⟩
  case round =>
    obtain ⟨k, Au, Av, cu, cv, hk, rfl, rfl, rfl, HP⟩ := hrel
    by_cases hlt : k < l.length
    · have HBW : Aside0 (Below w.heap.size w wr) := ⟨by obtain ⟨_, _, h⟩ := HP.out; exact h.below⟩
      obtain ⟨ad, ea, x0, x1, x2⟩ := at_T91 (Kd.C_below HC.out HBW.out) (k : Int) (by omega) (by omega)
      cases ea
      simp only [Int.toNat_natCast] at x0 x1 x2
      have HT := Aside0.mk (filter_snoc allOf l k hlt)
      have HU := Aside0.mk (filter_snoc (fun x => !allOf x) l k hlt)
      have HL : Aside0 (((l.take k).filter allOf).length ≤ 32 ∧ ((l.take k).filter (fun x => !allOf x)).length ≤ 32) := ⟨by
        have h1 := List.length_filter_le allOf (l.take k)
        have h2 := List.length_filter_le (fun x => !allOf x) (l.take k)
        have h3 := List.length_take_le k l
        omega⟩
      generalize rd_T91 l (k : Int) = y at x0 x1 x2 HT HU
      generalize (l.take k).filter allOf = la at HP HT HL
      generalize (l.take k).filter (fun x => !allOf x) = lb at HP HU HL
      by_cases hp : allOf y = true
      · rw [if_pos hp] at HT
        rw [if_neg (by simp [hp])] at HU
        go_wp2_with (first
          | ((with_reducible refine gate_dst (N := 7) rfl ?_); refine box_event ?hg (N := 7) ?hd (cs := #[.int .u64 0, .int .u64 0, .int .u64 0]) (t := 91) ?hr ?_; (case hd => rfl); (case hg => rfl); (case hr => first | (go_simp; done) | (go_simp; rfl)); intro g7 hg w2 hbox hb; have E7 := Aside0.mk hg; have K7 := Aside0.mk hbox; have B7 := Aside0.mk hb; clear hg hbox hb x0 x1 x2; have d0 := (blk_cell K7.out 0).trans rfl; have z0 := blk_frozen K7.out 0; have d1 := (blk_cell K7.out 1).trans rfl; have z1 := blk_frozen K7.out 1; have d2 := (blk_cell K7.out 2).trans rfl; have z2 := blk_frozen K7.out 2)
          | ((with_reducible refine gate_op (Op.store 91 (.tmp 7) (.tmp 18)) rfl ?_); refine skip_event (w1 := ((w2.setCell ⟨g7, 0, none⟩ (.int .u64 y.f0)).setCell ⟨g7, 1, none⟩ (.int .u64 y.f1)).setCell ⟨g7, 2, none⟩ (.int .u64 y.f2)) rfl rfl ?hr ?_; (case hr => first | (go_simp; done) | (go_simp; rfl)); intro w3 hw3; have HP3 := Aside0.mk (P2.noted HP.out E7.out B7.out hw3); have K3 := Aside0.mk (set3_at K7.out hw3); clear hw3 d0 z0 d1 z1 d2 z2; have d0 := (blk_cell K3.out 0).trans rfl; have d1 := (blk_cell K3.out 1).trans rfl; have d2 := (blk_cell K3.out 2).trans rfl; clear K7 E7 B7 HP)
          | (go_at_call 80; refine (drop1_calls y _).mono ?_; skip; rintro e w4 ⟨rfl, hb⟩; obtain ⟨o1, o2, hp4⟩ := HP3.out.later hb; have HP4 := Aside0.mk hp4; have K4 := blk_below K3.out hb; clear d0 d1 d2 hp4 hb HP3 K3; have d0 := (blk_cell K4 0).trans rfl; have d1 := (blk_cell K4 1).trans rfl; have d2 := (blk_cell K4 2).trans rfl; clear K4)
          | ((with_reducible refine gate_builtin (b := .append) (xs := #[.tmp 22, .tmp 24]) rfl ?_); at_builtin; refine Kd.R_append k91 (w0 := w) w.heap.size rfl (.tmp 22) (.tmp 24) 60 91 (.agg #[(.int .u64 0), (.int .u64 0), (.int .u64 0)]) 24 rfl Try.underlying60 info91 rfl (by decide) (by omega) (.slice Au la.length cu) la y [.int .u64 y.f0, .int .u64 y.f1, .int .u64 y.f2] (fun k => o1 k ∨ w4.heap.size ≤ k) (fun _ => False) rfl rfl ?aP (fun _ hk => hk.elim) ?aF ?aO ?aB ?aS ?aL ?_; (case aP => exact k91_mkM _ _ _ _); (case aF => exact fun k hk => .inr hk); (case aO => exact Kd.R_mono HP4.out.r1 (fun k hk => .inl hk)); (case aB => exact HP4.out.below); (case aS => exact HP4.out.below.size); (case aL => have := HL.out; omega); intro v5 w5 ho hb hg hat; have HP5 := Aside0.mk (PP.grown HP4.out ho hb hg); obtain ⟨A5, c5, e5⟩ := Kd.R_slice ho; subst e5; clear ho hb hg hat d0 d1 d2))
        go_roundw
        case rel => exact ⟨k + 1, A5, Av, c5, cv, by omega, by go_num, by rw [HT.out]; try simp, by rw [HU.out]; try simp, ⟨by rw [HT.out, HU.out]; exact HP5.out⟩⟩
        case measure => simp [intOf]; omega
      · exact absurd rfl hp
    · obtain rfl : k = l.length := by omega
      rw [List.take_length] at HP
      simp only [List.take_length]
      have K := Aside0.mk (show wr.heap[qb]? = some (QC begun sure (.slice A l.length c)) from by obtain ⟨_, _, h⟩ := HP.out; exact blk_below H.out.cell h.below)
      have d3 := (blk_cell K.out 3).trans rfl
      have z3 := blk_frozen K.out 3
      go_wp2_with ((with_reducible refine gate_op (Op.store 60 (.tmp 34) (.tmp 32)) rfl ?_); refine skip_event (w1 := wr.setCell ⟨qb, 3, none⟩ (.slice Av (l.filter (fun x => !allOf x)).length cv)) rfl rfl ?hr ?_; (case hr => first | (go_simp; done) | (go_simp; rfl)); intro w3 hw3; have HF := Aside0.mk (Parted.intro (y := .nilIface) H.out HB.out HP.out hw3 (by have := List.length_filter_le (fun x => !allOf x) l; omega)); clear hw3 d3 z3)
      go_ret
      exact ⟨_, _, rfl, HF.out⟩

section
variable {W0 w : World} {ok : Nat → Prop} {qb : Nat} {begun sure : Int} {l : List S91} {v : Value}
end
end Go.Proofs.Ytbjbejjieibldaa.Qa
