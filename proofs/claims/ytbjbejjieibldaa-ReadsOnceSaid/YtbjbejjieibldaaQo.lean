/- ReadsOnce, walked: whatever calls come in, the call answers true and leaves all that was there as it was. -/
import Derived.Test.YtbjbejjieibldaaQi
import Derived.Maps.OwnSet
namespace Go.Proofs.Ytbjbejjieibldaa.Qa
open Go.RowKit Go.Proofs.YtbjbejjieibldaaW.PrintWords Go.Proofs.YtbjbejjieibldaaW.PrintLast Go.Proofs.YtbjbejjieibldaaW.PrintMore Go.Maps Go.Proofs.Ytbjbejjieibldaa.Rg
open Go.Proofs.Ytbjbejjieibldaa.PReadsPlays (S91 z91 k91 k91_open k91_openM k91_mk k91_mkM rd_T91 at_T91 S147 z147 k147 k147_mkM rd_T147 at_T147 info147)
set_option linter.unusedVariables false

theorem law23 : Keyed Try.prog 23 := int_keyed Try.underlying23
theorem zero23 (w : World) : (zeroValue 23).run Try.prog w = .ok (.int .u64 0) w := by kernel_rfl
def U (x : Int) : Prop := (Lit.int .u64 x).wf = true
abbrev KY (r : Int) : Lit := .int .u64 r

/-- The map holds the reads M. -/
structure MI (D : DataW Unit) (M : List S91) : Prop where
  nd : (M.map (·.f2)).Nodup
  has : ∀ r, Maps.has D (KY r) = true ↔ r ∈ M.map (·.f2)
  at_ : ∀ x ∈ M, D.atKey (KY x.f2) (.lit (.int .u64 0)) = .lit (.int .u64 x.f0)
  size : Maps.size D = M.length
theorem MI.nil : MI (.map []) [] := ⟨by simp, fun r => by simp [has_eq], by simp, rfl⟩
theorem MI.perm {D : DataW Unit} {M N : List S91} (h : MI D M) (hp : M.Perm N) : MI D N :=
  ⟨(hp.map _).nodup_iff.1 h.nd, fun r => (h.has r).trans (hp.map _).mem_iff, fun x hx => h.at_ x (hp.mem_iff.2 hx), h.size.trans hp.length_eq⟩
theorem MI.put {D : DataW Unit} {M : List S91} (h : MI D M) (ht : Tidy D) (x : S91) (hx : x.f2 ∉ M.map (·.f2)) : MI (D.put (KY x.f2) (.lit (.int .u64 x.f0))) (M ++ [x]) := by
  have hh : Maps.has D (KY x.f2) = false := by
    by_cases hc : Maps.has D (KY x.f2) = true
    · exact absurd ((h.has _).1 hc) hx
    · simpa using hc
  refine ⟨?_, fun r => ?_, fun y hy => ?_, ?_⟩
  · rw [List.map_append, List.nodup_append]
    exact ⟨h.nd, by simp, fun a ha b hb e => hx (by simp at hb; exact hb ▸ e ▸ ha)⟩
  · rw [List.map_append, List.mem_append]
    by_cases hr : r = x.f2
    · subst hr
      simp [has_put_same ht.isMap (show WideAt.IsKeyLit (KY x.f2) from trivial)]
    · rw [has_put_other (by simpa using hr), h.has r]
      simp [hr]
  · rcases List.mem_append.1 hy with hy | hy
    · have hne : y.f2 ≠ x.f2 := fun e => hx (e ▸ List.mem_map_of_mem hy)
      rw [atKey_put_other (by simpa using hne)]
      exact h.at_ y hy
    · rw [List.mem_singleton.1 hy]
      exact atKey_put_same ht.isMap (show WideAt.IsKeyLit (KY x.f2) from trivial) _ _
  · rw [size_put ht, hh, h.size]
    simp
theorem MI.del {D : DataW Unit} {M : List S91} {x : S91} (h : MI D (x :: M)) (ht : Tidy D) : MI (D.del (KY x.f2)) M := by
  have hn := h.nd
  rw [List.map_cons, List.nodup_cons] at hn
  refine ⟨hn.2, fun r => ?_, fun y hy => ?_, ?_⟩
  · by_cases hr : r = x.f2
    · subst hr
      rw [has_del_same]
      simpa using hn.1
    · rw [has_del_other (by simpa using hr), h.has r]
      simp [hr]
  · have hne : y.f2 ≠ x.f2 := fun e => hn.1 (e ▸ List.mem_map_of_mem hy)
    rw [atKey_del_other (by simpa using hne)]
    exact h.at_ y (List.mem_cons_of_mem _ hy)
  · have h1 := size_del (k := KY x.f2) ht
    have hh : Maps.has D (KY x.f2) = true := (h.has _).2 (by simp)
    rw [hh, h.size] at h1
    simp at h1
    omega

/-- The rounds rise, all of them begun. -/
structure Rising (begun : Int) (l : List S91) : Prop where
  up : (l.map (·.f2)).Pairwise (· < ·)
  lo : ∀ x ∈ l, 1 ≤ x.f2 ∧ x.f2 ≤ begun
  idU : ∀ x ∈ l, U x.f0
theorem Rising.filter {begun : Int} {l : List S91} (h : Rising begun l) (p : S91 → Bool) : Rising begun (l.filter p) :=
  ⟨by have := (List.pairwise_map.1 h.up).filter p; exact List.pairwise_map.2 this, fun x hx => h.lo x (List.mem_filter.1 hx).1, fun x hx => h.idU x (List.mem_filter.1 hx).1⟩
theorem Rising.more {begun begun' : Int} {l : List S91} (h : Rising begun l) (hb : begun ≤ begun') : Rising begun' l := ⟨h.up, fun x hx => ⟨(h.lo x hx).1, Int.le_trans (h.lo x hx).2 hb⟩, h.idU⟩
theorem Rising.nil (begun : Int) : Rising begun [] := ⟨List.Pairwise.nil, by simp, by simp⟩
theorem Rising.snoc {begun : Int} {l : List S91} (h : Rising begun l) (h0 : 0 ≤ begun) (id index : Int) (hU : U id) : Rising (begun + 1) (l ++ [⟨id, index, begun + 1⟩]) := by
  refine ⟨?_, fun x hx => ?_, fun x hx => ?_⟩
  · rw [List.map_append, List.pairwise_append]
    refine ⟨h.up, by simp, fun a ha b hb => ?_⟩
    obtain ⟨x, hx, rfl⟩ := List.mem_map.1 ha
    have := (h.lo x hx).2
    simp at hb
    omega
  · rcases List.mem_append.1 hx with hx | hx
    · have := h.lo x hx; omega
    · rw [List.mem_singleton.1 hx]
      exact ⟨by show 1 ≤ begun + 1; omega, Int.le_refl _⟩
  · rcases List.mem_append.1 hx with hx | hx
    · exact h.idU x hx
    · rw [List.mem_singleton.1 hx]
      exact hU
theorem u_of_round {x : Int} (h0 : 1 ≤ x) (h1 : x ≤ BIG) : U x := by
  unfold BIG at h1
  exact WalkArith.wf_u64 (by omega)
/-- The round told last, behind j reads. -/
def lastOf (l : List S91) (j : Nat) : Int := if j = 0 then 0 else (rd_T91 l ((j - 1 : Nat) : Int)).f2
theorem lastOf_succ (l : List S91) (j : Nat) : lastOf l (j + 1) = (rd_T91 l (j : Int)).f2 := by
  unfold lastOf
  rw [if_neg (by omega)]
  rfl
theorem rd_mem (l : List S91) (j : Nat) (h : j < l.length) : rd_T91 l (j : Int) ∈ l := by
  unfold rd_T91
  rw [Int.toNat_natCast, List.getD_eq_getElem?_getD, List.getElem?_eq_getElem h]
  exact List.getElem_mem _
theorem last_lt {begun : Int} {l : List S91} (h : Rising begun l) (j : Nat) (hj : j < l.length) : lastOf l j < (rd_T91 l (j : Int)).f2 := by
  unfold lastOf
  split
  · have := h.lo _ (rd_mem l j hj); omega
  · rename_i h0
    have hp := List.pairwise_map.1 h.up
    have := List.pairwise_iff_getElem.1 hp (j - 1) j (by omega) hj (by omega)
    unfold rd_T91
    simp only [Int.toNat_natCast, List.getD_eq_getElem?_getD, List.getElem?_eq_getElem hj, List.getElem?_eq_getElem (show j - 1 < l.length by omega), Option.getD_some]
    exact this
theorem drop_rd (l : List S91) (j : Nat) (h : j < l.length) : l.drop j = rd_T91 l (j : Int) :: l.drop (j + 1) := by
  rw [List.drop_eq_getElem_cons h]
  unfold rd_T91
  simp [List.getD_eq_getElem?_getD, h]
theorem parts_perm (p : S91 → Bool) (l : List S91) : l.Perm (l.filter p ++ l.filter (fun x => !p x)) := (List.filter_append_perm p l).symm

/-- Between two calls. -/
def ON (W0 w : World) (qb mb : Nat) (sure : Int) (n : Nat) : Prop :=
  ∃ begun l v D ok, IsQ w W0.heap.size ok qb begun sure l v ∧ w.ownsMap Try.prog 23 (plainElem Try.prog 23) mb n D ∧ MI D l ∧ Rising begun l ∧ ¬ ok mb ∧ W0.heap.size ≤ mb ∧ Below W0.heap.size W0 w
theorem map_kept {w w' : World} {S : Nat → Prop} {P : Program} {k : TypeId} {R : Value → Option (DataW Unit × List MemPlace)} {b n : Nat} {D : DataW Unit} (h : w.ownsMap P k R b n D) (hk : Kept w w' S) (hb : ¬ S b) : w'.ownsMap P k R b n D := by
  have hlt := h.lt
  obtain ⟨es, clock, hb', F, hs, hD⟩ := h
  exact ⟨es, clock, (hk.2 b hlt hb).trans hb', F, hs, hD⟩
/-- With names. -/
structure OF (W0 w : World) (qb mb : Nat) (begun sure : Int) (l : List S91) (v : Value) (D : DataW Unit) (n : Nat) (ok : Nat → Prop) : Prop where
  q : IsQ w W0.heap.size ok qb begun sure l v
  m : w.ownsMap Try.prog 23 (plainElem Try.prog 23) mb n D
  mi : MI D l
  ris : Rising begun l
  out : ¬ ok mb
  base : W0.heap.size ≤ mb
  below : Below W0.heap.size W0 w
section
variable {W0 w w' : World} {qb mb : Nat} {begun sure : Int} {l : List S91} {v : Value} {D : DataW Unit} {n : Nat} {ok : Nat → Prop}
theorem OF.on (h : OF W0 w qb mb begun sure l v D n ok) {n' : Nat} (hn : n ≤ n') : ON W0 w qb mb sure n' := ⟨begun, l, v, D, ok, h.q, h.m.mono hn, h.mi, h.ris, h.out, h.base, h.below⟩
theorem OF.later (h : OF W0 w qb mb begun sure l v D n ok) (hb : Below w.heap.size w w') : OF W0 w' qb mb begun sure l v D n ok :=
  ⟨h.q.below hb, map_kept h.m (Kept.of_below hb (fun _ => False)) (fun h => h), h.mi, h.ris, h.out, h.base, below_then h.below h.below.size hb⟩
theorem OF.qm (h : OF W0 w qb mb begun sure l v D n ok) : qb ≠ mb := fun e => h.out (e ▸ h.q.mine.2)
/-- The queue's numbers turned, all else as it was. -/
theorem OF.nums {begun' sure' : Int} (h : OF W0 w qb mb begun sure l v D n ok) (hq : IsQ w' W0.heap.size ok qb begun' sure' l v) (hb : Below W0.heap.size W0 w') (hk : Kept w w' (fun k => k = qb)) (hbb : begun ≤ begun') : OF W0 w' qb mb begun' sure' l v D n ok :=
  ⟨hq, map_kept h.m hk (fun e => h.qm e.symm), h.mi, h.ris.more hbb, h.out, h.base, hb⟩
end

/-- Inside the inner loop, j reads told. -/
structure IN (W0 w : World) (qb mb g7 : Nat) (begun sure : Int) (taken left : List S91) (u v : Value) (D : DataW Unit) (n j : Nat) (okq oko : Nat → Prop) (o7 : Obj) : Prop where
  q : IsQ w W0.heap.size okq qb begun sure left v
  t : Kd.R k91 91 w W0.heap.size oko u taken
  m : w.ownsMap Try.prog 23 (plainElem Try.prog 23) mb n D
  mi : MI D (taken.drop j ++ left)
  box : w.heap[g7]? = some o7
  oq : ¬ okq mb
  oo : ¬ oko mb
  g7m : g7 ≠ mb
  base : W0.heap.size ≤ mb
  below : Below W0.heap.size W0 w
theorem IN.start {W0 w w' : World} {qb mb g7 : Nat} {begun sure : Int} {l taken left : List S91} {u v v' : Value} {D : DataW Unit} {n : Nat} {ok : Nat → Prop} {o7 : Obj} (h : OF W0 w qb mb begun sure l v D n ok) (hp : Parted W0 w w' qb begun sure ok u v' taken left) (hperm : l.Perm (taken ++ left)) (h7 : w.heap[g7]? = some o7) (h7q : ¬ ok g7) (h7m : g7 ≠ mb) :
    ∃ okq oko, IN W0 w' qb mb g7 begun sure taken left u v' D n 0 okq oko o7 := by
  obtain ⟨okq, oko, p1, p2, p3, p4, p5, p6⟩ := hp
  have hlt := h.m.lt
  refine ⟨okq, fun k => oko k ∧ w.heap.size ≤ k, p1, Kd.R_lower (Kd.R_mono (Kd.R_bound p2) (fun k hk => ⟨hk.1, hk.2.1⟩)) h.below.size, map_kept h.m p6 (fun e => h.qm e.symm), h.mi.perm hperm, blk_kept h7 p6 (fun e => h7q (by have e : g7 = qb := e; exact e ▸ h.q.mine.2)), fun hk => (p4 _ hk).elim h.out (fun h => by omega), fun hk => by have := hk.2; omega, h7m, h.base, p5⟩
section
variable {W0 w w1 w2 w3 : World} {qb mb g7 g14 : Nat} {begun sure : Int} {taken left : List S91} {u v : Value} {D : DataW Unit} {n j : Nat} {okq oko : Nat → Prop} {o7 : Obj} {y0 y1 y2 : Value}
/-- The box of one read, written. -/
theorem IN.noted (h : IN W0 w qb mb g7 begun sure taken left u v D n j okq oko o7) (hg : g14 = w.heap.size) (hb : Below w.heap.size w w1) (hw : w2 = ((w1.setCell ⟨g14, 0, none⟩ y0).setCell ⟨g14, 1, none⟩ y1).setCell ⟨g14, 2, none⟩ y2) : IN W0 w2 qb mb g7 begun sure taken left u v D n j okq oko o7 := by
  have B := set3_below hb (show w.heap.size ≤ g14 by omega) hw
  exact ⟨h.q.below B, Kd.R_below h.t B, map_kept h.m (Kept.of_below B (fun _ => False)) (fun h => h), h.mi, blk_below h.box B, h.oq, h.oo, h.g7m, h.base, below_then h.below h.below.size B⟩
/-- One read struck out. -/
theorem IN.struck (h : IN W0 w qb mb g7 begun sure taken left u v D n j okq oko o7) (hj : j < taken.length) (hm : w3.ownsMap Try.prog 23 (plainElem Try.prog 23) mb n (D.del (KY (rd_T91 taken (j : Int)).f2))) (ht : w.mapTurned w3 mb) : ∃ D', IN W0 w3 qb mb g7 begun sure taken left u v D' n (j + 1) okq oko o7 := by
  have hk : Kept w w3 (fun k => k = mb) := Kept.of_grown ht.grown (Kept.refl w _) (fun k e => .inl (Option.some.inj e).symm)
  have hmi := h.mi
  rw [drop_rd taken j hj, List.cons_append] at hmi
  exact ⟨_, h.q.kept hk (fun k hk e => h.oq (by have e : k = mb := e; exact e ▸ hk)), Kd.R_kept h.t hk (fun k hk e => h.oo (by have e : k = mb := e; exact e ▸ hk)), hm, hmi.del (h.m.tidy law23), blk_kept h.box hk (fun e => h.g7m e), h.oq, h.oo, h.g7m, h.base, h.below.grown ht.grown h.below.size (fun k e => by cases e; exact h.base)⟩
theorem IN.here (h : IN W0 w qb mb g7 begun sure taken left u v D n j okq oko o7) (hj : j < taken.length) : Maps.has D (KY (rd_T91 taken (j : Int)).f2) = true ∧ D.atKey (KY (rd_T91 taken (j : Int)).f2) (.lit (.int .u64 0)) = .lit (.int .u64 (rd_T91 taken (j : Int)).f0) := by
  have hmi := h.mi
  rw [drop_rd taken j hj, List.cons_append] at hmi
  exact ⟨(hmi.has _).2 (by simp), hmi.at_ _ (by simp)⟩
theorem IN.done (h : IN W0 w qb mb g7 begun sure taken left u v D n j okq oko o7) (hj : taken.length ≤ j) (hr : Rising begun left) {n' : Nat} (hn : n ≤ n') : ON W0 w qb mb sure n' := by
  have hmi := h.mi
  rw [List.drop_of_length_le hj, List.nil_append] at hmi
  exact ⟨begun, left, v, D, okq, h.q, h.m.mono hn, hmi, hr, h.oq, h.base, h.below⟩
end
/-- Behind Ask and the note of it. -/
theorem OF.asked {W0 w w1 w2 : World} {qb mb : Nat} {begun sure id index : Int} {l : List S91} {v v' : Value} {D : DataW Unit} {n : Nat} {ok : Nat → Prop} (h : OF W0 w qb mb begun sure l v D n ok) (hq : IsQ w1 W0.heap.size (fun k => ok k ∨ w.heap.size ≤ k) qb (begun + 1) sure (l ++ [⟨id, index, begun + 1⟩]) v') (hB : Below W0.heap.size W0 w1) (hU : U id)
    (hm : w2.ownsMap Try.prog 23 (plainElem Try.prog 23) mb (n + 1) (D.put (KY (begun + 1)) (.lit (.int .u64 id)))) (hg : w1.grownBy w2 (some mb)) : ON W0 w2 qb mb sure (n + 1) := by
  have hk : Kept w1 w2 (fun k => k = mb) := Kept.of_grown hg (Kept.refl w1 _) (fun k e => .inl (Option.some.inj e).symm)
  have hlt := h.m.lt
  have ho : ¬ (ok mb ∨ w.heap.size ≤ mb) := fun e => e.elim h.out (fun e => by omega)
  refine ⟨begun + 1, _, v', _, _, hq.kept hk (fun k hk e => ho (by have e : k = mb := e; exact e ▸ hk)), hm, h.mi.put (h.m.tidy law23) ⟨id, index, begun + 1⟩ (fun hx => ?_), h.ris.snoc h.q.b0 id index hU, ho, h.base, hB.grown hg hB.size (fun k e => by cases e; exact h.base)⟩
  obtain ⟨x, hx, e⟩ := List.mem_map.1 hx
  have := (h.ris.lo x hx).2
  have e : x.f2 = begun + 1 := e
  omega

theorem OF.fresh {W0 w : World} {qb mb g : Nat} {begun sure : Int} {l : List S91} {v : Value} {D : DataW Unit} {n : Nat} {ok : Nat → Prop} (h : OF W0 w qb mb begun sure l v D n (fun k => ok k ∧ k < w.heap.size)) (hg : g = w.heap.size) : ¬ (ok g ∧ g < w.heap.size) ∧ g ≠ mb :=
  ⟨fun e => by have := e.2; omega, fun e => by have := h.m.lt; omega⟩
theorem OF.tight {W0 w : World} {qb mb : Nat} {begun sure : Int} {l : List S91} {v : Value} {D : DataW Unit} {n : Nat} {ok : Nat → Prop} (h : OF W0 w qb mb begun sure l v D n ok) : OF W0 w qb mb begun sure l v D n (fun k => ok k ∧ k < w.heap.size) :=
  ⟨h.q.bound.mono (fun k hk => ⟨hk.1, hk.2.2⟩), h.m, h.mi, h.ris, fun e => h.out e.1, h.base, h.below⟩
theorem OF.notin {W0 w : World} {qb mb : Nat} {begun sure : Int} {l : List S91} {v : Value} {D : DataW Unit} {n : Nat} {ok : Nat → Prop} (h : OF W0 w qb mb begun sure l v D n ok) : ¬ (ok mb ∨ w.heap.size ≤ mb) := fun e => e.elim h.out (fun e => by have := h.m.lt; omega)
theorem sure_taken (sure applied : Int) (l : List S91) (j : Nat) (hj : j < (l.filter (sureOf sure applied)).length) : (rd_T91 (l.filter (sureOf sure applied)) (j : Int)).f2 ≤ sure ∧ (rd_T91 (l.filter (sureOf sure applied)) (j : Int)).f1 ≤ applied := by
  have h := (List.mem_filter.1 (rd_mem _ j hj)).2
  generalize rd_T91 (l.filter (sureOf sure applied)) (j : Int) = x at h ⊢
  unfold sureOf at h
  split at h
  · rename_i hs
    exact ⟨hs, by simpa using h⟩
  · cases h

set_option maxHeartbeats 8000000 in
set_option maxRecDepth 100000 in
theorem once_walk (A : Option Addr) (c : Nat) (xs : List S50) (w : World) (hC : Kd.C k50 w A xs.length xs) (hU : ∀ y ∈ xs, U y.f1) (h63 : xs.length ≤ 9223372036854775807) :
    Calls Try.prog 8 #[.slice A xs.length c] w fun e w' => e = .returned (.bool true) ∧ Below w.heap.size w w' := by
  have HC := Aside0.mk hC
  have HUX := Aside0.mk hU
  have hu50 := Try.underlying50
  have hu91 := Try.underlying91
  have hmm := @run_makeMap Try.prog
  clear hC hU
  by_cases hlen : 200 < xs.length
  · have d2 : decide (200 < (xs.length : Int)) = true := by simp; omega
    go_enter Try.func8, Try.ntmps8
    go_wp2_with (go_at_call 26; refine (lives_calls _).mono ?_; rintro e w' ⟨rfl, hb⟩; have HB2 := Aside0.mk hb; clear hb)
    go_ret
    exact ⟨rfl, HB2.out⟩
  · have d2 : decide (200 < (xs.length : Int)) = false := by simp; omega
    go_enter Try.func8, Try.ntmps8
    go_wp2_with (first
      | (go_at_call 27; refine (new_calls _).mono ?_; rintro e w1 ⟨qb, rfl, hq, hb⟩; have HQ := Aside0.mk hq; have HB := Aside0.mk hb; clear hq hb))
    have HON : Aside0 (ON w (w1.alloc (.map #[] 0)) qb w1.heap.size 0 0) := ⟨0, [], .slice none 0 0, .map [], _, HQ.out.bound.below (below_alloc (Below.refl _ _) _), World.ownsMap_made _ _ _ _, MI.nil, Rising.nil 0, fun e => by have := e.2.2; omega, HB.out.size, HB.out.alloc HB.out.size _⟩
    obtain ⟨mb, hmb⟩ : ∃ mb, mb = w1.heap.size := ⟨_, rfl⟩
    rw [← hmb] at HON ⊢
    clear HQ HB
    go_loopw [5, 25] (fun s i wr => ∃ (k : Nat) (sure : Int), k ≤ xs.length ∧ i = .int .i64 k ∧ s = .int .u64 sure ∧ Aside0 (ON w wr qb mb sure k)) (fun _ i _ => xs.length - (intOf i).toNat)
    case atStart => exact ⟨0, 0, Nat.zero_le _, rfl, rfl, HON⟩
    case round =>
      clear HON hmb
      obtain ⟨k, sure, hk, rfl, rfl, HO⟩ := hrel
      obtain ⟨begun, l, v, D, ok0, o1, o2, o3, o4, o5, o6, o7⟩ := HO.out
      by_cases hlt : k < xs.length
      · have HF := Aside0.mk (OF.tight ⟨o1, o2, o3, o4, o5, o6, o7⟩)
        obtain ⟨ok, hok⟩ : ∃ ok : Nat → Prop, ok = fun k => ok0 k ∧ k < wr.heap.size := ⟨_, rfl⟩
        obtain ⟨ad, ea, x0, x1, x2⟩ := at_T50 (Kd.C_below HC.out o7) k hlt
        cases ea
        have HYU : Aside0 (U (rd_T50 xs (k : Int)).f1) := ⟨HUX.out _ (by unfold rd_T50; rw [Int.toNat_natCast, List.getD_eq_getElem?_getD, List.getElem?_eq_getElem hlt]; exact List.getElem_mem _)⟩
        generalize rd_T50 xs (k : Int) = y at x0 x1 x2 HYU
        clear o1 o2 o3 o4 o5 o6 o7 HO hok ok
        by_cases k1 : y.f0 = 1
        · rw [k1] at x0
          clear k1
          go_wp2_with (first
            | ((with_reducible refine gate_dst (N := 7) rfl ?_); refine box_event ?hg (N := 7) ?hd (cs := #[.int .i64 0, .int .u64 0, .int .u64 0]) (t := 50) ?hr ?_; (case hd => rfl); (case hg => rfl); (case hr => first | (go_simp; done) | (go_simp; rfl)); intro g7 hg w2 hbox hb; have E7 := Aside0.mk hg; have K7 := Aside0.mk hbox; have B7 := Aside0.mk hb; clear hg hbox hb; have d0 := (blk_cell K7.out 0).trans rfl; have z0 := blk_frozen K7.out 0; have d1 := (blk_cell K7.out 1).trans rfl; have z1 := blk_frozen K7.out 1; have d2 := (blk_cell K7.out 2).trans rfl; have z2 := blk_frozen K7.out 2)
            | ((with_reducible refine gate_op (Op.store 50 (.tmp 7) (.tmp 28)) rfl ?_); refine skip_event (w1 := ((w2.setCell ⟨g7, 0, none⟩ (.int .i64 1)).setCell ⟨g7, 1, none⟩ (.int .u64 y.f1)).setCell ⟨g7, 2, none⟩ (.int .u64 y.f2)) rfl rfl ?hr ?_; (case hr => first | (go_simp; done) | (go_simp; rfl)); intro w3 hw3; have B3 := set3_below B7.out (Nat.le_of_eq E7.out.symm) hw3; have HF3 := Aside0.mk (HF.out.later B3); have K3 := Aside0.mk (set3_at K7.out hw3); have N3 := Aside0.mk (OF.fresh HF.out E7.out); clear hw3 B3 d0 z0 d1 z1 d2 z2 x0 x1 x2; have c0 := (blk_cell K3.out 0).trans rfl; have c1 := (blk_cell K3.out 1).trans rfl; have c2 := (blk_cell K3.out 2).trans rfl; clear K7 E7 B7 HF)
            | (go_at_call 29; refine (HF3.out.q.begin HF3.out.below).mono ?_; rintro e w4 ⟨rfl, hq, hb, hk4⟩; have HO := Aside0.mk ((HF3.out.nums hq hb hk4 (beginOf_le HF3.out.q.b1).2).on (Nat.le_succ k)); clear hq hb hk4 c0 c1 c2))
          refine wp_loop_rounds 1 ?_
          rw [rounds_succ]
          go_wp2
          go_roundw
          case rel => exact ⟨k + 1, sure, by omega, by go_num, rfl, HO⟩
          case measure => simp [intOf]; omega
        · have e1 : (y.f0 == 1) = false := by simpa using k1
          by_cases k2 : y.f0 = 2
          · rw [k2] at x0
            clear k1 k2 e1
            go_wp2_with (first
              | ((with_reducible refine gate_dst (N := 7) rfl ?_); refine box_event ?hg (N := 7) ?hd (cs := #[.int .i64 0, .int .u64 0, .int .u64 0]) (t := 50) ?hr ?_; (case hd => rfl); (case hg => rfl); (case hr => first | (go_simp; done) | (go_simp; rfl)); intro g7 hg w2 hbox hb; have E7 := Aside0.mk hg; have K7 := Aside0.mk hbox; have B7 := Aside0.mk hb; clear hg hbox hb; have d0 := (blk_cell K7.out 0).trans rfl; have z0 := blk_frozen K7.out 0; have d1 := (blk_cell K7.out 1).trans rfl; have z1 := blk_frozen K7.out 1; have d2 := (blk_cell K7.out 2).trans rfl; have z2 := blk_frozen K7.out 2)
              | ((with_reducible refine gate_op (Op.store 50 (.tmp 7) (.tmp 28)) rfl ?_); refine skip_event (w1 := ((w2.setCell ⟨g7, 0, none⟩ (.int .i64 2)).setCell ⟨g7, 1, none⟩ (.int .u64 y.f1)).setCell ⟨g7, 2, none⟩ (.int .u64 y.f2)) rfl rfl ?hr ?_; (case hr => first | (go_simp; done) | (go_simp; rfl)); intro w3 hw3; have B3 := set3_below B7.out (Nat.le_of_eq E7.out.symm) hw3; have HF3 := Aside0.mk (HF.out.later B3); have K3 := Aside0.mk (set3_at K7.out hw3); have N3 := Aside0.mk (OF.fresh HF.out E7.out); clear hw3 B3 d0 z0 d1 z1 d2 z2 x0 x1 x2; have c0 := (blk_cell K3.out 0).trans rfl; have c1 := (blk_cell K3.out 1).trans rfl; have c2 := (blk_cell K3.out 2).trans rfl; clear K7 E7 B7 HF)
              | (go_at_call 31; refine (HF3.out.q.confirm HF3.out.below y.f1).mono ?_; rintro e w4 ⟨rfl, hq, hb, hk4⟩; have K4 := Aside0.mk (blk_kept K3.out hk4 (fun e => N3.out.1 (by have e : g7 = qb := e; exact e ▸ HF3.out.q.mine.2))); have HF4 := Aside0.mk (HF3.out.nums hq hb hk4 (Int.le_refl _)); clear hq hb hk4 c0 c1 c2; have c1 := (blk_cell K4.out 1).trans rfl))
            go_quiet (first | (go_at_call 39; exact Calls.quiet_of_same ((HF4.out.q.below (pw_below_drewN (Below.refl _ _) _)).round.mono (fun _ _ h => ⟨h.1, h.2.symm⟩))))
            go_wp2
            all_goals (refine wp_loop_rounds 1 ?_; rw [rounds_succ]; go_wp2)
            all_goals go_roundw
            all_goals first
              | exact ⟨k + 1, confOf begun sure y.f1, by omega, by go_num, by congr 1; unfold confOf; (repeat' split) <;> omega, ⟨(HF4.out.later (pw_below_drewN (Below.refl _ _) _)).on (Nat.le_succ k)⟩⟩
              | (simp [intOf]; omega)
          · have e2 : (y.f0 == 2) = false := by simpa using k2
            by_cases k3 : y.f0 = 3
            · rw [k3] at x0
              clear k1 k2 k3 e1 e2
              have HPM := Aside0.mk (parts_perm (sureOf sure y.f1) l)
              have HRT := Aside0.mk (HF.out.ris.filter (sureOf sure y.f1))
              have HRL := Aside0.mk (HF.out.ris.filter (fun x => !sureOf sure y.f1 x))
              have HTL : Aside0 ((l.filter (sureOf sure y.f1)).length ≤ 1000) := ⟨by have h1 := List.length_filter_le (sureOf sure y.f1) l; have := HF.out.q.len; omega⟩
              go_wp2_with (first
                | ((with_reducible refine gate_dst (N := 7) rfl ?_); refine box_event ?hg (N := 7) ?hd (cs := #[.int .i64 0, .int .u64 0, .int .u64 0]) (t := 50) ?hr ?_; (case hd => rfl); (case hg => rfl); (case hr => first | (go_simp; done) | (go_simp; rfl)); intro g7 hg w2 hbox hb; have E7 := Aside0.mk hg; have K7 := Aside0.mk hbox; have B7 := Aside0.mk hb; clear hg hbox hb; have d0 := (blk_cell K7.out 0).trans rfl; have z0 := blk_frozen K7.out 0; have d1 := (blk_cell K7.out 1).trans rfl; have z1 := blk_frozen K7.out 1; have d2 := (blk_cell K7.out 2).trans rfl; have z2 := blk_frozen K7.out 2)
                | ((with_reducible refine gate_op (Op.store 50 (.tmp 7) (.tmp 28)) rfl ?_); refine skip_event (w1 := ((w2.setCell ⟨g7, 0, none⟩ (.int .i64 3)).setCell ⟨g7, 1, none⟩ (.int .u64 y.f1)).setCell ⟨g7, 2, none⟩ (.int .u64 y.f2)) rfl rfl ?hr ?_; (case hr => first | (go_simp; done) | (go_simp; rfl)); intro w3 hw3; have B3 := set3_below B7.out (Nat.le_of_eq E7.out.symm) hw3; have HF3 := Aside0.mk (HF.out.later B3); have K3 := Aside0.mk (set3_at K7.out hw3); have N3 := Aside0.mk (OF.fresh HF.out E7.out); clear hw3 B3 d0 z0 d1 z1 d2 z2 x0 x1 x2; have c0 := (blk_cell K3.out 0).trans rfl; have c1 := (blk_cell K3.out 1).trans rfl; have c2 := (blk_cell K3.out 2).trans rfl; clear K7 E7 B7 HF)
                | (go_at_call 35; refine (HF3.out.q.take HF3.out.below y.f1).mono ?_; rintro e w4 ⟨u4, v4, rfl, hp⟩; obtain ⟨A4, c4, e4⟩ : ∃ A c, u4 = .slice A (l.filter (sureOf sure y.f1)).length c := (by obtain ⟨_, _, _, h, _⟩ := hp; exact Kd.R_slice h); subst e4; obtain ⟨okq, oko, hi⟩ := IN.start HF3.out hp HPM.out K3.out N3.out.1 N3.out.2; have HI := Aside0.mk hi; clear hp hi c0 c1 c2))
              go_loopw [12, 80] (fun last i wz => ∃ (j : Nat) (D' : DataW Unit) (q2 o2 : Nat → Prop), j ≤ (l.filter (sureOf sure y.f1)).length ∧ i = .int .i64 j ∧ last = .int .u64 (lastOf (l.filter (sureOf sure y.f1)) j) ∧ Aside0 (IN w wz qb mb g7 begun sure (l.filter (sureOf sure y.f1)) (l.filter (fun x => !sureOf sure y.f1 x)) (.slice A4 (l.filter (sureOf sure y.f1)).length c4) v4 D' k j q2 o2 (.cells #[.int .i64 3, .int .u64 y.f1, .int .u64 y.f2] 50 (0, 0)))) (fun _ i _ => (l.filter (sureOf sure y.f1)).length - (intOf i).toNat)
              case atStart => exact ⟨0, D, okq, oko, Nat.zero_le _, rfl, rfl, HI⟩
              case round =>
                clear HI
                obtain ⟨j, D', q2, o2, hj, rfl, rfl, HI⟩ := hrel
                by_cases hjt : j < (l.filter (sureOf sure y.f1)).length
                · obtain ⟨ad, ea, x0, x1, x2⟩ := at_T91 (Kd.R_reads' HI.out.t).2.2 (j : Int) (by omega) (by omega)
                  cases ea
                  simp only [Int.toNat_natCast] at x0 x1 x2
                  have HH := Aside0.mk (HI.out.here hjt)
                  have HLL := Aside0.mk (last_lt HRT.out j hjt)
                  have HLS := Aside0.mk (lastOf_succ (l.filter (sureOf sure y.f1)) j)
                  have HRD := Aside0.mk (HRT.out.lo _ (rd_mem (l.filter (sureOf sure y.f1)) j hjt))
                  have HST := Aside0.mk (fun (wa wb : World) (hw : IN w wa qb mb g7 begun sure (l.filter (sureOf sure y.f1)) (l.filter (fun x => !sureOf sure y.f1 x)) (.slice (some ad) (l.filter (sureOf sure y.f1)).length c4) v4 D' k j q2 o2 (.cells #[.int .i64 3, .int .u64 y.f1, .int .u64 y.f2] 50 (0, 0))) => IN.struck (w3 := wb) hw hjt)
                  have HZ := Aside0.mk (sure_taken sure y.f1 l j hjt)
                  generalize rd_T91 (l.filter (sureOf sure y.f1)) (j : Int) = z at x0 x1 x2 HH HLL HLS HRD HST HZ
                  have hh := HH.out.1
                  have hTL := HTL.out
                  have hl := HLL.out
                  have d5 : decide (z.f2 ≤ lastOf (l.filter (sureOf sure y.f1)) j) = false := by simp; omega
                  have d6 : decide (sure < z.f2) = false := by have := HZ.out.1; simp; omega
                  have d7 : decide (y.f1 < z.f1) = false := by have := HZ.out.2; simp; omega
                  have hb1 := HI.out.q.b1
                  have HKEY := Aside0.mk (keyOf_int_mk Try.underlying23 (u_of_round HRD.out.1 (Int.le_trans HRD.out.2 hb1)))
                  clear hl hb1
                  go_wp2_with (first
                    | ((with_reducible refine gate_dst (N := 14) rfl ?_); refine box_event ?hg (N := 14) ?hd (cs := #[.int .u64 0, .int .u64 0, .int .u64 0]) (t := 91) ?hr ?_; (case hd => rfl); (case hg => rfl); (case hr => first | (go_simp; done) | (go_simp; rfl)); intro g14 hg w5 hbox hb; have E14 := Aside0.mk hg; have K14 := Aside0.mk hbox; have B14 := Aside0.mk hb; clear hg hbox hb; have d0 := (blk_cell K14.out 0).trans rfl; have z0 := blk_frozen K14.out 0; have d1 := (blk_cell K14.out 1).trans rfl; have z1 := blk_frozen K14.out 1; have d2 := (blk_cell K14.out 2).trans rfl; have z2 := blk_frozen K14.out 2)
                    | ((with_reducible refine gate_op (Op.store 91 (.tmp 14) (.tmp 83)) rfl ?_); refine skip_event (w1 := ((w5.setCell ⟨g14, 0, none⟩ (.int .u64 z.f0)).setCell ⟨g14, 1, none⟩ (.int .u64 z.f1)).setCell ⟨g14, 2, none⟩ (.int .u64 z.f2)) rfl rfl ?hr ?_; (case hr => first | (go_simp; done) | (go_simp; rfl)); intro w6 hw6; have HI6 := Aside0.mk (HI.out.noted E14.out B14.out hw6); have K6 := Aside0.mk (set3_at K14.out hw6); clear hw6 d0 z0 d1 z1 d2 z2 x0 x1 x2; have d0 := (blk_cell K6.out 0).trans rfl; have d1 := (blk_cell K6.out 1).trans rfl; have d2 := (blk_cell K6.out 2).trans rfl; have c0 := (blk_cell HI6.out.box 0).trans rfl; have c1 := (blk_cell HI6.out.box 1).trans rfl; have c2 := (blk_cell HI6.out.box 2).trans rfl; clear K14 E14 B14)
                    | (at_lookup; refine wpList_lookup_own_ok_int _ rfl _ _ 89 rfl 23 23 .u64 law23 Try.underlying89 Try.underlying23 (zero23 _) mb k D' rfl HI6.out.m _ (KY z.f2) rfl HKEY.out ?_; intro cc hat hwc; have hcc : (cc != z.f0) = false := (by have := HH.out.2.symm.trans hat; injection this with this; injection this with _ this; simp [this]); clear hat hwc)
                    | (at_delete; refine wpList_delete_own _ rfl _ _ 89 23 rfl 23 law23 Try.underlying89 _ mb k D' rfl HI6.out.m _ (KY z.f2) rfl HKEY.out ?_; intro w7 hown hturn; have HI7 := Aside0.mk (HST.out _ _ HI6.out hown hturn); clear hown hturn))
                  obtain ⟨D2, hi7⟩ := HI7.out
                  go_roundw
                  case rel => exact ⟨j + 1, D2, q2, o2, by omega, by go_num, by rw [HLS.out], ⟨hi7⟩⟩
                  case measure => simp [intOf]; omega
                · have HO := Aside0.mk (HI.out.done (by omega) HRL.out (Nat.le_succ k))
                  clear HI
                  go_wp2
                  go_roundw
                  case rel => exact ⟨k + 1, sure, by omega, by go_num, rfl, HO⟩
                  case measure => simp [intOf]; omega
            · have e3 : (y.f0 == 3) = false := by simpa using k3
              by_cases k4 : y.f0 = 4
              · rw [k4] at x0
                clear k1 k2 k3 k4 e1 e2 e3
                have HPM := Aside0.mk (show l.Perm (l ++ []) from by rw [List.append_nil])
                have HRT := Aside0.mk (HF.out.ris)
                have HRL := Aside0.mk (Rising.nil begun)
                have HTL : Aside0 ((l).length ≤ 1000) := ⟨by have := HF.out.q.len; omega⟩
                go_wp2_with (first
                  | ((with_reducible refine gate_dst (N := 7) rfl ?_); refine box_event ?hg (N := 7) ?hd (cs := #[.int .i64 0, .int .u64 0, .int .u64 0]) (t := 50) ?hr ?_; (case hd => rfl); (case hg => rfl); (case hr => first | (go_simp; done) | (go_simp; rfl)); intro g7 hg w2 hbox hb; have E7 := Aside0.mk hg; have K7 := Aside0.mk hbox; have B7 := Aside0.mk hb; clear hg hbox hb; have d0 := (blk_cell K7.out 0).trans rfl; have z0 := blk_frozen K7.out 0; have d1 := (blk_cell K7.out 1).trans rfl; have z1 := blk_frozen K7.out 1; have d2 := (blk_cell K7.out 2).trans rfl; have z2 := blk_frozen K7.out 2)
                  | ((with_reducible refine gate_op (Op.store 50 (.tmp 7) (.tmp 28)) rfl ?_); refine skip_event (w1 := ((w2.setCell ⟨g7, 0, none⟩ (.int .i64 4)).setCell ⟨g7, 1, none⟩ (.int .u64 y.f1)).setCell ⟨g7, 2, none⟩ (.int .u64 y.f2)) rfl rfl ?hr ?_; (case hr => first | (go_simp; done) | (go_simp; rfl)); intro w3 hw3; have B3 := set3_below B7.out (Nat.le_of_eq E7.out.symm) hw3; have HF3 := Aside0.mk (HF.out.later B3); have K3 := Aside0.mk (set3_at K7.out hw3); have N3 := Aside0.mk (OF.fresh HF.out E7.out); clear hw3 B3 d0 z0 d1 z1 d2 z2 x0 x1 x2; have c0 := (blk_cell K3.out 0).trans rfl; have c1 := (blk_cell K3.out 1).trans rfl; have c2 := (blk_cell K3.out 2).trans rfl; clear K7 E7 B7 HF)
                  | (go_at_call 36; refine (HF3.out.q.drop HF3.out.below).mono ?_; rintro e w4 ⟨u4, v4, rfl, hp⟩; obtain ⟨A4, c4, e4⟩ : ∃ A c, u4 = .slice A (l).length c := (by obtain ⟨_, _, _, h, _⟩ := hp; exact Kd.R_slice h); subst e4; obtain ⟨okq, oko, hi⟩ := IN.start HF3.out hp HPM.out K3.out N3.out.1 N3.out.2; have HI := Aside0.mk hi; clear hp hi c0 c1 c2))
                go_loopw [12, 80] (fun last i wz => ∃ (j : Nat) (D' : DataW Unit) (q2 o2 : Nat → Prop), j ≤ (l).length ∧ i = .int .i64 j ∧ last = .int .u64 (lastOf (l) j) ∧ Aside0 (IN w wz qb mb g7 begun sure (l) ([]) (.slice A4 (l).length c4) v4 D' k j q2 o2 (.cells #[.int .i64 4, .int .u64 y.f1, .int .u64 y.f2] 50 (0, 0)))) (fun _ i _ => (l).length - (intOf i).toNat)
                case atStart => exact ⟨0, D, okq, oko, Nat.zero_le _, rfl, rfl, HI⟩
                case round =>
                  clear HI
                  obtain ⟨j, D', q2, o2, hj, rfl, rfl, HI⟩ := hrel
                  by_cases hjt : j < (l).length
                  · obtain ⟨ad, ea, x0, x1, x2⟩ := at_T91 (Kd.R_reads' HI.out.t).2.2 (j : Int) (by omega) (by omega)
                    cases ea
                    simp only [Int.toNat_natCast] at x0 x1 x2
                    have HH := Aside0.mk (HI.out.here hjt)
                    have HLL := Aside0.mk (last_lt HRT.out j hjt)
                    have HLS := Aside0.mk (lastOf_succ (l) j)
                    have HRD := Aside0.mk (HRT.out.lo _ (rd_mem (l) j hjt))
                    have HST := Aside0.mk (fun (wa wb : World) (hw : IN w wa qb mb g7 begun sure (l) ([]) (.slice (some ad) (l).length c4) v4 D' k j q2 o2 (.cells #[.int .i64 4, .int .u64 y.f1, .int .u64 y.f2] 50 (0, 0))) => IN.struck (w3 := wb) hw hjt)
                    generalize rd_T91 (l) (j : Int) = z at x0 x1 x2 HH HLL HLS HRD HST
                    have hh := HH.out.1
                    have hTL := HTL.out
                    have hl := HLL.out
                    have d5 : decide (z.f2 ≤ lastOf (l) j) = false := by simp; omega
                    have hb1 := HI.out.q.b1
                    have HKEY := Aside0.mk (keyOf_int_mk Try.underlying23 (u_of_round HRD.out.1 (Int.le_trans HRD.out.2 hb1)))
                    clear hl hb1
                    go_wp2_with (first
                      | ((with_reducible refine gate_dst (N := 14) rfl ?_); refine box_event ?hg (N := 14) ?hd (cs := #[.int .u64 0, .int .u64 0, .int .u64 0]) (t := 91) ?hr ?_; (case hd => rfl); (case hg => rfl); (case hr => first | (go_simp; done) | (go_simp; rfl)); intro g14 hg w5 hbox hb; have E14 := Aside0.mk hg; have K14 := Aside0.mk hbox; have B14 := Aside0.mk hb; clear hg hbox hb; have d0 := (blk_cell K14.out 0).trans rfl; have z0 := blk_frozen K14.out 0; have d1 := (blk_cell K14.out 1).trans rfl; have z1 := blk_frozen K14.out 1; have d2 := (blk_cell K14.out 2).trans rfl; have z2 := blk_frozen K14.out 2)
                      | ((with_reducible refine gate_op (Op.store 91 (.tmp 14) (.tmp 83)) rfl ?_); refine skip_event (w1 := ((w5.setCell ⟨g14, 0, none⟩ (.int .u64 z.f0)).setCell ⟨g14, 1, none⟩ (.int .u64 z.f1)).setCell ⟨g14, 2, none⟩ (.int .u64 z.f2)) rfl rfl ?hr ?_; (case hr => first | (go_simp; done) | (go_simp; rfl)); intro w6 hw6; have HI6 := Aside0.mk (HI.out.noted E14.out B14.out hw6); have K6 := Aside0.mk (set3_at K14.out hw6); clear hw6 d0 z0 d1 z1 d2 z2 x0 x1 x2; have d0 := (blk_cell K6.out 0).trans rfl; have d1 := (blk_cell K6.out 1).trans rfl; have d2 := (blk_cell K6.out 2).trans rfl; have c0 := (blk_cell HI6.out.box 0).trans rfl; have c1 := (blk_cell HI6.out.box 1).trans rfl; have c2 := (blk_cell HI6.out.box 2).trans rfl; clear K14 E14 B14)
                      | (at_lookup; refine wpList_lookup_own_ok_int _ rfl _ _ 89 rfl 23 23 .u64 law23 Try.underlying89 Try.underlying23 (zero23 _) mb k D' rfl HI6.out.m _ (KY z.f2) rfl HKEY.out ?_; intro cc hat hwc; have hcc : (cc != z.f0) = false := (by have := HH.out.2.symm.trans hat; injection this with this; injection this with _ this; simp [this]); clear hat hwc)
                      | (at_delete; refine wpList_delete_own _ rfl _ _ 89 23 rfl 23 law23 Try.underlying89 _ mb k D' rfl HI6.out.m _ (KY z.f2) rfl HKEY.out ?_; intro w7 hown hturn; have HI7 := Aside0.mk (HST.out _ _ HI6.out hown hturn); clear hown hturn))
                    obtain ⟨D2, hi7⟩ := HI7.out
                    go_roundw
                    case rel => exact ⟨j + 1, D2, q2, o2, by omega, by go_num, by rw [HLS.out], ⟨hi7⟩⟩
                    case measure => simp [intOf]; omega
                  · have HO := Aside0.mk (HI.out.done (by omega) HRL.out (Nat.le_succ k))
                    clear HI
                    go_wp2
                    go_roundw
                    case rel => exact ⟨k + 1, sure, by omega, by go_num, rfl, HO⟩
                    case measure => simp [intOf]; omega
              · have e4 : (y.f0 == 4) = false := by simpa using k4
                have f1 := e1
                have f2 := e2
                have f3 := e3
                have f4 := e4
                clear e1 e2 e3 e4
                by_cases hfull : 32 ≤ l.length
                · have e1 : askBegun begun l = begun := by unfold askBegun; rw [if_pos hfull]
                  have e2 : askList begun l y.f1 y.f2 = l := by unfold askList; rw [if_pos hfull]
                  have e3 : askRound begun l = 0 := by unfold askRound; rw [if_pos hfull]
                  have e4 : askErr begun l = 30 := by unfold askErr; rw [if_pos hfull]
                  go_wp2_with (first
                    | ((with_reducible refine gate_dst (N := 7) rfl ?_); refine box_event ?hg (N := 7) ?hd (cs := #[.int .i64 0, .int .u64 0, .int .u64 0]) (t := 50) ?hr ?_; (case hd => rfl); (case hg => rfl); (case hr => first | (go_simp; done) | (go_simp; rfl)); intro g7 hg w2 hbox hb; have E7 := Aside0.mk hg; have K7 := Aside0.mk hbox; have B7 := Aside0.mk hb; clear hg hbox hb; have d0 := (blk_cell K7.out 0).trans rfl; have z0 := blk_frozen K7.out 0; have d1 := (blk_cell K7.out 1).trans rfl; have z1 := blk_frozen K7.out 1; have d2 := (blk_cell K7.out 2).trans rfl; have z2 := blk_frozen K7.out 2)
                    | ((with_reducible refine gate_op (Op.store 50 (.tmp 7) (.tmp 28)) rfl ?_); refine skip_event (w1 := ((w2.setCell ⟨g7, 0, none⟩ (.int .i64 y.f0)).setCell ⟨g7, 1, none⟩ (.int .u64 y.f1)).setCell ⟨g7, 2, none⟩ (.int .u64 y.f2)) rfl rfl ?hr ?_; (case hr => first | (go_simp; done) | (go_simp; rfl)); intro w3 hw3; have B3 := set3_below B7.out (Nat.le_of_eq E7.out.symm) hw3; have HF3 := Aside0.mk (HF.out.later B3); have K3 := Aside0.mk (set3_at K7.out hw3); have N3 := Aside0.mk (OF.fresh HF.out E7.out); clear hw3 B3 d0 z0 d1 z1 d2 z2 x0 x1 x2; have c0 := (blk_cell K3.out 0).trans rfl; have c1 := (blk_cell K3.out 1).trans rfl; have c2 := (blk_cell K3.out 2).trans rfl; clear K7 E7 B7 HF)
                    | (go_at_call 39; refine (HF3.out.q.round).mono ?_; rintro e w' ⟨rfl, rfl⟩)
                    | (go_at_call 38; refine (HF3.out.q.ask HF3.out.below y.f1 y.f2).mono ?_; rw [e1, e2, e3, e4]; rintro e w4 ⟨v4, rfl, hq, hb, hk4⟩; have HO := Aside0.mk (OF.on ⟨hq, map_kept HF3.out.m hk4 (fun e => HF3.out.qm e.symm), HF3.out.mi, HF3.out.ris, HF3.out.notin, HF3.out.base, hb⟩ (Nat.le_succ k)); clear hq hb hk4 c0 c1 c2))
                  refine wp_loop_rounds 1 ?_
                  rw [rounds_succ]
                  go_wp2
                  go_roundw
                  case rel => exact ⟨k + 1, sure, by omega, by go_num, rfl, HO⟩
                  case measure => simp [intOf]; omega
                · by_cases hbig : BIG ≤ begun
                  · have e1 : askBegun begun l = begun := by unfold askBegun; rw [if_neg hfull, if_pos hbig]
                    have e2 : askList begun l y.f1 y.f2 = l := by unfold askList; rw [if_neg hfull, if_pos hbig]
                    have e3 : askRound begun l = 0 := by unfold askRound; rw [if_neg hfull, if_pos hbig]
                    have e4 : askErr begun l = 10 := by unfold askErr; rw [if_neg hfull, if_pos hbig]
                    go_wp2_with (first
                      | ((with_reducible refine gate_dst (N := 7) rfl ?_); refine box_event ?hg (N := 7) ?hd (cs := #[.int .i64 0, .int .u64 0, .int .u64 0]) (t := 50) ?hr ?_; (case hd => rfl); (case hg => rfl); (case hr => first | (go_simp; done) | (go_simp; rfl)); intro g7 hg w2 hbox hb; have E7 := Aside0.mk hg; have K7 := Aside0.mk hbox; have B7 := Aside0.mk hb; clear hg hbox hb; have d0 := (blk_cell K7.out 0).trans rfl; have z0 := blk_frozen K7.out 0; have d1 := (blk_cell K7.out 1).trans rfl; have z1 := blk_frozen K7.out 1; have d2 := (blk_cell K7.out 2).trans rfl; have z2 := blk_frozen K7.out 2)
                      | ((with_reducible refine gate_op (Op.store 50 (.tmp 7) (.tmp 28)) rfl ?_); refine skip_event (w1 := ((w2.setCell ⟨g7, 0, none⟩ (.int .i64 y.f0)).setCell ⟨g7, 1, none⟩ (.int .u64 y.f1)).setCell ⟨g7, 2, none⟩ (.int .u64 y.f2)) rfl rfl ?hr ?_; (case hr => first | (go_simp; done) | (go_simp; rfl)); intro w3 hw3; have B3 := set3_below B7.out (Nat.le_of_eq E7.out.symm) hw3; have HF3 := Aside0.mk (HF.out.later B3); have K3 := Aside0.mk (set3_at K7.out hw3); have N3 := Aside0.mk (OF.fresh HF.out E7.out); clear hw3 B3 d0 z0 d1 z1 d2 z2 x0 x1 x2; have c0 := (blk_cell K3.out 0).trans rfl; have c1 := (blk_cell K3.out 1).trans rfl; have c2 := (blk_cell K3.out 2).trans rfl; clear K7 E7 B7 HF)
                      | (go_at_call 39; refine (HF3.out.q.round).mono ?_; rintro e w' ⟨rfl, rfl⟩)
                      | (go_at_call 38; refine (HF3.out.q.ask HF3.out.below y.f1 y.f2).mono ?_; rw [e1, e2, e3, e4]; rintro e w4 ⟨v4, rfl, hq, hb, hk4⟩; have HO := Aside0.mk (OF.on ⟨hq, map_kept HF3.out.m hk4 (fun e => HF3.out.qm e.symm), HF3.out.mi, HF3.out.ris, HF3.out.notin, HF3.out.base, hb⟩ (Nat.le_succ k)); clear hq hb hk4 c0 c1 c2))
                    refine wp_loop_rounds 1 ?_
                    rw [rounds_succ]
                    go_wp2
                    go_roundw
                    case rel => exact ⟨k + 1, sure, by omega, by go_num, rfl, HO⟩
                    case measure => simp [intOf]; omega
                  · have e1 : askBegun begun l = begun + 1 := by unfold askBegun; rw [if_neg hfull, if_neg hbig]
                    have e2 : askList begun l y.f1 y.f2 = l ++ [⟨y.f1, y.f2, begun + 1⟩] := by unfold askList; rw [if_neg hfull, if_neg hbig]
                    have e3 : askRound begun l = begun + 1 := by unfold askRound; rw [if_neg hfull, if_neg hbig]
                    have e4 : askErr begun l = 0 := by unfold askErr; rw [if_neg hfull, if_neg hbig]
                    have hle : decide (begun + 1 ≤ begun) = false := by simp; omega
                    go_wp2_with (first
                      | ((with_reducible refine gate_dst (N := 7) rfl ?_); refine box_event ?hg (N := 7) ?hd (cs := #[.int .i64 0, .int .u64 0, .int .u64 0]) (t := 50) ?hr ?_; (case hd => rfl); (case hg => rfl); (case hr => first | (go_simp; done) | (go_simp; rfl)); intro g7 hg w2 hbox hb; have E7 := Aside0.mk hg; have K7 := Aside0.mk hbox; have B7 := Aside0.mk hb; clear hg hbox hb; have d0 := (blk_cell K7.out 0).trans rfl; have z0 := blk_frozen K7.out 0; have d1 := (blk_cell K7.out 1).trans rfl; have z1 := blk_frozen K7.out 1; have d2 := (blk_cell K7.out 2).trans rfl; have z2 := blk_frozen K7.out 2)
                      | ((with_reducible refine gate_op (Op.store 50 (.tmp 7) (.tmp 28)) rfl ?_); refine skip_event (w1 := ((w2.setCell ⟨g7, 0, none⟩ (.int .i64 y.f0)).setCell ⟨g7, 1, none⟩ (.int .u64 y.f1)).setCell ⟨g7, 2, none⟩ (.int .u64 y.f2)) rfl rfl ?hr ?_; (case hr => first | (go_simp; done) | (go_simp; rfl)); intro w3 hw3; have B3 := set3_below B7.out (Nat.le_of_eq E7.out.symm) hw3; have HF3 := Aside0.mk (HF.out.later B3); have K3 := Aside0.mk (set3_at K7.out hw3); have N3 := Aside0.mk (OF.fresh HF.out E7.out); clear hw3 B3 d0 z0 d1 z1 d2 z2 x0 x1 x2; have c0 := (blk_cell K3.out 0).trans rfl; have c1 := (blk_cell K3.out 1).trans rfl; have c2 := (blk_cell K3.out 2).trans rfl; clear K7 E7 B7 HF)
                      | (go_at_call 39; refine (HF3.out.q.round).mono ?_; rintro e w' ⟨rfl, rfl⟩)
                      | (go_at_call 38; refine (HF3.out.q.ask HF3.out.below y.f1 y.f2).mono ?_; rw [e1, e2, e3, e4]; rintro e w4 ⟨v4, rfl, hq, hb, hk4⟩; have Q4 := Aside0.mk hq; have B4 := Aside0.mk hb; have M4 := Aside0.mk (map_kept HF3.out.m hk4 (fun e => HF3.out.qm e.symm)); have K4 := Aside0.mk (blk_kept K3.out hk4 (fun e => N3.out.1 (by have e : g7 = qb := e; exact e ▸ HF3.out.q.mine.2))); clear hq hb hk4 c0 c1 c2; have c1 := (blk_cell K4.out 1).trans rfl)
                      | (at_mapUpdate; refine wpList_mapUpdate_own _ rfl _ _ _ 89 rfl 23 23 law23 Try.underlying89 (plainElem Try.prog 23) mb k D rfl M4.out (by unfold maxLen; omega) _ _ (KY (begun + 1)) rfl rfl (keyOf_int_mk Try.underlying23 (u_of_round (by have := HF3.out.q.b0; omega) (by omega))) (.lit (.int .u64 y.f1)) [] (plainElem_int Try.underlying23 HYU.out) ?_; intro w5 hown hgrow; have HO := Aside0.mk (OF.asked HF3.out Q4.out B4.out HYU.out hown hgrow); clear hown hgrow c1))
                    refine wp_loop_rounds 1 ?_
                    rw [rounds_succ]
                    go_wp2
                    go_roundw
                    case rel => exact ⟨k + 1, sure, by omega, by go_num, rfl, HO⟩
                    case measure => simp [intOf]; omega
      · have HN : Aside0 (Maps.size D = l.length) := ⟨o3.size⟩
        have HM := Aside0.mk o2
        have HQ := Aside0.mk o1
        have HB := Aside0.mk o7
        have hsz : ((Maps.size D : Nat) : Int) = (l.length : Int) := by rw [o3.size]
        clear HO o1 o2 o3 o4 o5 o6 o7
        go_wp2_with (first
          | (at_len; refine wpList_len_own _ rfl _ 89 rfl 23 23 Try.underlying89 _ mb k D rfl HM.out ?_; rw [HN.out])
          | (go_at_call 40; refine (HQ.out.length).mono ?_; rintro e w' ⟨rfl, rfl⟩)
          | (go_at_call 26; refine (lives_calls _).mono ?_; rintro e w' ⟨rfl, hb⟩; have HB2 := Aside0.mk (below_then HB.out HB.out.size hb); clear hb))
        go_ret
        exact ⟨rfl, HB2.out⟩
end Go.Proofs.Ytbjbejjieibldaa.Qa
