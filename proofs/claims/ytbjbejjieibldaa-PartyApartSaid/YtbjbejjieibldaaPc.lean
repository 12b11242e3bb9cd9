/- Hear: what it answers, and the party behind it. -/
import Derived.Test.YtbjbejjieibldaaPb
namespace Go.Proofs.Ytbjbejjieibldaa.Pa
open Go.RowKit Go.Proofs.YtbjbejjieibldaaW.PrintWords Go.Proofs.YtbjbejjieibldaaW.PrintLast Go.Proofs.YtbjbejjieibldaaW.PrintMore Go.Maps Go.Proofs.Ytbjbejjieibldaa.Rg

/-- A notice as a value. -/
abbrev NV (id ticket level party state tries retry wait next : Int) : Value :=
  .agg #[.int .u64 id, .int .u64 ticket, .int .i64 level, .int .i64 party, .int .i64 state, .int .i64 tries, .int .i64 retry, .int .i64 wait, .int .i64 next]

section
variable {base : Nat} {ok : Nat → Prop} {pb : Nat} {number : Int} {did : List Int} {times : Int → Int} {n : Nat}
set_option maxHeartbeats 1000000 in
set_option maxRecDepth 100000 in
theorem hear_bad (id ticket level party state tries retry wait next : Int) (w : World) (h : IsP w base ok pb number did times n) (hbad : party ≠ number ∨ id = 0) :
    Calls Try.prog 23 #[.pointer (some ⟨pb, 0, none⟩), NV id ticket level party state tries retry wait next] w fun e w' => e = .returned (.tuple #[.bool false, .int .i64 2]) ∧ Below w.heap.size w w' := by
  obtain ⟨mb, v, D, h1, _⟩ := h
  have hlt := blk_lt h1
  have hu := Try.underlying31
  have h1' := blk_alloc h1 (.cells #[.int .u64 id, .int .u64 ticket, .int .i64 level, .int .i64 party, .int .i64 state, .int .i64 tries, .int .i64 retry, .int .i64 wait, .int .i64 next] 31)
  have c0 := (blk_cell h1' 0).trans rfl
  have H1 := Aside0.mk h1'
  clear h1 h1'
  by_cases hp : party = number
  · have hid : id = 0 := hbad.resolve_left (fun hne => hne hp)
    subst hp
    subst hid
    have b1 : (party != party) = false := by simp
    have b2 : ((0 : Int) == 0) = true := rfl
    clear hbad
    go_enter Try.func23, Try.ntmps23
    go_wp2_with (go_at_call 75; refine (none_some pb mb party v _ H1.out).mono ?_; rintro e w' ⟨rfl, rfl⟩)
    go_quiet (fail)
    go_wp2
    go_ret2
    exact ⟨rfl, by repeat (first | exact below_alloc (Below.refl _ _) _ | refine pw_below_drewN ?_ _ | refine below_drew ?_)⟩
  · have b1 : (party != number) = true := by simpa using hp
    clear hbad hp
    go_enter Try.func23, Try.ntmps23
    go_wp2_with (go_at_call 75; refine (none_some pb mb number v _ H1.out).mono ?_; rintro e w' ⟨rfl, rfl⟩)
    go_quiet (fail)
    go_wp2
    go_ret2
    exact ⟨rfl, by repeat (first | exact below_alloc (Below.refl _ _) _ | refine pw_below_drewN ?_ _ | refine below_drew ?_)⟩

theorem own_ne_map {α : Type} {d : Kd α} {e base mb m : Nat} {ok : Nat → Prop} {w : World} {v : Value} {xs : List α} {P : Program} {k : TypeId} {R : Value → Option (DataW Unit × List MemPlace)} {D : DataW Unit}
    (h : d.R e w base ok v xs) (hm : w.ownsMap P k R mb m D) : ∀ b, v.ownBlock = some b → b ≠ mb := by
  intro b hb hne
  subst hne
  obtain ⟨_, _, _, q, _, cells, hc⟩ := (Kd.R_bound h).1 b hb
  obtain ⟨es, clock, hb', _⟩ := hm
  rw [hc] at hb'
  cases hb'
theorem blk_ne_map {w : World} {g mb m : Nat} {t : TypeId} {cs : Array Value} {P : Program} {k : TypeId} {R : Value → Option (DataW Unit × List MemPlace)} {D : DataW Unit} (h : w.heap[g]? = some (.cells cs t (0, 0))) (hm : w.ownsMap P k R mb m D) : g ≠ mb := by
  intro hne
  subst hne
  obtain ⟨es, clock, hb', _⟩ := hm
  rw [h] at hb'
  cases hb'

/-- One more hearing of id. -/
def upd (times : Int → Int) (id : Int) : Int → Int := fun x => if x = id then times id + 1 else times x

/-- The map behind one more hearing. -/
theorem isP_after {w3 : World} {mb : Nat} {v : Value} {D : DataW Unit} {id : Int} (h1 : w3.heap[pb]? = some (.cells #[.int .i64 number, .map (some mb), v] 100 (0, 0))) (h2 : base ≤ pb ∧ ok pb) (h3 : base ≤ mb ∧ ok mb)
    (hD : IsMap D) (h4 : w3.ownsMap Try.prog 23 (plainElem Try.prog 3) mb (n + 1) (D.put (.int .u64 id) (.lit (.int .i64 (times id + 1))))) (h5 : Kd.R (Kd.int .u64) 23 w3 base (fun k => ok k ∧ k ≠ pb) v did)
    (h6 : ∀ id, U id → D.atKey (.int .u64 id) (.lit (.int .i64 0)) = .lit (.int .i64 (times id))) (h7 : ∀ id, 0 ≤ times id ∧ times id ≤ n) (h8 : did.length ≤ n + 1) (h9 : n < 1000) (h10 : ∀ x ∈ did, U x) :
    IsP w3 base ok pb number did (upd times id) (n + 1) := by
  refine ⟨mb, v, _, h1, h2, h3, h4, h5, fun x hx => ?_, fun x => ?_, h8, by omega, h10⟩
  · by_cases hxi : x = id
    · subst hxi
      rw [atKey_put_same hD (show WideAt.IsKeyLit (.int .u64 x) from trivial)]
      simp [upd]
    · rw [atKey_put_other (by simpa using hxi), h6 x hx]
      simp [upd, hxi]
  · unfold upd
    have h1 := h7 x
    have h2 := h7 id
    split <;> constructor <;> omega

set_option maxHeartbeats 2000000 in
set_option maxRecDepth 100000 in
theorem hear_first (id ticket level party state tries retry wait next : Int) (w0 w : World) (hB : Below w0.heap.size w0 w) (h : IsP w w0.heap.size ok pb number did times n) (hp : party = number) (hid : U id) (hid0 : id ≠ 0) (ht : times id = 0) (hn : n < 1000) :
    Calls Try.prog 23 #[.pointer (some ⟨pb, 0, none⟩), NV id ticket level party state tries retry wait next] w fun e w' => e = .returned (.tuple #[.bool true, .int .i64 0]) ∧
      IsP w' w0.heap.size (fun k => ok k ∨ w.heap.size ≤ k) pb number (did ++ [id]) (upd times id) (n + 1) ∧ Below w0.heap.size w0 w' ∧ Kept w w' ok := by
  subst hp
  obtain ⟨mb, v, D, h1, h2, h3, h4, h5, h6, h7, h8, h9, h10⟩ := h.bound
  have hu := Try.underlying31
  have H1 := Aside0.mk h1
  have b1 : (party != party) = false := by simp
  have b2 : (id == 0) = false := by simpa using hid0
  have HT := Aside0.mk ht
  have b3 : (times id == 0) = true := by simpa using ht
  have H2 := Aside0.mk h2
  have H3 := Aside0.mk h3
  have H4 := Aside0.mk h4
  have H5 := Aside0.mk h5
  have H6 := Aside0.mk h6
  have H7 := Aside0.mk h7
  have H8 := Aside0.mk h8
  have H9 := Aside0.mk h9
  have H10 := Aside0.mk h10
  have HB := Aside0.mk hB
  have H := Aside0.mk h
  clear h h1 h2 h3 h4 h5 h6 h7 h8 h9 h10 hB ht
  go_enter Try.func23, Try.ntmps23
  go_wp2_with (first
    | ((with_reducible refine gate_dst (N := 3) rfl ?_); refine box_event ?hg (N := 3) ?hd (cs := #[.int .u64 id, .int .u64 ticket, .int .i64 level, .int .i64 party, .int .i64 state, .int .i64 tries, .int .i64 retry, .int .i64 wait, .int .i64 next]) (t := 31) ?hr ?_; (case hd => rfl); (case hg => rfl); (case hr => first | (go_simp; done) | (go_simp; rfl)); intro gb hg w1 hbox hb; have BK := Aside0.mk hbox; have HB1 := Aside0.mk hb; have GB := Aside0.mk hg; clear hbox hb hg)
    | (go_at_call 75; refine (none_some pb mb party v _ (blk_below H1.out HB1.out)).mono ?_; rintro e w' ⟨rfl, rfl⟩))
  have c0 : w1.cell? ⟨pb, 0, none⟩ = some (.int .i64 party) := (blk_cell (blk_below H1.out HB1.out) 0).trans rfl
  have d0 : w1.cell? ⟨gb, 0, none⟩ = some (.int .u64 id) := (blk_cell BK.out 0).trans rfl
  have d3 : w1.cell? ⟨gb, 3, none⟩ = some (.int .i64 party) := (blk_cell BK.out 3).trans rfl
  go_quiet (fail)
  go_wp2_with (go_at_call 21; refine (times_calls id _ (H.out.below ((HB1.out.trans (pw_below_drewN (Below.refl _ _) _)))) hid).mono ?_; rintro e w' ⟨rfl, rfl⟩)
  have HM1 := map_kept H4.out (Kept.of_below HB1.out (fun _ => False)) (fun h => h)
  have HR1 := Kd.R_below H5.out HB1.out
  have HBK1 := blk_below H1.out HB1.out
  have hvb : ∀ k, v.ownBlock = some k → k < w1.heap.size ∧ w0.heap.size ≤ k ∧ k ≠ pb ∧ k ≠ gb := fun k hk => by
    have h1 := H5.out.1 k hk
    have h2 := HB1.out.size
    have h3 := GB.out
    exact ⟨by omega, h1.1.2.1, h1.2, by omega⟩
  refine r23x8 pb mb gb party id v did w0.heap.size (fun k => ok k ∧ w0.heap.size ≤ k ∧ k < w.heap.size) w1 ?hbase ?hpb hvb ?hgb H2.out.1 ?hdl rfl rfl rfl ⟨⟨Nat.le_refl _, fun _ _ _ => rfl⟩, fun _ => HBK1, d0, fun _ => Kd.R_drew (Kd.R_drewN (Kd.R_mono HR1 (fun k hk => ⟨hk.1, hk.2⟩)) _), ⟨rfl, rfl, rfl, Nat.le_refl _, fun _ _ => rfl⟩⟩ (fun x39 x40 x11 w2 b hb hG f39 f40 f11 => ?_)
  case hbase => exact Nat.le_trans HB.out.size HB1.out.size
  case hpb => exact blk_lt (blk_below H1.out HB1.out)
  case hgb => exact ⟨blk_lt BK.out, fun e => by have := GB.out; have := H2.out; omega⟩
  case hdl => have := H8.out; omega
  have HG := Aside0.mk hG
  have F11 := Aside0.mk f11
  clear hG f39 f40 f11 hb HM1 HR1
  simp only [putAll, Act.put, List.setIfInBounds_toArray, List.set_cons_zero, List.set_cons_succ]
  go_wp2
  have hst : ∀ wz : World, wz.heap[pb]? = some (.cells #[.int .i64 party, .map (some mb), x11] 100 (0, 0)) → Kd.R (Kd.int .u64) 23 wz w0.heap.size (fun k => (ok k ∨ w.heap.size ≤ k) ∧ k ≠ pb) x11 (did ++ [id]) → wz.ownsMap Try.prog 23 (plainElem Try.prog 3) mb n D → IsP wz w0.heap.size (fun k => ok k ∨ w.heap.size ≤ k) pb party (did ++ [id]) times (n + 1) := fun wz z1 z2 z3 =>
    ⟨mb, x11, D, z1, ⟨H2.out.1, .inl H2.out.2.1⟩, ⟨H3.out.1, .inl H3.out.2.1⟩, z3.mono (by omega), z2, H6.out, fun x => by have := H7.out x; constructor <;> omega, by have := H8.out; simp; omega, by omega, fun x hx => by
      rcases List.mem_append.1 hx with hx | hx
      · exact H10.out x hx
      · rw [List.mem_singleton.1 hx]; exact hid⟩
  have HST := Aside0.mk hst
  clear hst
  have hR2 : Kd.R (Kd.int .u64) 23 w2 w0.heap.size (fun k => (ok k ∨ w.heap.size ≤ k) ∧ k ≠ pb) x11 (did ++ [id]) := Kd.R_mono F11.out.2 (fun k hk => ⟨hk.1.elim (fun h => .inl h.1) (fun h => .inr (Nat.le_trans HB1.out.size h)), hk.2⟩)
  have hpm : pb ≠ mb := blk_ne_map H1.out H4.out
  have hvm := own_ne_map H5.out H4.out
  have hM2 : w2.ownsMap Try.prog 23 (plainElem Try.prog 3) mb n D := map_kept (map_kept H4.out (Kept.of_below HB1.out (fun _ => False)) (fun h => h)) HG.out.1 (fun hk => hk.elim (fun h => hpm h.symm) (fun h => hvm mb h.symm rfl))
  have hxm := own_ne_map F11.out.2 hM2
  refine r23x9 pb mb gb party id x11 (did ++ [id]) w0.heap.size (fun k => ok k ∨ w.heap.size ≤ k) times n D w2 H3.out.1 hid ?ht (by omega) hpm ?hgm hxm ?hb HST.out rfl rfl rfl rfl ⟨⟨Nat.le_refl _, fun _ _ _ => rfl⟩, F11.out.1, HG.out.2.2.1, Kd.R_drew hR2, fun _ => hM2, ⟨rfl, rfl, rfl, Nat.le_refl _, fun _ _ => rfl⟩⟩ (fun y11 w3 b hb hG f11 => ?_)
  case ht => have := H7.out id; constructor <;> omega
  case hgm => intro e; have := H3.out; have := GB.out; omega
  case hb => exact Nat.le_trans (Nat.le_trans HB.out.size HB1.out.size) HG.out.1.1
  have HG3 := Aside0.mk hG
  have G11 := Aside0.mk f11
  have HM := Aside0.mk hM2
  clear hG f11 hb hR2 hM2
  simp only [putAll, Act.put, List.setIfInBounds_toArray, List.set_cons_zero, List.set_cons_succ]
  go_wp2
  go_ret2
  refine ⟨rfl, isP_after HG3.out.2.1 ⟨H2.out.1, .inl H2.out.2.1⟩ ⟨H3.out.1, .inl H3.out.2.1⟩ (World.ownsMap.isMap HM.out) G11.out HG3.out.2.2.2.1 H6.out H7.out (by have := H8.out; simp; omega) hn (fun x hx => by
      rcases List.mem_append.1 hx with hx | hx
      · exact H10.out x hx
      · rw [List.mem_singleton.1 hx]; exact hid), ?_, ?_⟩
  · exact ((HB.out.trans (HB1.out.mono HB.out.size)).trans HG.out.2.2.2.2).trans HG3.out.2.2.2.2.2
  · refine ((Kept.of_below HB1.out ok).then_ HG.out.1 (fun k hk => .inl ?_)).then_ HG3.out.1 (fun k hk => .inl ?_)
    · rcases hk with rfl | hk
      · exact H2.out.2.1
      · exact (H5.out.1 k hk.symm).1.1
    · subst hk
      exact H3.out.2.1

set_option maxHeartbeats 2000000 in
set_option maxRecDepth 100000 in
theorem hear_again (id ticket level party state tries retry wait next : Int) (w0 w : World) (hB : Below w0.heap.size w0 w) (h : IsP w w0.heap.size ok pb number did times n) (hp : party = number) (hid : U id) (hid0 : id ≠ 0) (ht : times id ≠ 0) (hn : n < 1000) :
    Calls Try.prog 23 #[.pointer (some ⟨pb, 0, none⟩), NV id ticket level party state tries retry wait next] w fun e w' => e = .returned (.tuple #[.bool false, .int .i64 0]) ∧
      IsP w' w0.heap.size (fun k => ok k ∨ w.heap.size ≤ k) pb number did (upd times id) (n + 1) ∧ Below w0.heap.size w0 w' ∧ Kept w w' ok := by
  subst hp
  obtain ⟨mb, v, D, h1, h2, h3, h4, h5, h6, h7, h8, h9, h10⟩ := h.bound
  have hu := Try.underlying31
  have H1 := Aside0.mk h1
  have b1 : (party != party) = false := by simp
  have b2 : (id == 0) = false := by simpa using hid0
  have HT := Aside0.mk ht
  have b3 : (times id == 0) = false := by simpa using ht
  have H2 := Aside0.mk h2
  have H3 := Aside0.mk h3
  have H4 := Aside0.mk h4
  have H5 := Aside0.mk h5
  have H6 := Aside0.mk h6
  have H7 := Aside0.mk h7
  have H8 := Aside0.mk h8
  have H9 := Aside0.mk h9
  have H10 := Aside0.mk h10
  have HB := Aside0.mk hB
  have H := Aside0.mk h
  clear h h1 h2 h3 h4 h5 h6 h7 h8 h9 h10 hB ht
  go_enter Try.func23, Try.ntmps23
  go_wp2_with (first
    | ((with_reducible refine gate_dst (N := 3) rfl ?_); refine box_event ?hg (N := 3) ?hd (cs := #[.int .u64 id, .int .u64 ticket, .int .i64 level, .int .i64 party, .int .i64 state, .int .i64 tries, .int .i64 retry, .int .i64 wait, .int .i64 next]) (t := 31) ?hr ?_; (case hd => rfl); (case hg => rfl); (case hr => first | (go_simp; done) | (go_simp; rfl)); intro gb hg w1 hbox hb; have BK := Aside0.mk hbox; have HB1 := Aside0.mk hb; have GB := Aside0.mk hg; clear hbox hb hg)
    | (go_at_call 75; refine (none_some pb mb party v _ (blk_below H1.out HB1.out)).mono ?_; rintro e w' ⟨rfl, rfl⟩))
  have c0 : w1.cell? ⟨pb, 0, none⟩ = some (.int .i64 party) := (blk_cell (blk_below H1.out HB1.out) 0).trans rfl
  have d0 : w1.cell? ⟨gb, 0, none⟩ = some (.int .u64 id) := (blk_cell BK.out 0).trans rfl
  have d3 : w1.cell? ⟨gb, 3, none⟩ = some (.int .i64 party) := (blk_cell BK.out 3).trans rfl
  go_quiet (fail)
  go_wp2_with (go_at_call 21; refine (times_calls id _ (H.out.below ((HB1.out.trans (pw_below_drewN (Below.refl _ _) _)))) hid).mono ?_; rintro e w' ⟨rfl, rfl⟩)
  have hst : ∀ wz : World, wz.heap[pb]? = some (.cells #[.int .i64 party, .map (some mb), v] 100 (0, 0)) → Kd.R (Kd.int .u64) 23 wz w0.heap.size (fun k => (ok k ∨ w.heap.size ≤ k) ∧ k ≠ pb) v did → wz.ownsMap Try.prog 23 (plainElem Try.prog 3) mb n D → IsP wz w0.heap.size (fun k => ok k ∨ w.heap.size ≤ k) pb party did times (n + 1) := fun wz z1 z2 z3 =>
    ⟨mb, v, D, z1, ⟨H2.out.1, .inl H2.out.2.1⟩, ⟨H3.out.1, .inl H3.out.2.1⟩, z3.mono (by omega), z2, H6.out, fun x => by have := H7.out x; constructor <;> omega, by have := H8.out; omega, by omega, H10.out⟩
  have HST := Aside0.mk hst
  clear hst
  have hR2 : Kd.R (Kd.int .u64) 23 w1 w0.heap.size (fun k => (ok k ∨ w.heap.size ≤ k) ∧ k ≠ pb) v did := Kd.R_mono (Kd.R_below H5.out HB1.out) (fun k hk => ⟨.inl hk.1.1, hk.2⟩)
  have hBK1 := blk_below H1.out HB1.out
  have hpm : pb ≠ mb := blk_ne_map H1.out H4.out
  have hM2 : w1.ownsMap Try.prog 23 (plainElem Try.prog 3) mb n D := map_kept H4.out (Kept.of_below HB1.out (fun _ => False)) (fun h => h)
  have hxm := own_ne_map H5.out H4.out
  refine r23x9 pb mb gb party id v did w0.heap.size (fun k => ok k ∨ w.heap.size ≤ k) times n D w1 H3.out.1 hid ?ht (by omega) hpm ?hgm hxm ?hb HST.out rfl rfl rfl rfl ⟨⟨Nat.le_refl _, fun _ _ _ => rfl⟩, hBK1, d0, Kd.R_drew (Kd.R_drewN hR2 _), fun _ => hM2, ⟨rfl, rfl, rfl, Nat.le_refl _, fun _ _ => rfl⟩⟩ (fun y11 w3 b hb hG f11 => ?_)
  case ht => have := H7.out id; constructor <;> omega
  case hgm => intro e; have := H3.out; have := GB.out; omega
  case hb => exact Nat.le_trans HB.out.size HB1.out.size
  have HG3 := Aside0.mk hG
  have G11 := Aside0.mk f11
  have HM := Aside0.mk hM2
  clear hG f11 hb hR2 hM2
  simp only [putAll, Act.put, List.setIfInBounds_toArray, List.set_cons_zero, List.set_cons_succ]
  go_wp2
  go_ret2
  refine ⟨rfl, isP_after HG3.out.2.1 ⟨H2.out.1, .inl H2.out.2.1⟩ ⟨H3.out.1, .inl H3.out.2.1⟩ (World.ownsMap.isMap HM.out) G11.out HG3.out.2.2.2.1 H6.out H7.out (by have := H8.out; omega) hn (H10.out), ?_, ?_⟩
  · exact (HB.out.trans (HB1.out.mono HB.out.size)).trans HG3.out.2.2.2.2.2
  · refine (Kept.of_below HB1.out ok).then_ HG3.out.1 (fun k hk => .inl ?_)
    subst hk
    exact H3.out.2.1

/-- Of a notice that the party may hear. -/
theorem hear_ok (id ticket level party state tries retry wait next : Int) (w0 w : World) (hB : Below w0.heap.size w0 w) (h : IsP w w0.heap.size ok pb number did times n) (hp : party = number) (hid : U id) (hid0 : id ≠ 0) (hn : n < 1000) :
    Calls Try.prog 23 #[.pointer (some ⟨pb, 0, none⟩), NV id ticket level party state tries retry wait next] w fun e w' => e = .returned (.tuple #[.bool (times id == 0), .int .i64 0]) ∧
      IsP w' w0.heap.size (fun k => ok k ∨ w.heap.size ≤ k) pb number (if times id = 0 then did ++ [id] else did) (upd times id) (n + 1) ∧ Below w0.heap.size w0 w' ∧ Kept w w' ok := by
  by_cases ht : times id = 0
  · rw [if_pos ht, show (times id == 0) = true by simpa using ht]
    exact hear_first id ticket level party state tries retry wait next w0 w hB h hp hid hid0 ht hn
  · rw [if_neg ht, show (times id == 0) = false by simpa using ht]
    exact hear_again id ticket level party state tries retry wait next w0 w hB h hp hid hid0 ht hn
end
end Go.Proofs.Ytbjbejjieibldaa.Pa
