/- The party's methods: what each call answers and what it leaves in memory. -/
import Derived.Test.YtbjbejjieibldaaRg
import Derived.Test.YtbjbejjieibldaaPPartyPlaysx2
import Derived.WalkSpells
import Derived.Maps.OwnSet
namespace Go.Proofs.Ytbjbejjieibldaa.Pa
open Go.RowKit Go.Proofs.YtbjbejjieibldaaW.PrintWords Go.Proofs.YtbjbejjieibldaaW.PrintLast Go.Proofs.YtbjbejjieibldaaW.PrintMore Go.Maps

theorem law23 : Keyed Try.prog 23 := int_keyed Try.underlying23
theorem zero3 (w : World) : (zeroValue 3).run Try.prog w = .ok (.int .i64 0) w := by kernel_rfl

theorem ret_int {k : IntKind} {a b : Int} (h : a = b) : Ending.returned (.int k a) = .returned (.int k b) := by rw [h]

/-- A number of the kind uint64. -/
def U (x : Int) : Prop := (Lit.int .u64 x).wf = true

/-- A party made by New, its blocks among ok. -/
def IsP (w : World) (base : Nat) (ok : Nat → Prop) (pb : Nat) (number : Int) (did : List Int) (times : Int → Int) (n : Nat) : Prop :=
  ∃ (mb : Nat) (v : Value) (D : DataW Unit), w.heap[pb]? = some (.cells #[.int .i64 number, .map (some mb), v] 100 (0, 0)) ∧ (base ≤ pb ∧ ok pb) ∧ (base ≤ mb ∧ ok mb) ∧
    w.ownsMap Try.prog 23 (plainElem Try.prog 3) mb n D ∧ Kd.R (Kd.int .u64) 23 w base (fun k => ok k ∧ k ≠ pb) v did ∧
    (∀ id, U id → D.atKey (.int .u64 id) (.lit (.int .i64 0)) = .lit (.int .i64 (times id))) ∧ (∀ id, 0 ≤ times id ∧ times id ≤ n) ∧ did.length ≤ n ∧ n ≤ 1000 ∧ ∀ x ∈ did, U x

theorem map_kept {w w' : World} {S : Nat → Prop} {P : Program} {k : TypeId} {R : Value → Option (DataW Unit × List MemPlace)} {b n : Nat} {D : DataW Unit} (h : w.ownsMap P k R b n D) (hk : Kept w w' S) (hb : ¬ S b) : w'.ownsMap P k R b n D := by
  have hlt := h.lt
  obtain ⟨es, clock, hb', F, hs, hD⟩ := h
  exact ⟨es, clock, (hk.2 b hlt hb).trans hb', F, hs, hD⟩

section
variable {w w' : World} {base : Nat} {ok ok' : Nat → Prop} {pb : Nat} {number : Int} {did : List Int} {times : Int → Int} {n : Nat}
theorem IsP.kept {S : Nat → Prop} (h : IsP w base ok pb number did times n) (hk : Kept w w' S) (hS : ∀ k, ok k → ¬ S k) : IsP w' base ok pb number did times n := by
  obtain ⟨mb, v, D, h1, h2, h3, h4, h5, h6, h7⟩ := h
  exact ⟨mb, v, D, blk_kept h1 hk (hS _ h2.2), h2, h3, map_kept h4 hk (hS _ h3.2), Kd.R_kept h5 hk (fun k hk => hS k hk.1), h6, h7⟩
theorem IsP.below (h : IsP w base ok pb number did times n) (hb : Below w.heap.size w w') : IsP w' base ok pb number did times n :=
  h.kept (Kept.of_below hb (fun _ => False)) (fun _ _ h => h)
theorem IsP.mono (h : IsP w base ok pb number did times n) (hok : ∀ k, ok k → ok' k) : IsP w base ok' pb number did times n := by
  obtain ⟨mb, v, D, h1, h2, h3, h4, h5, h6, h7⟩ := h
  exact ⟨mb, v, D, h1, ⟨h2.1, hok _ h2.2⟩, ⟨h3.1, hok _ h3.2⟩, h4, Kd.R_mono h5 (fun k hk => ⟨hok k hk.1, hk.2⟩), h6, h7⟩
/-- Its blocks all stand. -/
theorem IsP.bound (h : IsP w base ok pb number did times n) : IsP w base (fun k => ok k ∧ base ≤ k ∧ k < w.heap.size) pb number did times n := by
  obtain ⟨mb, v, D, h1, h2, h3, h4, h5, h6, h7⟩ := h
  exact ⟨mb, v, D, h1, ⟨h2.1, h2.2, h2.1, blk_lt h1⟩, ⟨h3.1, h3.2, h3.1, h4.lt⟩, h4, Kd.R_mono (Kd.R_bound h5) (fun k hk => ⟨⟨hk.1.1, hk.2.1, hk.2.2.1⟩, hk.1.2⟩), h6, h7⟩
theorem IsP.lt (h : IsP w base ok pb number did times n) : pb < w.heap.size := by
  obtain ⟨mb, v, D, h1, _⟩ := h
  exact blk_lt h1
end

theorem none_some (pb mb : Nat) (number : Int) (v : Value) (w : World) (h : w.heap[pb]? = some (.cells #[.int .i64 number, .map (some mb), v] 100 (0, 0))) :
    Calls Try.prog 75 #[.pointer (some ⟨pb, 0, none⟩)] w fun e w' => e = .returned (.bool false) ∧ w = w' := by
  have c1 : w.cell? ⟨pb, 1, none⟩ = some (.map (some mb)) := blk_cell h 1
  have hm := fun w => run_eql_map_nil (P := Try.prog) w 98 23 3 (some mb) Try.underlying98
  clear h
  go_enter Try.func75, Try.ntmps75
  go_wp2
  go_ret
  exact ⟨rfl, rfl⟩

/-- Of a pointer that is nil. -/
theorem none_nil (w : World) : Calls Try.prog 75 #[.pointer none] w fun e w' => e = .returned (.bool true) ∧ w = w' := by
  go_enter Try.func75, Try.ntmps75
  go_wp2
  go_ret
  exact ⟨rfl, rfl⟩

/-- Of a party that no call made. -/
theorem none_zero (pb : Nat) (number : Int) (v : Value) (w : World) (h : w.heap[pb]? = some (.cells #[.int .i64 number, .map none, v] 100 (0, 0))) :
    Calls Try.prog 75 #[.pointer (some ⟨pb, 0, none⟩)] w fun e w' => e = .returned (.bool true) ∧ w = w' := by
  have c1 : w.cell? ⟨pb, 1, none⟩ = some (.map none) := blk_cell h 1
  have hm := fun w => run_eql_map_nil (P := Try.prog) w 98 23 3 none Try.underlying98
  clear h
  go_enter Try.func75, Try.ntmps75
  go_wp2
  go_ret
  exact ⟨rfl, rfl⟩

theorem times_calls {base : Nat} {ok : Nat → Prop} {pb : Nat} {number : Int} {did : List Int} {times : Int → Int} {n : Nat} (id : Int) (w : World) (h : IsP w base ok pb number did times n) (hid : U id) :
    Calls Try.prog 21 #[.pointer (some ⟨pb, 0, none⟩), .int .u64 id] w fun e w' => e = .returned (.int .i64 (times id)) ∧ w = w' := by
  obtain ⟨mb, v, D, h1, h2, h3, h4, h5, h6, h7⟩ := h
  have c1 : w.cell? ⟨pb, 1, none⟩ = some (.map (some mb)) := blk_cell h1 1
  have H1 := Aside0.mk h1
  have H6 := Aside0.mk (h6 id hid)
  have hkey := Aside0.mk (keyOf_int_mk Try.underlying23 hid)
  have H4 := Aside0.mk h4
  clear h1 h2 h3 h5 h6 h7 h4
  go_enter Try.func21, Try.ntmps21
  go_wp2_with (first
    | (go_at_call 75; refine (none_some pb mb number v _ H1.out).mono ?_; rintro e w' ⟨rfl, rfl⟩)
    | (at_lookup; refine wpList_lookup_own_int _ rfl _ _ 98 rfl 23 3 .i64 law23 Try.underlying98 Try.underlying3 (zero3 _) mb n D rfl H4.out _ _ rfl hkey.out ?_; intro c hat hwc; have HC := Aside0.mk hat; clear hat))
  go_ret
  have e1 : c = times id := by
    have := H6.out.symm.trans HC.out
    injection this with this
    injection this with _ this
    exact this.symm
  exact ⟨by simp [e1], rfl⟩

theorem times_nil (id : Int) (w : World) : Calls Try.prog 21 #[.pointer none, .int .u64 id] w fun e w' => e = .returned (.int .i64 0) ∧ w = w' := by
  go_enter Try.func21, Try.ntmps21
  go_wp2_with (go_at_call 75; refine (none_nil _).mono ?_; rintro e w' ⟨rfl, rfl⟩)
  go_ret
  exact ⟨rfl, rfl⟩

theorem times_zero (pb : Nat) (number id : Int) (v : Value) (w : World) (h : w.heap[pb]? = some (.cells #[.int .i64 number, .map none, v] 100 (0, 0))) :
    Calls Try.prog 21 #[.pointer (some ⟨pb, 0, none⟩), .int .u64 id] w fun e w' => e = .returned (.int .i64 0) ∧ w = w' := by
  have H := Aside0.mk h
  clear h
  go_enter Try.func21, Try.ntmps21
  go_wp2_with (go_at_call 75; refine (none_zero pb number v _ H.out).mono ?_; rintro e w' ⟨rfl, rfl⟩)
  go_ret
  exact ⟨rfl, rfl⟩

theorem info23 : (Try.prog.info? 23).map (fun i => (i.zero, i.size, i.bytes)) = some (some (.int .u64 0), 1, 8) := by kernel_rfl

/-- slices.Clone of uint64s. -/
theorem clone_calls (A : Option Addr) (c : Nat) (xs : List Int) (w : World) (hr : Kd.C (Kd.int .u64) w A xs.length xs) (hl : xs.length < 17592186044416) :
    Calls Try.prog 76 #[.slice A xs.length c] w fun e w' => ∃ v, e = .returned v ∧ Kd.R (Kd.int .u64) 23 w' w.heap.size (fun _ => True) v xs ∧ Below w.heap.size w w' := by
  have hs := fun (w : World) (A : Option Addr) (n c : Nat) => Lib.run_eql_slice_nil (P := Try.prog) w 27 23 A n c 0 0 Try.underlying27
  cases A with
  | none =>
    have hn : xs = [] := by
      rcases Nat.eq_zero_or_pos xs.length with h0 | h0
      · exact List.eq_nil_of_length_eq_zero h0
      · obtain ⟨ad, h, _⟩ := hr.2.2 h0
        cases h
    subst hn
    go_enter Try.func76, Try.ntmps76
    go_wp2
    go_ret
    exact ⟨_, rfl, Kd.R_nil _ _ _ _ _, Below.refl _ _⟩
  | some ad =>
    have HR := Aside0.mk hr
    have HL := Aside0.mk hl
    clear hr hl
    go_enter Try.func76, Try.ntmps76
    go_wp2_with (first
      | ((with_reducible refine gate_dst (N := 5) rfl ?_); refine Kd.R_lit (Kd.int .u64) (w0 := w) w.heap.size 23 rfl (N := 5) rfl (xs := ([] : List Int)) (inner := []) (ok := fun _ => True) (okp := fun _ => True) ?hr (Reps.none _ _) (fun _ h => h) trivial (Below.refl _ _) (Nat.le_refl _) (by simp) ?_; (case hr => first | (go_simp; done) | (go_simp; rfl)); intro v1 w1 ho hb hg hn; have HO := Aside0.mk ho; have HB := Aside0.mk hb; clear ho hb hg hn)
      | ((with_reducible refine gate_dst (N := 7) rfl ?_); refine Kd.R_append_rows (Kd.int .u64) (w0 := w) w.heap.size rfl (.tmp 5) (.tmp 6) 27 23 (.int .u64 0) 8 rfl Try.underlying27 info23 rfl (by decide) (by omega) v1 [] xs (some ad) xs.length c (fun _ => True) (fun _ => False) rfl rfl HO.out (Kd.C_below HR.out HB.out) (fun _ _ h => h) (fun _ h => h.elim) (fun _ _ => trivial) HB.out HB.out.size (by have := HL.out; simp; omega) ?_; intro v2 w2 ho hb hg hn; have HO2 := Aside0.mk ho; have HB2 := Aside0.mk hb; clear ho hb hg hn))
    go_ret
    exact ⟨_, rfl, HO2.out, HB2.out⟩

theorem did_calls {base : Nat} {ok : Nat → Prop} {pb : Nat} {number : Int} {did : List Int} {times : Int → Int} {n : Nat} (w : World) (h : IsP w base ok pb number did times n) :
    Calls Try.prog 25 #[.pointer (some ⟨pb, 0, none⟩)] w fun e w' => ∃ v, e = .returned v ∧ Kd.R (Kd.int .u64) 23 w' w.heap.size (fun _ => True) v did ∧ Below w.heap.size w w' := by
  obtain ⟨mb, v, D, h1, h2, h3, h4, h5, h6, h7, h8, h9, h10⟩ := h
  obtain ⟨A, c, rfl, hc, hr⟩ := Kd.R_reads h5
  have c1 : w.cell? ⟨pb, 2, none⟩ = some (.slice A did.length c) := blk_cell h1 2
  have H1 := Aside0.mk h1
  have HR := Aside0.mk hr
  have HL : Aside0 (did.length < 17592186044416) := ⟨by omega⟩
  clear h1 h2 h3 h5 h6 h7 h4 h8 h9 h10 hr hc
  go_enter Try.func25, Try.ntmps25
  go_wp2_with (first
    | (go_at_call 75; refine (none_some pb mb number _ _ H1.out).mono ?_; rintro e w' ⟨rfl, rfl⟩)
    | (go_at_call 76; refine (clone_calls A c did _ HR.out HL.out).mono ?_; rintro e w' ⟨v, rfl, ho, hb⟩; have HO := Aside0.mk ho; have HB := Aside0.mk hb; clear ho hb))
  go_ret
  exact ⟨_, rfl, HO.out, HB.out⟩

def mostOf (times : Int → Int) (l : List Int) : Int := l.foldl (fun m id => if m < times id then times id else m) 0
theorem mostOf_snoc (times : Int → Int) (l : List Int) (k : Nat) (h : k < l.length) : mostOf times (l.take (k + 1)) = if mostOf times (l.take k) < times (l.getD k 0) then times (l.getD k 0) else mostOf times (l.take k) := by
  rw [List.take_succ_eq_append_getElem h, mostOf, List.foldl_append]
  simp [mostOf, List.getD_eq_getElem?_getD, h]

attribute [local go_sem] max2_int min2_int max_two min_two max_three min_three max_four min_four

set_option maxHeartbeats 400000 in
theorem most_calls {base : Nat} {ok : Nat → Prop} {pb : Nat} {number : Int} {did : List Int} {times : Int → Int} {n : Nat} (w : World) (h : IsP w base ok pb number did times n) :
    Calls Try.prog 54 #[.pointer (some ⟨pb, 0, none⟩)] w fun e w' => e = .returned (.int .i64 (mostOf times did)) ∧ Below w.heap.size w w' := by
  have HP := Aside0.mk h
  clear h
  go_enter Try.func54, Try.ntmps54
  go_wp2_with (go_at_call 25; refine (did_calls _ HP.out).mono ?_; rintro e w1 ⟨v, rfl, ho, hb⟩; have HO := Aside0.mk ho; have HB := Aside0.mk hb; clear ho hb; obtain ⟨A, c, hv, hc, hr⟩ := Kd.R_reads HO.out; subst hv; have HR := Aside0.mk hr; clear hr hc)
  have HP1 := Aside0.mk (HP.out.below HB.out)
  go_loop [2, 8] (fun m i => ∃ k : Nat, k ≤ did.length ∧ i = .int .i64 k ∧ m = .int .i64 (mostOf times (did.take k))) (fun _ i => did.length - (intOf i).toNat)
  case atStart => exact ⟨0, Nat.zero_le _, rfl, rfl⟩
  case round =>
    obtain ⟨k, hk, rfl, rfl⟩ := hrel
    have hb63 : did.length ≤ 1000 := by obtain ⟨_, _, _, _, _, _, _, _, _, _, h8, h9, _⟩ := HP.out; omega
    by_cases hlt : k < did.length
    · obtain ⟨ad, e1, hx⟩ := Kd.at_int HR.out (k : Int) (by omega) (by omega)
      cases e1
      simp only [Int.toNat_natCast] at hx
      obtain ⟨mb, v, D, h1, h2, h3, h4, h5, h6, h7, h8, h9, h10⟩ := HP1.out
      have c1 : w1.cell? ⟨pb, 1, none⟩ = some (.map (some mb)) := blk_cell h1 1
      have hid : U (rd did k) := h10 _ (by simp [rd, List.getD_eq_getElem?_getD, hlt])
      have H6 := Aside0.mk (h6 _ hid)
      have hkey := Aside0.mk (keyOf_int_mk Try.underlying23 hid)
      have H4 := Aside0.mk h4
      have HS := Aside0.mk (mostOf_snoc times did k hlt)
      clear h1 h2 h3 h5 h6 h7 h4 h8 h9 h10 hid
      go_wp2_with (at_lookup; refine wpList_lookup_own_int _ rfl _ _ 98 rfl 23 3 .i64 law23 Try.underlying98 Try.underlying3 (zero3 _) mb n D rfl H4.out _ _ rfl hkey.out ?_; intro c hat hwc; have HC := Aside0.mk hat; clear hat)
      have e1 : c = times (rd did k) := by
        have := H6.out.symm.trans HC.out
        injection this with this
        injection this with _ this
        exact this.symm
      have e2 : rd did k = did.getD k 0 := by simp [rd]
      go_round
      case rel => exact ⟨k + 1, by omega, by go_num, by rw [HS.out, e1, e2]⟩
      case measure => simp [intOf]; omega
    · go_wp2
      go_ret
      exact ⟨ret_int (by rw [List.take_of_length_le (by omega)]), HB.out⟩

/-- New: a party that heard nothing. -/
theorem new_some (number : Int) (h0 : 0 ≤ number) (h1 : number ≤ 7) (w0 w : World) (hB : Below w0.heap.size w0 w) :
    Calls Try.prog 18 #[.int .i64 number] w fun e w' => ∃ pb, e = .returned (.pointer (some ⟨pb, 0, none⟩)) ∧ IsP w' w0.heap.size (fun k => w.heap.size ≤ k) pb number [] (fun _ => 0) 0 ∧ Below w0.heap.size w0 w' ∧ Below w.heap.size w w' := by
  have hmm := @run_makeMap Try.prog
  have d0 : decide (number < 0) = false := by simp; omega
  have d1 : decide (8 ≤ number) = false := by simp; omega
  have HB := Aside0.mk hB
  clear hB
  go_enter Try.func18, Try.ntmps18
  go_wp2
  go_ret
  refine ⟨w.heap.size + 1, by simp, ⟨w.heap.size, .slice none 0 0, .map [], ?_, ⟨by have := HB.out.size; omega, by omega⟩, ⟨HB.out.size, Nat.le_refl _⟩, (World.ownsMap_made w _ _ _).alloc _, Kd.R_nil _ _ _ _ _, fun _ _ => rfl, fun _ => by simp, by simp, by omega, by simp⟩, ((HB.out.alloc HB.out.size _).alloc (by have := HB.out.size; simp; omega) _), ((Below.refl _ _).alloc (Nat.le_refl _) _).alloc (by simp) _⟩
  have := blk_new (w.alloc (.map #[] 0)) (.cells #[.int .i64 number, .map (some w.heap.size), .slice none 0 0] 100)
  simpa using this

theorem new_nil (number : Int) (h : number < 0 ∨ 7 < number) (w : World) :
    Calls Try.prog 18 #[.int .i64 number] w fun e w' => e = .returned (.pointer none) ∧ w = w' := by
  rcases h with h | h
  · have d0 : decide (number < 0) = true := by simp; omega
    go_enter Try.func18, Try.ntmps18
    go_wp2
    go_ret
    exact ⟨rfl, rfl⟩
  · have d0 : decide (number < 0) = false := by simp; omega
    have d1 : decide (8 ≤ number) = true := by simp; omega
    go_enter Try.func18, Try.ntmps18
    go_wp2
    go_ret
    exact ⟨rfl, rfl⟩
end Go.Proofs.Ytbjbejjieibldaa.Pa
