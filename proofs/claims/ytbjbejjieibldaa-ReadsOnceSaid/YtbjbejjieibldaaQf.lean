/- Take, Drop and the reads' example; what a queue that is nil, or that no call made, answers. -/
import Derived.Test.YtbjbejjieibldaaQe
namespace Go.Proofs.Ytbjbejjieibldaa.Qa
open Go.RowKit Go.Proofs.YtbjbejjieibldaaW.PrintWords Go.Proofs.YtbjbejjieibldaaW.PrintLast Go.Proofs.YtbjbejjieibldaaW.PrintMore Go.Proofs.Ytbjbejjieibldaa.Rg
open Go.Proofs.Ytbjbejjieibldaa.PReadsPlays (S91 z91 k91 k91_open k91_openM k91_mk k91_mkM rd_T91 at_T91 S147 z147 k147 k147_mkM rd_T147 at_T147 info147)
set_option linter.unusedVariables false

section
variable {W0 w : World} {ok : Nat → Prop} {qb : Nat} {begun sure : Int} {l : List S91} {v0 : Value}
theorem Parted.early {w1 w' : World} {u v : Value} {taken left : List S91} (h : Parted W0 w1 w' qb begun sure ok u v taken left) (hb : Below w.heap.size w w1) : Parted W0 w w' qb begun sure ok u v taken left := by
  obtain ⟨o1, o2, h1, h2, h3, h4, h5, h6⟩ := h
  have := hb.size
  exact ⟨o1, o2, h1, Kd.R_lower h2 hb.size, h3, fun k hk => (h4 k hk).imp id (fun h => by omega), h5, (Kept.of_below hb _).then_ h6 (fun k hk => .inl hk)⟩
set_option maxHeartbeats 1000000 in
theorem IsQ.take (h : IsQ w W0.heap.size ok qb begun sure l v0) (hB : Below W0.heap.size W0 w) (applied : Int) :
    Calls Try.prog 35 #[.pointer (some ⟨qb, 0, none⟩), .int .u64 applied] w fun e w' => ∃ u v, e = .returned u ∧ Parted W0 w w' qb begun sure ok u v (l.filter (sureOf sure applied)) (l.filter (fun x => !sureOf sure applied x)) := by
  have hmf : ∀ (fn : Fn) (first cap : Array Value) (w : World), (Instr.makeFunc fn first cap).run Try.prog w = .ok (.func fn first cap) w := fun _ _ _ _ => rfl
  have H := Aside0.mk h
  have HB := Aside0.mk hB
  clear h hB
  go_enter Try.func35, Try.ntmps35
  go_wp2_with (first
    | ((with_reducible refine gate_dst (N := 2) rfl ?_); refine box_event ?hg (N := 2) ?hd (cs := #[.pointer (some ⟨qb, 0, none⟩)]) (t := 44) ?hr ?_; (case hd => rfl); (case hg => rfl); (case hr => first | (go_simp; done) | (go_simp; rfl)); intro g2 hg w2 hbox hb; have E2 := Aside0.mk hg; have K2 := Aside0.mk hbox; have B2 := Aside0.mk hb; clear hg hbox hb)
    | ((with_reducible refine gate_dst (N := 3) rfl ?_); refine box_event ?hg (N := 3) ?hd (cs := #[.int .u64 applied]) (t := 23) ?hr ?_; (case hd => rfl); (case hg => rfl); (case hr => first | (go_simp; done) | (go_simp; rfl)); intro g3 hg w3 hbox hb; have E3 := Aside0.mk hg; have K3 := Aside0.mk hbox; have B3 := Aside0.mk hb; clear hg hbox hb; have c2 := (blk_cell (blk_below K2.out B3.out) 0).trans rfl; have BB := Aside0.mk (B2.out.trans (B3.out.mono B2.out.size)))
    | (go_at_call 78; refine (part_79 g2 g3 applied (W0 := W0) _ (H.out.below BB.out) (HB.out.trans (BB.out.mono HB.out.size)) (blk_below K2.out B3.out) K3.out).mono ?_; rintro e w4 ⟨u, v, rfl, hp⟩; have HP := Aside0.mk (hp.early BB.out); clear hp))
  go_ret
  exact ⟨_, _, rfl, HP.out⟩
theorem IsQ.drop (h : IsQ w W0.heap.size ok qb begun sure l v0) (hB : Below W0.heap.size W0 w) :
    Calls Try.prog 36 #[.pointer (some ⟨qb, 0, none⟩)] w fun e w' => ∃ u v, e = .returned u ∧ Parted W0 w w' qb begun sure ok u v l [] := by
  have H := Aside0.mk h
  have HB := Aside0.mk hB
  clear h hB
  go_enter Try.func36, Try.ntmps36
  go_wp2_with (go_at_call 78; refine (part_80 (W0 := W0) _ H.out HB.out).mono ?_; rintro e w4 ⟨u, v, rfl, hp⟩; rw [all_true, all_false] at hp; have HP := Aside0.mk hp; clear hp)
  go_ret
  exact ⟨_, _, rfl, HP.out⟩
end

/-- Nothing behind the pointer: nil, or a queue that no call made. -/
def Nobody (w : World) (p : Option Addr) : Prop := p = none ∨ ∃ qb, p = some ⟨qb, 0, none⟩ ∧ w.heap[qb]? = some QZ
theorem Nobody.below {w w' : World} {p : Option Addr} (h : Nobody w p) (hb : Below w.heap.size w w') : Nobody w' p := by
  rcases h with h | ⟨qb, h, hq⟩
  · exact .inl h
  · exact .inr ⟨qb, h, blk_below hq hb⟩
section
variable {w : World} {p : Option Addr}
theorem Nobody.no (h : Nobody w p) : Calls Try.prog 77 #[.pointer p] w fun e w' => e = .returned (.bool true) ∧ w = w' := by
  rcases h with rfl | ⟨qb, rfl, hq⟩
  · exact none_nil w
  · exact none_zero qb w hq
theorem Nobody.begin (h : Nobody w p) : Calls Try.prog 29 #[.pointer p] w fun e w' => e = .returned (.int .u64 0) ∧ w = w' := by
  have H := Aside0.mk h
  clear h
  go_enter Try.func29, Try.ntmps29
  go_wp2_with (go_at_call 77; refine (H.out.no).mono ?_; rintro e w' ⟨rfl, rfl⟩)
  go_ret
  exact ⟨rfl, rfl⟩
theorem Nobody.round (h : Nobody w p) : Calls Try.prog 39 #[.pointer p] w fun e w' => e = .returned (.int .u64 0) ∧ w = w' := by
  have H := Aside0.mk h
  clear h
  go_enter Try.func39, Try.ntmps39
  go_wp2_with (go_at_call 77; refine (H.out.no).mono ?_; rintro e w' ⟨rfl, rfl⟩)
  go_ret
  exact ⟨rfl, rfl⟩
theorem Nobody.len (h : Nobody w p) : Calls Try.prog 40 #[.pointer p] w fun e w' => e = .returned (.int .i64 0) ∧ w = w' := by
  have H := Aside0.mk h
  clear h
  go_enter Try.func40, Try.ntmps40
  go_wp2_with (go_at_call 77; refine (H.out.no).mono ?_; rintro e w' ⟨rfl, rfl⟩)
  go_ret
  exact ⟨rfl, rfl⟩
theorem Nobody.ask (h : Nobody w p) (id index : Int) : Calls Try.prog 38 #[.pointer p, .int .u64 id, .int .u64 index] w fun e w' => e = .returned (.tuple #[.int .u64 0, .int .i64 1]) ∧ w = w' := by
  have H := Aside0.mk h
  clear h
  go_enter Try.func38, Try.ntmps38
  go_wp2_with (go_at_call 77; refine (H.out.no).mono ?_; rintro e w' ⟨rfl, rfl⟩)
  go_ret2
  exact ⟨rfl, rfl⟩
theorem Nobody.confirm (h : Nobody w p) (round : Int) : Calls Try.prog 31 #[.pointer p, .int .u64 round] w fun e w' => e = .returned (.tuple #[]) ∧ w = w' := by
  have H := Aside0.mk h
  clear h
  go_enter Try.func31, Try.ntmps31
  go_wp2_with (go_at_call 77; refine (H.out.no).mono ?_; rintro e w' ⟨rfl, rfl⟩)
  go_end0
  exact ⟨rfl, rfl⟩
theorem Nobody.part (h : Nobody w p) (fv : Value) : Calls Try.prog 78 #[.pointer p, fv] w fun e w' => e = .returned (.slice none 0 0) ∧ w = w' := by
  have H := Aside0.mk h
  clear h
  go_enter Try.func78, Try.ntmps78
  go_wp2_with (go_at_call 77; refine (H.out.no).mono ?_; rintro e w' ⟨rfl, rfl⟩)
  go_ret
  exact ⟨rfl, rfl⟩
theorem Nobody.drop (h : Nobody w p) : Calls Try.prog 36 #[.pointer p] w fun e w' => e = .returned (.slice none 0 0) ∧ w = w' := by
  have H := Aside0.mk h
  clear h
  go_enter Try.func36, Try.ntmps36
  go_wp2_with (go_at_call 78; refine (H.out.part _).mono ?_; rintro e w' ⟨rfl, rfl⟩)
  go_ret
  exact ⟨rfl, rfl⟩
theorem Nobody.take (h : Nobody w p) (applied : Int) : Calls Try.prog 35 #[.pointer p, .int .u64 applied] w fun e w' => e = .returned (.slice none 0 0) ∧ Below w.heap.size w w' := by
  have hmf : ∀ (fn : Fn) (first cap : Array Value) (w : World), (Instr.makeFunc fn first cap).run Try.prog w = .ok (.func fn first cap) w := fun _ _ _ _ => rfl
  have H := Aside0.mk h
  clear h
  go_enter Try.func35, Try.ntmps35
  go_wp2_with (first
    | ((with_reducible refine gate_dst (N := 2) rfl ?_); refine box_event ?hg (N := 2) ?hd (cs := #[.pointer p]) (t := 44) ?hr ?_; (case hd => rfl); (case hg => rfl); (case hr => first | (go_simp; done) | (go_simp; rfl)); intro g2 hg w2 hbox hb; have K2 := Aside0.mk hbox; have B2 := Aside0.mk hb; clear hg hbox hb)
    | ((with_reducible refine gate_dst (N := 3) rfl ?_); refine box_event ?hg (N := 3) ?hd (cs := #[.int .u64 applied]) (t := 23) ?hr ?_; (case hd => rfl); (case hg => rfl); (case hr => first | (go_simp; done) | (go_simp; rfl)); intro g3 hg w3 hbox hb; have B3 := Aside0.mk hb; clear hg hbox hb; have c2 := (blk_cell (blk_below K2.out B3.out) 0).trans rfl; have BB := Aside0.mk (B2.out.trans (B3.out.mono B2.out.size)))
    | (go_at_call 78; refine ((H.out.below BB.out).part _).mono ?_; rintro e w' ⟨rfl, rfl⟩))
  go_ret
  exact ⟨rfl, BB.out⟩
end

theorem list_ex : (askList 0 [] 7 3 = [⟨7, 3, 1⟩] ∧ askRound 0 [] = 1 ∧ askErr 0 [] = 0 ∧ askBegun 0 [] = 1) ∧ confOf 1 0 1 = 1 ∧ ([⟨7, 3, 1⟩] : List S91).filter (sureOf 1 2) = [] ∧ ([⟨7, 3, 1⟩] : List S91).filter (fun x => !sureOf 1 2 x) = [⟨7, 3, 1⟩] ∧
    ([⟨7, 3, 1⟩] : List S91).filter (sureOf 1 3) = [⟨7, 3, 1⟩] := ⟨⟨rfl, rfl, rfl, rfl⟩, rfl, rfl, rfl, rfl⟩
theorem eqA91 (d : Nat) (w : World) (x0 y0 : Int) (x1 y1 : Int) (x2 y2 : Int) :
    (Op.equalIn (d + 2) 91 (.agg #[.int .u64 x0, .int .u64 x1, .int .u64 x2]) (.agg #[.int .u64 y0, .int .u64 y1, .int .u64 y2])).run Try.prog w = .ok (x0 == y0 && (x1 == y1 && (x2 == y2))) w := by
  refine eqA_of Try.underlying91 (by kernel_rfl) ?_
  refine eqf_cons (by rfl) (by go_simp; rfl) (by go_simp; rfl) (by go_simp) ?_
  refine eqf_cons (by rfl) (by go_simp; rfl) (by go_simp; rfl) (by go_simp) ?_
  exact eqf_last (by rfl) (by go_simp; rfl) (by go_simp; rfl) (by go_simp)
attribute [local go_sem high] eqA91
theorem at_first {w : World} {A : Option Addr} {x : S91} (h : Kd.C k91 w A 1 [x]) : ∃ ad, A = some ad ∧ w.cell? ad = some (.int .u64 x.f0) ∧ w.cell? ⟨ad.block, ad.off + 1, none⟩ = some (.int .u64 x.f1) ∧ w.cell? ⟨ad.block, ad.off + 2, none⟩ = some (.int .u64 x.f2) := by
  obtain ⟨ad, ea, x0, x1, x2⟩ := at_T91 h 0 (by omega) (by omega)
  have e : ad.add (Int.toNat 0 * 3) = ad := by cases ad; simp [Addr.add]
  rw [e] at x0 x1 x2
  exact ⟨ad, ea, x0, x1, x2⟩
set_option maxHeartbeats 1000000 in
set_option maxRecDepth 100000 in
theorem lives_calls (w : World) : Calls Try.prog 26 #[] w fun e w' => e = .returned (.bool true) ∧ Below w.heap.size w w' := by
  have hu91 := Try.underlying91
  have hex := Aside0.mk list_ex
  go_enter Try.func26, Try.ntmps26
  go_wp2_with (first
    | (go_at_call 27; refine (new_calls _).mono ?_; rintro e w1 ⟨qb, rfl, hq, hb⟩; have HQ1 := Aside0.mk hq; have HB1 := Aside0.mk hb; clear hq hb)
    | (go_at_call 38; refine (HQ1.out.ask HB1.out 7 3).mono ?_; rw [hex.out.1.1, hex.out.1.2.1, hex.out.1.2.2.1, hex.out.1.2.2.2]; rintro e w2 ⟨v2, rfl, hq, hb, _⟩; have HQ2 := Aside0.mk hq; have HB2 := Aside0.mk hb; clear hq hb)
    | (go_at_call 31; refine (HQ2.out.confirm HB2.out 1).mono ?_; rw [hex.out.2.1]; rintro e w3 ⟨rfl, hq, hb, _⟩; have HQ3 := Aside0.mk hq; have HB3 := Aside0.mk hb; clear hq hb)
    | (go_at_call 35; first
      | (refine (HQ3.out.take HB3.out 2).mono ?_; rw [hex.out.2.2.1, hex.out.2.2.2.1]; rintro e w4 ⟨u4, v4, rfl, o1, o2, hq, hr, _, _, hb, _⟩; have HQ4 := Aside0.mk hq; have HB4 := Aside0.mk hb; obtain ⟨A4, c4, e4⟩ := Kd.R_slice hr; subst e4; clear HQ3 hq hb hr)
      | (refine (HQ4.out.take HB4.out 3).mono ?_; rw [hex.out.2.2.2.2]; rintro e w5 ⟨u5, v5, rfl, o1, o2, hq, hr, _, _, hb, _⟩; have HB5 := Aside0.mk hb; obtain ⟨A5, c5, e5⟩ := Kd.R_slice hr; subst e5; obtain ⟨ad, ea, x0, x1, x2⟩ := at_first (Kd.R_reads' hr).2.2; subst ea; clear hq hb hr HQ4)))
  go_ret
  exact ⟨rfl, HB5.out⟩
end Go.Proofs.Ytbjbejjieibldaa.Qa
