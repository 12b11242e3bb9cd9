/- The reference's reads beside the queue's: plain facts, and the law's own 'plain'. -/
import Derived.Test.YtbjbejjieibldaaQf
import Derived.Test.YtbjbejjieibldaaQ0
import Derived.Test.YtbjbejjieibldaaPReadsPlaysx3
namespace Go.Proofs.Ytbjbejjieibldaa.Qa
open Go.RowKit Go.Proofs.YtbjbejjieibldaaW.PrintWords Go.Proofs.YtbjbejjieibldaaW.PrintLast Go.Proofs.YtbjbejjieibldaaW.PrintMore Go.Proofs.Ytbjbejjieibldaa.Rg
open Go.Proofs.Ytbjbejjieibldaa.PReadsPlays
set_option linter.unusedVariables false

theorem wrap_succ {i : Int} (h0 : 0 ≤ i) (h : i < 4611686018427387904) : wrap64 (i + 1) = i + 1 := by unfold wrap64; omega
/-- A read as the reference's. -/
def cv (x : S91) : S147 := ⟨x.f0, x.f1, x.f2⟩
def cvs (l : List S91) : List S147 := l.map cv
theorem cvs_length (l : List S91) : (cvs l).length = l.length := by simp [cvs]
theorem rd_cvs (l : List S91) (i : Nat) (h : i < l.length) : rd_T147 (cvs l) (i : Int) = cv (rd_T91 l (i : Int)) := by
  unfold rd_T147 rd_T91 cvs
  simp [List.getD_eq_getElem?_getD, h]
theorem snoc91 (l : List S91) (k : Nat) (h : k < l.length) : l.take (k + 1) = l.take k ++ [rd_T91 l (k : Int)] := by
  rw [List.take_succ_eq_append_getElem h]
  unfold rd_T91
  simp [List.getD_eq_getElem?_getD, h]
theorem snoc147 (l : List S147) (k : Nat) (h : k < l.length) : l.take (k + 1) = l.take k ++ [rd_T147 l (k : Int)] := by
  rw [List.take_succ_eq_append_getElem h]
  unfold rd_T147
  simp [List.getD_eq_getElem?_getD, h]

theorem same_l0 (x : List S147) (hl : x.length < 4611686018427387904) : ∀ (d i k : Nat), i + d = x.length → d < k → curfewref33_Same.l0 k x x (i : Int) = some true := by
  intro d
  induction d with
  | zero =>
    intro i k hi hk
    obtain ⟨k, rfl⟩ : ∃ m, k = m + 1 := ⟨k - 1, by omega⟩
    simp only [curfewref33_Same.l0]
    rw [if_neg (by omega)]
  | succ d ih =>
    intro i k hi hk
    obtain ⟨k, rfl⟩ : ∃ m, k = m + 1 := ⟨k - 1, by omega⟩
    simp only [curfewref33_Same.l0]
    rw [if_pos (by omega), if_pos (by omega), if_pos (by omega), if_neg (by simp), wrap_succ (by omega) (by omega)]
    exact ih (i + 1) k (by omega) (by omega)
theorem same_f (x : List S147) (hl : x.length < 4611686018427387904) : curfewref33_Same.f (x.length + 1) x x = some true := by
  unfold curfewref33_Same.f
  rw [if_pos rfl]
  exact same_l0 x hl x.length 0 _ (by omega) (by omega)

theorem begin_f (a0 a1 : Int) (l : List S147) (h0 : 0 ≤ a0) (h1 : a0 ≤ BIG) : curfewref33_Begin.f a0 a1 l = some (beginOf a0, a1, l, beginOf a0) := by
  unfold curfewref33_Begin.f beginOf
  have hw : IntKind.u64.wrap (a0 + 1) = a0 + 1 := IntWalk.u64_in _ (by unfold BIG at h1; omega)
  by_cases h : a0 < BIG
  · rw [if_pos h, if_pos (show a0 < 1152921504606846976 from h), hw]
  · rw [if_neg h, if_neg (show ¬ a0 < 1152921504606846976 from h)]
theorem confirm_f (a0 a1 r : Int) (l : List S147) : curfewref33_Confirm.f a0 a1 l r = some (a0, confOf a0 a1 r, l) := by
  unfold curfewref33_Confirm.f confOf
  by_cases h : r > a0
  · rw [if_pos h]
    simp only [show a0 < r from h, if_true]
    by_cases h2 : a0 > a1
    · rw [if_pos h2, if_pos (show a1 < a0 from h2)]
    · rw [if_neg h2, if_neg (show ¬ a1 < a0 from h2)]
  · rw [if_neg h]
    simp only [show ¬ a0 < r from h, if_false]
    by_cases h2 : r > a1
    · rw [if_pos h2, if_pos (show a1 < r from h2)]
    · rw [if_neg h2, if_neg (show ¬ a1 < r from h2)]
theorem ask_f (a0 a1 id index : Int) (l : List S91) (h0 : 0 ≤ a0) (h1 : a0 ≤ BIG) (hl : l.length ≤ 32) : curfewref33_Ask.f a0 a1 (cvs l) id index = some (askBegun a0 l, a1, cvs (askList a0 l id index), askRound a0 l, askErr a0 l) := by
  unfold curfewref33_Ask.f askBegun askList askRound askErr
  have hw : a0 < BIG → IntKind.u64.wrap (a0 + 1) = a0 + 1 := fun h => IntWalk.u64_in _ (by unfold BIG at h; omega)
  rw [cvs_length]
  by_cases hf : 32 ≤ l.length
  · rw [if_pos (by omega), if_pos hf, if_pos hf, if_pos hf, if_pos hf]
  · rw [if_neg (by omega), if_neg hf, if_neg hf, if_neg hf, if_neg hf]
    by_cases hb : BIG ≤ a0
    · rw [if_pos (show a0 ≥ 1152921504606846976 from hb), if_pos hb, if_pos hb, if_pos hb, if_pos hb]
    · rw [if_neg (show ¬ a0 ≥ 1152921504606846976 from hb), if_neg hb, if_neg hb, if_neg hb, if_neg hb, hw (by unfold BIG at hb ⊢; omega)]
      simp only [Option.bind_some, List.length_nil, List.nil_append, List.length_singleton, cvs_length]
      rw [if_pos (by omega), if_pos (by omega)]
      simp [cvs, cv]

theorem filter_cvs (p : S91 → Bool) (q : S147 → Bool) (h : ∀ x, q (cv x) = p x) (l : List S91) : (cvs l).filter q = cvs (l.filter p) := by
  unfold cvs
  rw [List.filter_map]
  congr 1
  exact List.filter_congr (fun x _ => h x)

theorem cvs_snoc (l : List S91) (y : S91) : cvs (l ++ [y]) = cvs l ++ [⟨(cv y).f0, (cv y).f1, (cv y).f2⟩] := by simp [cvs, cv]

theorem take_l0 (a0 a1 applied : Int) (l : List S91) (hl : l.length ≤ 1000) : ∀ (d i k : Nat), i + d = l.length → d < k →
    curfewref33_Take.l0 k applied (cvs ((l.take i).filter (fun x => !sureOf a1 applied x))) (cvs ((l.take i).filter (sureOf a1 applied))) (i : Int) a0 a1 (cvs l) = some (a0, a1, cvs (l.filter (fun x => !sureOf a1 applied x)), cvs (l.filter (sureOf a1 applied))) := by
  intro d
  induction d with
  | zero =>
    intro i k hi hk
    obtain ⟨k, rfl⟩ : ∃ m, k = m + 1 := ⟨k - 1, by omega⟩
    simp only [curfewref33_Take.l0]
    rw [cvs_length, if_neg (by omega), List.take_of_length_le (by omega)]
  | succ d ih =>
    intro i k hi hk
    obtain ⟨k, rfl⟩ : ∃ m, k = m + 1 := ⟨k - 1, by omega⟩
    have h1 := ih (i + 1) k (by omega) (by omega)
    have hT := filter_snoc (sureOf a1 applied) l i (by omega)
    have hU := filter_snoc (fun x => !sureOf a1 applied x) l i (by omega)
    have l1 : ((l.take i).filter (sureOf a1 applied)).length ≤ 1000 := by
      have h1 := List.length_filter_le (sureOf a1 applied) (l.take i)
      have h3 := List.length_take_le i l
      omega
    have l2 : ((l.take i).filter (fun x => !sureOf a1 applied x)).length ≤ 1000 := by
      have h2 := List.length_filter_le (fun x => !sureOf a1 applied x) (l.take i)
      have h3 := List.length_take_le i l
      omega
    simp only [curfewref33_Take.l0]
    rw [rd_cvs l i (by omega), cvs_length, cvs_length, cvs_length, if_pos (by omega), if_pos (by omega), wrap_succ (i := (i : Int)) (by omega) (by omega)]
    generalize rd_T91 l (i : Int) = y at hT hU
    rw [hT, hU] at h1
    show (if y.f2 ≤ a1 then _ else _) = _
    by_cases hs : y.f2 ≤ a1
    · rw [if_pos hs]
      show (if y.f1 ≤ applied then _ else _) = _
      by_cases hx : y.f1 ≤ applied
      · have e : sureOf a1 applied y = true := by unfold sureOf; rw [if_pos hs]; simpa using hx
        rw [if_pos hx, if_pos (by omega)]
        simp only [e, if_true, Bool.not_true, Bool.false_eq_true, if_false] at h1
        rw [cvs_snoc] at h1
        exact h1
      · have e : sureOf a1 applied y = false := by unfold sureOf; rw [if_pos hs]; simpa using hx
        rw [if_neg hx, if_pos (by omega)]
        simp only [e, Bool.false_eq_true, if_false, Bool.not_false, if_true] at h1
        rw [cvs_snoc] at h1
        exact h1
    · have e : sureOf a1 applied y = false := by unfold sureOf; rw [if_neg hs]
      rw [if_neg hs, if_pos (by omega)]
      simp only [e, Bool.false_eq_true, if_false, Bool.not_false, if_true] at h1
      rw [cvs_snoc] at h1
      exact h1
theorem take_f (a0 a1 applied : Int) (l : List S91) (hl : l.length ≤ 1000) : curfewref33_Take.f (l.length + 1) a0 a1 (cvs l) applied = some (a0, a1, cvs (l.filter (fun x => !sureOf a1 applied x)), cvs (l.filter (sureOf a1 applied))) :=
  take_l0 a0 a1 applied l hl l.length 0 _ (by omega) (by omega)

set_option maxHeartbeats 4000000 in
set_option maxRecDepth 100000 in
theorem plain_calls (A : Option Addr) (c : Nat) (l : List S91) (w : World) (hC : Kd.C k91 w A l.length l) (hl : l.length ≤ 1000) :
    Calls Try.prog 34 #[.slice A l.length c] w fun e w' => ∃ v, e = .returned v ∧ Kd.R k147 147 w' w.heap.size (fun k => w.heap.size ≤ k) v (cvs l) ∧ Below w.heap.size w w' := by
  have HC := Aside0.mk hC
  have hu91 := Try.underlying91
  have hu147 := Try.underlying147
  clear hC
  go_enter Try.func34, Try.ntmps34
  go_wp2
  go_loopw [3, 8] (fun v i wr => ∃ (k : Nat) (Av : Option Addr) (cv' : Nat), k ≤ l.length ∧ i = .int .i64 k ∧ v = .slice Av (cvs (l.take k)).length cv' ∧ Aside0 (Kd.R k147 147 wr w.heap.size (fun k => w.heap.size ≤ k) (.slice Av (cvs (l.take k)).length cv') (cvs (l.take k)) ∧ Below w.heap.size w wr)) (fun _ i _ => l.length - (intOf i).toNat)
  case atStart => exact ⟨0, none, 0, Nat.zero_le _, rfl, rfl, ⟨Kd.R_nil _ _ _ _ _, Below.refl _ _⟩⟩
  case round =>
    obtain ⟨k, Av, cv', hk, rfl, rfl, HP⟩ := hrel
    by_cases hlt : k < l.length
    · obtain ⟨ad, ea, x0, x1, x2⟩ := at_T91 (Kd.C_below HC.out HP.out.2) (k : Int) (by omega) (by omega)
      cases ea
      simp only [Int.toNat_natCast] at x0 x1 x2
      have HT := Aside0.mk (snoc91 l k hlt)
      have HL : Aside0 ((cvs (l.take k)).length ≤ 1000) := ⟨by rw [cvs_length]; have := List.length_take_le k l; omega⟩
      generalize rd_T91 l (k : Int) = y at x0 x1 x2 HT
      generalize l.take k = la at HP HT HL
      go_wp2_with (first
        | ((with_reducible refine gate_dst (N := 5) rfl ?_); refine box_event ?hg (N := 5) ?hd (cs := #[.int .u64 0, .int .u64 0, .int .u64 0]) (t := 91) ?hr ?_; (case hd => rfl); (case hg => rfl); (case hr => first | (go_simp; done) | (go_simp; rfl)); intro g7 hg w2 hbox hb; have E7 := Aside0.mk hg; have K7 := Aside0.mk hbox; have B7 := Aside0.mk hb; clear hg hbox hb x0 x1 x2; have d0 := (blk_cell K7.out 0).trans rfl; have z0 := blk_frozen K7.out 0; have d1 := (blk_cell K7.out 1).trans rfl; have z1 := blk_frozen K7.out 1; have d2 := (blk_cell K7.out 2).trans rfl; have z2 := blk_frozen K7.out 2)
        | ((with_reducible refine gate_op (Op.store 91 (.tmp 5) (.tmp 11)) rfl ?_); refine skip_event (w1 := ((w2.setCell ⟨g7, 0, none⟩ (.int .u64 y.f0)).setCell ⟨g7, 1, none⟩ (.int .u64 y.f1)).setCell ⟨g7, 2, none⟩ (.int .u64 y.f2)) rfl rfl ?hr ?_; (case hr => first | (go_simp; done) | (go_simp; rfl)); intro w3 hw3; have K3 := Aside0.mk (set3_at K7.out hw3); have B3 := Aside0.mk (set3_below B7.out (Nat.le_of_eq E7.out.symm) hw3); clear hw3 d0 z0 d1 z1 d2 z2; have d0 := (blk_cell K3.out 0).trans rfl; have d1 := (blk_cell K3.out 1).trans rfl; have d2 := (blk_cell K3.out 2).trans rfl; have HR3 := Aside0.mk (Kd.R_below HP.out.1 B3.out); have HB3 := Aside0.mk (below_then HP.out.2 HP.out.2.size B3.out); clear K7 E7 B7 HP B3)
        | ((with_reducible refine gate_builtin (b := .append) (xs := #[.tmp 12, .tmp 14]) rfl ?_); at_builtin; refine Kd.R_append k147 (w0 := w) w.heap.size rfl (.tmp 12) (.tmp 14) 46 147 (.agg #[(.int .u64 0), (.int .u64 0), (.int .u64 0)]) 24 rfl Try.underlying46 info147 rfl (by decide) (by omega) (.slice Av (cvs la).length cv') (cvs la) ⟨(cv y).f0, (cv y).f1, (cv y).f2⟩ [.int .u64 y.f0, .int .u64 y.f1, .int .u64 y.f2] (fun k => w.heap.size ≤ k) (fun _ => False) rfl rfl ?aP (fun _ hk => hk.elim) ?aF ?aO ?aB ?aS ?aL ?_; (case aP => exact k147_mkM _ _ _ _); (case aF => exact fun k hk => Nat.le_trans HB3.out.size hk); (case aO => exact HR3.out); (case aB => exact HB3.out); (case aS => exact HB3.out.size); (case aL => have := HL.out; omega); intro v5 w5 ho hb hg hat; rw [← cvs_snoc] at ho; have HP5 := Aside0.mk (And.intro ho hb); obtain ⟨A5, c5, e5⟩ := Kd.R_slice ho; subst e5; clear ho hb hg hat d0 d1 d2))
      go_roundw
      case rel => exact ⟨k + 1, A5, c5, by omega, by go_num, by rw [HT.out], ⟨by rw [HT.out]; exact HP5.out⟩⟩
      case measure => simp [intOf]; omega
    · obtain rfl : k = l.length := by omega
      rw [List.take_length] at HP
      simp only [List.take_length]
      go_wp2
      go_ret
      exact ⟨_, rfl, HP.out.1, HP.out.2⟩
end Go.Proofs.Ytbjbejjieibldaa.Qa
