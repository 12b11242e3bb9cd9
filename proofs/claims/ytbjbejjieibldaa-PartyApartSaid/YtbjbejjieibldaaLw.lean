/- What every law's lifted proof uses: a slice that came in is opened to the row that it holds. -/
import Derived.Test.YtbjbejjieibldaaRows
import Derived.Test.YtbjbejjieibldaaWWords
import Derived.WalkKit
import Derived.ProofKit
import Derived.OpenShut
import Derived.ShutString
import Derived.ChangeOld
import Derived.Below
import Derived.SizedLaws
import Derived.Deep.Slices
import Derived.Deep.Fields
namespace Go.Proofs.Ytbjbejjieibldaa.Lw
open Go.ChangeShapes Go.WideShapes Go.ChangeAt Go.RowKit Go.Deep Go.Proofs.YtbjbejjieibldaaW.PrintWords
set_option linter.unusedVariables false

theorem own : ownKnob Try.prog.godebug = none := by kernel_rfl
theorem laidOut : laidOutB Try.prog = true := by kernel_rfl

section
variable {H : Type} {enc : TypeId × Value → H} {P : Program} {w : World} {base : Nat} {spare : Nat → Bool} {held : Bool}
/-- A field of an integer kind, one cell, read out of a struct's cells. -/
theorem int_field {t : TypeId} {fs : Array Field} {fuel : Nat} {cs : List Value} {x : DataW H × List MemPlace} (ht : P.underlying t = some (.struct fs)) (h : DataW.trod enc P w base spare held fuel t cs = some x)
    (j : Nat) (f : Field) (k : IntKind) (hj : fs[j]? = some f) (ho : f.offset = j) (hc : P.cellsOf f.type = 1) (hk : P.underlying f.type = some (.int k)) : ∃ a, cs[j]? = some (.int k a) ∧ (Lit.int k a).wf = true := by
  obtain ⟨xs, n, _, _, hl, hxl, hf⟩ := DataW.trod_struct ht h
  have h1 := hf j f hj
  have hjl : j < fs.size := (Array.getElem?_eq_some_iff.1 hj).1
  rw [ho, hc, List.getElem?_eq_getElem (by omega)] at h1
  obtain ⟨a, e, _, hw⟩ := DataW.trod_int hk h1
  refine ⟨a, ?_, hw⟩
  have h2 : ((cs.drop j).take 1)[0]? = some (.int k a) := by rw [e]; rfl
  rw [List.getElem?_take_of_lt (by omega), List.getElem?_drop] at h2
  exact h2

/-- A slice that came in holds a row. -/
theorem open_C {α : Type} (d : Kd α) (z : α) (p : α → Prop) {t e : TypeId} (ht : P.underlying t = some (.slice e)) (hc : P.cellsOf e = d.sz)
    (hel : ∀ fuel cs x, DataW.trod enc P w base spare held fuel e cs = some x → cs.length = d.sz → ∃ y, d.K w y cs ∧ p y)
    {fuel : Nat} {a : Option Addr} {len cap : Nat} {x : DataW H × List MemPlace} (h : DataW.trod enc P w base spare held fuel t [.slice a len cap] = some x) :
    len ≤ cap ∧ cap ≤ 9223372036854775807 ∧ ∃ xs : List α, xs.length = len ∧ Kd.C d w a len xs ∧ ∀ y ∈ xs, p y := by
  rcases open_slice ht h with ⟨hcs, _⟩ | ⟨ad, l, c, m, n, D, Pl, hcs, _, hl, hm, hmm, _, he⟩
  · simp only [List.cons.injEq, Value.slice.injEq, and_true] at hcs
    obtain ⟨rfl, rfl, rfl⟩ := hcs
    exact ⟨Nat.le_refl _, by omega, [], rfl, Kd.C_nil d w, by simp⟩
  · simp only [List.cons.injEq, Value.slice.injEq, and_true] at hcs
    obtain ⟨rfl, rfl, rfl⟩ := hcs
    unfold maxLen at hm
    refine ⟨hl, by omega, ?_⟩
    have hmc : len ≤ m := by rw [hmm]; split <;> omega
    have hone : ∀ i, i < len → ∃ y, p y ∧ ∃ c, c.length = d.sz ∧ d.K w y c ∧ ∀ (j : Nat) (u : Value), c[j]? = some u → w.cell? (ad.add (i * d.sz + j)) = some u := by
      intro i hi
      obtain ⟨cs', hc', ht'⟩ := he i (by omega)
      obtain ⟨_, hcl, hat⟩ := World.cells?_some hc'
      rw [hc] at hat hcl
      obtain ⟨y, hy, hp⟩ := hel _ _ _ ht' hcl
      refine ⟨y, hp, cs', hcl, hy, fun j u hu => ?_⟩
      have hj : j < d.sz := by
        have := (List.getElem?_eq_some_iff.1 hu).1
        omega
      have hx := hat j hj
      rw [Go.Deep.add_add] at hx
      rw [hx]
      exact hu
    have : Inhabited α := ⟨z⟩
    obtain ⟨V, hV⟩ := choose_lt (n := len) hone
    refine ⟨(List.range len).map V, by simp, ⟨by simp, by omega, fun _ => ⟨ad, rfl, fun j q hq => ?_⟩⟩, fun y hy => ?_⟩
    · obtain ⟨hj, hq⟩ := List.getElem?_eq_some_iff.1 hq
      have hj : j < len := by simpa using hj
      simp only [List.getElem_map, List.getElem_range] at hq
      subst hq
      exact (hV j hj).2
    · obtain ⟨i, hi, rfl⟩ := List.mem_map.1 hy
      exact (hV i (List.mem_range.1 hi)).1

/-- A slice of numbers. -/
theorem open_ints_C {t e : TypeId} {k : IntKind} (ht : P.underlying t = some (.slice e)) (he : P.underlying e = some (.int k)) (hc : P.cellsOf e = 1)
    {fuel : Nat} {a : Option Addr} {len cap : Nat} {x : DataW H × List MemPlace} (h : DataW.trod enc P w base spare held fuel t [.slice a len cap] = some x) :
    len ≤ cap ∧ cap ≤ 9223372036854775807 ∧ ∃ xs : List Int, xs.length = len ∧ Kd.C (Kd.int k) w a len xs ∧ ∀ y ∈ xs, (Lit.int k y).wf = true := by
  refine open_C (Kd.int k) 0 (fun y => (Lit.int k y).wf = true) ht hc (fun fuel cs x hx hl => ?_) h
  obtain ⟨a, e, _, hw⟩ := DataW.trod_int he hx
  exact ⟨a, e, hw⟩
end
end Go.Proofs.Ytbjbejjieibldaa.Lw
