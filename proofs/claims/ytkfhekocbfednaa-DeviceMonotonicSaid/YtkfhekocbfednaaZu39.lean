/- Part of the proof of deviceSeparate_holds, deviceAll_holds, deviceMonotonic_holds: what later parts use. -/
import Derived.Test.YtkfhekocbfednaaZu0
import Derived.Test.YtkfhekocbfednaaZu1
import Derived.Test.YtkfhekocbfednaaZu2
import Derived.Test.YtkfhekocbfednaaZu3
import Derived.Test.YtkfhekocbfednaaZu4
import Derived.Test.YtkfhekocbfednaaZu5
import Derived.Test.YtkfhekocbfednaaZu6
import Derived.Test.YtkfhekocbfednaaZu7
import Derived.Test.YtkfhekocbfednaaZu8
import Derived.Test.YtkfhekocbfednaaZu9
import Derived.Test.YtkfhekocbfednaaZu10
import Derived.Test.YtkfhekocbfednaaZu11
import Derived.Test.YtkfhekocbfednaaZu12
import Derived.Test.YtkfhekocbfednaaZu13
import Derived.Test.YtkfhekocbfednaaZu14
import Derived.Test.YtkfhekocbfednaaZu15
import Derived.Test.YtkfhekocbfednaaZu16
import Derived.Test.YtkfhekocbfednaaZu17
import Derived.Test.YtkfhekocbfednaaZu18
import Derived.Test.YtkfhekocbfednaaZu19
import Derived.Test.YtkfhekocbfednaaZu20
import Derived.Test.YtkfhekocbfednaaZu21
import Derived.Test.YtkfhekocbfednaaZu22
import Derived.Test.YtkfhekocbfednaaZu23
import Derived.Test.YtkfhekocbfednaaZu24
import Derived.Test.YtkfhekocbfednaaZu25
import Derived.Test.YtkfhekocbfednaaZu26
import Derived.Test.YtkfhekocbfednaaZu27
import Derived.Test.YtkfhekocbfednaaZu28
import Derived.Test.YtkfhekocbfednaaZu29
import Derived.Test.YtkfhekocbfednaaZu30
import Derived.Test.YtkfhekocbfednaaZu31
import Derived.Test.YtkfhekocbfednaaZu36
import Derived.Test.YtkfhekocbfednaaZu37
import Derived.Test.YtkfhekocbfednaaZu38
import Derived.Laws.StructEq
section
namespace Go.Proofs.Ytkfhekocbfednaa
set_option linter.unusedVariables false
set_option linter.unusedSimpArgs false
open Go.RowKit Go.Proofs.Ytkfhekocbfednaa Go.Proofs.YtkfhekocbfednaaW.PrintWords
open Go.Proofs.Ytkfhekocbfednaa.Dv
theorem Opn.rows {P : Program} {w : World} {t e : TypeId} {cs : List Value} {α : Type} {enc : α → Array Value} {sz : Nat} (d : α) (ht : P.underlying t = some (.slice e)) (hc : P.cellsOf e = sz) (hd : ∀ es, Opn P w e es → ∃ p, es = (enc p).toList) (h : Opn P w t cs) :
    ∃ (A : Option Addr) (cap : Nat) (l : List α), cs = [.slice A l.length cap] ∧ RowsOf enc sz w A l := by
  obtain ⟨A, len, cap, rfl, h1, h2, h3⟩ := h.slice ht
  rcases Nat.eq_zero_or_pos len with h0 | h0
  · subst h0
    exact ⟨A, cap, [], rfl, RowsOf.nil _ _⟩
  · obtain ⟨ad, rfl, hx⟩ := h3 h0
    have hx' : ∀ i, ∃ p : α, i < len → ∀ j u, (enc p)[j]? = some u → w.cell? ((ad.add (i * sz)).add j) = some u := by
      intro i
      by_cases hi : i < len
      · obtain ⟨es, hl, hcell, ho⟩ := hx i hi
        obtain ⟨p, rfl⟩ := hd es ho
        exact ⟨p, fun _ j u hj => by rw [← hc]; exact hcell j u (by simpa using hj)⟩
      · exact ⟨d, fun h => absurd h hi⟩
    obtain ⟨f, hf⟩ := Classical.axiomOfChoice hx'
    refine ⟨some ad, cap, (List.range len).map f, by simp, by simp; unfold maxLen at h2; omega, fun _ => ⟨ad, rfl, fun j p hj i u hu => ?_⟩⟩
    have hjl : j < len := by
      have := (List.getElem?_eq_some_iff.1 hj).1
      simpa using this
    have : p = f j := by
      have := hj
      simp [hjl] at this
      exact this.symm
    subst this
    exact hf j hjl i u hu
theorem Opn.acc {w : World} {cs : List Value} (h : Opn Try.prog w 33 cs) : ∃ a : Acc, cs = (accV a).toList := by
  have hl : cs.length = 4 := (h.struct Try.underlying33).1.trans (by kernel_rfl)
  obtain ⟨a, b, c, d, rfl⟩ := len4 hl
  obtain ⟨x1, e1, -⟩ := Opn.int (k := .i64) (by kernel_rfl) (h.field Try.underlying33 0 rfl (by kernel_rfl) rfl)
  obtain rfl := List.singleton_inj.1 e1
  obtain ⟨x2, e2, -⟩ := Opn.int (k := .i64) (by kernel_rfl) (h.field Try.underlying33 1 rfl (by kernel_rfl) rfl)
  obtain rfl := List.singleton_inj.1 e2
  obtain ⟨x3, e3, -⟩ := Opn.int (k := .i64) (by kernel_rfl) (h.field Try.underlying33 2 rfl (by kernel_rfl) rfl)
  obtain rfl := List.singleton_inj.1 e3
  obtain ⟨x4, e4, -⟩ := Opn.str (by kernel_rfl) (h.field Try.underlying33 3 rfl (by kernel_rfl) rfl)
  obtain rfl := List.singleton_inj.1 e4
  exact ⟨(x1, x2, x3, x4), rfl⟩
theorem Opn.flt {w : World} {cs : List Value} (h : Opn Try.prog w 35 cs) : ∃ a : Flt, cs = (fltV a).toList := by
  have hl : cs.length = 3 := (h.struct Try.underlying35).1.trans (by kernel_rfl)
  obtain ⟨a, b, c, rfl⟩ := len3 hl
  obtain ⟨x1, e1⟩ := Opn.bool (by kernel_rfl) (h.field Try.underlying35 0 rfl (by kernel_rfl) rfl)
  obtain rfl := List.singleton_inj.1 e1
  obtain ⟨x2, e2, -⟩ := Opn.int (k := .i64) (by kernel_rfl) (h.field Try.underlying35 1 rfl (by kernel_rfl) rfl)
  obtain rfl := List.singleton_inj.1 e2
  obtain ⟨x3, e3⟩ := Opn.bool (by kernel_rfl) (h.field Try.underlying35 2 rfl (by kernel_rfl) rfl)
  obtain rfl := List.singleton_inj.1 e3
  exact ⟨(x1, x2, x3), rfl⟩
theorem Opn.accs {w : World} {cs : List Value} (h : Opn Try.prog w 49 cs) : ∃ (A : Option Addr) (cap : Nat) (l : List Acc), cs = [.slice A l.length cap] ∧ RowsOf accV 4 w A l :=
  Opn.rows (0, 0, 0, ⟨#[]⟩) Try.underlying49 (by kernel_rfl) (fun _ h => h.acc) h
theorem Opn.flts {w : World} {cs : List Value} (h : Opn Try.prog w 50 cs) : ∃ (A : Option Addr) (cap : Nat) (l : List Flt), cs = [.slice A l.length cap] ∧ RowsOf fltV 3 w A l :=
  Opn.rows (false, 0, false) Try.underlying50 (by kernel_rfl) (fun _ h => h.flt) h
end Go.Proofs.Ytkfhekocbfednaa
end
