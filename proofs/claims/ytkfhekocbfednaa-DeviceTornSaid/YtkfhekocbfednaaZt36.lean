/- Part of the proof of deviceTorn_holds: what later parts use. -/
import Derived.Test.YtkfhekocbfednaaZt0
import Derived.Test.YtkfhekocbfednaaZt1
import Derived.Test.YtkfhekocbfednaaZt2
import Derived.Test.YtkfhekocbfednaaZt3
import Derived.Test.YtkfhekocbfednaaZt4
import Derived.Test.YtkfhekocbfednaaZt5
import Derived.Test.YtkfhekocbfednaaZt6
import Derived.Test.YtkfhekocbfednaaZt7
import Derived.Test.YtkfhekocbfednaaZt8
import Derived.Test.YtkfhekocbfednaaZt9
import Derived.Test.YtkfhekocbfednaaZt10
import Derived.Test.YtkfhekocbfednaaZt11
import Derived.Test.YtkfhekocbfednaaZt12
import Derived.Test.YtkfhekocbfednaaZt13
import Derived.Test.YtkfhekocbfednaaZt14
import Derived.Test.YtkfhekocbfednaaZt15
import Derived.Test.YtkfhekocbfednaaZt16
import Derived.Test.YtkfhekocbfednaaZt17
import Derived.Test.YtkfhekocbfednaaZt18
import Derived.Test.YtkfhekocbfednaaZt19
import Derived.Test.YtkfhekocbfednaaZt20
import Derived.Test.YtkfhekocbfednaaZt21
import Derived.Test.YtkfhekocbfednaaZt22
import Derived.Test.YtkfhekocbfednaaZt23
import Derived.Test.YtkfhekocbfednaaZt24
import Derived.Test.YtkfhekocbfednaaZt25
import Derived.Test.YtkfhekocbfednaaZt26
import Derived.Test.YtkfhekocbfednaaZt28
import Derived.Test.YtkfhekocbfednaaZt29
import Derived.Test.YtkfhekocbfednaaZt35
import Derived.Laws.StructEq
section
namespace Go.Proofs.Ytkfhekocbfednaa
set_option linter.unusedVariables false
set_option linter.unusedSimpArgs false
open Go.RowKit Go.Proofs.Ytkfhekocbfednaa Go.Proofs.YtkfhekocbfednaaW.PrintWords
open Go.Proofs.Ytkfhekocbfednaa.Dv
theorem Opn.rows {P : Program} {w : World} {t e : TypeId} {cs : List Value} {α : Type} {enc : α → Array Value} {sz : Nat} (d : α) (ht : P.underlying t = some (.slice e)) (hc : P.cellsOf e = sz) (hd : ∀ es, Opn P w e es → ∃ p, es = (enc p).toList) (h : Opn P w t cs) :
    ∃ (A : Option Addr) (cap : Nat) (l : List α), cs = [.slice A l.length cap] ∧ RowsOf enc sz w A l := by
  obtain ⟨A, len, cap, rfl, h1, h2, h3⟩ := h.slice ht
  rcases Nat.eq_zero_or_pos len with h0 | h0
  · subst h0
    exact ⟨A, cap, [], rfl, RowsOf.nil _ _⟩
  · obtain ⟨ad, rfl, hx⟩ := h3 h0
    have hx' : ∀ i, ∃ p : α, i < len → ∀ j u, (enc p)[j]? = some u → w.cell? ((ad.add (i * sz)).add j) = some u := by
      intro i
      by_cases hi : i < len
      · obtain ⟨es, hl, hcell, ho⟩ := hx i hi
        obtain ⟨p, rfl⟩ := hd es ho
        exact ⟨p, fun _ j u hj => by rw [← hc]; exact hcell j u (by simpa using hj)⟩
      · exact ⟨d, fun h => absurd h hi⟩
    obtain ⟨f, hf⟩ := Classical.axiomOfChoice hx'
    refine ⟨some ad, cap, (List.range len).map f, by simp, by simp; unfold maxLen at h2; omega, fun _ => ⟨ad, rfl, fun j p hj i u hu => ?_⟩⟩
    have hjl : j < len := by
      have := (List.getElem?_eq_some_iff.1 hj).1
      simpa using this
    have : p = f j := by
      have := hj
      simp [hjl] at this
      exact this.symm
    subst this
    exact hf j hjl i u hu
theorem Opn.acc {w : World} {cs : List Value} (h : Opn Try.prog w 33 cs) : ∃ a : Acc, cs = (accV a).toList := by
  have hl : cs.length = 4 := (h.struct Try.underlying33).1.trans (by kernel_rfl)
  obtain ⟨a, b, c, d, rfl⟩ := len4 hl
  obtain ⟨x1, e1, -⟩ := Opn.int (k := .i64) (by kernel_rfl) (h.field Try.underlying33 0 rfl (by kernel_rfl) rfl)
  obtain rfl := List.singleton_inj.1 e1
  obtain ⟨x2, e2, -⟩ := Opn.int (k := .i64) (by kernel_rfl) (h.field Try.underlying33 1 rfl (by kernel_rfl) rfl)
  obtain rfl := List.singleton_inj.1 e2
  obtain ⟨x3, e3, -⟩ := Opn.int (k := .i64) (by kernel_rfl) (h.field Try.underlying33 2 rfl (by kernel_rfl) rfl)
  obtain rfl := List.singleton_inj.1 e3
  obtain ⟨x4, e4, -⟩ := Opn.str (by kernel_rfl) (h.field Try.underlying33 3 rfl (by kernel_rfl) rfl)
  obtain rfl := List.singleton_inj.1 e4
  exact ⟨(x1, x2, x3, x4), rfl⟩
theorem Opn.accs {w : World} {cs : List Value} (h : Opn Try.prog w 49 cs) : ∃ (A : Option Addr) (cap : Nat) (l : List Acc), cs = [.slice A l.length cap] ∧ RowsOf accV 4 w A l :=
  Opn.rows (0, 0, 0, ⟨#[]⟩) Try.underlying49 (by kernel_rfl) (fun _ h => h.acc) h
end Go.Proofs.Ytkfhekocbfednaa
end
