/- Part of the proof of deviceTorn_holds: what later parts use. -/
import Derived.Test.YtkfhekocbfednaaZt0
import Derived.Test.YtkfhekocbfednaaZt1
import Derived.Test.YtkfhekocbfednaaZt2
import Derived.Test.YtkfhekocbfednaaZt3
import Derived.Test.YtkfhekocbfednaaZt4
import Derived.Test.YtkfhekocbfednaaZt5
import Derived.Test.YtkfhekocbfednaaZt6
import Derived.Test.YtkfhekocbfednaaZt7
import Derived.Test.YtkfhekocbfednaaZt8
import Derived.Deep.MidRow
import Derived.DataElems
section
namespace Go.Proofs.Ytkfhekocbfednaa
set_option linter.unusedVariables false
set_option linter.unusedSimpArgs false
open Go.RowKit Go.Proofs.YtkfhekocbfednaaW.PrintWords Go.Proofs.YtkfhekocbfednaaW.PrintMore
section
variable {α : Type} {enc : α → Array Value} {sz : Nat} {w w' : World} {A : Option Addr} {l : List α}
def RowsOf (enc : α → Array Value) (sz : Nat) (w : World) (A : Option Addr) (l : List α) : Prop :=
  l.length ≤ 9223372036854775807 ∧ (0 < l.length → ∃ ad, A = some ad ∧ ∀ j p, l[j]? = some p → ∀ i u, (enc p)[i]? = some u → w.cell? ((ad.add (j * sz)).add i) = some u)
theorem RowsOf.nil (w : World) (A : Option Addr) : RowsOf enc sz w A [] := ⟨Nat.zero_le _, fun h => absurd h (Nat.lt_irrefl 0)⟩
theorem RowsOf.move (h : RowsOf enc sz w A l) (hc : ∀ a u, w.cell? a = some u → w'.cell? a = some u) : RowsOf enc sz w' A l := by
  refine ⟨h.1, fun hn => ?_⟩
  obtain ⟨ad, e, hx⟩ := h.2 hn
  exact ⟨ad, e, fun j p hj i u hu => hc _ _ (hx j p hj i u hu)⟩
theorem RowsOf.below (h : RowsOf enc sz w A l) (hb : Below w.heap.size w w') : RowsOf enc sz w' A l := h.move fun _ _ hc => pw_cell_below hb hc
theorem RowsOf.at (h : RowsOf enc sz w A l) (k : Nat) {p : α} (hp : l[k]? = some p) : ∃ ad, A = some ad ∧ ∀ i u, (enc p)[i]? = some u → w.cell? ((ad.add (k * sz)).add i) = some u := by
  obtain ⟨ad, e, hx⟩ := h.2 (by have := (List.getElem?_eq_some_iff.1 hp).1; omega)
  exact ⟨ad, e, fun i u hu => hx k p hp i u hu⟩
theorem RowsOf.of_C {d : Kd α} {n : Nat} (h : d.C w A n l) (hs : d.sz = sz) (hK : ∀ w x cs, d.K w x cs → cs.toArray = enc x) : RowsOf enc sz w A l := by
  obtain ⟨h1, h2, h3⟩ := h
  refine ⟨by omega, fun hn => ?_⟩
  obtain ⟨ad, e, hx⟩ := h3 (by omega)
  refine ⟨ad, e, fun j p hj i u hu => ?_⟩
  obtain ⟨c, k1, k2, k3⟩ := hx j p hj
  rw [← hK _ _ _ k2, List.getElem?_toArray] at hu
  rw [Addr.add_add, ← hs]
  exact k3 i u hu
end
section
variable {P : Program} {ops : Array Oper} {Q : Exit → Act → World → Prop}
theorem load_el {oi : Oper} {a : Act} {w : World} {ty : TypeId} {p : Operand} (ad : Addr) (cs : Array Value) (d : TypeDesc) (hop : oi.op = .load ty p) (hp : a.eval p = .pointer (some ad))
    (hc : ∀ j v, cs[j]? = some v → w.cell? (ad.add j) = some v) (hu : P.underlying ty = some d) (hd : d.isRow = true) (hi : (P.info? ty).map (·.size) = some cs.size) :
    (execOp a.eval oi).run P w = .ok (.value (.agg cs)) w := by
  have hl : (loadCells ad cs.toList.length).run P w = .ok cs.toList.toArray w := run_loadCells_list (P := P) w ad cs.toList (fun j v hv => hc j v (by simpa using hv))
  have hv : (loadVar ty ad).run P w = .ok (.agg cs) w := by
    cases hq : P.info? ty with
    | none => simp [hq] at hi
    | some i =>
      have hs : i.size = cs.size := by simpa [hq] using hi
      have hagg : (isAgg ty).run P w = .ok true w := by
        unfold isAgg
        rw [Sem.run_bind, run_underlying hu w]
        cases d <;> simp_all
      simp at hl
      simp [loadVar, Sem.run_bind, hagg, sizeOf, typeInfo, hq, hs, hl]
  unfold execOp
  simp [hop, hp, Instr.loadAt, Instr.sureAddr, hv]
theorem loadElL_ {rest : List Oper} {oi : Oper} {a : Act} {w : World} {ty : TypeId} {p : Operand} (N : Option Tmp) (hd' : oi.dst = N) (hgd : oi.guard = none) (hop : oi.op = .load ty p) (ad : Addr) (cs : Array Value) (d : TypeDesc) (hp : a.eval p = .pointer (some ad))
    (hc : ∀ j v, cs[j]? = some v → w.cell? (ad.add j) = some v) (hu : P.underlying ty = some d) (hd : d.isRow = true) (hi : (P.info? ty).map (·.size) = some cs.size)
    (h : wpList P ops Q rest (a.put N (.agg cs)) w) : wpList P ops Q (oi :: rest) a w := by
  refine wpList_plain hgd fun K hK => ?_
  unfold Oper.wp
  rw [load_el ad cs d hop hp hc hu hd hi]
  subst hd'
  exact hK _ _ h
end
end Go.Proofs.Ytkfhekocbfednaa
end
