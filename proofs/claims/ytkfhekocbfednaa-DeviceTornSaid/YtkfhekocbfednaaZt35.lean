/- Part of the proof of deviceTorn_holds: what later parts use. -/
import Derived.Test.YtkfhekocbfednaaZt0
import Derived.Test.YtkfhekocbfednaaZt1
import Derived.Test.YtkfhekocbfednaaZt2
import Derived.Test.YtkfhekocbfednaaZt3
import Derived.Test.YtkfhekocbfednaaZt4
import Derived.Test.YtkfhekocbfednaaZt5
import Derived.Test.YtkfhekocbfednaaZt6
import Derived.Test.YtkfhekocbfednaaZt7
import Derived.Test.YtkfhekocbfednaaZt8
import Derived.Test.YtkfhekocbfednaaZt9
import Derived.Test.YtkfhekocbfednaaZt10
import Derived.Test.YtkfhekocbfednaaZt11
import Derived.Test.YtkfhekocbfednaaZt12
import Derived.Test.YtkfhekocbfednaaZt13
import Derived.Test.YtkfhekocbfednaaZt14
import Derived.Test.YtkfhekocbfednaaZt15
import Derived.Test.YtkfhekocbfednaaZt16
import Derived.Test.YtkfhekocbfednaaZt17
import Derived.Test.YtkfhekocbfednaaZt18
import Derived.Test.YtkfhekocbfednaaZt19
import Derived.Test.YtkfhekocbfednaaZt20
import Derived.Test.YtkfhekocbfednaaZt21
import Derived.Test.YtkfhekocbfednaaZt22
import Derived.Test.YtkfhekocbfednaaZt23
import Derived.Test.YtkfhekocbfednaaZt24
import Derived.Test.YtkfhekocbfednaaZt25
import Derived.Test.YtkfhekocbfednaaZt26
import Derived.Test.YtkfhekocbfednaaProg
import Derived.WalkKit
import Derived.ProofKit
import Derived.ChangeOld
import Derived.ChangeReads
import Derived.Laws.StructEq
section
namespace Go.Proofs.Ytkfhekocbfednaa
set_option linter.unusedVariables false
set_option linter.unusedSimpArgs false
open Go.RowKit Go.Proofs.YtkfhekocbfednaaW.PrintWords
def Opn (P : Program) (w : World) (t : TypeId) (cs : List Value) : Prop :=
  ∃ (H : Type) (enc : TypeId × Value → H) (base : Nat) (sp : Nat → Bool) (held : Bool) (fuel : Nat) (x : DataW H × List MemPlace), DataW.trod enc P w base sp held fuel t cs = some x
section
variable {P : Program} {w : World} {t e : TypeId} {cs : List Value}
theorem Opn.int {k : IntKind} (ht : P.underlying t = some (.int k)) (h : Opn P w t cs) : ∃ n, cs = [.int k n] ∧ (Lit.int k n).wf = true := by
  obtain ⟨H, enc, base, sp, held, fuel, x, hx⟩ := h
  cases fuel with
  | zero => simp [DataW.trod] at hx
  | succ fuel =>
    unfold DataW.trod at hx
    simp only [ht] at hx
    split at hx <;> first | (cases hx; done) | skip
    all_goals simp_all
    all_goals (rename_i h1; obtain ⟨rfl, rfl⟩ := h1; split at hx <;> simp_all)
theorem Opn.bool (ht : P.underlying t = some .bool) (h : Opn P w t cs) : ∃ b, cs = [.bool b] := by
  obtain ⟨H, enc, base, sp, held, fuel, x, hx⟩ := h
  cases fuel with
  | zero => simp [DataW.trod] at hx
  | succ fuel =>
    unfold DataW.trod at hx
    simp only [ht] at hx
    split at hx <;> simp_all
theorem Opn.str (ht : P.underlying t = some .string) (h : Opn P w t cs) : ∃ s : ByteArray, cs = [.string s] ∧ s.size ≤ maxLen := by
  obtain ⟨H, enc, base, sp, held, fuel, x, hx⟩ := h
  cases fuel with
  | zero => simp [DataW.trod] at hx
  | succ fuel =>
    unfold DataW.trod at hx
    simp only [ht] at hx
    split at hx <;> simp_all
theorem mapM_some {α β : Type} {f : α → Option β} : ∀ {l : List α} {r : List β}, l.mapM f = some r → ∀ a ∈ l, ∃ b, f a = some b
  | [], _, _, a, h => by cases h
  | a :: l, r, h, c, hc => by
    rw [List.mapM_cons] at h
    cases ha : f a with
    | none => simp [ha] at h
    | some b =>
      cases hl : l.mapM f with
      | none => simp [ha, hl] at h
      | some bs =>
        rcases List.mem_cons.1 hc with rfl | hc
        · exact ⟨b, ha⟩
        · exact mapM_some hl c hc
theorem Opn.struct {fs : Array Field} (ht : P.underlying t = some (.struct fs)) (h : Opn P w t cs) :
    cs.length = P.cellsOf t ∧ ∀ f ∈ fs.toList, Opn P w f.type ((cs.drop f.offset).take (P.cellsOf f.type)) := by
  obtain ⟨H, enc, base, sp, held, fuel, x, hx⟩ := h
  cases fuel with
  | zero => simp [DataW.trod] at hx
  | succ fuel =>
    unfold DataW.trod at hx
    simp only [ht] at hx
    split at hx
    · rename_i hl
      rw [Option.map_eq_some_iff] at hx
      obtain ⟨y, hy, _⟩ := hx
      refine ⟨hl, fun f hf => ?_⟩
      obtain ⟨b, hb⟩ := mapM_some hy f hf
      exact ⟨H, enc, base, sp, held, fuel, b, hb⟩
    · cases hx
theorem Opn.array {n : Nat} (ht : P.underlying t = some (.array n e)) (h : Opn P w t cs) :
    cs.length = P.cellsOf t ∧ ∀ i, i < n → Opn P w e ((cs.drop (i * P.cellsOf e)).take (P.cellsOf e)) := by
  obtain ⟨H, enc, base, sp, held, fuel, x, hx⟩ := h
  cases fuel with
  | zero => simp [DataW.trod] at hx
  | succ fuel =>
    unfold DataW.trod at hx
    simp only [ht] at hx
    split at hx
    · rename_i hl
      rw [Option.map_eq_some_iff] at hx
      obtain ⟨y, hy, _⟩ := hx
      refine ⟨hl, fun i hi => ?_⟩
      obtain ⟨b, hb⟩ := mapM_some hy i (List.mem_range.2 hi)
      exact ⟨H, enc, base, sp, held, fuel, b, hb⟩
    · cases hx
theorem Opn.slice (ht : P.underlying t = some (.slice e)) (h : Opn P w t cs) :
    ∃ (A : Option Addr) (len cap : Nat), cs = [.slice A len cap] ∧ len ≤ cap ∧ cap ≤ maxLen ∧
      (0 < len → ∃ ad, A = some ad ∧ ∀ i, i < len → ∃ es : List Value, es.length = P.cellsOf e ∧ (∀ j u, es[j]? = some u → w.cell? ((ad.add (i * P.cellsOf e)).add j) = some u) ∧ Opn P w e es) := by
  obtain ⟨H, enc, base, sp, held, fuel, x, hx⟩ := h
  cases fuel with
  | zero => simp [DataW.trod] at hx
  | succ fuel =>
    unfold DataW.trod at hx
    simp only [ht] at hx
    split at hx
    all_goals first
      | (exfalso; simp_all; done)
      | skip
    · exact ⟨none, 0, 0, rfl, Nat.le_refl _, by unfold maxLen; omega, fun h => absurd h (by omega)⟩
    · rename_i heq
      obtain rfl : e = _ := by injection heq with h1; injection h1
      split at hx
      · rename_i hc
        rw [Option.bind_eq_some_iff] at hx
        obtain ⟨elems, he, _⟩ := hx
        refine ⟨_, _, _, rfl, hc.2.1, hc.2.2, fun _ => ⟨_, rfl, fun i hi => ?_⟩⟩
        obtain ⟨b, hb⟩ := mapM_some he i (List.mem_range.2 hi)
        rw [Option.bind_eq_some_iff] at hb
        obtain ⟨es, h1, h2⟩ := hb
        obtain ⟨_, hl, hcell⟩ := World.cells?_some h1
        exact ⟨es, hl, fun j u hj => by
          have hlt := (List.getElem?_eq_some_iff.1 hj).1
          rw [hcell j (by omega)]
          exact hj, H, enc, base, sp, held, fuel, b, h2⟩
      · cases hx
theorem Opn.strs (ht : P.underlying t = some (.slice e)) (he : P.underlying e = some .string) (hc : P.cellsOf e = 1) (h : Opn P w t cs) :
    ∃ (A : Option Addr) (cap : Nat) (l : List ByteArray), cs = [.slice A l.length cap] ∧ l.length ≤ cap ∧ cap ≤ maxLen ∧ Kd.C Kd.string w A l.length l := by
  obtain ⟨A, len, cap, rfl, h1, h2, h3⟩ := h.slice ht
  rcases Nat.eq_zero_or_pos len with h0 | h0
  · subst h0
    exact ⟨A, cap, [], rfl, h1, h2, Kd.C_of_reads (d := ByteArray.empty) (h1 := fun _ => rfl) ⟨rfl, by simp, fun h => absurd h (by simp)⟩⟩
  · obtain ⟨ad, rfl, hx⟩ := h3 h0
    have hx' : ∀ i, ∃ s : ByteArray, i < len → w.cell? (ad.add i) = some (.string s) := by
      intro i
      by_cases hi : i < len
      · obtain ⟨es, hl, hcell, ho⟩ := hx i hi
        obtain ⟨s, rfl, _⟩ := ho.str he
        refine ⟨s, fun _ => ?_⟩
        have := hcell 0 (.string s) rfl
        rw [hc, Nat.mul_one] at this
        simpa [Addr.add] using this
      · exact ⟨ByteArray.empty, fun h => absurd h hi⟩
    obtain ⟨f, hf⟩ := Classical.axiomOfChoice hx'
    refine ⟨some ad, cap, (List.range len).map f, by simp, by simpa using h1, h2, Kd.C_of_reads (d := ByteArray.empty) (h1 := fun _ => rfl) ⟨rfl, by simp; unfold maxLen at h2; omega, fun _ => ⟨ad, rfl, fun j hj => ?_⟩⟩⟩
    simp at hj
    rw [hf j hj]
    simp [List.getD, hj]
theorem Opn.field {fs : Array Field} (ht : P.underlying t = some (.struct fs)) (h : Opn P w t cs) (i : Nat) {f : Field} {b : Value} (hf : fs[i]? = some f) (hc : P.cellsOf f.type = 1) (hb : cs[f.offset]? = some b) : Opn P w f.type [b] := by
  have hm : f ∈ fs.toList := by
    obtain ⟨hi, rfl⟩ := Array.getElem?_eq_some_iff.1 hf
    exact Array.getElem_mem_toList hi
  have := (h.struct ht).2 f hm
  rw [hc] at this
  obtain ⟨hi, rfl⟩ := List.getElem?_eq_some_iff.1 hb
  rw [List.drop_eq_getElem_cons hi] at this
  exact this
end
theorem len3 {α : Type} {l : List α} (h : l.length = 3) : ∃ a b c, l = [a, b, c] := by
  match l, h with
  | [a, b, c], _ => exact ⟨a, b, c, rfl⟩
theorem len4 {α : Type} {l : List α} (h : l.length = 4) : ∃ a b c d, l = [a, b, c, d] := by
  match l, h with
  | [a, b, c, d], _ => exact ⟨a, b, c, d, rfl⟩
end Go.Proofs.Ytkfhekocbfednaa
namespace Go.Proofs.Ytkfhekocbfednaa
set_option linter.unusedVariables false
set_option linter.unusedSimpArgs false
open Go.RowKit Go.Proofs.YtkfhekocbfednaaW.PrintWords
section
variable {P : Program} {w : World} {t e : TypeId} {cs : List Value}
theorem Opn.nums {kd : IntKind} (ht : P.underlying t = some (.slice e)) (he : P.underlying e = some (.int kd)) (hc : P.cellsOf e = 1) (h : Opn P w t cs) :
    ∃ (A : Option Addr) (cap : Nat) (l : List Int), cs = [.slice A l.length cap] ∧ l.length ≤ cap ∧ cap ≤ maxLen ∧ Kd.C (Kd.int kd) w A l.length l ∧ ∀ n ∈ l, (Lit.int kd n).wf = true := by
  obtain ⟨A, len, cap, rfl, h1, h2, h3⟩ := h.slice ht
  rcases Nat.eq_zero_or_pos len with h0 | h0
  · subst h0
    exact ⟨A, cap, [], rfl, h1, h2, Kd.C_of_reads (d := (0 : Int)) (h1 := fun _ => rfl) ⟨rfl, by simp, fun h => absurd h (by simp)⟩, by simp⟩
  · obtain ⟨ad, rfl, hx⟩ := h3 h0
    have hx' : ∀ i, ∃ n : Int, i < len → w.cell? (ad.add i) = some (.int kd n) ∧ (Lit.int kd n).wf = true := by
      intro i
      by_cases hi : i < len
      · obtain ⟨es, hl, hcell, ho⟩ := hx i hi
        obtain ⟨n, rfl, hw⟩ := ho.int he
        refine ⟨n, fun _ => ⟨?_, hw⟩⟩
        have := hcell 0 (.int kd n) rfl
        rw [hc, Nat.mul_one] at this
        simpa [Addr.add] using this
      · exact ⟨0, fun h => absurd h hi⟩
    obtain ⟨f, hf⟩ := Classical.axiomOfChoice hx'
    refine ⟨some ad, cap, (List.range len).map f, by simp, by simpa using h1, h2, Kd.C_of_reads (d := (0 : Int)) (h1 := fun _ => rfl) ⟨rfl, by simp; unfold maxLen at h2; omega, fun _ => ⟨ad, rfl, fun j hj => ?_⟩⟩, ?_⟩
    · simp at hj
      rw [(hf j hj).1]
      simp [List.getD, hj]
    · intro n hn
      obtain ⟨i, hi, rfl⟩ := List.mem_map.1 hn
      exact (hf i (List.mem_range.1 hi)).2
end
end Go.Proofs.Ytkfhekocbfednaa
end
