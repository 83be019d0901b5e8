/- Openings: a slice of whole numbers reads as a list. -/
import Derived.Test.YtangjehadkpecaaOpen
namespace Go.Proofs.Ytangjehadkpecaa
set_option linter.unusedVariables false
set_option linter.unusedSimpArgs false
open Go.RowKit Go.Proofs.YtangjehadkpecaaW.PrintWords
section
variable {P : Program} {w : World} {t e : TypeId} {cs : List Value}
theorem Opn.nums {kd : IntKind} (ht : P.underlying t = some (.slice e)) (he : P.underlying e = some (.int kd)) (hc : P.cellsOf e = 1) (h : Opn P w t cs) :
    ∃ (A : Option Addr) (cap : Nat) (l : List Int), cs = [.slice A l.length cap] ∧ l.length ≤ cap ∧ cap ≤ maxLen ∧ Kd.C (Kd.int kd) w A l.length l ∧ ∀ n ∈ l, (Lit.int kd n).wf = true := by
  obtain ⟨A, len, cap, rfl, h1, h2, h3⟩ := h.slice ht
  rcases Nat.eq_zero_or_pos len with h0 | h0
  · subst h0
    exact ⟨A, cap, [], rfl, h1, h2, Kd.C_of_reads (d := (0 : Int)) (h1 := fun _ => rfl) ⟨rfl, by simp, fun h => absurd h (by simp)⟩, by simp⟩
  · obtain ⟨ad, rfl, hx⟩ := h3 h0
    have hx' : ∀ i, ∃ n : Int, i < len → w.cell? (ad.add i) = some (.int kd n) ∧ (Lit.int kd n).wf = true := by
      intro i
      by_cases hi : i < len
      · obtain ⟨es, hl, hcell, ho⟩ := hx i hi
        obtain ⟨n, rfl, hw⟩ := ho.int he
        refine ⟨n, fun _ => ⟨?_, hw⟩⟩
        have := hcell 0 (.int kd n) rfl
        rw [hc, Nat.mul_one] at this
        simpa [Addr.add] using this
      · exact ⟨0, fun h => absurd h hi⟩
    obtain ⟨f, hf⟩ := Classical.axiomOfChoice hx'
    refine ⟨some ad, cap, (List.range len).map f, by simp, by simpa using h1, h2, Kd.C_of_reads (d := (0 : Int)) (h1 := fun _ => rfl) ⟨rfl, by simp; unfold maxLen at h2; omega, fun _ => ⟨ad, rfl, fun j hj => ?_⟩⟩, ?_⟩
    · simp at hj
      rw [(hf j hj).1]
      simp [List.getD, hj]
    · intro n hn
      obtain ⟨i, hi, rfl⟩ := List.mem_map.1 hn
      exact (hf i (List.mem_range.1 hi)).2
end
end Go.Proofs.Ytangjehadkpecaa
