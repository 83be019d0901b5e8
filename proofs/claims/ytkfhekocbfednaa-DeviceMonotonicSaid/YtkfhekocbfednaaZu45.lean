/- Part of the proof of deviceSeparate_holds, deviceAll_holds, deviceMonotonic_holds: what later parts use. -/
import Derived.Test.YtkfhekocbfednaaZu0
import Derived.Test.YtkfhekocbfednaaZu1
import Derived.Test.YtkfhekocbfednaaZu2
import Derived.Test.YtkfhekocbfednaaZu3
import Derived.Test.YtkfhekocbfednaaZu4
import Derived.Test.YtkfhekocbfednaaZu5
import Derived.Test.YtkfhekocbfednaaZu6
import Derived.Test.YtkfhekocbfednaaZu7
import Derived.Test.YtkfhekocbfednaaZu8
import Derived.Test.YtkfhekocbfednaaZu9
import Derived.Test.YtkfhekocbfednaaZu10
import Derived.Test.YtkfhekocbfednaaZu11
import Derived.Test.YtkfhekocbfednaaZu12
import Derived.Test.YtkfhekocbfednaaZu13
import Derived.Test.YtkfhekocbfednaaZu14
import Derived.Test.YtkfhekocbfednaaZu15
import Derived.Test.YtkfhekocbfednaaZu16
import Derived.Test.YtkfhekocbfednaaZu17
import Derived.Test.YtkfhekocbfednaaZu18
import Derived.Test.YtkfhekocbfednaaZu19
import Derived.Test.YtkfhekocbfednaaZu20
import Derived.Test.YtkfhekocbfednaaZu21
import Derived.Test.YtkfhekocbfednaaZu22
import Derived.Test.YtkfhekocbfednaaZu23
import Derived.Test.YtkfhekocbfednaaZu24
import Derived.Test.YtkfhekocbfednaaZu25
import Derived.Test.YtkfhekocbfednaaZu26
import Derived.Test.YtkfhekocbfednaaZu27
import Derived.Test.YtkfhekocbfednaaZu28
import Derived.Test.YtkfhekocbfednaaZu29
import Derived.Test.YtkfhekocbfednaaZu30
import Derived.Test.YtkfhekocbfednaaZu31
import Derived.Test.YtkfhekocbfednaaZu37
import Derived.Test.YtkfhekocbfednaaZu38
import Derived.Test.YtkfhekocbfednaaZu44
import Derived.Laws.StructEq
section
namespace Go.Proofs.Ytkfhekocbfednaa.Dv
set_option linter.unusedVariables false
set_option linter.unusedSimpArgs false
open Go.RowKit Go.Proofs.Ytkfhekocbfednaa Go.Proofs.YtkfhekocbfednaaW.PrintWords Go.Proofs.YtkfhekocbfednaaW.PrintLast Go.Proofs.YtkfhekocbfednaaW.PrintMore
open Go.Proofs.Ytkfhekocbfednaa.Fu Go.Proofs.Ytkfhekocbfednaa.Fl
def Up (c c' : Int) : Prop := c = c' ∨ (c ≤ 1 ∧ c < c' ∧ c' ≤ 2)
theorem Up.trans {a b c : Int} (h : Up a b) (k : Up b c) : Up a c := by unfold Up at *; omega
def UpR (xs ys : List Int) : Prop := ys.length = xs.length ∧ ∀ i, Up (xs.getD i 0) (ys.getD i 0)
theorem UpR.refl (xs : List Int) : UpR xs xs := ⟨rfl, fun _ => .inl rfl⟩
theorem UpR.trans {a b c : List Int} (h : UpR a b) (k : UpR b c) : UpR a c := ⟨k.1.trans h.1, fun i => (h.2 i).trans (k.2 i)⟩
def UpL (bk cl : List (List Int)) : Prop := cl.length = bk.length ∧ ∀ b, UpR (bk.getD b []) (cl.getD b [])
theorem UpL.refl (bk : List (List Int)) : UpL bk bk := ⟨rfl, fun _ => UpR.refl _⟩
theorem UpL.trans {a b c : List (List Int)} (h : UpL a b) (k : UpL b c) : UpL a c := ⟨k.1.trans h.1, fun i => (h.2 i).trans (k.2 i)⟩
theorem getD_set_self {α : Type} {l : List α} {i : Nat} {x z : α} (h : i < l.length) : (l.set i x).getD i z = x := by simp [List.getD, h]
theorem getD_set_ne {α : Type} {l : List α} {i j : Nat} {x z : α} (h : i ≠ j) : (l.set i x).getD j z = l.getD j z := by simp [List.getD, List.getElem?_set_ne h]
theorem up_fp {bk : List (List Int)} (h : OkBk bk) (b c : Int) (cut : Bool) : UpL bk (fpL bk b c cut) := by
  unfold fpL
  split
  · rename_i he
    have h1 := h.cell he
    obtain ⟨x1, x2, x3, x4⟩ := exists_facts he
    refine ⟨by simp [pulseL], fun i => ?_⟩
    unfold pulseL
    by_cases hi : b.toNat = i
    · subst hi
      rw [getD_set_self (by omega)]
      refine ⟨by simp [rowOf], fun j => ?_⟩
      by_cases hj : c.toNat = j
      · subst hj
        rw [getD_set_self (by omega)]
        show Up (rd (rowOf bk b) c) _
        unfold nextC Up
        split
        · exact .inl rfl
        · split <;> omega
      · rw [getD_set_ne hj]
        exact .inl rfl
    · rw [getD_set_ne hi]
      exact UpR.refl _
  · exact UpL.refl _
theorem up_do {bk : List (List Int)} (h : OkBk bk) (fl : List ByteArray) (kd bank cell : Int) (b : ByteArray) (cut : Bool) : UpL bk (doBk bk fl kd bank cell b cut) := by
  unfold doBk
  split
  · exact up_fp h _ _ _
  · exact UpL.refl _
theorem up_all (f : List Flt) : ∀ (ls : List Acc) (k : Nat) (bk : List (List Int)) (fl : List ByteArray) (out : List RR), OkBk bk → UpL bk (allR f ls k bk fl out).1
  | [], _, _, _, _, _ => UpL.refl _
  | a :: ls, k, bk, fl, out, h => by
    unfold allR
    split
    · split
      · exact up_do h _ _ _ _ _ _
      · exact (up_do h _ _ _ _ _ _).trans (up_all f ls (k + 1) _ _ _ (h.doBk _ _ _ _ _ _))
    · exact UpL.refl _
theorem up_readV {c c' : Int} (h : Up c c') : readV c false ≤ readV c' false := by
  unfold readV
  unfold Up at h
  split <;> split <;> simp_all <;> omega
theorem up_rv3 {xs ys : List Int} (h : UpR xs ys) (k : Nat) : rv3 xs k 3 ≤ rv3 ys k 3 := by
  have h0 := up_readV (h.2 (3 * k))
  have h1 := up_readV (h.2 (3 * k + 1))
  have h2 := up_readV (h.2 (3 * k + 2))
  unfold rv3
  simp only [show (0 < 3) = True by simp, show (1 < 3) = True by simp, show (2 < 3) = True by simp, if_true]
  omega
theorem lvl_ge (xs : List Int) : ∀ (q i : Nat), (i : Int) ≤ lvl xs q i
  | 0, i => Int.le_refl _
  | q + 1, i => by
    unfold lvl
    split
    · exact Int.le_refl _
    · have := lvl_ge xs q (i + 1)
      omega
theorem up_lvl {xs ys : List Int} (h : UpR xs ys) : ∀ (q i : Nat), lvl xs q i ≤ lvl ys q i
  | 0, i => Int.le_refl _
  | q + 1, i => by
    have h3 := up_rv3 h i
    have hx : lvl xs (q + 1) i = if rv3 xs i 3 * 2 ≤ 3 then (i : Int) else lvl xs q (i + 1) := rfl
    by_cases hc : rv3 xs i 3 * 2 ≤ 3
    · rw [hx, if_pos hc]
      exact lvl_ge ys (q + 1) i
    · have hy : lvl ys (q + 1) i = if rv3 ys i 3 * 2 ≤ 3 then (i : Int) else lvl ys q (i + 1) := rfl
      rw [hx, hy, if_neg hc, if_neg (by omega)]
      exact up_lvl h q (i + 1)
theorem up_least {xs ys : List Int} (h : UpR xs ys) : leastL xs ≤ leastL ys := by
  unfold leastL
  rw [h.1]
  exact up_lvl h _ _
end Go.Proofs.Ytkfhekocbfednaa.Dv
end
