/- Part of the proof of deviceTorn_holds: what later parts use. -/
import Derived.Test.YtkfhekocbfednaaZt0
import Derived.Test.YtkfhekocbfednaaZt1
import Derived.Test.YtkfhekocbfednaaZt2
import Derived.Test.YtkfhekocbfednaaZt3
import Derived.Test.YtkfhekocbfednaaZt4
import Derived.Test.YtkfhekocbfednaaZt5
import Derived.Test.YtkfhekocbfednaaZt6
import Derived.Test.YtkfhekocbfednaaZt7
import Derived.Test.YtkfhekocbfednaaZt8
import Derived.Test.YtkfhekocbfednaaZt9
import Derived.Test.YtkfhekocbfednaaZt10
import Derived.Test.YtkfhekocbfednaaZt11
import Derived.Test.YtkfhekocbfednaaZt12
import Derived.Test.YtkfhekocbfednaaZt13
import Derived.Test.YtkfhekocbfednaaZt14
import Derived.Test.YtkfhekocbfednaaZt15
import Derived.Test.YtkfhekocbfednaaZt16
import Derived.Test.YtkfhekocbfednaaZt17
import Derived.Test.YtkfhekocbfednaaZt18
import Derived.Test.YtkfhekocbfednaaZt19
import Derived.Test.YtkfhekocbfednaaZt20
import Derived.Test.YtkfhekocbfednaaZt21
import Derived.Test.YtkfhekocbfednaaZt22
import Derived.Test.YtkfhekocbfednaaZt23
import Derived.Test.YtkfhekocbfednaaZt24
import Derived.Test.YtkfhekocbfednaaZt28
import Derived.Laws.StructEq
section
namespace Go.Proofs.Ytkfhekocbfednaa.Dv
set_option linter.unusedVariables false
set_option linter.unusedSimpArgs false
open Go.RowKit Go.Proofs.Ytkfhekocbfednaa Go.Proofs.YtkfhekocbfednaaW.PrintWords Go.Proofs.YtkfhekocbfednaaW.PrintLast Go.Proofs.YtkfhekocbfednaaW.PrintMore
open Go.Proofs.Ytkfhekocbfednaa.Fu Go.Proofs.Ytkfhekocbfednaa.Fl
abbrev Acc := Int × Int × Int × ByteArray
abbrev Flt := Bool × Int × Bool
abbrev RR := Int × ByteArray
def accV (a : Acc) : Array Value := #[.int .i64 a.1, .int .i64 a.2.1, .int .i64 a.2.2.1, .string a.2.2.2]
def fltV (f : Flt) : Array Value := #[.bool f.1, .int .i64 f.2.1, .bool f.2.2]
def rrV (r : RR) : Array Value := #[.int .i64 r.1, .string r.2]
def rrK : Kd RR := Kd.pair (Kd.int .i64) Kd.string
theorem rrK_V (w : World) (x : RR) (cs : List Value) (h : rrK.K w x cs) : cs.toArray = rrV x := by
  obtain ⟨c0, c1, rfl, h0, h1⟩ := h
  obtain rfl : c0 = [.int .i64 x.1] := h0
  obtain rfl : c1 = [.string x.2] := h1
  rfl
def ftAt (f : List Flt) (k : Nat) : Flt := f.getD k (false, 0, false)
abbrev AllR := List (List Int) × List ByteArray × List RR × Int
def allR (f : List Flt) : List Acc → Nat → List (List Int) → List ByteArray → List RR → AllR
  | [], _, bk, fl, out => (bk, fl, out, 0)
  | a :: ls, k, bk, fl, out =>
    if doE bk fl a.1 a.2.1 a.2.2.1 a.2.2.2 = 0 then
      if (ftAt f k).1 = true then (doBk bk fl a.1 a.2.1 a.2.2.1 a.2.2.2 (ftAt f k).1, doFl bk fl a.1 a.2.1 a.2.2.1 a.2.2.2 (ftAt f k).1 (ftAt f k).2.1, out, 0)
      else allR f ls (k + 1) (doBk bk fl a.1 a.2.1 a.2.2.1 a.2.2.2 (ftAt f k).1) (doFl bk fl a.1 a.2.1 a.2.2.1 a.2.2.2 (ftAt f k).1 (ftAt f k).2.1)
        (out ++ [(doV bk fl a.1 a.2.1 a.2.2.1 a.2.2.2 (ftAt f k).1 (ftAt f k).2.2, doS bk fl a.1 a.2.1 a.2.2.1 a.2.2.2 (ftAt f k).1)])
    else (bk, fl, out, doE bk fl a.1 a.2.1 a.2.2.1 a.2.2.2)
theorem mem_set_of {α : Type} {l : List α} {i : Nat} {x y : α} (h : y ∈ l.set i x) : y ∈ l ∨ y = x := by
  rcases List.mem_or_eq_of_mem_set h with h | h
  · exact .inl h
  · exact .inr h
theorem _root_.Go.Proofs.Ytkfhekocbfednaa.Fu.OkBk.fp {bk : List (List Int)} (h : OkBk bk) (b c : Int) (cut : Bool) : OkBk (fpL bk b c cut) := by
  unfold fpL
  split
  · intro xs hx
    rcases mem_set_of hx with hx | rfl
    · exact h xs hx
    · refine ⟨by rw [List.length_set]; exact h.row b, fun y hy => ?_⟩
      rename_i he
      have h1 := h.cell he
      rcases mem_set_of hy with hy | rfl
      · have hb : b.toNat < bk.length := by have := exists_facts he; omega
        have hr : rowOf bk b = bk[b.toNat] := by simp [rowOf, List.getD, hb]
        rw [hr] at hy
        exact (h _ (List.getElem_mem hb)).2 y hy
      · unfold nextC
        split
        · exact h1
        · split <;> omega
  · exact h
theorem _root_.Go.Proofs.Ytkfhekocbfednaa.Fu.OkBk.doBk {bk : List (List Int)} (h : OkBk bk) (fl : List ByteArray) (kd bank cell : Int) (b : ByteArray) (cut : Bool) : OkBk (doBk bk fl kd bank cell b cut) := by
  unfold Dv.doBk
  split
  · exact h.fp _ _ _
  · exact h
theorem merge_size {b old : ByteArray} {cut : Int} (hb : b.size ≤ 300) (ho : old.size ≤ 300) : (mergeB b old cut).size ≤ 300 := by
  unfold mergeB
  split
  · exact hb
  · split
    · exact hb
    · simp only [ByteArray.size_append, ByteArray.size_extract]
      omega
theorem _root_.Go.Proofs.Ytkfhekocbfednaa.Fl.OkFl.wr {fl : List ByteArray} (h : OkFl fl) (i : Int) (b : ByteArray) (cut : Int) : OkFl (wrL fl i b cut) := by
  unfold wrL
  split
  · rename_i hi
    refine ⟨by rw [writeL_len]; exact h.1, fun s hs => ?_⟩
    rcases mem_set_of hs with hs | rfl
    · exact h.2 s hs
    · exact merge_size (by omega) (h.rd i hi.1 hi.2.1)
  · exact h
theorem _root_.Go.Proofs.Ytkfhekocbfednaa.Fl.OkFl.doFl {fl : List ByteArray} (h : OkFl fl) (bk : List (List Int)) (kd bank cell : Int) (b : ByteArray) (cut : Bool) (fb : Int) : OkFl (doFl bk fl kd bank cell b cut fb) := by
  unfold Dv.doFl
  split
  · exact h.wr _ _ _
  · exact h
def AllRes (S : Nat → Prop) (n m : Nat) (r : Nat → Int) (R : AllR) (w : World) (e : Ending) (w' : World) : Prop :=
  ∃ A c hs B d C cc, e = .returned (.tuple #[.agg (hwC (.slice A n c) (.slice B m d) r), .slice C R.2.2.1.length cc, .int .i64 R.2.2.2]) ∧ Back S w w' (fun w => (Fu w A n c hs R.1 ∧ Fl w B m d R.2.1) ∧ RowsOf rrV 2 w C R.2.2.1)
end Go.Proofs.Ytkfhekocbfednaa.Dv
end
