/- Part of the proof of deviceTorn_holds: what later parts use. -/
import Derived.Test.YtkfhekocbfednaaZt0
import Derived.Test.YtkfhekocbfednaaZt1
import Derived.Test.YtkfhekocbfednaaZt2
import Derived.Test.YtkfhekocbfednaaZt3
import Derived.Test.YtkfhekocbfednaaZt4
import Derived.Test.YtkfhekocbfednaaZt5
import Derived.Test.YtkfhekocbfednaaZt6
import Derived.Test.YtkfhekocbfednaaZt7
import Derived.Test.YtkfhekocbfednaaZt8
import Derived.Test.YtkfhekocbfednaaZt12
import Derived.Test.YtkfhekocbfednaaZt13
import Derived.Test.YtkfhekocbfednaaZt14
import Derived.Test.YtkfhekocbfednaaZt17
import Derived.Test.YtkfhekocbfednaaZt18
import Derived.Test.YtkfhekocbfednaaZt19
import Derived.Laws.StructEq
section
namespace Go.Proofs.Ytkfhekocbfednaa.Fl
set_option linter.unusedVariables false
set_option linter.unusedSimpArgs false
open Go.RowKit Go.Proofs.Ytkfhekocbfednaa Go.Proofs.YtkfhekocbfednaaW.PrintWords Go.Proofs.YtkfhekocbfednaaW.PrintLast Go.Proofs.YtkfhekocbfednaaW.PrintMore
open Go.Proofs.Ytkfhekocbfednaa.PDeviceMatches
structure Fl (w : World) (A : Option Addr) (n c : Nat) (l : List ByteArray) : Prop where
  C : Kd.C Kd.string w A n l
  cap : n ≤ c
theorem Fl.len {w : World} {A : Option Addr} {n c : Nat} {l : List ByteArray} (h : Fl w A n c l) : l.length = n := h.C.1
theorem Fl.max {w : World} {A : Option Addr} {n c : Nat} {l : List ByteArray} (h : Fl w A n c l) : n ≤ 9223372036854775807 := h.C.2.1
theorem Fl.below {w w1 : World} {A : Option Addr} {n c : Nat} {l : List ByteArray} (h : Fl w A n c l) (hb : Below w.heap.size w w1) : Fl w1 A n c l := ⟨Kd.C_below h.C hb, h.cap⟩
def FlS (S : Nat → Prop) (r : List ByteArray) (n : Nat) (code : Int) (w : World) (e : Ending) (w' : World) : Prop :=
  ∃ A c, e = .returned (.tuple #[.agg #[.slice A n c], .int .i64 code]) ∧ Back S w w' (fun w => Fl w A n c r)
theorem FlashRes.toS {S : Nat → Prop} {r : List ByteArray} {n : Nat} {code : Int} {w : World} {e : Ending} {w' : World} (h : FlashRes S r code w e w') (hn : r.length = n) : FlS S r n code w e w' := by
  subst hn
  obtain ⟨A, c, h1, h2, h3⟩ := h
  exact ⟨A, c, h1, h3.imp fun w hC => ⟨hC, h2⟩⟩
def newL (z : Int) : List ByteArray := if z < 0 ∨ 128 < z then [] else List.replicate z.toNat zeroSector
def newE (z : Int) : Int := if z < 0 ∨ 128 < z then 1 else 0
theorem new_any (S : Nat → Prop) (z : Int) (w : World) : Calls Try.prog 28 #[.int .i64 z] w (FlS S (newL z) (newL z).length (newE z) w) := by
  unfold newL newE
  split
  · rename_i h
    exact (new_bad S z w h).mono fun e w' h => h.toS rfl
  · rename_i h
    have e : z = ((z.toNat : Nat) : Int) := by omega
    have := new_ok S z.toNat w (by omega)
    rw [← e] at this
    exact this.mono fun e w' h => h.toS rfl
def rdS (l : List ByteArray) (i : Int) : ByteArray := if 0 ≤ i ∧ i < (l.length : Int) then rdOf ByteArray.empty l i else ⟨#[]⟩
def rdE (l : List ByteArray) (i : Int) : Int := if 0 ≤ i ∧ i < (l.length : Int) then 0 else 13
theorem read_any {A : Option Addr} {n c : Nat} {l : List ByteArray} {w : World} (i : Int) (h : Fl w A n c l) :
    Calls Try.prog 45 #[.agg #[.slice A n c], .int .i64 i] w fun e w' => e = .returned (.tuple #[.string (rdS l i), .int .i64 (rdE l i)]) ∧ Below w.heap.size w w' := by
  obtain ⟨hC, hc⟩ := h
  obtain rfl := hC.1
  unfold rdS rdE
  split
  · exact read_yes A l c i w hC (by omega) (by omega)
  · exact read_no A l c i w hC (by omega)
def wrL (l : List ByteArray) (i : Int) (b : ByteArray) (cut : Int) : List ByteArray := if 0 ≤ i ∧ i < (l.length : Int) ∧ b.size = 256 then writeL l i b cut else l
def wrE (l : List ByteArray) (i : Int) (b : ByteArray) : Int := if i < 0 ∨ (l.length : Int) ≤ i then 13 else if b.size = 256 then 0 else 1
def OkFl (l : List ByteArray) : Prop := l.length ≤ 1000 ∧ ∀ s ∈ l, s.size ≤ 300
theorem OkFl.rd {l : List ByteArray} (h : OkFl l) (i : Int) (h0 : 0 ≤ i) (h1 : i < (l.length : Int)) : (rdOf ByteArray.empty l i).size ≤ 300 := by
  have hl : i.toNat < l.length := by omega
  have := h.2 l[i.toNat] (List.getElem_mem hl)
  simpa [rdOf, List.getD, hl] using this
theorem writeL_len (l : List ByteArray) (i : Int) (b : ByteArray) (cut : Int) : (writeL l i b cut).length = l.length := by simp [writeL]
theorem wrL_len (l : List ByteArray) (i : Int) (b : ByteArray) (cut : Int) : (wrL l i b cut).length = l.length := by unfold wrL; split; exact writeL_len l i b cut; rfl
theorem write_any {A : Option Addr} {n c : Nat} {l : List ByteArray} {w : World} {S : Nat → Prop} (i : Int) (b : ByteArray) (cut : Int) (hd : ∀ k, S k → k < w.heap.size) (h : Sure S w (fun w => Fl w A n c l)) (hs : OkFl l) :
    Calls Try.prog 48 #[.agg #[.slice A n c], .int .i64 i, .string b, .int .i64 cut] w (FlS S (wrL l i b cut) n (wrE l i b) w) := by
  obtain ⟨hC, hc⟩ := h.here
  obtain rfl := hC.1
  have hS : Sure S w (fun w => Kd.C Kd.string w A l.length l) := h.imp fun w h => h.C
  unfold wrL wrE
  by_cases h0 : i < 0 ∨ (l.length : Int) ≤ i
  · rw [if_pos h0, if_neg (by omega)]
    exact (write_none A l c i b cut w hd hS hc h0).mono fun _ _ h => h.toS rfl
  · rw [if_neg h0]
    by_cases hb : b.size = 256
    · rw [if_pos hb, if_pos (by omega)]
      exact (write_ok A l c i b cut w hd hS hc (by omega) (by omega) (by omega) (by have := hs.rd i (by omega) (by omega); omega) (by have := hs.1; omega)).mono fun _ _ h => h.toS (writeL_len _ _ _ _)
    · rw [if_neg hb, if_neg (by omega)]
      exact (write_arg A l c i b cut w hd hS hc (by omega) (by omega) (by omega)).mono fun _ _ h => h.toS rfl
theorem merge_le {b old : ByteArray} {cut : Int} (hb : b.size = 256) (ho : old.size ≤ 300) : (mergeB b old cut).size ≤ 300 := by
  unfold mergeB
  split
  · omega
  · split
    · omega
    · rw [ByteArray.size_append, ByteArray.size_extract, ByteArray.size_extract]; omega
theorem OkFl.wrL {l : List ByteArray} (h : OkFl l) (i : Int) (b : ByteArray) (cut : Int) : OkFl (wrL l i b cut) := by
  refine ⟨by rw [wrL_len]; exact h.1, fun s hs => ?_⟩
  unfold Fl.wrL at hs
  split at hs
  · rename_i hc
    unfold writeL at hs
    rcases List.mem_or_eq_of_mem_set hs with hs | rfl
    · exact h.2 s hs
    · exact merge_le hc.2.2 (h.rd i hc.1 hc.2.1)
  · exact h.2 s hs
theorem same_any' {A B : Option Addr} {n c m d : Nat} {l q : List ByteArray} {w : World} (h : Fl w A n c l) (h' : Fl w B m d q) :
    Calls Try.prog 32 #[.agg #[.slice A n c], .agg #[.slice B m d]] w fun e w' => e = .returned (.bool (sameB l q)) ∧ Below w.heap.size w w' := by
  obtain ⟨hC, hc⟩ := h
  obtain ⟨hC', hc'⟩ := h'
  obtain rfl := hC.1
  obtain rfl := hC'.1
  exact same_any A B l q c d w hC hC'
end Go.Proofs.Ytkfhekocbfednaa.Fl
end
