/- Part of the proof of deviceSeparate_holds, deviceAll_holds, deviceMonotonic_holds: what later parts use. -/
import Derived.Test.YtkfhekocbfednaaZu0
import Derived.Test.YtkfhekocbfednaaZu1
import Derived.Test.YtkfhekocbfednaaZu2
import Derived.Test.YtkfhekocbfednaaZu3
import Derived.Test.YtkfhekocbfednaaZu4
import Derived.Test.YtkfhekocbfednaaZu5
import Derived.Test.YtkfhekocbfednaaZu6
import Derived.Test.YtkfhekocbfednaaZu7
import Derived.Test.YtkfhekocbfednaaZu8
import Derived.Test.YtkfhekocbfednaaZu9
import Derived.Test.YtkfhekocbfednaaZu10
import Derived.Test.YtkfhekocbfednaaZu11
import Derived.Test.YtkfhekocbfednaaZu12
import Derived.Test.YtkfhekocbfednaaZu13
import Derived.Test.YtkfhekocbfednaaZu14
import Derived.Test.YtkfhekocbfednaaZu15
import Derived.Test.YtkfhekocbfednaaZu16
import Derived.Test.YtkfhekocbfednaaZu17
import Derived.Test.YtkfhekocbfednaaZu18
import Derived.Test.YtkfhekocbfednaaZu19
import Derived.Test.YtkfhekocbfednaaZu20
import Derived.Test.YtkfhekocbfednaaZu21
import Derived.Test.YtkfhekocbfednaaZu22
import Derived.Test.YtkfhekocbfednaaZu23
import Derived.Test.YtkfhekocbfednaaZu24
import Derived.Test.YtkfhekocbfednaaZu25
import Derived.Test.YtkfhekocbfednaaZu26
import Derived.Test.YtkfhekocbfednaaZu27
import Derived.Test.YtkfhekocbfednaaZu28
import Derived.Test.YtkfhekocbfednaaZu29
import Derived.Test.YtkfhekocbfednaaZu30
import Derived.Test.YtkfhekocbfednaaZu31
import Derived.Test.YtkfhekocbfednaaZu32
import Derived.Laws.StructEq
section
namespace Go.Proofs.Ytkfhekocbfednaa.Dv
set_option linter.unusedVariables false
set_option linter.unusedSimpArgs false
open Go.RowKit Go.Proofs.Ytkfhekocbfednaa Go.Proofs.YtkfhekocbfednaaW.PrintWords Go.Proofs.YtkfhekocbfednaaW.PrintLast Go.Proofs.YtkfhekocbfednaaW.PrintMore
open Go.Proofs.Ytkfhekocbfednaa.Fu Go.Proofs.Ytkfhekocbfednaa.Fl Go.Proofs.Ytkfhekocbfednaa.PDeviceMatches
attribute [local go_sem] max2_max min2_min max_two min_two
theorem rdo_at {A : Option Addr} {n d : Nat} {hs : List Hdr} {bk : List (List Int)} {B : Option Addr} {m c : Nat} {fl : List ByteArray} {w : World} {S : Nat → Prop} {r : Nat → Int} (kd bank cell : Int) (b : ByteArray) (cut : Bool) (fb : Int) (noise : Bool) (bk' : List (List Int)) (fl' : List ByteArray) (v : Int) (s : ByteArray) (q : Int)
    (hd : ∀ k, S k → k < w.heap.size) (hF : Sure S w (fun w => Fu w A n d hs bk)) (hL : Sure S w (fun w => Fl w B m c fl)) (hn : n ≤ 1000) (hb : OkBk bk) (hf : OkFl fl)
    (e1 : doBk bk fl kd bank cell b cut = bk') (e2 : doFl bk fl kd bank cell b cut fb = fl') (e3 : doV bk fl kd bank cell b cut noise = v) (e4 : doS bk fl kd bank cell b cut = s) (e5 : doE bk fl kd bank cell b = q) :
    Calls Try.prog 11 #[.agg (hwC (.slice A n d) (.slice B m c) r), .agg #[.int .i64 kd, .int .i64 bank, .int .i64 cell, .string b], .agg #[.bool cut, .int .i64 fb, .bool noise]] w (DoRes S n m r bk' fl' v s q w) := by
  subst e1 e2 e3 e4 e5
  exact rdo_any kd bank cell b cut fb noise hd hF hL hn hb hf
theorem rootEq_refl (r : Nat → Int) : rootEq r r = true := by simp [rootEq]
theorem sameH_refl (r : Nat → Int) (fl : List ByteArray) (bk : List (List Int)) : sameH r r fl fl bk bk = true := by
  unfold sameH sameB
  rw [rootEq_refl, decide_eq_true rfl, decide_eq_true rfl]; rfl
section
variable {A : Option Addr} {n d : Nat} {hs : List Hdr} {bk : List (List Int)} {B : Option Addr} {m c : Nat} {fl : List ByteArray} {A' : Option Addr} {n' d' : Nat} {gs : List Hdr} {cl : List (List Int)} {B' : Option Addr} {m' c' : Nat} {gl : List ByteArray} {w : World} {r s : Nat → Int}
theorem dsame_q (q : Bool) (h1 : Fu w A n d hs bk) (h2 : Fl w B m c fl) (h3 : Fu w A' n' d' gs cl) (h4 : Fl w B' m' c' gl) (e : sameH r s fl gl bk cl = q) :
    Calls Try.prog 15 #[.agg (hwC (.slice A n d) (.slice B m c) r), .agg (hwC (.slice A' n' d') (.slice B' m' c') s)] w fun e w' => e = .returned (.bool q) ∧ Below w.heap.size w w' := by rw [← e]; exact dsame_any h1 h2 h3 h4
theorem rsame_q (q : Bool) (h1 : Fu w A n d hs bk) (h2 : Fl w B m c fl) (h3 : Fu w A' n' d' gs cl) (h4 : Fl w B' m' c' gl) (e : sameH r s fl gl bk cl = q) :
    Calls Try.prog 14 #[.agg (hwC (.slice A n d) (.slice B m c) r), .agg (hwC (.slice A' n' d') (.slice B' m' c') s)] w fun e w' => e = .returned (.bool q) ∧ Below w.heap.size w w' := by rw [← e]; exact rsame_any h1 h2 h3 h4
end
end Go.Proofs.Ytkfhekocbfednaa.Dv
end
