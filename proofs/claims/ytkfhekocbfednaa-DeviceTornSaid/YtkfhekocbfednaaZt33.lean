/- Part of the proof of deviceTorn_holds: what later parts use. -/
import Derived.Test.YtkfhekocbfednaaZt0
import Derived.Test.YtkfhekocbfednaaZt1
import Derived.Test.YtkfhekocbfednaaZt2
import Derived.Test.YtkfhekocbfednaaZt3
import Derived.Test.YtkfhekocbfednaaZt4
import Derived.Test.YtkfhekocbfednaaZt5
import Derived.Test.YtkfhekocbfednaaZt6
import Derived.Test.YtkfhekocbfednaaZt7
import Derived.Test.YtkfhekocbfednaaZt8
import Derived.Test.YtkfhekocbfednaaZt9
import Derived.Test.YtkfhekocbfednaaZt10
import Derived.Test.YtkfhekocbfednaaZt11
import Derived.Test.YtkfhekocbfednaaZt12
import Derived.Test.YtkfhekocbfednaaZt13
import Derived.Test.YtkfhekocbfednaaZt14
import Derived.Test.YtkfhekocbfednaaZt15
import Derived.Test.YtkfhekocbfednaaZt16
import Derived.Test.YtkfhekocbfednaaZt17
import Derived.Test.YtkfhekocbfednaaZt18
import Derived.Test.YtkfhekocbfednaaZt19
import Derived.Test.YtkfhekocbfednaaZt20
import Derived.Test.YtkfhekocbfednaaZt21
import Derived.Test.YtkfhekocbfednaaZt22
import Derived.Test.YtkfhekocbfednaaZt23
import Derived.Test.YtkfhekocbfednaaZt24
import Derived.Test.YtkfhekocbfednaaZt25
import Derived.Test.YtkfhekocbfednaaZt26
import Derived.Test.YtkfhekocbfednaaZt27
import Derived.Test.YtkfhekocbfednaaZt28
import Derived.Test.YtkfhekocbfednaaZt29
import Derived.Test.YtkfhekocbfednaaZt30
import Derived.Test.YtkfhekocbfednaaZt31
import Derived.Test.YtkfhekocbfednaaZt32
import Derived.Laws.StructEq
section
namespace Go.Proofs.Ytkfhekocbfednaa.Dv
set_option linter.unusedVariables false
set_option linter.unusedSimpArgs false
open Go.RowKit Go.Proofs.Ytkfhekocbfednaa Go.Proofs.YtkfhekocbfednaaW.PrintWords Go.Proofs.YtkfhekocbfednaaW.PrintLast Go.Proofs.YtkfhekocbfednaaW.PrintMore
open Go.Proofs.Ytkfhekocbfednaa.Fu Go.Proofs.Ytkfhekocbfednaa.Fl
theorem dall_at {A : Option Addr} {n c : Nat} {hs : List Hdr} {bk : List (List Int)} {B : Option Addr} {m d : Nat} {fl : List ByteArray} {w : World} {S0 : Nat → Prop} (r : Nat → Int) {C : Option Addr} {cc : Nat} {l : List Acc} {C' : Option Addr} {cc' : Nat} {f : List Flt} {nl nf : Nat}
    (hd : ∀ k, S0 k → k < w.heap.size) (hF : Sure S0 w (fun w => Fu w A n c hs bk ∧ Fl w B m d fl)) (hl : RowsOf accV 4 w C l) (hf : RowsOf fltV 3 w C' f) (hn : n ≤ 1000) (hbk : OkBk bk) (hfl : OkFl fl) (hlen : l.length ≤ 1000) (hnl : l.length = nl) (hnf : f.length = nf)
    {bk1 : List (List Int)} {fl1 : List ByteArray} {out1 : List RR} {q1 : Int} (hR : allR f l 0 bk fl [] = (bk1, fl1, out1, q1)) {no : Nat} (ho : out1.length = no) :
    Calls Try.prog 16 #[.agg (hwC (.slice A n c) (.slice B m d) r), .slice C nl cc, .slice C' nf cc'] w fun e w' => ∃ A c hs B d C cc, e = .returned (.tuple #[.agg (hwC (.slice A n c) (.slice B m d) r), .slice C no cc, .int .i64 q1]) ∧ Back S0 w w' (fun w => (Fu w A n c hs bk1 ∧ Fl w B m d fl1) ∧ RowsOf rrV 2 w C out1) := by
  subst ho
  exact dall_any r hd hF hl hf hn hbk hfl hlen hnl hnf hR
open Go.Proofs.Ytkfhekocbfednaa.PDeviceMatches
end Go.Proofs.Ytkfhekocbfednaa.Dv
end
