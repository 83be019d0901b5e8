/- Part of the proof of deviceTorn_holds: what later parts use. -/
import Derived.Test.YtkfhekocbfednaaZt0
import Derived.Test.YtkfhekocbfednaaZt1
import Derived.Test.YtkfhekocbfednaaZt2
import Derived.Test.YtkfhekocbfednaaZt3
import Derived.Test.YtkfhekocbfednaaZt4
import Derived.Test.YtkfhekocbfednaaZt5
import Derived.Test.YtkfhekocbfednaaZt6
import Derived.Test.YtkfhekocbfednaaZt7
import Derived.Test.YtkfhekocbfednaaZt8
import Derived.Test.YtkfhekocbfednaaZt9
import Derived.Test.YtkfhekocbfednaaZt10
import Derived.Test.YtkfhekocbfednaaZt11
import Derived.Test.YtkfhekocbfednaaZt12
import Derived.Test.YtkfhekocbfednaaZt13
import Derived.Test.YtkfhekocbfednaaZt14
import Derived.Test.YtkfhekocbfednaaZt15
import Derived.Test.YtkfhekocbfednaaZt16
import Derived.Test.YtkfhekocbfednaaZt17
import Derived.Test.YtkfhekocbfednaaZt18
import Derived.Test.YtkfhekocbfednaaZt19
import Derived.Test.YtkfhekocbfednaaZt20
import Derived.Test.YtkfhekocbfednaaZt21
import Derived.Test.YtkfhekocbfednaaZt22
import Derived.Test.YtkfhekocbfednaaZt23
import Derived.Test.YtkfhekocbfednaaZt24
import Derived.Test.YtkfhekocbfednaaZt25
import Derived.Test.YtkfhekocbfednaaZt26
import Derived.Test.YtkfhekocbfednaaZt27
import Derived.Test.YtkfhekocbfednaaZt28
import Derived.Test.YtkfhekocbfednaaZt29
import Derived.Test.YtkfhekocbfednaaZt30
import Derived.Laws.StructEq
section
namespace Go.Proofs.Ytkfhekocbfednaa.Dv
set_option linter.unusedVariables false
set_option linter.unusedSimpArgs false
open Go.RowKit Go.Proofs.Ytkfhekocbfednaa Go.Proofs.YtkfhekocbfednaaW.PrintWords Go.Proofs.YtkfhekocbfednaaW.PrintLast Go.Proofs.YtkfhekocbfednaaW.PrintMore
open Go.Proofs.Ytkfhekocbfednaa.Fu Go.Proofs.Ytkfhekocbfednaa.Fl
structure Sb where
  g3 : Nat
  g4 : Nat
  A : Option Addr
  c : Nat
  hs : List Hdr
  B : Option Addr
  d : Nat
  z : Nat
  z' : Nat
end Go.Proofs.Ytkfhekocbfednaa.Dv
end
