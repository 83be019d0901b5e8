/- Part of the proof of deviceTorn_holds: a row. -/
import Derived.Test.YtkfhekocbfednaaZt0
import Derived.Test.YtkfhekocbfednaaZt1
import Derived.Test.YtkfhekocbfednaaZt2
import Derived.Test.YtkfhekocbfednaaZt3
import Derived.Test.YtkfhekocbfednaaZt4
import Derived.Test.YtkfhekocbfednaaZt5
import Derived.Test.YtkfhekocbfednaaZt6
import Derived.Test.YtkfhekocbfednaaZt7
import Derived.Test.YtkfhekocbfednaaZt8
import Derived.Test.YtkfhekocbfednaaZt9
import Derived.Test.YtkfhekocbfednaaZt10
import Derived.Test.YtkfhekocbfednaaZt11
import Derived.Test.YtkfhekocbfednaaZt12
import Derived.Test.YtkfhekocbfednaaZt13
import Derived.Test.YtkfhekocbfednaaZt14
import Derived.Test.YtkfhekocbfednaaZt15
import Derived.Test.YtkfhekocbfednaaZt16
import Derived.Test.YtkfhekocbfednaaZt17
import Derived.Test.YtkfhekocbfednaaZt18
import Derived.Test.YtkfhekocbfednaaZt19
import Derived.Test.YtkfhekocbfednaaZt20
import Derived.Test.YtkfhekocbfednaaZt21
import Derived.Test.YtkfhekocbfednaaZt22
import Derived.Test.YtkfhekocbfednaaZt23
import Derived.Test.YtkfhekocbfednaaZt24
import Derived.Test.YtkfhekocbfednaaZt25
import Derived.Test.YtkfhekocbfednaaZt26
import Derived.Test.YtkfhekocbfednaaZt27
import Derived.Test.YtkfhekocbfednaaZt28
import Derived.Test.YtkfhekocbfednaaZt29
import Derived.Test.YtkfhekocbfednaaZt30
import Derived.Test.YtkfhekocbfednaaZt31
import Derived.Test.YtkfhekocbfednaaZt32
import Derived.Test.YtkfhekocbfednaaZt33
import Derived.Test.YtkfhekocbfednaaZt34
import Derived.Test.YtkfhekocbfednaaZt35
import Derived.Test.YtkfhekocbfednaaZt36
import Derived.Test.YtkfhekocbfednaaRows
import Derived.WalkKit
import Derived.ProofKit
import Derived.OpenShut
import Derived.ShutString
import Derived.ChangeOld
import Derived.Below
import Derived.SizedLaws
import Derived.Carry
import Derived.Laws.StructEq
section
namespace Go.Proofs.Ytkfhekocbfednaa.deviceTorn
set_option linter.unusedVariables false
set_option linter.unusedSimpArgs false
open Go.ChangeShapes Go.WideShapes Go.ChangeAt Go.RowKit Go.Proofs.Ytkfhekocbfednaa Go.Proofs.Ytkfhekocbfednaa.Fu Go.Proofs.Ytkfhekocbfednaa.Fl Go.Proofs.Ytkfhekocbfednaa.Dv
set_option linter.unusedVariables false
theorem own : ownKnob Try.prog.godebug = none := by kernel_rfl
theorem laidOut : laidOutB Try.prog = true := by kernel_rfl
set_option maxRecDepth 100000 in
theorem lifted (os : Os) (started : os.Started) (H : Type) (enc : TypeId × Value → H) :
    ReturnsInHanded {} Try.checked os 6 .any (Rows.deviceTornSpec.pre6 enc Try.prog Try.f6 Rows.deviceTornRow.domain false) (Rows.deviceTornSpec.post enc Try.prog Try.f6 false true false false) := by
  refine returnsInHanded_of_change_sized (C := Try.checked) own started (by kernel_rfl) Try.func6
    (ChangeSpec.witness6 (enc := enc) (C := Try.checked) false ⟨#[], #[.slice none 0 0, .slice none 0 0, .int .u8 0, .agg #[.bool false, .int .i64 0, .bool false]], []⟩ 8 (by kernel_rfl) (by kernel_rfl) (by kernel_rfl) (by kernel_rfl)) ?_
  intro W base args ds gs before hval0 hW hcnd hsz0 _
  have hval : ∀ (j : Nat) t v, Try.f6.params[j]? = some t → args[j]? = some v → Value.okWide Try.prog W .any base t v := hval0
  have hW' := hW
  obtain ⟨p, q, hA0, hV, rfl, hfz, hnd⟩ := hW
  have hA : DataW.TrodAll enc Try.prog W 0 (fun _ => true) true Try.f6.params.toList args.toList ds p := hA0
  rw [Try.params6] at hA hval
  obtain ⟨v1, vs1, d1, ds1, p1, q1, hargs1, rfl, rfl, k1, r1⟩ := trodAll_cons hA
  obtain ⟨v2, vs2, d2, ds2, p2, q2, hargs2, rfl, rfl, k2, r2⟩ := trodAll_cons r1
  obtain ⟨v3, vs3, d3, ds3, p3, q3, hargs3, rfl, rfl, k3, r3⟩ := trodAll_cons r2
  obtain ⟨v4, vs4, d4, ds4, p4, q4, hargs4, rfl, rfl, k4, r4⟩ := trodAll_cons r3
  obtain ⟨rfl, rfl, rfl⟩ := trodAll_nil r4
  subst hargs4
  subst hargs3
  subst hargs2
  obtain rfl : args = #[v1, v2, v3, v4] := by cases args; simp_all
  obtain ⟨rfl, rfl⟩ := trodVars_none hV
  have lt1 : ∀ x ∈ p1, x.block < W.heap.size := by obtain ⟨m, hm⟩ := k1; exact DataW.trod_lt m _ _ _ hm
  obtain ⟨a1, l1, c1, e1⟩ := okWide_slice Try.underlying56 (hval 0 56 v1 rfl rfl)
  subst e1
  have g1 : Opn Try.prog W 56 [.slice a1 l1 c1] := by
    obtain ⟨m, hm⟩ := k1
    exact ⟨_, _, _, _, _, m, _, hm⟩
  obtain ⟨C1, cb1, bits1, e1, hle1, hcap1, hC1, hw1⟩ := g1.nums Try.underlying56 Try.underlying5 (by kernel_rfl)
  obtain ⟨rfl, rfl, rfl⟩ : a1 = C1 ∧ l1 = bits1.length ∧ c1 = cb1 := by simpa using e1
  have lt2 : ∀ x ∈ p2, x.block < W.heap.size := by obtain ⟨m, hm⟩ := k2; exact DataW.trod_lt m _ _ _ hm
  obtain ⟨a2, l2, c2, e2⟩ := okWide_slice Try.underlying56 (hval 1 56 v2 rfl rfl)
  subst e2
  have g2 : Opn Try.prog W 56 [.slice a2 l2 c2] := by
    obtain ⟨m, hm⟩ := k2
    exact ⟨_, _, _, _, _, m, _, hm⟩
  obtain ⟨C2, cb2, bits2, e2, hle2, hcap2, hC2, hw2⟩ := g2.nums Try.underlying56 Try.underlying5 (by kernel_rfl)
  obtain ⟨rfl, rfl, rfl⟩ : a2 = C2 ∧ l2 = bits2.length ∧ c2 = cb2 := by simpa using e2
  have lt3 : ∀ x ∈ p3, x.block < W.heap.size := by obtain ⟨m, hm⟩ := k3; exact DataW.trod_lt m _ _ _ hm
  obtain ⟨sx3, xe3⟩ := okWide_int Try.underlying5 (hval 2 5 v3 rfl rfl)
  subst xe3
  have g3 : Opn Try.prog W 5 [.int .u8 sx3] := by
    obtain ⟨m, hm⟩ := k3
    exact ⟨_, _, _, _, _, m, _, hm⟩
  have hs3 : (Lit.int .u8 sx3).wf = true := by obtain ⟨y, e, h⟩ := Opn.int (k := .u8) Try.underlying5 g3; cases e; exact h
  have lt4 : ∀ x ∈ p4, x.block < W.heap.size := by obtain ⟨m, hm⟩ := k4; exact DataW.trod_lt m _ _ _ hm
  obtain ⟨cs4, e4, hcs4⟩ := okWide_struct Try.underlying35 (hval 3 35 v4 rfl rfl)
  subst e4
  have g4 : Opn Try.prog W 35 cs4.toList := by
    obtain ⟨m, hm⟩ := k4
    exact ⟨_, _, _, _, _, m, _, hm⟩
  obtain ⟨cl4⟩ := cs4
  have hl4 : cl4.length = 3 := (show cl4.length = Try.prog.cellsOf 35 from hcs4).trans (by kernel_rfl)
  obtain ⟨b4_0, b4_1, b4_2, rfl⟩ := len3 hl4
  have g4_0 := g4.field Try.underlying35 0 rfl (by kernel_rfl) rfl
  obtain ⟨cut4, x4_0⟩ := Opn.bool (by kernel_rfl) g4_0
  obtain rfl := List.singleton_inj.1 x4_0
  have g4_1 := g4.field Try.underlying35 1 rfl (by kernel_rfl) rfl
  obtain ⟨fb4, x4_1, -⟩ := Opn.int (k := .i64) (by kernel_rfl) g4_1
  obtain rfl := List.singleton_inj.1 x4_1
  have g4_2 := g4.field Try.underlying35 2 rfl (by kernel_rfl) rfl
  obtain ⟨noise4, x4_2⟩ := Opn.bool (by kernel_rfl) g4_2
  obtain rfl := List.singleton_inj.1 x4_2
  clear hA0 hval0 hsz0
  refine (torn_any hC1 hw1 hC2 hw2 hs3 cut4 fb4 noise4).mono fun e W' ⟨he, bel⟩ => ?_
  subst he
  exact ⟨_, rfl, _, _, _, [], _, [], hW', trodAll_mk1 (shut_bool Try.underlying4 _), (trodAll_cons_mk (Below.trod laidOut (by kernel_rfl) (of_decide_eq_true (by kernel_rfl)) k1 bel lt1) (trodAll_cons_mk (Below.trod laidOut (by kernel_rfl) (of_decide_eq_true (by kernel_rfl)) k2 bel lt2) (trodAll_cons_mk (Below.trod laidOut (by kernel_rfl) (of_decide_eq_true (by kernel_rfl)) k3 bel lt3) (trodAll_cons_mk (Below.trod laidOut (by kernel_rfl) (of_decide_eq_true (by kernel_rfl)) k4 bel lt4) trodAll_mk0)))), rfl, bel.frame _, fun h => by cases h⟩
theorem over : Rows.deviceTornRow.holds Try.pinned (OpenSpec.ofChange Rows.deviceTornSpec) :=
  OpenClaim.holds_of_wide 6 Try.f6 rfl rfl rfl rfl rfl rfl rfl ⟨rfl, rfl, rfl, rfl, rfl⟩ rfl rfl rfl rfl rfl (by kernel_rfl) Try.func6 (by kernel_rfl)
    (of_decide_eq_true (by kernel_rfl)) (by unfold Func.isWrapper; first | (rw [if_pos (by decide +kernel)]; kernel_rfl) | (rw [if_neg (by decide +kernel)]; exact ⟨rfl, rfl⟩))
    (fun os started H enc _ => lifted os started H enc)
theorem proved : Rows.DeviceTornSaid := over
end Go.Proofs.Ytkfhekocbfednaa.deviceTorn
namespace Go.Proofs.Ytkfhekocbfednaa
theorem deviceTorn_holds : Rows.DeviceTornSaid := deviceTorn.proved
end Go.Proofs.Ytkfhekocbfednaa
end
