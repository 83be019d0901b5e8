/- Part of the proof of deviceSeparate_holds, deviceAll_holds, deviceMonotonic_holds: a row. -/
import Derived.Test.YtkfhekocbfednaaZu0
import Derived.Test.YtkfhekocbfednaaZu1
import Derived.Test.YtkfhekocbfednaaZu2
import Derived.Test.YtkfhekocbfednaaZu3
import Derived.Test.YtkfhekocbfednaaZu4
import Derived.Test.YtkfhekocbfednaaZu5
import Derived.Test.YtkfhekocbfednaaZu6
import Derived.Test.YtkfhekocbfednaaZu7
import Derived.Test.YtkfhekocbfednaaZu8
import Derived.Test.YtkfhekocbfednaaZu9
import Derived.Test.YtkfhekocbfednaaZu10
import Derived.Test.YtkfhekocbfednaaZu11
import Derived.Test.YtkfhekocbfednaaZu12
import Derived.Test.YtkfhekocbfednaaZu13
import Derived.Test.YtkfhekocbfednaaZu14
import Derived.Test.YtkfhekocbfednaaZu15
import Derived.Test.YtkfhekocbfednaaZu16
import Derived.Test.YtkfhekocbfednaaZu17
import Derived.Test.YtkfhekocbfednaaZu18
import Derived.Test.YtkfhekocbfednaaZu19
import Derived.Test.YtkfhekocbfednaaZu20
import Derived.Test.YtkfhekocbfednaaZu21
import Derived.Test.YtkfhekocbfednaaZu22
import Derived.Test.YtkfhekocbfednaaZu23
import Derived.Test.YtkfhekocbfednaaZu24
import Derived.Test.YtkfhekocbfednaaZu25
import Derived.Test.YtkfhekocbfednaaZu26
import Derived.Test.YtkfhekocbfednaaZu27
import Derived.Test.YtkfhekocbfednaaZu28
import Derived.Test.YtkfhekocbfednaaZu29
import Derived.Test.YtkfhekocbfednaaZu30
import Derived.Test.YtkfhekocbfednaaZu31
import Derived.Test.YtkfhekocbfednaaZu32
import Derived.Test.YtkfhekocbfednaaZu33
import Derived.Test.YtkfhekocbfednaaZu36
import Derived.Test.YtkfhekocbfednaaZu37
import Derived.Test.YtkfhekocbfednaaZu38
import Derived.Test.YtkfhekocbfednaaZu39
import Derived.Test.YtkfhekocbfednaaZu40
import Derived.Test.YtkfhekocbfednaaZu41
import Derived.Test.YtkfhekocbfednaaZu42
import Derived.Test.YtkfhekocbfednaaZu43
import Derived.Test.YtkfhekocbfednaaZu44
import Derived.Test.YtkfhekocbfednaaZu45
import Derived.Test.YtkfhekocbfednaaZu46
import Derived.Test.YtkfhekocbfednaaRows
import Derived.WalkKit
import Derived.ProofKit
import Derived.OpenShut
import Derived.ShutString
import Derived.ChangeOld
import Derived.Below
import Derived.SizedLaws
import Derived.Carry
import Derived.Laws.StructEq
section
namespace Go.Proofs.Ytkfhekocbfednaa.deviceMonotonic
set_option linter.unusedVariables false
set_option linter.unusedSimpArgs false
open Go.ChangeShapes Go.WideShapes Go.ChangeAt Go.RowKit Go.Proofs.Ytkfhekocbfednaa Go.Proofs.Ytkfhekocbfednaa.Fu Go.Proofs.Ytkfhekocbfednaa.Fl Go.Proofs.Ytkfhekocbfednaa.Dv
set_option linter.unusedVariables false
theorem own : ownKnob Try.prog.godebug = none := by kernel_rfl
theorem laidOut : laidOutB Try.prog = true := by kernel_rfl
set_option maxRecDepth 100000 in
theorem lifted (os : Os) (started : os.Started) (H : Type) (enc : TypeId × Value → H) :
    ReturnsInHanded {} Try.checked os 7 .any (Rows.deviceMonotonicSpec.pre6 enc Try.prog Try.f7 Rows.deviceMonotonicRow.domain false) (Rows.deviceMonotonicSpec.post enc Try.prog Try.f7 false true false false) := by
  refine returnsInHanded_of_change_sized (C := Try.checked) own started (by kernel_rfl) Try.func7
    (ChangeSpec.witness6 (enc := enc) (C := Try.checked) false ⟨#[], #[.agg #[.slice none 0 0, .slice none 0 0, .int .u8 0, .int .u8 0, .int .u8 0, .int .u8 0, .int .u8 0, .int .u8 0, .int .u8 0, .int .u8 0, .int .u8 0, .int .u8 0, .int .u8 0, .int .u8 0, .int .u8 0, .int .u8 0, .int .u8 0, .int .u8 0], .slice none 0 0, .slice none 0 0], []⟩ 8 (by kernel_rfl) (by kernel_rfl) (by kernel_rfl) (by kernel_rfl)) ?_
  intro W base args ds gs before hval0 hW hcnd hsz0 _
  have hval : ∀ (j : Nat) t v, Try.f7.params[j]? = some t → args[j]? = some v → Value.okWide Try.prog W .any base t v := hval0
  have hW' := hW
  obtain ⟨p, q, hA0, hV, rfl, hfz, hnd⟩ := hW
  have hA : DataW.TrodAll enc Try.prog W 0 (fun _ => true) true Try.f7.params.toList args.toList ds p := hA0
  rw [Try.params7] at hA hval
  obtain ⟨v1, vs1, d1, ds1, p1, q1, hargs1, rfl, rfl, k1, r1⟩ := trodAll_cons hA
  obtain ⟨v2, vs2, d2, ds2, p2, q2, hargs2, rfl, rfl, k2, r2⟩ := trodAll_cons r1
  obtain ⟨v3, vs3, d3, ds3, p3, q3, hargs3, rfl, rfl, k3, r3⟩ := trodAll_cons r2
  obtain ⟨rfl, rfl, rfl⟩ := trodAll_nil r3
  subst hargs3
  subst hargs2
  obtain rfl : args = #[v1, v2, v3] := by cases args; simp_all
  obtain ⟨rfl, rfl⟩ := trodVars_none hV
  have lt1 : ∀ x ∈ p1, x.block < W.heap.size := by obtain ⟨m, hm⟩ := k1; exact DataW.trod_lt m _ _ _ hm
  obtain ⟨cs1, e1, hcs1⟩ := okWide_struct Try.underlying31 (hval 0 31 v1 rfl rfl)
  subst e1
  have g1 : Opn Try.prog W 31 cs1.toList := by
    obtain ⟨m, hm⟩ := k1
    exact ⟨_, _, _, _, _, m, _, hm⟩
  obtain ⟨A1, d_1, hs1, bk1, B1, c_1, fl1, r, e1, hF1, hL1, h01⟩ := Opn.device g1
  obtain rfl : cs1 = hwC (.slice A1 bk1.length d_1) (.slice B1 fl1.length c_1) r := Array.toList_inj.1 e1
  have lt2 : ∀ x ∈ p2, x.block < W.heap.size := by obtain ⟨m, hm⟩ := k2; exact DataW.trod_lt m _ _ _ hm
  obtain ⟨a2, l2, c2, e2⟩ := okWide_slice Try.underlying49 (hval 1 49 v2 rfl rfl)
  subst e2
  have g2 : Opn Try.prog W 49 [.slice a2 l2 c2] := by
    obtain ⟨m, hm⟩ := k2
    exact ⟨_, _, _, _, _, m, _, hm⟩
  obtain ⟨C2, cb2, ls2, e2, hR2⟩ := g2.accs
  obtain ⟨rfl, rfl, rfl⟩ : a2 = C2 ∧ l2 = ls2.length ∧ c2 = cb2 := by simpa using e2
  have lt3 : ∀ x ∈ p3, x.block < W.heap.size := by obtain ⟨m, hm⟩ := k3; exact DataW.trod_lt m _ _ _ hm
  obtain ⟨a3, l3, c3, e3⟩ := okWide_slice Try.underlying50 (hval 2 50 v3 rfl rfl)
  subst e3
  have g3 : Opn Try.prog W 50 [.slice a3 l3 c3] := by
    obtain ⟨m, hm⟩ := k3
    exact ⟨_, _, _, _, _, m, _, hm⟩
  obtain ⟨C3, cb3, ls3, e3, hR3⟩ := g3.flts
  obtain ⟨rfl, rfl, rfl⟩ : a3 = C3 ∧ l3 = ls3.length ∧ c3 = cb3 := by simpa using e3
  clear hA0 hval0 hsz0
  refine (mono_any r hF1 hL1 hR2 hR3 h01).mono fun e W' ⟨he, bel⟩ => ?_
  subst he
  exact ⟨_, rfl, _, _, _, [], _, [], hW', trodAll_mk1 (shut_bool Try.underlying4 _), (trodAll_cons_mk (Below.trod laidOut (by kernel_rfl) (of_decide_eq_true (by kernel_rfl)) k1 bel lt1) (trodAll_cons_mk (Below.trod laidOut (by kernel_rfl) (of_decide_eq_true (by kernel_rfl)) k2 bel lt2) (trodAll_cons_mk (Below.trod laidOut (by kernel_rfl) (of_decide_eq_true (by kernel_rfl)) k3 bel lt3) trodAll_mk0))), rfl, bel.frame _, fun h => by cases h⟩
theorem over : Rows.deviceMonotonicRow.holds Try.pinned (OpenSpec.ofChange Rows.deviceMonotonicSpec) :=
  OpenClaim.holds_of_wide 7 Try.f7 rfl rfl rfl rfl rfl rfl rfl ⟨rfl, rfl, rfl, rfl, rfl⟩ rfl rfl rfl rfl rfl (by kernel_rfl) Try.func7 (by kernel_rfl)
    (of_decide_eq_true (by kernel_rfl)) (by unfold Func.isWrapper; first | (rw [if_pos (by decide +kernel)]; kernel_rfl) | (rw [if_neg (by decide +kernel)]; exact ⟨rfl, rfl⟩))
    (fun os started H enc _ => lifted os started H enc)
theorem proved : Rows.DeviceMonotonicSaid := over
end Go.Proofs.Ytkfhekocbfednaa.deviceMonotonic
namespace Go.Proofs.Ytkfhekocbfednaa
theorem deviceMonotonic_holds : Rows.DeviceMonotonicSaid := deviceMonotonic.proved
end Go.Proofs.Ytkfhekocbfednaa
end
