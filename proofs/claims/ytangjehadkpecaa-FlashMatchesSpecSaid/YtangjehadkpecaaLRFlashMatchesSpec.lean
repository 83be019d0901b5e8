/- The row of FlashMatchesSpec, out of its walk. -/
import Derived.Test.YtangjehadkpecaaRows
import Derived.Test.YtangjehadkpecaaFlL3
import Derived.Test.YtangjehadkpecaaOpen
import Derived.WalkKit
import Derived.ProofKit
import Derived.OpenShut
import Derived.ShutString
import Derived.ChangeOld
import Derived.Below
import Derived.SizedLaws
import Derived.Carry
namespace Go.Proofs.Ytangjehadkpecaa.flashMatchesSpec
set_option linter.unusedVariables false
set_option linter.unusedSimpArgs false
open Go.ChangeShapes Go.WideShapes Go.ChangeAt Go.RowKit Go.Proofs.Ytangjehadkpecaa Go.Proofs.Ytangjehadkpecaa.Fl
set_option linter.unusedVariables false
theorem own : ownKnob Try.prog.godebug = none := by kernel_rfl
theorem laidOut : laidOutB Try.prog = true := by kernel_rfl
set_option maxRecDepth 100000 in
theorem lifted (os : Os) (started : os.Started) (H : Type) (enc : TypeId × Value → H) :
    ReturnsInHanded {} Try.checked os 3 .any (Rows.flashMatchesSpecSpec.pre6 enc Try.prog Try.f3 Rows.flashMatchesSpecRow.domain false) (Rows.flashMatchesSpecSpec.post enc Try.prog Try.f3 false true false false) := by
  refine returnsInHanded_of_change_sized (C := Try.checked) own started (by kernel_rfl) Try.func3
    (ChangeSpec.witness6 (enc := enc) (C := Try.checked) false ⟨#[], #[.agg #[.slice none 0 0, .slice none 0 0, .int .i64 0, .string ByteArray.empty, .int .i64 0]], []⟩ 8 (by kernel_rfl) (by kernel_rfl) (by kernel_rfl) (by kernel_rfl)) ?_
  intro W base args ds gs before hval0 hW hcnd hsz0 _
  have hval : ∀ (j : Nat) t v, Try.f3.params[j]? = some t → args[j]? = some v → Value.okWide Try.prog W .any base t v := hval0
  have hW' := hW
  obtain ⟨p, q, hA0, hV, rfl, hfz, hnd⟩ := hW
  have hA : DataW.TrodAll enc Try.prog W 0 (fun _ => true) true Try.f3.params.toList args.toList ds p := hA0
  rw [Try.params3] at hA hval
  obtain ⟨v0, vs0, d0, ds0, p0, q0, hargs, rfl, rfl, h0, r0⟩ := trodAll_cons hA
  obtain ⟨rfl, rfl, rfl⟩ := trodAll_nil r0
  obtain rfl : args = #[v0] := by cases args; simp_all
  obtain ⟨rfl, rfl⟩ := trodVars_none hV
  obtain ⟨cs, rfl, hcs⟩ := okWide_struct Try.underlying26 (hval 0 26 v0 rfl rfl)
  have k0 := h0
  have lt0 : ∀ x ∈ p0, x.block < W.heap.size := by obtain ⟨m, hm⟩ := k0; exact DataW.trod_lt m _ _ _ hm
  have ho : Opn Try.prog W 26 cs.toList := by
    obtain ⟨m, hm⟩ := h0
    exact ⟨_, _, _, _, _, m, _, hm⟩
  obtain ⟨cl⟩ := cs
  have hl : cl.length = 5 := (show cl.length = Try.prog.cellsOf 26 from hcs).trans (by kernel_rfl)
  obtain ⟨b0, b1, b2, b3, b4, rfl⟩ := len5 hl
  have g0 := ho.field Try.underlying26 0 rfl (by kernel_rfl) rfl
  have g0a := g0.field Try.underlying24 0 rfl (by kernel_rfl) rfl
  obtain ⟨A, c, l, hb0, hle, hc, hC⟩ := Opn.strs (e := 9) (by kernel_rfl) (by kernel_rfl) (by kernel_rfl) g0a
  obtain rfl := List.singleton_inj.1 hb0
  have hF : Fl W A l.length c l := ⟨hC, rfl, hle⟩
  have g1 := ho.field Try.underlying26 1 rfl (by kernel_rfl) rfl
  have g1a := g1.field Try.underlying24 0 rfl (by kernel_rfl) rfl
  obtain ⟨A1, c1, l1, hb1, hle1, hc1, hC1⟩ := Opn.strs (e := 9) (by kernel_rfl) (by kernel_rfl) (by kernel_rfl) g1a
  obtain rfl := List.singleton_inj.1 hb1
  have hF1 : Fl W A1 l1.length c1 l1 := ⟨hC1, rfl, hle1⟩
  have g2 := ho.field Try.underlying26 2 rfl (by kernel_rfl) rfl
  obtain ⟨a2, hb2, wf2⟩ := Opn.int (k := .i64) (by kernel_rfl) g2
  obtain rfl := List.singleton_inj.1 hb2
  simp [Lit.wf, IntKind.min, IntKind.max, IntKind.signed, IntKind.bits] at wf2
  have g3 := ho.field Try.underlying26 3 rfl (by kernel_rfl) rfl
  obtain ⟨a3, hb3, wf3⟩ := Opn.str (by kernel_rfl) g3
  obtain rfl := List.singleton_inj.1 hb3
  have g4 := ho.field Try.underlying26 4 rfl (by kernel_rfl) rfl
  obtain ⟨a4, hb4, wf4⟩ := Opn.int (k := .i64) (by kernel_rfl) g4
  obtain rfl := List.singleton_inj.1 hb4
  simp [Lit.wf, IntKind.min, IntKind.max, IntKind.signed, IntKind.bits] at wf4
  clear hA0 hval0 hsz0
  refine (matches_any a2 a3 a4 hF hF1 ).mono fun e W' ⟨he, bel⟩ => ?_
  subst he
  exact ⟨_, rfl, _, _, _, [], _, [], hW', trodAll_mk1 (shut_bool Try.underlying4 _), (trodAll_cons_mk (Below.trod laidOut (by kernel_rfl) (of_decide_eq_true (by kernel_rfl)) k0 bel lt0) trodAll_mk0), rfl, bel.frame _, fun h => by cases h⟩
theorem over : Rows.flashMatchesSpecRow.holds Try.pinned (OpenSpec.ofChange Rows.flashMatchesSpecSpec) :=
  OpenClaim.holds_of_wide 3 Try.f3 rfl rfl rfl rfl rfl rfl rfl ⟨rfl, rfl, rfl, rfl, rfl⟩ rfl rfl rfl rfl rfl (by kernel_rfl) Try.func3 (by kernel_rfl)
    (of_decide_eq_true (by kernel_rfl)) (by unfold Func.isWrapper; first | (rw [if_pos (by decide +kernel)]; kernel_rfl) | (rw [if_neg (by decide +kernel)]; exact ⟨rfl, rfl⟩))
    (fun os started H enc _ => lifted os started H enc)
theorem proved : Rows.FlashMatchesSpecSaid := over
end Go.Proofs.Ytangjehadkpecaa.flashMatchesSpec
namespace Go.Proofs.Ytangjehadkpecaa
/-- The row, under a short name. -/
theorem flashMatchesSpec_holds : Rows.FlashMatchesSpecSaid := flashMatchesSpec.proved
end Go.Proofs.Ytangjehadkpecaa
