/- Part of the proof of deviceTorn_holds: what later parts use. -/
import Derived.Test.YtkfhekocbfednaaZt0
import Derived.Test.YtkfhekocbfednaaZt1
import Derived.Test.YtkfhekocbfednaaZt2
import Derived.Test.YtkfhekocbfednaaZt3
import Derived.Test.YtkfhekocbfednaaZt4
import Derived.Test.YtkfhekocbfednaaZt5
import Derived.Test.YtkfhekocbfednaaZt6
import Derived.Test.YtkfhekocbfednaaZt7
import Derived.Test.YtkfhekocbfednaaZt12
import Derived.Test.YtkfhekocbfednaaZt13
import Derived.Test.YtkfhekocbfednaaZt14
import Derived.Laws.StructEq
section
namespace Go.Proofs.Ytkfhekocbfednaa.PDeviceMatches
open Go.RowKit Go.Proofs.YtkfhekocbfednaaW.PrintWords Go.Proofs.YtkfhekocbfednaaW.PrintLast Go.Proofs.YtkfhekocbfednaaW.PrintMore
attribute [local go_sem] max2_int min2_int max_two min_two max_three min_three max_four min_four   
set_option linter.unusedVariables false
set_option linter.unusedSimpArgs false
mutual
def bootchainref08_New.j0 : Nat → Int → Bool → Option (List ByteArray × Int)
  | 0, _, _ => none
  | k + 1, x0, x11 => if x11 = true then (some (([] : List ByteArray), 1)) else (bootchainref08_New.l0 k x0 0 ([] : List ByteArray))
def bootchainref08_New.l0 : Nat → Int → Int → List ByteArray → Option (List ByteArray × Int)
  | 0, _, _, _ => none
  | k + 1, x0, x5, x200000 => if x5 < x0 then (if 256 ≤ 281474976710656 then (if x200000.length < 8796093022208 then (bootchainref08_New.l0 k x0 (wrap64 (x5 + 1)) (x200000 ++ [strOfNums (List.replicate 256 0)])) else (none)) else (none)) else (some (x200000, 0))
end
def bootchainref08_New.f (k : Nat) (a0 : Int) : Option (List ByteArray × Int) := if a0 < 0 then (bootchainref08_New.j0 k a0 true) else (bootchainref08_New.j0 k a0 (decide (a0 > 128)))
theorem bootchainref08_New.mono_l : ∀ k, (∀ y0 y1, LeO (bootchainref08_New.j0 k y0 y1) (bootchainref08_New.j0 (k + 1) y0 y1)) ∧ (∀ y0 y1 y2, LeO (bootchainref08_New.l0 k y0 y1 y2) (bootchainref08_New.l0 (k + 1) y0 y1 y2))
  | 0 => ⟨fun _ _ r h => by simp [bootchainref08_New.j0] at h, fun _ _ _ r h => by simp [bootchainref08_New.l0] at h⟩
  | k + 1 => by
    obtain ⟨ih0, ih1⟩ := bootchainref08_New.mono_l k
    refine ⟨?_, ?_⟩
    · intro y0 y1
      unfold bootchainref08_New.j0
      repeat' first
      | (with_reducible exact ih0 _ _)
      | (with_reducible exact ih1 _ _ _)
      | (with_reducible exact LeO.refl _)
      | (with_reducible exact LeO.none _)
      | (with_reducible refine LeO.ite ?_ ?_)
      | (with_reducible refine LeO.bind ?_ (fun _ => ?_))
      | exact ih0 _ _
      | exact ih1 _ _ _
      | exact LeO.none _
      | refine LeO.ite ?_ ?_
      | refine LeO.bind ?_ (fun _ => ?_)
    · intro y0 y1 y2
      unfold bootchainref08_New.l0
      repeat' first
      | (with_reducible exact ih0 _ _)
      | (with_reducible exact ih1 _ _ _)
      | (with_reducible exact LeO.refl _)
      | (with_reducible exact LeO.none _)
      | (with_reducible refine LeO.ite ?_ ?_)
      | (with_reducible refine LeO.bind ?_ (fun _ => ?_))
      | exact ih0 _ _
      | exact ih1 _ _ _
      | exact LeO.none _
      | refine LeO.ite ?_ ?_
      | refine LeO.bind ?_ (fun _ => ?_)
theorem bootchainref08_New.mono : ∀ a0 k, LeO (bootchainref08_New.f k a0) (bootchainref08_New.f (k + 1) a0) := by
  intro a0 k
  obtain ⟨ih0, ih1⟩ := bootchainref08_New.mono_l k
  unfold bootchainref08_New.f
  repeat' first
      | (with_reducible exact ih0 _ _)
      | (with_reducible exact ih1 _ _ _)
      | (with_reducible exact LeO.refl _)
      | (with_reducible exact LeO.none _)
      | (with_reducible refine LeO.ite ?_ ?_)
      | (with_reducible refine LeO.bind ?_ (fun _ => ?_))
      | exact ih0 _ _
      | exact ih1 _ _ _
      | exact LeO.none _
      | refine LeO.ite ?_ ?_
      | refine LeO.bind ?_ (fun _ => ?_)
mutual
def bootchainref09_Fuses.l0 : Nat → Int → List (List Int) → List (List Int) → Option (Bool)
  | 0, _, _, _ => none
  | k + 1, x5, x207000, x208000 => if x5 < (x207000.length : Int) then (if 0 ≤ x5 then (if x5 < (x208000.length : Int) then (if ((rd_L2 x207000 x5).length : Int) = ((rd_L2 x208000 x5).length : Int) then (bootchainref09_Fuses.l1 k x5 0 x207000 x208000) else (some false)) else (none)) else (none)) else (some true)
def bootchainref09_Fuses.l1 : Nat → Int → Int → List (List Int) → List (List Int) → Option (Bool)
  | 0, _, _, _, _ => none
  | k + 1, x5, x6, x207000, x208000 => if 0 ≤ x5 then (if x5 < (x207000.length : Int) then (if x6 < ((rd_L2 x207000 x5).length : Int) then (if 0 ≤ x6 then (if x5 < (x208000.length : Int) then (if x6 < ((rd_L2 x208000 x5).length : Int) then (if (rd (rd_L2 x207000 x5) x6) = (rd (rd_L2 x208000 x5) x6) then (bootchainref09_Fuses.l1 k x5 (wrap64 (x6 + 1)) x207000 x208000) else (some false)) else (none)) else (none)) else (none)) else (bootchainref09_Fuses.l0 k (wrap64 (x5 + 1)) x207000 x208000)) else (none)) else (none)
end
def bootchainref09_Fuses.f (k : Nat) (l0_0 : List (List Int)) (l1_0 : List (List Int)) : Option (Bool) := if (l0_0.length : Int) = (l1_0.length : Int) then (bootchainref09_Fuses.l0 k 0 l0_0 l1_0) else (some false)
theorem bootchainref09_Fuses.mono_l : ∀ k, (∀ y0 y1 y2, LeO (bootchainref09_Fuses.l0 k y0 y1 y2) (bootchainref09_Fuses.l0 (k + 1) y0 y1 y2)) ∧ (∀ y0 y1 y2 y3, LeO (bootchainref09_Fuses.l1 k y0 y1 y2 y3) (bootchainref09_Fuses.l1 (k + 1) y0 y1 y2 y3))
  | 0 => ⟨fun _ _ _ r h => by simp [bootchainref09_Fuses.l0] at h, fun _ _ _ _ r h => by simp [bootchainref09_Fuses.l1] at h⟩
  | k + 1 => by
    obtain ⟨ih0, ih1⟩ := bootchainref09_Fuses.mono_l k
    refine ⟨?_, ?_⟩
    · intro y0 y1 y2
      unfold bootchainref09_Fuses.l0
      repeat' first
      | (with_reducible exact ih0 _ _ _)
      | (with_reducible exact ih1 _ _ _ _)
      | (with_reducible exact LeO.refl _)
      | (with_reducible exact LeO.none _)
      | (with_reducible refine LeO.ite ?_ ?_)
      | (with_reducible refine LeO.bind ?_ (fun _ => ?_))
      | exact ih0 _ _ _
      | exact ih1 _ _ _ _
      | exact LeO.none _
      | refine LeO.ite ?_ ?_
      | refine LeO.bind ?_ (fun _ => ?_)
    · intro y0 y1 y2 y3
      unfold bootchainref09_Fuses.l1
      repeat' first
      | (with_reducible exact ih0 _ _ _)
      | (with_reducible exact ih1 _ _ _ _)
      | (with_reducible exact LeO.refl _)
      | (with_reducible exact LeO.none _)
      | (with_reducible refine LeO.ite ?_ ?_)
      | (with_reducible refine LeO.bind ?_ (fun _ => ?_))
      | exact ih0 _ _ _
      | exact ih1 _ _ _ _
      | exact LeO.none _
      | refine LeO.ite ?_ ?_
      | refine LeO.bind ?_ (fun _ => ?_)
theorem bootchainref09_Fuses.mono : ∀ a0 a1 k, LeO (bootchainref09_Fuses.f k a0 a1) (bootchainref09_Fuses.f (k + 1) a0 a1) := by
  intro a0 a1 k
  obtain ⟨ih0, ih1⟩ := bootchainref09_Fuses.mono_l k
  unfold bootchainref09_Fuses.f
  repeat' first
      | (with_reducible exact ih0 _ _ _)
      | (with_reducible exact ih1 _ _ _ _)
      | (with_reducible exact LeO.refl _)
      | (with_reducible exact LeO.none _)
      | (with_reducible refine LeO.ite ?_ ?_)
      | (with_reducible refine LeO.bind ?_ (fun _ => ?_))
      | exact ih0 _ _ _
      | exact ih1 _ _ _ _
      | exact LeO.none _
      | refine LeO.ite ?_ ?_
      | refine LeO.bind ?_ (fun _ => ?_)
end Go.Proofs.Ytkfhekocbfednaa.PDeviceMatches
end
