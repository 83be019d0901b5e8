/- Walks of the laws' full and of the reference's New. -/
import Derived.Test.YtangjehadkpecaaFlF
namespace Go.Proofs.Ytangjehadkpecaa.Fl
set_option linter.unusedVariables false
set_option linter.unusedSimpArgs false
open Go.RowKit Go.Proofs.YtangjehadkpecaaW.PrintWords Go.Proofs.YtangjehadkpecaaW.PrintLast Go.Proofs.YtangjehadkpecaaW.PrintMore

/-- the row of full, k bytes of which are written -/
def rowAt (b : Int) (k : Nat) : List Int := List.replicate k b ++ List.replicate (256 - k) 0
theorem rowAt_len (b : Int) (k : Nat) (h : k ≤ 256) : (rowAt b k).length = 256 := by
  unfold rowAt
  rw [List.length_append, List.length_replicate, List.length_replicate]
  omega
theorem rowAt_zero (b : Int) : rowAt b 0 = List.replicate 256 0 := by
  unfold rowAt
  rw [List.replicate_zero, List.nil_append, Nat.sub_zero]
theorem rowAt_full (b : Int) : rowAt b 256 = List.replicate 256 b := by
  unfold rowAt
  rw [Nat.sub_self, List.replicate_zero, List.append_nil]
theorem rowAt_set (b : Int) (k : Nat) (hk : k < 256) : (rowAt b k).set k b = rowAt b (k + 1) := rep_set _ _ _ _ hk

set_option maxRecDepth 100000 in
set_option maxHeartbeats 2000000 in
theorem full_any (b : Int) (w : World) :
    Calls Try.prog 21 #[.int .u8 b] w fun e w' => e = .returned (.string (fullS b)) ∧ Below w.heap.size w w' := by
  have R0 := Aside0.mk (show List.replicate (256 : Int).toNat (0 : Int) = rowAt b 0 from (rowAt_zero b).symm)
  have hlen := Aside0.mk (rowAt_len b 0 (by omega))
  go_enter Try.func21, Try.ntmps21
  go_wp2_with (first | ((with_reducible refine gate_dst (N := 5) rfl ?_); refine Kd.R_make (Kd.int .u8) w.heap.size 5 rfl (N := 5) rfl 44 _ _ rfl 256 rfl rfl Try.underlying44 (.int .u8 0) 1 info_u8 rfl (by decide) (by omega) 0 (ok := fun _ => True) (okp := fun _ => True) rfl (fun _ hk => hk) trivial (by omega) (by omega) (Below.refl _ _) (Nat.le_refl _) ?_; intro v1 w1 ho hb _ _; rw [R0.out] at ho; obtain ⟨g, co, rfl, gb, gl, cl, hgc⟩ := Kd.R_form ho (by rw [hlen.out]; decide); rw [hlen.out] at ho; have HO1 := Aside0.mk ho; have HB1 := Aside0.mk hb; have GB := Aside0.mk gb; clear ho hb gb gl hgc cl))
  rw [hlen.out]
  go_loopw [4] (fun i wr => ∃ k : Nat, k ≤ 256 ∧ i = .int .i64 k ∧ Aside0 (Kd.R (Kd.int .u8) 5 wr w.heap.size (fun _ => True) (.slice (some ⟨g, 0, none⟩) 256 co) (rowAt b k)) ∧ Aside0 (Below w.heap.size w wr)) (fun i _ => 256 - (intOf i).toNat)
  case atStart => exact ⟨0, by omega, rfl, HO1, HB1⟩
  case round =>
    clear HO1 HB1
    obtain ⟨k, hk, rfl, HO, HB⟩ := hrel
    by_cases hlt : k < 256
    · obtain ⟨hx, hfz⟩ := Kd.R_celln 0 HO.out (k : Int) (by omega) (by omega)
      rw [Int.toNat_natCast] at hx hfz
      have HP := Aside0.mk (Kd.R_putn HO.out (k : Int) b)
      go_wp2
      go_roundw
      case rel =>
        have hp := HP.out
        rw [Int.toNat_natCast, rowAt_set _ _ hlt] at hp
        exact ⟨k + 1, by omega, by go_num, ⟨hp⟩, ⟨HB.out.setCell GB.out _⟩⟩
      case measure => simp [intOf]; omega
    · have ek := show k = 256 by omega
      have hcv := own_string (P := Try.prog) Try.underlying44 Try.underlying5 Try.underlying9 (Kd.own_of_R HO.out)
      rw [show strOfNums (rowAt b k) = fullS b by rw [ek, rowAt_full]; rfl] at hcv
      clear ek
      go_wp2
      go_ret
      exact ⟨rfl, HB.out⟩
theorem full_size (b : Int) : (fullS b).size = 256 := by
  unfold fullS strOfNums
  rw [Lib.size_eq]
  show (List.map _ _).length = 256
  rw [List.length_map, List.length_replicate]
theorem zero_full : zeroSector = fullS 0 := by decide +kernel
end Go.Proofs.Ytangjehadkpecaa.Fl
