/- Plain: the bytes of a torn sector. -/
import Derived.Test.YtangjehadkpecaaFlP
namespace Go.Proofs.Ytangjehadkpecaa.Fl
set_option linter.unusedVariables false
set_option linter.unusedSimpArgs false
open Go.RowKit Go.Proofs.YtangjehadkpecaaW.PrintWords Go.Proofs.YtangjehadkpecaaW.PrintLast Go.Proofs.YtangjehadkpecaaW.PrintMore

theorem byte_list (s : ByteArray) (i : Nat) (h : i < s.size) : s.data.toList[i]? = some (s[i]'h) := by
  rw [Array.getElem?_toList, Array.getElem?_eq_getElem (by exact h)]
  rfl
theorem full_list (b : Int) : (fullS b).data.toList = List.replicate 256 (UInt8.ofNat b.toNat) := by
  unfold fullS strOfNums
  rw [List.map_replicate]
theorem u8_back {b : Int} (h0 : 0 ≤ b) (h1 : b ≤ 255) : ((UInt8.ofNat b.toNat).toNat : Int) = b := by
  simp; omega
theorem merge_new {b : Int} {old : ByteArray} {cut : Int} (ho : old.size = 256) (h0 : 0 ≤ b) (h1 : b ≤ 255) {i : Nat} (hi : i < 256) (hc : cut < 0 ∨ (i : Int) < cut) (hs : i < (mergeB (fullS b) old cut).size) :
    (((mergeB (fullS b) old cut)[i]'hs).toNat : Int) = b := by
  have h := byte_list _ i hs
  rw [merge_list (by rw [full_size, ho]), full_list] at h
  have e : (UInt8.ofNat b.toNat) = (mergeB (fullS b) old cut)[i]'hs := by
    split at h
    · rw [List.getElem?_replicate, if_pos hi] at h
      exact Option.some.inj h
    · rw [List.getElem?_append_left (by rw [List.length_take, List.length_replicate]; omega)] at h
      rw [List.getElem?_take, List.getElem?_replicate, if_pos (by omega), if_pos hi] at h
      exact Option.some.inj h
  rw [← e]
  exact u8_back h0 h1
theorem merge_old {b : Int} {old : ByteArray} {cut : Int} (ho : old.size = 256) {i : Nat} (hi : i < 256) (hc : 0 ≤ cut) (hc2 : cut ≤ (i : Int)) (hs : i < (mergeB (fullS b) old cut).size) (ho2 : i < old.size) :
    (mergeB (fullS b) old cut)[i]'hs = old[i]'ho2 := by
  have h := byte_list _ i hs
  rw [merge_list (by rw [full_size, ho]), full_list, if_neg (by omega)] at h
  rw [List.getElem?_append_right (by rw [List.length_take, List.length_replicate]; omega)] at h
  rw [List.getElem?_drop, List.length_take, List.length_replicate, show cut.toNat + (i - min cut.toNat 256) = i from by omega, byte_list old i ho2] at h
  exact (Option.some.inj h).symm
end Go.Proofs.Ytangjehadkpecaa.Fl
