/- Plain laws on what writes leave: no program in sight. -/
import Derived.Test.YtangjehadkpecaaFlG2
namespace Go.Proofs.Ytangjehadkpecaa.Fl
set_option linter.unusedVariables false
set_option linter.unusedSimpArgs false
open Go.RowKit Go.Proofs.YtangjehadkpecaaW.PrintWords Go.Proofs.YtangjehadkpecaaW.PrintLast Go.Proofs.YtangjehadkpecaaW.PrintMore

theorem ba_ext {s t : ByteArray} (h : s.data.toList = t.data.toList) : s = t := by
  apply ByteArray.ext
  exact Array.ext' h
theorem data_len (s : ByteArray) : s.data.toList.length = s.size := (Lib.size_eq s).symm
/-- The bytes after a write whose contents have one length. -/
theorem merge_list {b old : ByteArray} {cut : Int} (h : b.size = old.size) : (mergeB b old cut).data.toList =
    if cut < 0 then b.data.toList else b.data.toList.take cut.toNat ++ old.data.toList.drop cut.toNat := by
  unfold mergeB
  by_cases h0 : cut < 0
  · rw [if_pos h0, if_pos h0]
  · rw [if_neg h0, if_neg h0]
    by_cases h1 : (b.size : Int) ≤ cut
    · rw [if_pos h1, List.take_of_length_le (by rw [data_len]; omega), List.drop_of_length_le (by rw [data_len]; omega), List.append_nil]
    · rw [if_neg h1, show min cut.toNat old.size = cut.toNat from by omega]
      rw [ByteArray.data_append, Array.toList_append, Lib.extract_data, Lib.extract_data, List.drop_zero, Nat.sub_zero,
        List.take_of_length_le (i := old.size - cut.toNat) (by rw [List.length_drop, data_len]; omega)]
theorem merge_size {b old : ByteArray} {cut : Int} (h : b.size = old.size) : (mergeB b old cut).size = b.size := by
  rw [Lib.size_eq, merge_list h]
  split
  · exact data_len b
  · rw [List.length_append, List.length_take, List.length_drop, data_len, data_len]; omega
theorem merge_merge {b old : ByteArray} {c d : Int} (h : b.size = old.size) (hc : 0 ≤ c) (hd : 0 ≤ d) : mergeB b (mergeB b old c) d = mergeB b old (max c d) := by
  apply ba_ext
  rw [merge_list (by rw [merge_size h]), merge_list h, merge_list h, if_neg (by omega), if_neg (by omega), if_neg (by omega)]
  have h2 : b.data.toList.length = old.data.toList.length := by rw [data_len, data_len, h]
  rcases Int.le_total c d with e | e
  · rw [show max c d = d from by omega, List.drop_append, List.drop_drop, List.length_take]
    rw [List.drop_eq_nil_of_le (by rw [List.length_take]; omega), List.nil_append]
    congr 1
    rcases Nat.le_total c.toNat b.data.toList.length with h3 | h3
    · rw [show min c.toNat b.data.toList.length = c.toNat from by omega, show c.toNat + (d.toNat - c.toNat) = d.toNat from by omega]
    · rw [List.drop_of_length_le (by omega), List.drop_of_length_le (by omega)]
  · rw [show max c d = c from by omega, List.drop_append, List.length_take]
    rcases Nat.le_total c.toNat b.data.toList.length with h3 | h3
    · rw [show d.toNat - min c.toNat b.data.toList.length = 0 from by omega, List.drop_zero, ← List.append_assoc]
      congr 1
      apply List.ext_getElem?
      intro i
      rw [List.getElem?_append, List.length_take, List.getElem?_take, List.getElem?_drop, List.getElem?_take, List.getElem?_take]
      by_cases hi : i < min d.toNat b.data.toList.length
      · rw [if_pos hi, if_pos (by omega), if_pos (by omega)]
      · rw [if_neg hi, show d.toNat + (i - min d.toNat b.data.toList.length) = i from by omega]
    · rw [List.take_of_length_le (i := c.toNat) (by omega), List.drop_of_length_le (i := d.toNat - min c.toNat b.data.toList.length) (by rw [List.length_drop]; omega), List.append_nil,
        List.drop_of_length_le (i := c.toNat) (by omega), List.append_nil, List.take_append_drop]
theorem merge_then_whole {b old : ByteArray} {c : Int} (d : Int) (hd : d < 0) : mergeB b (mergeB b old c) d = mergeB b old d := by
  unfold mergeB
  rw [if_pos hd, if_pos hd]
theorem merge_again {b old : ByteArray} {c : Int} (h : b.size = old.size) : mergeB b (mergeB b old c) c = mergeB b old c := by
  by_cases h0 : c < 0
  · exact merge_then_whole c h0
  · rw [merge_merge h (by omega) (by omega), show max c c = c from by omega]

theorem rd_get (l : List ByteArray) (i : Int) (h0 : 0 ≤ i) (h : i < (l.length : Int)) : rdOf ByteArray.empty l i = l[i.toNat]'(by omega) := by
  simp [rdOf, List.getD, List.getElem?_eq_getElem (show i.toNat < l.length by omega)]
theorem rd_writeL (l : List ByteArray) (i : Int) (b : ByteArray) (cut : Int) (h0 : 0 ≤ i) (h : i < (l.length : Int)) : rdOf ByteArray.empty (writeL l i b cut) i = mergeB b (rdOf ByteArray.empty l i) cut := by
  rw [rd_get _ _ h0 (by rw [writeL_len]; exact h)]
  simp [writeL]
theorem writeL_writeL (l : List ByteArray) (i : Int) (b : ByteArray) (c d : Int) (h0 : 0 ≤ i) (h : i < (l.length : Int)) :
    writeL (writeL l i b c) i b d = l.set i.toNat (mergeB b (mergeB b (rdOf ByteArray.empty l i) c) d) := by
  show (writeL l i b c).set i.toNat (mergeB b (rdOf ByteArray.empty (writeL l i b c) i) d) = _
  rw [rd_writeL l i b c h0 h]
  simp [writeL, List.set_set]
theorem valid_facts {l : List ByteArray} (h : validB l = true) : l.length ≤ 128 ∧ ∀ s ∈ l, s.size = 256 := by
  rw [← rvalid_eq] at h
  simp only [rvalidB, Bool.and_eq_true, decide_eq_true_eq, List.all_eq_true, beq_iff_eq] at h
  exact ⟨by omega, fun s hs => by have := h.2 s hs; omega⟩
theorem valid_mk {l : List ByteArray} (h1 : l.length ≤ 128) (h2 : ∀ s ∈ l, s.size = 256) : validB l = true := by
  rw [← rvalid_eq]
  simp only [rvalidB, Bool.and_eq_true, decide_eq_true_eq, List.all_eq_true, beq_iff_eq]
  exact ⟨by omega, fun s hs => by have := h2 s hs; omega⟩
theorem valid_rd {l : List ByteArray} (h : validB l = true) (i : Int) (h0 : 0 ≤ i) (hi : i < (l.length : Int)) : (rdOf ByteArray.empty l i).size = 256 := by
  rw [rd_get _ _ h0 hi]
  exact (valid_facts h).2 _ (List.getElem_mem _)
theorem valid_writeL {l : List ByteArray} (h : validB l = true) (i : Int) (b : ByteArray) (cut : Int) (h0 : 0 ≤ i) (hi : i < (l.length : Int)) (hb : b.size = 256) : validB (writeL l i b cut) = true := by
  obtain ⟨h1, h2⟩ := valid_facts h
  refine valid_mk (by rw [writeL_len]; exact h1) fun s hs => ?_
  unfold writeL at hs
  rcases List.mem_or_eq_of_mem_set hs with hs | rfl
  · exact h2 s hs
  · rw [merge_size (by rw [hb, valid_rd h i h0 hi]), hb]
theorem same_self (l : List ByteArray) : sameB l l = true := by simp [sameB]
end Go.Proofs.Ytangjehadkpecaa.Fl
