/- Part of the proof of deviceTorn_holds: what later parts use. -/
import Derived.Test.YtkfhekocbfednaaZt0
import Derived.Test.YtkfhekocbfednaaZt1
import Derived.Test.YtkfhekocbfednaaZt2
import Derived.Test.YtkfhekocbfednaaZt3
import Derived.Test.YtkfhekocbfednaaZt4
import Derived.Test.YtkfhekocbfednaaZt5
import Derived.Test.YtkfhekocbfednaaZt6
import Derived.Test.YtkfhekocbfednaaZt7
import Derived.Test.YtkfhekocbfednaaZt8
import Derived.Test.YtkfhekocbfednaaZt9
import Derived.Test.YtkfhekocbfednaaZt10
import Derived.Test.YtkfhekocbfednaaZt11
import Derived.Test.YtkfhekocbfednaaZt12
import Derived.Test.YtkfhekocbfednaaZt13
import Derived.Test.YtkfhekocbfednaaZt14
import Derived.Test.YtkfhekocbfednaaZt15
import Derived.Test.YtkfhekocbfednaaZt16
import Derived.Test.YtkfhekocbfednaaZt17
import Derived.Test.YtkfhekocbfednaaZt18
import Derived.Test.YtkfhekocbfednaaZt19
import Derived.Test.YtkfhekocbfednaaZt20
import Derived.Laws.EntriesVeiled
import Derived.Laws.StructEq
section
namespace Go.Proofs.Ytkfhekocbfednaa.Dv
set_option linter.unusedVariables false
set_option linter.unusedSimpArgs false
open Go.RowKit Go.Proofs.Ytkfhekocbfednaa Go.Proofs.YtkfhekocbfednaaW.PrintWords Go.Proofs.YtkfhekocbfednaaW.PrintLast Go.Proofs.YtkfhekocbfednaaW.PrintMore
open Go.Proofs.Ytkfhekocbfednaa.Fu Go.Proofs.Ytkfhekocbfednaa.Fl
attribute [local go_sem] max2_int min2_int max_two min_two
def noBytes (b : ByteArray) : Bool := decide (b = ⟨#[]⟩)
theorem noBytes_list (b : ByteArray) : b.toList.isEmpty = noBytes b := by
  unfold noBytes
  by_cases h : b = ⟨#[]⟩
  · subst h; rw [decide_eq_true rfl, Lib.toList_data]; rfl
  · have : b.toList ≠ [] := fun e => h (by apply ByteArray.ext; apply Array.ext'; rw [← Lib.toList_data, e])
    rw [decide_eq_false h]
    cases hb : b.toList with
    | nil => exact absurd hb this
    | cons x y => rfl
set_option maxRecDepth 100000 in
theorem onFuse_any (kd bank cell : Int) (b : ByteArray) (w : World) : Calls Try.prog 38 #[.agg #[.int .i64 kd, .int .i64 bank, .int .i64 cell, .string b]] w fun e w' => e = .returned (.bool (noBytes b)) ∧ Below w.heap.size w w' := by
  have HB := Aside0.mk (below_alloc (Below.refl w.heap.size w) (.cells #[.int .i64 kd, .int .i64 bank, .int .i64 cell, .string b] 33))
  cases hb : noBytes b with
  | true =>
    have E := Aside0.mk hb
    have l1 : b.toList.isEmpty = true := (noBytes_list b).trans hb
    have l2 : b.toList = [] := by simpa using l1
    clear hb
    go_enter Try.func38, Try.ntmps38
    go_wp2
    go_ret
    exact ⟨by first | (rw [E.out]; rfl) | rfl | simp [E.out], HB.out⟩
  | false =>
    have E := Aside0.mk hb
    have l1 : b.toList.isEmpty = false := (noBytes_list b).trans hb
    have l2 : ¬ b.toList = [] := by simpa using l1
    clear hb
    go_enter Try.func38, Try.ntmps38
    go_wp2
    go_ret
    exact ⟨by first | (rw [E.out]; rfl) | rfl | simp [E.out], HB.out⟩
set_option maxRecDepth 100000 in
theorem onRead_any (kd bank cell : Int) (b : ByteArray) (w : World) : Calls Try.prog 43 #[.agg #[.int .i64 kd, .int .i64 bank, .int .i64 cell, .string b]] w fun e w' => e = .returned (.bool (noBytes b && decide (bank = 0))) ∧ Below w.heap.size w w' := by
  have HB := Aside0.mk (below_alloc (Below.refl w.heap.size w) (.cells #[.int .i64 kd, .int .i64 bank, .int .i64 cell, .string b] 33))
  cases hb : noBytes b with
  | true =>
    have l1 : b.toList.isEmpty = true := (noBytes_list b).trans hb
    have l2 : b.toList = [] := by simpa using l1
    clear hb
    by_cases h0 : bank = 0
    · have E := Aside0.mk (show (true && decide (bank = 0)) = true by simp [h0])
      subst h0
      go_enter Try.func43, Try.ntmps43
      go_wp2
      go_ret
      exact ⟨by first | (rw [E.out]; rfl) | rfl | simp [E.out], HB.out⟩
    · have E := Aside0.mk (show (true && decide (bank = 0)) = false by simp [h0])
      have h1 : (bank == 0) = false := beq_eq_false_iff_ne.2 h0
      clear h0
      go_enter Try.func43, Try.ntmps43
      go_wp2
      go_ret
      exact ⟨by first | (rw [E.out]; rfl) | rfl | simp [E.out], HB.out⟩
  | false =>
    have E := Aside0.mk (show (false && decide (bank = 0)) = false from rfl)
    have l1 : b.toList.isEmpty = false := (noBytes_list b).trans hb
    have l2 : ¬ b.toList = [] := by simpa using l1
    clear hb
    go_enter Try.func43, Try.ntmps43
    go_wp2
    go_ret
    exact ⟨by first | (rw [E.out]; rfl) | rfl | simp [E.out], HB.out⟩
set_option maxRecDepth 100000 in
theorem onWrite_any (kd bank cell : Int) (b : ByteArray) (w : World) : Calls Try.prog 46 #[.agg #[.int .i64 kd, .int .i64 bank, .int .i64 cell, .string b]] w fun e w' => e = .returned (.bool (decide (bank = 0))) ∧ Below w.heap.size w w' := by
  have HB := Aside0.mk (below_alloc (Below.refl w.heap.size w) (.cells #[.int .i64 kd, .int .i64 bank, .int .i64 cell, .string b] 33))
  by_cases h0 : bank = 0
  · have E := Aside0.mk (show decide (bank = 0) = true by simp [h0])
    subst h0
    go_enter Try.func46, Try.ntmps46
    go_wp2
    go_ret
    exact ⟨by first | (rw [E.out]; rfl) | rfl | simp [E.out], HB.out⟩
  · have E := Aside0.mk (show decide (bank = 0) = false by simp [h0])
    have h1 : (bank == 0) = false := beq_eq_false_iff_ne.2 h0
    clear h0
    go_enter Try.func46, Try.ntmps46
    go_wp2
    go_ret
    exact ⟨by first | (rw [E.out]; rfl) | rfl | simp [E.out], HB.out⟩
set_option maxRecDepth 100000 in
set_option maxHeartbeats 4000000 in
theorem run1_any {A : Option Addr} {n d g : Nat} {hs : List Hdr} {bk : List (List Int)} {w : World} (kd bank cell : Int) (b : ByteArray) (cut : Bool) (fb : Int) (noise : Bool) (hg : w.cell? ⟨g, 0, none⟩ = some (.slice A n d)) (h : Fu w A n d hs bk) :
    Calls Try.prog 39 #[.pointer (some ⟨g, 0, none⟩), .agg #[.int .i64 kd, .int .i64 bank, .int .i64 cell, .string b], .agg #[.bool cut, .int .i64 fb, .bool noise]] w fun e w' => e = .returned (.tuple #[.agg #[.int .i64 (frV bk bank cell noise), .string ⟨#[]⟩], .int .i64 (frE bk bank cell)]) ∧ Below w.heap.size w w' := by
  have H0 := Aside0.mk ((St.enter0 w).alloc3 #[.int .i64 kd, .int .i64 bank, .int .i64 cell, .string b] 33 #[.bool cut, .int .i64 fb, .bool noise] 35 #[.int .i64 0, .string ⟨#[]⟩] 40)
  have HF := Aside0.mk h
  clear h
  go_enter Try.func39, Try.ntmps39
  go_wp2
  refine start_ (n := 16) (S := (fun w' => w'.cell? ⟨g, 0, none⟩ = some (.slice A n d) ∧ w'.cell? ⟨w.heap.size, 1, none⟩ = some (.int .i64 bank) ∧ w'.cell? ⟨w.heap.size, 2, none⟩ = some (.int .i64 cell) ∧ w'.cell? ⟨w.heap.size + 1, 2, none⟩ = some (.bool noise))) (ds := []) #[false, false, false, false, false, false, false, false, false, false, false, false, false, false, false, false] (by kernel_rfl) rfl rfl ⟨pw_cell_below H0.out.drew.bel hg, H0.out.drew.cell 0 rfl 1 rfl, H0.out.drew.cell 0 rfl 2 rfl, H0.out.drew.cell 1 rfl 2 rfl⟩ (fun hHeld => ?_)
  refine pure_ (i := 0) (N := (some 11)) (v := ?_) (a' := ?_) #[true, false, false, false, false, false, false, false, false, false, false, false, false, false, false, false] rfl rfl (by kernel_rfl) (fun _ _ _ h => h) (Or.inl ⟨by rfl, ?_⟩) ?_ ?_
  rotate_left
  · intro w'
    go_simp
    try with_reducible rfl
  rotate_left
  · simp only [Act.put, List.setIfInBounds_toArray, List.set_cons_zero, List.set_cons_succ, i64_w, i32_w]
    rfl
  refine pure_ (i := 1) (N := (some 12)) (v := ?_) (a' := ?_) #[true, true, false, false, false, false, false, false, false, false, false, false, false, false, false, false] rfl rfl (by kernel_rfl) (fun _ _ _ h => h) (Or.inl ⟨by rfl, ?_⟩) ?_ ?_
  rotate_left
  · intro w'
    go_simp
    try with_reducible rfl
  rotate_left
  · simp only [Act.put, List.setIfInBounds_toArray, List.set_cons_zero, List.set_cons_succ, i64_w, i32_w]
    rfl
  refine pure_ (i := 2) (N := (some 13)) (v := ?_) (a' := ?_) #[true, true, true, false, false, false, false, false, false, false, false, false, false, false, false, false] rfl rfl (by kernel_rfl) (fun _ _ _ h => h) (Or.inl ⟨by rfl, ?_⟩) ?_ ?_
  rotate_left
  · intro w'
    go_simp
    try with_reducible rfl
  rotate_left
  · simp only [Act.put, List.setIfInBounds_toArray, List.set_cons_zero, List.set_cons_succ, i64_w, i32_w]
    rfl
  refine pure_ (i := 4) (N := (some 15)) (v := ?_) (a' := ?_) #[true, true, true, false, true, false, false, false, false, false, false, false, false, false, false, false] rfl rfl (by kernel_rfl) (fun _ _ _ h => h) (Or.inl ⟨by rfl, ?_⟩) ?_ ?_
  rotate_left
  · intro w'
    go_simp
    try with_reducible rfl
  rotate_left
  · simp only [Act.put, List.setIfInBounds_toArray, List.set_cons_zero, List.set_cons_succ, i64_w, i32_w]
    rfl
  refine pure_ (i := 6) (N := (some 17)) (v := ?_) (a' := ?_) #[true, true, true, false, true, false, true, false, false, false, false, false, false, false, false, false] rfl rfl (by kernel_rfl) (fun _ _ _ h => h) (Or.inl ⟨by rfl, ?_⟩) ?_ ?_
  rotate_left
  · intro w'
    go_simp
    try with_reducible rfl
  rotate_left
  · simp only [Act.put, List.setIfInBounds_toArray, List.set_cons_zero, List.set_cons_succ, i64_w, i32_w]
    rfl
  refine pure_ (i := 8) (N := (some 19)) (v := ?_) (a' := ?_) #[true, true, true, false, true, false, true, false, true, false, false, false, false, false, false, false] rfl rfl (by kernel_rfl) (fun _ _ _ h => h) (Or.inl ⟨by rfl, ?_⟩) ?_ ?_
  rotate_left
  · intro w'
    go_simp
    try with_reducible rfl
  rotate_left
  · simp only [Act.put, List.setIfInBounds_toArray, List.set_cons_zero, List.set_cons_succ, i64_w, i32_w]
    rfl
  refine take_ (i := 3) (N := (some 14)) (v := ?_) (a' := ?_) #[true, true, true, true, true, false, true, false, true, false, false, false, false, false, false, false] rfl rfl (by kernel_rfl) (fun _ _ _ h => h) (Or.inl ⟨by rfl, ?_⟩) hHeld ?_ ?_
  rotate_left
  · rintro w' ⟨s0, s1, s2, s3⟩
    go_simp
    try with_reducible rfl
  rotate_left
  · simp only [Act.put, List.setIfInBounds_toArray, List.set_cons_zero, List.set_cons_succ, i64_w, i32_w]
    rfl
  refine take_ (i := 5) (N := (some 16)) (v := ?_) (a' := ?_) #[true, true, true, true, true, true, true, false, true, false, false, false, false, false, false, false] rfl rfl (by kernel_rfl) (fun _ _ _ h => h) (Or.inl ⟨by rfl, ?_⟩) hHeld ?_ ?_
  rotate_left
  · rintro w' ⟨s0, s1, s2, s3⟩
    go_simp
    try with_reducible rfl
  rotate_left
  · simp only [Act.put, List.setIfInBounds_toArray, List.set_cons_zero, List.set_cons_succ, i64_w, i32_w]
    rfl
  refine take_ (i := 7) (N := (some 18)) (v := ?_) (a' := ?_) #[true, true, true, true, true, true, true, true, true, false, false, false, false, false, false, false] rfl rfl (by kernel_rfl) (fun _ _ _ h => h) (Or.inl ⟨by rfl, ?_⟩) hHeld ?_ ?_
  rotate_left
  · rintro w' ⟨s0, s1, s2, s3⟩
    go_simp
    try with_reducible rfl
  rotate_left
  · simp only [Act.put, List.setIfInBounds_toArray, List.set_cons_zero, List.set_cons_succ, i64_w, i32_w]
    rfl
  refine take_ (i := 9) (N := (some 20)) (v := ?_) (a' := ?_) #[true, true, true, true, true, true, true, true, true, true, false, false, false, false, false, false] rfl rfl (by kernel_rfl) (fun _ _ _ h => h) (Or.inl ⟨by rfl, ?_⟩) hHeld ?_ ?_
  rotate_left
  · rintro w' ⟨s0, s1, s2, s3⟩
    go_simp
    try with_reducible rfl
  rotate_left
  · simp only [Act.put, List.setIfInBounds_toArray, List.set_cons_zero, List.set_cons_succ, i64_w, i32_w]
    rfl
  refine one_ (i := 10) (N := (some 21)) #[true, true, true, true, true, true, true, true, true, true, true, false, false, false, false, false] rfl rfl (by kernel_rfl) (by decide) (fun K hK => ?_)
  refine goes_ Try.func40 (by kernel_rfl) rfl #[.agg #[.slice A n d], .int .i64 bank, .int .i64 cell, .bool noise] (by rfl) rfl rfl ?hargs ((Fu.read_any bank cell noise (HF.out.below H0.out.drew.bel)).mono ?_)
  case hargs => first | rfl | (go_simp; done) | kernel_rfl
  rintro e w1 ⟨rfl, hb⟩
  refine ⟨_, rfl, ?_⟩
  have H1 := Aside0.mk (H0.out.drew.step hb)
  clear hb
  refine hK.out _ _ ⟨pw_cell_below H1.out.bel hg, H1.out.cell 0 rfl 1 rfl, H1.out.cell 0 rfl 2 rfl, H1.out.cell 1 rfl 2 rfl⟩ (fun hHeld => ?_)
  clear hK K
  refine norm_ (a' := ?_) ?_ ?_
  rotate_left
  · show Act.put _ (some 21) _ = _
    simp only [Act.put, List.setIfInBounds_toArray, List.set_cons_zero, List.set_cons_succ, i64_w, i32_w]
    rfl
  refine pure_ (i := 11) (N := (some 10)) (v := ?_) (a' := ?_) #[true, true, true, true, true, true, true, true, true, true, true, true, false, false, false, false] rfl rfl (by kernel_rfl) (fun _ _ _ h => h) (Or.inl ⟨by rfl, ?_⟩) ?_ ?_
  rotate_left
  · intro w'
    go_simp
    try with_reducible rfl
  rotate_left
  · simp only [Act.put, List.setIfInBounds_toArray, List.set_cons_zero, List.set_cons_succ, i64_w, i32_w]
    rfl
  refine pure_ (i := 12) (N := (some 22)) (v := ?_) (a' := ?_) #[true, true, true, true, true, true, true, true, true, true, true, true, true, false, false, false] rfl rfl (by kernel_rfl) (fun _ _ _ h => h) (Or.inl ⟨by rfl, ?_⟩) ?_ ?_
  rotate_left
  · intro w'
    go_simp
    try with_reducible rfl
  rotate_left
  · simp only [Act.put, List.setIfInBounds_toArray, List.set_cons_zero, List.set_cons_succ, i64_w, i32_w]
    rfl
  refine pure_ (i := 13) (N := (some 23)) (v := ?_) (a' := ?_) #[true, true, true, true, true, true, true, true, true, true, true, true, true, true, false, false] rfl rfl (by kernel_rfl) (fun _ _ _ h => h) (Or.inl ⟨by rfl, ?_⟩) ?_ ?_
  rotate_left
  · intro w'
    go_simp
    try with_reducible rfl
  rotate_left
  · simp only [Act.put, List.setIfInBounds_toArray, List.set_cons_zero, List.set_cons_succ, i64_w, i32_w]
    rfl
  refine pure_ (i := 14) (N := (some 8)) (v := ?_) (a' := ?_) #[true, true, true, true, true, true, true, true, true, true, true, true, true, true, true, false] rfl rfl (by kernel_rfl) (fun _ _ _ h => h) (Or.inl ⟨by rfl, ?_⟩) ?_ ?_
  rotate_left
  · intro w'
    go_simp
    try with_reducible rfl
  rotate_left
  · simp only [Act.put, List.setIfInBounds_toArray, List.set_cons_zero, List.set_cons_succ, i64_w, i32_w]
    rfl
  refine pure_ (i := 15) (N := (some 9)) (v := ?_) (a' := ?_) #[true, true, true, true, true, true, true, true, true, true, true, true, true, true, true, true] rfl rfl (by kernel_rfl) (fun _ _ _ h => h) (Or.inl ⟨by rfl, ?_⟩) ?_ ?_
  rotate_left
  · intro w'
    go_simp
    try with_reducible rfl
  rotate_left
  · simp only [Act.put, List.setIfInBounds_toArray, List.set_cons_zero, List.set_cons_succ, i64_w, i32_w]
    rfl
  refine done_ (by kernel_rfl) ?_
  have k6 := H1.out.cell 2 rfl 0 rfl
  have k7 := H1.out.cell 2 rfl 1 rfl
  have f6 := H1.out.free 2 rfl 0
  have f7 := H1.out.free 2 rfl 1
  go_wp2
  have H2 := (H1.out.set 2 rfl 0 (.int .i64 (frV bk bank cell noise))).set 2 rfl 1 (.string ⟨#[]⟩)
  refine bodyPost_ret (results_ct rfl _ _ (w.heap.size + 1 + 1) 40 #[.int .i64 (frV bk bank cell noise), .string ⟨#[]⟩] (0, 0) _ rfl (H2.blk 2 rfl) Try.underlying40 rfl (by kernel_rfl)) rfl ?_
  exact ⟨rfl, H2.bel⟩
set_option maxRecDepth 100000 in
set_option maxHeartbeats 4000000 in
theorem run3_any {B : Option Addr} {m d g : Nat} {fl : List ByteArray} {w : World} (kd bank cell : Int) (b : ByteArray) (cut : Bool) (fb : Int) (noise : Bool) (hg : w.cell? ⟨g, 1, none⟩ = some (.slice B m d)) (h : Fl w B m d fl) :
    Calls Try.prog 44 #[.pointer (some ⟨g, 0, none⟩), .agg #[.int .i64 kd, .int .i64 bank, .int .i64 cell, .string b], .agg #[.bool cut, .int .i64 fb, .bool noise]] w fun e w' => e = .returned (.tuple #[.agg #[.int .i64 0, .string (rdS fl cell)], .int .i64 (rdE fl cell)]) ∧ Below w.heap.size w w' := by
  have H0 := Aside0.mk ((St.enter0 w).alloc3 #[.int .i64 kd, .int .i64 bank, .int .i64 cell, .string b] 33 #[.bool cut, .int .i64 fb, .bool noise] 35 #[.int .i64 0, .string ⟨#[]⟩] 40)
  have HF := Aside0.mk h
  clear h
  go_enter Try.func44, Try.ntmps44
  go_wp2
  refine start_ (n := 12) (S := (fun w' => w'.cell? ⟨g, 1, none⟩ = some (.slice B m d) ∧ w'.cell? ⟨w.heap.size, 2, none⟩ = some (.int .i64 cell))) (ds := []) #[false, false, false, false, false, false, false, false, false, false, false, false] (by kernel_rfl) rfl rfl ⟨pw_cell_below H0.out.drew.bel hg, H0.out.drew.cell 0 rfl 2 rfl⟩ (fun hHeld => ?_)
  refine pure_ (i := 0) (N := (some 11)) (v := ?_) (a' := ?_) #[true, false, false, false, false, false, false, false, false, false, false, false] rfl rfl (by kernel_rfl) (fun _ _ _ h => h) (Or.inl ⟨by rfl, ?_⟩) ?_ ?_
  rotate_left
  · intro w'
    go_simp
    try with_reducible rfl
  rotate_left
  · simp only [Act.put, List.setIfInBounds_toArray, List.set_cons_zero, List.set_cons_succ, i64_w, i32_w]
    rfl
  refine pure_ (i := 1) (N := (some 12)) (v := ?_) (a' := ?_) #[true, true, false, false, false, false, false, false, false, false, false, false] rfl rfl (by kernel_rfl) (fun _ _ _ h => h) (Or.inl ⟨by rfl, ?_⟩) ?_ ?_
  rotate_left
  · intro w'
    go_simp
    try with_reducible rfl
  rotate_left
  · simp only [Act.put, List.setIfInBounds_toArray, List.set_cons_zero, List.set_cons_succ, i64_w, i32_w]
    rfl
  refine pure_ (i := 2) (N := (some 13)) (v := ?_) (a' := ?_) #[true, true, true, false, false, false, false, false, false, false, false, false] rfl rfl (by kernel_rfl) (fun _ _ _ h => h) (Or.inl ⟨by rfl, ?_⟩) ?_ ?_
  rotate_left
  · intro w'
    go_simp
    try with_reducible rfl
  rotate_left
  · simp only [Act.put, List.setIfInBounds_toArray, List.set_cons_zero, List.set_cons_succ, i64_w, i32_w]
    rfl
  refine pure_ (i := 4) (N := (some 15)) (v := ?_) (a' := ?_) #[true, true, true, false, true, false, false, false, false, false, false, false] rfl rfl (by kernel_rfl) (fun _ _ _ h => h) (Or.inl ⟨by rfl, ?_⟩) ?_ ?_
  rotate_left
  · intro w'
    go_simp
    try with_reducible rfl
  rotate_left
  · simp only [Act.put, List.setIfInBounds_toArray, List.set_cons_zero, List.set_cons_succ, i64_w, i32_w]
    rfl
  refine take_ (i := 3) (N := (some 14)) (v := ?_) (a' := ?_) #[true, true, true, true, true, false, false, false, false, false, false, false] rfl rfl (by kernel_rfl) (fun _ _ _ h => h) (Or.inl ⟨by rfl, ?_⟩) hHeld ?_ ?_
  rotate_left
  · rintro w' ⟨s0, s1⟩
    go_simp
    try with_reducible rfl
  rotate_left
  · simp only [Act.put, List.setIfInBounds_toArray, List.set_cons_zero, List.set_cons_succ, i64_w, i32_w]
    rfl
  refine take_ (i := 5) (N := (some 16)) (v := ?_) (a' := ?_) #[true, true, true, true, true, true, false, false, false, false, false, false] rfl rfl (by kernel_rfl) (fun _ _ _ h => h) (Or.inl ⟨by rfl, ?_⟩) hHeld ?_ ?_
  rotate_left
  · rintro w' ⟨s0, s1⟩
    go_simp
    try with_reducible rfl
  rotate_left
  · simp only [Act.put, List.setIfInBounds_toArray, List.set_cons_zero, List.set_cons_succ, i64_w, i32_w]
    rfl
  refine one_ (i := 6) (N := (some 17)) #[true, true, true, true, true, true, true, false, false, false, false, false] rfl rfl (by kernel_rfl) (by decide) (fun K hK => ?_)
  refine goes_ Try.func45 (by kernel_rfl) rfl #[.agg #[.slice B m d], .int .i64 cell] (by rfl) rfl rfl ?hargs ((Fl.read_any cell (HF.out.below H0.out.drew.bel)).mono ?_)
  case hargs => first | rfl | (go_simp; done) | kernel_rfl
  rintro e w1 ⟨rfl, hb⟩
  refine ⟨_, rfl, ?_⟩
  have H1 := Aside0.mk (H0.out.drew.step hb)
  clear hb
  refine hK.out _ _ ⟨pw_cell_below H1.out.bel hg, H1.out.cell 0 rfl 2 rfl⟩ (fun hHeld => ?_)
  clear hK K
  refine norm_ (a' := ?_) ?_ ?_
  rotate_left
  · show Act.put _ (some 17) _ = _
    simp only [Act.put, List.setIfInBounds_toArray, List.set_cons_zero, List.set_cons_succ, i64_w, i32_w]
    rfl
  refine pure_ (i := 7) (N := (some 10)) (v := ?_) (a' := ?_) #[true, true, true, true, true, true, true, true, false, false, false, false] rfl rfl (by kernel_rfl) (fun _ _ _ h => h) (Or.inl ⟨by rfl, ?_⟩) ?_ ?_
  rotate_left
  · intro w'
    go_simp
    try with_reducible rfl
  rotate_left
  · simp only [Act.put, List.setIfInBounds_toArray, List.set_cons_zero, List.set_cons_succ, i64_w, i32_w]
    rfl
  refine pure_ (i := 8) (N := (some 18)) (v := ?_) (a' := ?_) #[true, true, true, true, true, true, true, true, true, false, false, false] rfl rfl (by kernel_rfl) (fun _ _ _ h => h) (Or.inl ⟨by rfl, ?_⟩) ?_ ?_
  rotate_left
  · intro w'
    go_simp
    try with_reducible rfl
  rotate_left
  · simp only [Act.put, List.setIfInBounds_toArray, List.set_cons_zero, List.set_cons_succ, i64_w, i32_w]
    rfl
  refine pure_ (i := 9) (N := (some 19)) (v := ?_) (a' := ?_) #[true, true, true, true, true, true, true, true, true, true, false, false] rfl rfl (by kernel_rfl) (fun _ _ _ h => h) (Or.inl ⟨by rfl, ?_⟩) ?_ ?_
  rotate_left
  · intro w'
    go_simp
    try with_reducible rfl
  rotate_left
  · simp only [Act.put, List.setIfInBounds_toArray, List.set_cons_zero, List.set_cons_succ, i64_w, i32_w]
    rfl
  refine pure_ (i := 10) (N := (some 8)) (v := ?_) (a' := ?_) #[true, true, true, true, true, true, true, true, true, true, true, false] rfl rfl (by kernel_rfl) (fun _ _ _ h => h) (Or.inl ⟨by rfl, ?_⟩) ?_ ?_
  rotate_left
  · intro w'
    go_simp
    try with_reducible rfl
  rotate_left
  · simp only [Act.put, List.setIfInBounds_toArray, List.set_cons_zero, List.set_cons_succ, i64_w, i32_w]
    rfl
  refine pure_ (i := 11) (N := (some 9)) (v := ?_) (a' := ?_) #[true, true, true, true, true, true, true, true, true, true, true, true] rfl rfl (by kernel_rfl) (fun _ _ _ h => h) (Or.inl ⟨by rfl, ?_⟩) ?_ ?_
  rotate_left
  · intro w'
    go_simp
    try with_reducible rfl
  rotate_left
  · simp only [Act.put, List.setIfInBounds_toArray, List.set_cons_zero, List.set_cons_succ, i64_w, i32_w]
    rfl
  refine done_ (by kernel_rfl) ?_
  have k6 := H1.out.cell 2 rfl 0 rfl
  have k7 := H1.out.cell 2 rfl 1 rfl
  have f6 := H1.out.free 2 rfl 0
  have f7 := H1.out.free 2 rfl 1
  go_wp2
  have H2 := (H1.out.set 2 rfl 0 (.int .i64 0)).set 2 rfl 1 (.string (rdS fl cell))
  refine bodyPost_ret (results_ct rfl _ _ (w.heap.size + 1 + 1) 40 #[.int .i64 0, .string (rdS fl cell)] (0, 0) _ rfl (H2.blk 2 rfl) Try.underlying40 rfl (by kernel_rfl)) rfl ?_
  exact ⟨rfl, H2.bel⟩
end Go.Proofs.Ytkfhekocbfednaa.Dv
namespace Go.Proofs.Ytkfhekocbfednaa.Dv
set_option linter.unusedVariables false
set_option linter.unusedSimpArgs false
open Go.RowKit Go.Proofs.Ytkfhekocbfednaa Go.Proofs.YtkfhekocbfednaaW.PrintWords Go.Proofs.YtkfhekocbfednaaW.PrintLast Go.Proofs.YtkfhekocbfednaaW.PrintMore
open Go.Proofs.Ytkfhekocbfednaa.Fu Go.Proofs.Ytkfhekocbfednaa.Fl
attribute [local go_sem] max2_max min2_min max_two min_two
theorem pulse_at {A : Option Addr} {n d : Nat} {hs : List Hdr} {bk : List (List Int)} {w : World} {S : Nat → Prop} (b c : Int) (cut : Bool) (q : Int) (hd : ∀ k, S k → k < w.heap.size) (hf : Sure S w (fun w => Fu w A n d hs bk))
    (hn : n ≤ 1000) (hok : OkBk bk) (hq : frE bk b c = q) :
    Calls Try.prog 42 #[.agg #[.slice A n d], .int .i64 b, .int .i64 c, .bool cut] w (FuseRes S (fpL bk b c cut) n q w) := hq ▸ pulse_ok b c cut hd hf hn hok
theorem write_at {A : Option Addr} {n c : Nat} {l : List ByteArray} {w : World} {S : Nat → Prop} (i : Int) (b : ByteArray) (cut : Int) (q : Int) (hd : ∀ k, S k → k < w.heap.size) (h : Sure S w (fun w => Fl w A n c l)) (hs : OkFl l) (hq : wrE l i b = q) :
    Calls Try.prog 48 #[.agg #[.slice A n c], .int .i64 i, .string b, .int .i64 cut] w (FlS S (wrL l i b cut) n q w) := hq ▸ write_any i b cut hd h hs
def cutV (cut : Bool) (fb : Int) : Int := if cut then min (max fb 0) 256 else -1
set_option maxRecDepth 100000 in
set_option maxHeartbeats 8000000 in
theorem run2_yes {A : Option Addr} {n d g : Nat} {hs : List Hdr} {bk : List (List Int)} {w w0 : World} {S : Nat → Prop} {ds : List (World → Prop)} {os : List Blk} {cs : Array Value} (kd bank cell : Int) (b : ByteArray) (cut : Bool) (fb : Int) (noise : Bool) (H : St w0 S ds os w) (i j : Nat) (hi : os[i]? = some (g, cs, 31)) (hc : cs[0]? = some (.slice A n d)) (hj : ds[j]? = some (fun w => Fu w A n d hs bk)) (hn : n ≤ 1000) (hok : OkBk bk) (hE : frE bk bank cell = 0) :
    Calls Try.prog 41 #[.pointer (some ⟨g, 0, none⟩), .agg #[.int .i64 kd, .int .i64 bank, .int .i64 cell, .string b], .agg #[.bool cut, .int .i64 fb, .bool noise]] w fun e w' => ∃ (S1 : Nat → Prop) (A1 : Option Addr) (c1 : Nat) (hs1 : List Hdr), e = .returned (.tuple #[.agg #[.int .i64 0, .string ⟨#[]⟩], .int .i64 0]) ∧ (∀ k, S1 k → S k ∨ w.heap.size ≤ k) ∧ St w0 S1 ((fun w => Fu w A1 n c1 hs1 (fpL bk bank cell cut)) :: ds) (os.set i (g, cs.setIfInBounds 0 (.slice A1 n c1), 31)) w' := by
  have H0 := Aside0.mk (H.alloc3 #[.int .i64 kd, .int .i64 bank, .int .i64 cell, .string b] 33 #[.bool cut, .int .i64 fb, .bool noise] 35 #[.int .i64 0, .string ⟨#[]⟩] 40)
  have HOK := Aside0.mk hok
  have HE := Aside0.mk hE
  clear hok hE H
  go_enter Try.func41, Try.ntmps41
  go_wp2
  refine start_ (n := 17) (S := (fun w' => w'.cell? ⟨g, 0, none⟩ = some (.slice A n d) ∧ w'.cell? ⟨w.heap.size, 1, none⟩ = some (.int .i64 bank) ∧ w'.cell? ⟨w.heap.size, 2, none⟩ = some (.int .i64 cell) ∧ w'.cell? ⟨w.heap.size + 1, 0, none⟩ = some (.bool cut))) (ds := []) #[false, false, false, false, false, false, false, false, false, false, false, false, false, false, false, false, false] (by kernel_rfl) rfl rfl ⟨H0.out.drew.cell _ (inL hi) 0 hc, H0.out.drew.cell _ (inR (k := 0) rfl) 1 rfl, H0.out.drew.cell _ (inR (k := 0) rfl) 2 rfl, H0.out.drew.cell _ (inR (k := 1) rfl) 0 rfl⟩ (fun hHeld => ?_)
  refine pure_ (i := 0) (N := (some 11)) (v := ?_) (a' := ?_) #[true, false, false, false, false, false, false, false, false, false, false, false, false, false, false, false, false] rfl rfl (by kernel_rfl) (fun _ _ _ h => h) (Or.inl ⟨by rfl, ?_⟩) ?_ ?_
  rotate_left
  · intro w'
    go_simp
    try with_reducible rfl
  rotate_left
  · simp only [Act.put, List.setIfInBounds_toArray, List.set_cons_zero, List.set_cons_succ, i64_w, i32_w]
    rfl
  refine pure_ (i := 1) (N := (some 12)) (v := ?_) (a' := ?_) #[true, true, false, false, false, false, false, false, false, false, false, false, false, false, false, false, false] rfl rfl (by kernel_rfl) (fun _ _ _ h => h) (Or.inl ⟨by rfl, ?_⟩) ?_ ?_
  rotate_left
  · intro w'
    go_simp
    try with_reducible rfl
  rotate_left
  · simp only [Act.put, List.setIfInBounds_toArray, List.set_cons_zero, List.set_cons_succ, i64_w, i32_w]
    rfl
  refine pure_ (i := 2) (N := (some 13)) (v := ?_) (a' := ?_) #[true, true, true, false, false, false, false, false, false, false, false, false, false, false, false, false, false] rfl rfl (by kernel_rfl) (fun _ _ _ h => h) (Or.inl ⟨by rfl, ?_⟩) ?_ ?_
  rotate_left
  · intro w'
    go_simp
    try with_reducible rfl
  rotate_left
  · simp only [Act.put, List.setIfInBounds_toArray, List.set_cons_zero, List.set_cons_succ, i64_w, i32_w]
    rfl
  refine pure_ (i := 4) (N := (some 15)) (v := ?_) (a' := ?_) #[true, true, true, false, true, false, false, false, false, false, false, false, false, false, false, false, false] rfl rfl (by kernel_rfl) (fun _ _ _ h => h) (Or.inl ⟨by rfl, ?_⟩) ?_ ?_
  rotate_left
  · intro w'
    go_simp
    try with_reducible rfl
  rotate_left
  · simp only [Act.put, List.setIfInBounds_toArray, List.set_cons_zero, List.set_cons_succ, i64_w, i32_w]
    rfl
  refine pure_ (i := 6) (N := (some 17)) (v := ?_) (a' := ?_) #[true, true, true, false, true, false, true, false, false, false, false, false, false, false, false, false, false] rfl rfl (by kernel_rfl) (fun _ _ _ h => h) (Or.inl ⟨by rfl, ?_⟩) ?_ ?_
  rotate_left
  · intro w'
    go_simp
    try with_reducible rfl
  rotate_left
  · simp only [Act.put, List.setIfInBounds_toArray, List.set_cons_zero, List.set_cons_succ, i64_w, i32_w]
    rfl
  refine pure_ (i := 8) (N := (some 19)) (v := ?_) (a' := ?_) #[true, true, true, false, true, false, true, false, true, false, false, false, false, false, false, false, false] rfl rfl (by kernel_rfl) (fun _ _ _ h => h) (Or.inl ⟨by rfl, ?_⟩) ?_ ?_
  rotate_left
  · intro w'
    go_simp
    try with_reducible rfl
  rotate_left
  · simp only [Act.put, List.setIfInBounds_toArray, List.set_cons_zero, List.set_cons_succ, i64_w, i32_w]
    rfl
  refine take_ (i := 3) (N := (some 14)) (v := ?_) (a' := ?_) #[true, true, true, true, true, false, true, false, true, false, false, false, false, false, false, false, false] rfl rfl (by kernel_rfl) (fun _ _ _ h => h) (Or.inl ⟨by rfl, ?_⟩) hHeld ?_ ?_
  rotate_left
  · rintro w' ⟨s0, s1, s2, s3⟩
    go_simp
    try with_reducible rfl
  rotate_left
  · simp only [Act.put, List.setIfInBounds_toArray, List.set_cons_zero, List.set_cons_succ, i64_w, i32_w]
    rfl
  refine take_ (i := 5) (N := (some 16)) (v := ?_) (a' := ?_) #[true, true, true, true, true, true, true, false, true, false, false, false, false, false, false, false, false] rfl rfl (by kernel_rfl) (fun _ _ _ h => h) (Or.inl ⟨by rfl, ?_⟩) hHeld ?_ ?_
  rotate_left
  · rintro w' ⟨s0, s1, s2, s3⟩
    go_simp
    try with_reducible rfl
  rotate_left
  · simp only [Act.put, List.setIfInBounds_toArray, List.set_cons_zero, List.set_cons_succ, i64_w, i32_w]
    rfl
  refine take_ (i := 7) (N := (some 18)) (v := ?_) (a' := ?_) #[true, true, true, true, true, true, true, true, true, false, false, false, false, false, false, false, false] rfl rfl (by kernel_rfl) (fun _ _ _ h => h) (Or.inl ⟨by rfl, ?_⟩) hHeld ?_ ?_
  rotate_left
  · rintro w' ⟨s0, s1, s2, s3⟩
    go_simp
    try with_reducible rfl
  rotate_left
  · simp only [Act.put, List.setIfInBounds_toArray, List.set_cons_zero, List.set_cons_succ, i64_w, i32_w]
    rfl
  refine take_ (i := 9) (N := (some 20)) (v := ?_) (a' := ?_) #[true, true, true, true, true, true, true, true, true, true, false, false, false, false, false, false, false] rfl rfl (by kernel_rfl) (fun _ _ _ h => h) (Or.inl ⟨by rfl, ?_⟩) hHeld ?_ ?_
  rotate_left
  · rintro w' ⟨s0, s1, s2, s3⟩
    go_simp
    try with_reducible rfl
  rotate_left
  · simp only [Act.put, List.setIfInBounds_toArray, List.set_cons_zero, List.set_cons_succ, i64_w, i32_w]
    rfl
  refine two_ (i := 10) (j := 14) (Ni := (some 21)) (Nj := (some 8)) #[true, true, true, true, true, true, true, true, true, true, true, false, false, false, false, false, false] #[true, true, true, true, true, true, true, true, true, true, false, false, false, false, true, false, false] rfl rfl rfl rfl (by kernel_rfl) (by decide) (by decide) (fun K hK => ?_) (fun K hK => ?_)
  ·
    refine goes_ Try.func42 (by kernel_rfl) rfl #[.agg #[.slice A n d], .int .i64 bank, .int .i64 cell, .bool cut] (by rfl) rfl rfl ?hargs ((pulse_at bank cell cut 0 H0.out.drew.dom (H0.out.drew.sure j hj) hn HOK.out HE.out).mono ?_)
    case hargs => first | rfl | (go_simp; done) | kernel_rfl
    rintro e w1 ⟨A1, c1, hs1, rfl, hb⟩
    refine ⟨_, rfl, ?_⟩
    have B0 := Aside0.mk (Nat.le_of_lt (H0.out.drew.lt _ (inR (k := 0) rfl)))
    have H1 := Aside0.mk (H0.out.drew.call hb)
    clear hb
    refine hK.out _ _ ⟨H1.out.cell _ (inL hi) 0 hc, H1.out.cell _ (inR (k := 0) rfl) 1 rfl, H1.out.cell _ (inR (k := 0) rfl) 2 rfl, H1.out.cell _ (inR (k := 1) rfl) 0 rfl⟩ (fun hHeld => ?_)
    clear hK K
    refine norm_ (a' := ?_) ?_ ?_
    rotate_left
    · show Act.put _ (some 21) _ = _
      simp only [Act.put, List.setIfInBounds_toArray, List.set_cons_zero, List.set_cons_succ, i64_w, i32_w]
      rfl
    refine pure_ (i := 11) (N := (some 10)) (v := ?_) (a' := ?_) #[true, true, true, true, true, true, true, true, true, true, true, true, false, false, false, false, false] rfl rfl (by kernel_rfl) (fun _ _ _ h => h) (Or.inl ⟨by rfl, ?_⟩) ?_ ?_
    rotate_left
    · intro w'
      go_simp
      try with_reducible rfl
    rotate_left
    · simp only [Act.put, List.setIfInBounds_toArray, List.set_cons_zero, List.set_cons_succ, i64_w, i32_w]
      rfl
    refine pure_ (i := 12) (N := (some 22)) (v := ?_) (a' := ?_) #[true, true, true, true, true, true, true, true, true, true, true, true, true, false, false, false, false] rfl rfl (by kernel_rfl) (fun _ _ _ h => h) (Or.inl ⟨by rfl, ?_⟩) ?_ ?_
    rotate_left
    · intro w'
      go_simp
      try with_reducible rfl
    rotate_left
    · simp only [Act.put, List.setIfInBounds_toArray, List.set_cons_zero, List.set_cons_succ, i64_w, i32_w]
      rfl
    refine pure_ (i := 13) (N := (some 23)) (v := ?_) (a' := ?_) #[true, true, true, true, true, true, true, true, true, true, true, true, true, true, false, false, false] rfl rfl (by kernel_rfl) (fun _ _ _ h => h) (Or.inl ⟨by rfl, ?_⟩) ?_ ?_
    rotate_left
    · intro w'
      go_simp
      try with_reducible rfl
    rotate_left
    · simp only [Act.put, List.setIfInBounds_toArray, List.set_cons_zero, List.set_cons_succ, i64_w, i32_w]
      rfl
    refine one_ (i := 14) (N := (some 8)) #[true, true, true, true, true, true, true, true, true, true, true, true, true, true, true, false, false] rfl rfl (by kernel_rfl) (by decide) (fun K hK => ?_)
    refine value_ (w1 := ?_) (v := ?_) (by rfl) rfl ?_ ?_
    rotate_left 2
    · go_simp
      constructor
      · rfl
      · rfl
    have H2 := Aside0.mk (H1.out.allocR #[.slice none 0 0] 24)
    refine hK.out _ _ ⟨H2.out.cell _ (inL hi) 0 hc, H2.out.cell _ (inR (k := 0) rfl) 1 rfl, H2.out.cell _ (inR (k := 0) rfl) 2 rfl, H2.out.cell _ (inR (k := 1) rfl) 0 rfl⟩ (fun hHeld => ?_)
    clear hK K
    refine norm_ (a' := ?_) ?_ ?_
    rotate_left
    · show Act.put _ (some 8) _ = _
      simp only [Act.put, List.setIfInBounds_toArray, List.set_cons_zero, List.set_cons_succ, i64_w, i32_w]
      rfl
    refine one_ (i := 15) (N := none) #[true, true, true, true, true, true, true, true, true, true, true, true, true, true, true, true, false] rfl rfl (by kernel_rfl) (by decide) (fun K hK => ?_)
    have k8 := H2.out.cell _ (inR (k := 3) rfl) 0 rfl
    have f8 := H2.out.free _ (inR (k := 3) rfl) 0
    refine skip_ (w1 := ?_) (by rfl) rfl ?_ ?_
    rotate_left
    · go_simp
      try rfl
    have H3 := Aside0.mk (H1.out.allocR #[.slice A1 n c1] 24)
    refine hK.out _ _ ⟨H3.out.cell _ (inL hi) 0 hc, H3.out.cell _ (inR (k := 0) rfl) 1 rfl, H3.out.cell _ (inR (k := 0) rfl) 2 rfl, H3.out.cell _ (inR (k := 1) rfl) 0 rfl⟩ (fun hHeld => ?_)
    clear hK K
    clear k8 f8
    refine pure_ (i := 16) (N := (some 9)) (v := ?_) (a' := ?_) #[true, true, true, true, true, true, true, true, true, true, true, true, true, true, true, true, true] rfl rfl (by kernel_rfl) (fun _ _ _ h => h) (Or.inl ⟨by rfl, ?_⟩) ?_ ?_
    rotate_left
    · intro w'
      go_simp
      try with_reducible rfl
    rotate_left
    · simp only [Act.put, List.setIfInBounds_toArray, List.set_cons_zero, List.set_cons_succ, i64_w, i32_w]
      rfl
    refine done_ (by kernel_rfl) ?_
    have k8 := H3.out.cell _ (inR (k := 3) rfl) 0 rfl
    have kg := H3.out.cell _ (inL hi) 0 hc
    have fg := H3.out.free _ (inL hi) 0
    have n1 := H3.out.neLR i 2 hi rfl
    have n2 := n1.symm
    have kr0 := H3.out.cell _ (inR (k := 2) rfl) 0 rfl
    have kr1 := H3.out.cell _ (inR (k := 2) rfl) 1 rfl
    have fr0 := H3.out.free _ (inR (k := 2) rfl) 0
    have fr1 := H3.out.free _ (inR (k := 2) rfl) 1
    go_wp2
    have H4 := Aside0.mk (((H3.out.setL i hi 0 (.slice A1 n c1)).setR 2 rfl 0 (.int .i64 0)).setR 2 rfl 1 (.string ⟨#[]⟩))
    clear n1 n2 kr0 kr1 fr0 fr1 k8 kg fg
    refine bodyPost_ret (results_ct rfl _ _ (w.heap.size + 1 + 1) 40 #[.int .i64 0, .string ⟨#[]⟩] (0, 0) _ rfl (H4.out.blk _ (inR (k := 2) rfl)) Try.underlying40 rfl (by kernel_rfl)) rfl ?_
    refine ⟨_, A1, c1, hs1, rfl, ?_, H4.out.low⟩
    exact fun k hk => hk.imp id (fun h => Nat.le_trans B0.out h.1)
  ·
    refine value_ (w1 := ?_) (v := ?_) (by rfl) rfl ?_ ?_
    rotate_left 2
    · go_simp
      constructor
      · rfl
      · rfl
    have Ha := Aside0.mk (H0.out.drew.allocR_ (q := w.heap.size + 1 + 1 + 1) (heap_three w _ _ _) #[.slice none 0 0] 24)
    refine hK.out _ _ ⟨Ha.out.cell _ (inL hi) 0 hc, Ha.out.cell _ (inR (k := 0) rfl) 1 rfl, Ha.out.cell _ (inR (k := 0) rfl) 2 rfl, Ha.out.cell _ (inR (k := 1) rfl) 0 rfl⟩ (fun hHeld => ?_)
    clear hK K
    refine norm_ (a' := ?_) ?_ ?_
    rotate_left
    · show Act.put _ (some 8) _ = _
      simp only [Act.put, List.setIfInBounds_toArray, List.set_cons_zero, List.set_cons_succ, i64_w, i32_w]
      rfl
    refine one_ (i := 10) (N := (some 21)) #[true, true, true, true, true, true, true, true, true, true, true, false, false, false, true, false, false] rfl rfl (by kernel_rfl) (by decide) (fun K hK => ?_)
    refine goes_ Try.func42 (by kernel_rfl) rfl #[.agg #[.slice A n d], .int .i64 bank, .int .i64 cell, .bool cut] (by rfl) rfl rfl ?hargs ((pulse_at bank cell cut 0 Ha.out.dom (Ha.out.sure j hj) hn HOK.out HE.out).mono ?_)
    case hargs => first | rfl | (go_simp; done) | kernel_rfl
    rintro e w1 ⟨A1, c1, hs1, rfl, hb⟩
    refine ⟨_, rfl, ?_⟩
    have B0 := Aside0.mk (Nat.le_of_lt (Ha.out.lt _ (inR (k := 0) rfl)))
    have H2 := Aside0.mk (Ha.out.call hb)
    clear hb
    refine hK.out _ _ ⟨H2.out.cell _ (inL hi) 0 hc, H2.out.cell _ (inR (k := 0) rfl) 1 rfl, H2.out.cell _ (inR (k := 0) rfl) 2 rfl, H2.out.cell _ (inR (k := 1) rfl) 0 rfl⟩ (fun hHeld => ?_)
    clear hK K
    refine norm_ (a' := ?_) ?_ ?_
    rotate_left
    · show Act.put _ (some 21) _ = _
      simp only [Act.put, List.setIfInBounds_toArray, List.set_cons_zero, List.set_cons_succ, i64_w, i32_w]
      rfl
    refine pure_ (i := 11) (N := (some 10)) (v := ?_) (a' := ?_) #[true, true, true, true, true, true, true, true, true, true, true, true, false, false, true, false, false] rfl rfl (by kernel_rfl) (fun _ _ _ h => h) (Or.inl ⟨by rfl, ?_⟩) ?_ ?_
    rotate_left
    · intro w'
      go_simp
      try with_reducible rfl
    rotate_left
    · simp only [Act.put, List.setIfInBounds_toArray, List.set_cons_zero, List.set_cons_succ, i64_w, i32_w]
      rfl
    refine pure_ (i := 12) (N := (some 22)) (v := ?_) (a' := ?_) #[true, true, true, true, true, true, true, true, true, true, true, true, true, false, true, false, false] rfl rfl (by kernel_rfl) (fun _ _ _ h => h) (Or.inl ⟨by rfl, ?_⟩) ?_ ?_
    rotate_left
    · intro w'
      go_simp
      try with_reducible rfl
    rotate_left
    · simp only [Act.put, List.setIfInBounds_toArray, List.set_cons_zero, List.set_cons_succ, i64_w, i32_w]
      rfl
    refine pure_ (i := 13) (N := (some 23)) (v := ?_) (a' := ?_) #[true, true, true, true, true, true, true, true, true, true, true, true, true, true, true, false, false] rfl rfl (by kernel_rfl) (fun _ _ _ h => h) (Or.inl ⟨by rfl, ?_⟩) ?_ ?_
    rotate_left
    · intro w'
      go_simp
      try with_reducible rfl
    rotate_left
    · simp only [Act.put, List.setIfInBounds_toArray, List.set_cons_zero, List.set_cons_succ, i64_w, i32_w]
      rfl
    refine one_ (i := 15) (N := none) #[true, true, true, true, true, true, true, true, true, true, true, true, true, true, true, true, false] rfl rfl (by kernel_rfl) (by decide) (fun K hK => ?_)
    have k8 := H2.out.cell _ (inR (k := 3) rfl) 0 rfl
    have f8 := H2.out.free _ (inR (k := 3) rfl) 0
    refine skip_ (w1 := ?_) (by rfl) rfl ?_ ?_
    rotate_left
    · go_simp
      try rfl
    have H3 := Aside0.mk (H2.out.setR 3 rfl 0 (.slice A1 n c1))
    refine hK.out _ _ ⟨H3.out.cell _ (inL hi) 0 hc, H3.out.cell _ (inR (k := 0) rfl) 1 rfl, H3.out.cell _ (inR (k := 0) rfl) 2 rfl, H3.out.cell _ (inR (k := 1) rfl) 0 rfl⟩ (fun hHeld => ?_)
    clear hK K
    clear k8 f8
    refine pure_ (i := 16) (N := (some 9)) (v := ?_) (a' := ?_) #[true, true, true, true, true, true, true, true, true, true, true, true, true, true, true, true, true] rfl rfl (by kernel_rfl) (fun _ _ _ h => h) (Or.inl ⟨by rfl, ?_⟩) ?_ ?_
    rotate_left
    · intro w'
      go_simp
      try with_reducible rfl
    rotate_left
    · simp only [Act.put, List.setIfInBounds_toArray, List.set_cons_zero, List.set_cons_succ, i64_w, i32_w]
      rfl
    refine done_ (by kernel_rfl) ?_
    have k8 := H3.out.cell _ (inR (k := 3) rfl) 0 rfl
    have kg := H3.out.cell _ (inL hi) 0 hc
    have fg := H3.out.free _ (inL hi) 0
    have n1 := H3.out.neLR i 2 hi rfl
    have n2 := n1.symm
    have kr0 := H3.out.cell _ (inR (k := 2) rfl) 0 rfl
    have kr1 := H3.out.cell _ (inR (k := 2) rfl) 1 rfl
    have fr0 := H3.out.free _ (inR (k := 2) rfl) 0
    have fr1 := H3.out.free _ (inR (k := 2) rfl) 1
    go_wp2
    have H4 := Aside0.mk (((H3.out.setL i hi 0 (.slice A1 n c1)).setR 2 rfl 0 (.int .i64 0)).setR 2 rfl 1 (.string ⟨#[]⟩))
    clear n1 n2 kr0 kr1 fr0 fr1 k8 kg fg
    refine bodyPost_ret (results_ct rfl _ _ (w.heap.size + 1 + 1) 40 #[.int .i64 0, .string ⟨#[]⟩] (0, 0) _ rfl (H4.out.blk _ (inR (k := 2) rfl)) Try.underlying40 rfl (by kernel_rfl)) rfl ?_
    refine ⟨_, A1, c1, hs1, rfl, ?_, H4.out.low⟩
    exact fun k hk => hk.imp id (fun h => Nat.le_trans B0.out h.1)
set_option maxRecDepth 100000 in
set_option maxHeartbeats 8000000 in
theorem run2_no {A : Option Addr} {n d g : Nat} {hs : List Hdr} {bk : List (List Int)} {w w0 : World} {S : Nat → Prop} {ds : List (World → Prop)} {os : List Blk} {cs : Array Value} (kd bank cell : Int) (b : ByteArray) (cut : Bool) (fb : Int) (noise : Bool) (q : Int) (H : St w0 S ds os w) (i j : Nat) (hi : os[i]? = some (g, cs, 31)) (hc : cs[0]? = some (.slice A n d)) (hj : ds[j]? = some (fun w => Fu w A n d hs bk)) (hn : n ≤ 1000) (hok : OkBk bk) (hE : frE bk bank cell = q) (hq : (q == 0) = false) :
    Calls Try.prog 41 #[.pointer (some ⟨g, 0, none⟩), .agg #[.int .i64 kd, .int .i64 bank, .int .i64 cell, .string b], .agg #[.bool cut, .int .i64 fb, .bool noise]] w fun e w' => e = .returned (.tuple #[.agg #[.int .i64 0, .string ⟨#[]⟩], .int .i64 q]) ∧ St w0 S ds os w' := by
  have H0 := Aside0.mk (H.alloc3 #[.int .i64 kd, .int .i64 bank, .int .i64 cell, .string b] 33 #[.bool cut, .int .i64 fb, .bool noise] 35 #[.int .i64 0, .string ⟨#[]⟩] 40)
  have HOK := Aside0.mk hok
  have HE := Aside0.mk hE
  clear hok hE H
  go_enter Try.func41, Try.ntmps41
  go_wp2
  refine start_ (n := 17) (S := (fun w' => w'.cell? ⟨g, 0, none⟩ = some (.slice A n d) ∧ w'.cell? ⟨w.heap.size, 1, none⟩ = some (.int .i64 bank) ∧ w'.cell? ⟨w.heap.size, 2, none⟩ = some (.int .i64 cell) ∧ w'.cell? ⟨w.heap.size + 1, 0, none⟩ = some (.bool cut))) (ds := []) #[false, false, false, false, false, false, false, false, false, false, false, false, false, false, false, false, false] (by kernel_rfl) rfl rfl ⟨H0.out.drew.cell _ (inL hi) 0 hc, H0.out.drew.cell _ (inR (k := 0) rfl) 1 rfl, H0.out.drew.cell _ (inR (k := 0) rfl) 2 rfl, H0.out.drew.cell _ (inR (k := 1) rfl) 0 rfl⟩ (fun hHeld => ?_)
  refine pure_ (i := 0) (N := (some 11)) (v := ?_) (a' := ?_) #[true, false, false, false, false, false, false, false, false, false, false, false, false, false, false, false, false] rfl rfl (by kernel_rfl) (fun _ _ _ h => h) (Or.inl ⟨by rfl, ?_⟩) ?_ ?_
  rotate_left
  · intro w'
    go_simp
    try with_reducible rfl
  rotate_left
  · simp only [Act.put, List.setIfInBounds_toArray, List.set_cons_zero, List.set_cons_succ, i64_w, i32_w]
    rfl
  refine pure_ (i := 1) (N := (some 12)) (v := ?_) (a' := ?_) #[true, true, false, false, false, false, false, false, false, false, false, false, false, false, false, false, false] rfl rfl (by kernel_rfl) (fun _ _ _ h => h) (Or.inl ⟨by rfl, ?_⟩) ?_ ?_
  rotate_left
  · intro w'
    go_simp
    try with_reducible rfl
  rotate_left
  · simp only [Act.put, List.setIfInBounds_toArray, List.set_cons_zero, List.set_cons_succ, i64_w, i32_w]
    rfl
  refine pure_ (i := 2) (N := (some 13)) (v := ?_) (a' := ?_) #[true, true, true, false, false, false, false, false, false, false, false, false, false, false, false, false, false] rfl rfl (by kernel_rfl) (fun _ _ _ h => h) (Or.inl ⟨by rfl, ?_⟩) ?_ ?_
  rotate_left
  · intro w'
    go_simp
    try with_reducible rfl
  rotate_left
  · simp only [Act.put, List.setIfInBounds_toArray, List.set_cons_zero, List.set_cons_succ, i64_w, i32_w]
    rfl
  refine pure_ (i := 4) (N := (some 15)) (v := ?_) (a' := ?_) #[true, true, true, false, true, false, false, false, false, false, false, false, false, false, false, false, false] rfl rfl (by kernel_rfl) (fun _ _ _ h => h) (Or.inl ⟨by rfl, ?_⟩) ?_ ?_
  rotate_left
  · intro w'
    go_simp
    try with_reducible rfl
  rotate_left
  · simp only [Act.put, List.setIfInBounds_toArray, List.set_cons_zero, List.set_cons_succ, i64_w, i32_w]
    rfl
  refine pure_ (i := 6) (N := (some 17)) (v := ?_) (a' := ?_) #[true, true, true, false, true, false, true, false, false, false, false, false, false, false, false, false, false] rfl rfl (by kernel_rfl) (fun _ _ _ h => h) (Or.inl ⟨by rfl, ?_⟩) ?_ ?_
  rotate_left
  · intro w'
    go_simp
    try with_reducible rfl
  rotate_left
  · simp only [Act.put, List.setIfInBounds_toArray, List.set_cons_zero, List.set_cons_succ, i64_w, i32_w]
    rfl
  refine pure_ (i := 8) (N := (some 19)) (v := ?_) (a' := ?_) #[true, true, true, false, true, false, true, false, true, false, false, false, false, false, false, false, false] rfl rfl (by kernel_rfl) (fun _ _ _ h => h) (Or.inl ⟨by rfl, ?_⟩) ?_ ?_
  rotate_left
  · intro w'
    go_simp
    try with_reducible rfl
  rotate_left
  · simp only [Act.put, List.setIfInBounds_toArray, List.set_cons_zero, List.set_cons_succ, i64_w, i32_w]
    rfl
  refine take_ (i := 3) (N := (some 14)) (v := ?_) (a' := ?_) #[true, true, true, true, true, false, true, false, true, false, false, false, false, false, false, false, false] rfl rfl (by kernel_rfl) (fun _ _ _ h => h) (Or.inl ⟨by rfl, ?_⟩) hHeld ?_ ?_
  rotate_left
  · rintro w' ⟨s0, s1, s2, s3⟩
    go_simp
    try with_reducible rfl
  rotate_left
  · simp only [Act.put, List.setIfInBounds_toArray, List.set_cons_zero, List.set_cons_succ, i64_w, i32_w]
    rfl
  refine take_ (i := 5) (N := (some 16)) (v := ?_) (a' := ?_) #[true, true, true, true, true, true, true, false, true, false, false, false, false, false, false, false, false] rfl rfl (by kernel_rfl) (fun _ _ _ h => h) (Or.inl ⟨by rfl, ?_⟩) hHeld ?_ ?_
  rotate_left
  · rintro w' ⟨s0, s1, s2, s3⟩
    go_simp
    try with_reducible rfl
  rotate_left
  · simp only [Act.put, List.setIfInBounds_toArray, List.set_cons_zero, List.set_cons_succ, i64_w, i32_w]
    rfl
  refine take_ (i := 7) (N := (some 18)) (v := ?_) (a' := ?_) #[true, true, true, true, true, true, true, true, true, false, false, false, false, false, false, false, false] rfl rfl (by kernel_rfl) (fun _ _ _ h => h) (Or.inl ⟨by rfl, ?_⟩) hHeld ?_ ?_
  rotate_left
  · rintro w' ⟨s0, s1, s2, s3⟩
    go_simp
    try with_reducible rfl
  rotate_left
  · simp only [Act.put, List.setIfInBounds_toArray, List.set_cons_zero, List.set_cons_succ, i64_w, i32_w]
    rfl
  refine take_ (i := 9) (N := (some 20)) (v := ?_) (a' := ?_) #[true, true, true, true, true, true, true, true, true, true, false, false, false, false, false, false, false] rfl rfl (by kernel_rfl) (fun _ _ _ h => h) (Or.inl ⟨by rfl, ?_⟩) hHeld ?_ ?_
  rotate_left
  · rintro w' ⟨s0, s1, s2, s3⟩
    go_simp
    try with_reducible rfl
  rotate_left
  · simp only [Act.put, List.setIfInBounds_toArray, List.set_cons_zero, List.set_cons_succ, i64_w, i32_w]
    rfl
  refine two_ (i := 10) (j := 14) (Ni := (some 21)) (Nj := (some 8)) #[true, true, true, true, true, true, true, true, true, true, true, false, false, false, false, false, false] #[true, true, true, true, true, true, true, true, true, true, false, false, false, false, true, false, false] rfl rfl rfl rfl (by kernel_rfl) (by decide) (by decide) (fun K hK => ?_) (fun K hK => ?_)
  ·
    refine goes_ Try.func42 (by kernel_rfl) rfl #[.agg #[.slice A n d], .int .i64 bank, .int .i64 cell, .bool cut] (by rfl) rfl rfl ?hargs ((pulse_at bank cell cut q H0.out.drew.dom (H0.out.drew.sure j hj) hn HOK.out HE.out).mono ?_)
    case hargs => first | rfl | (go_simp; done) | kernel_rfl
    rintro e w1 ⟨A1, c1, hs1, rfl, hb⟩
    refine ⟨_, rfl, ?_⟩
    have B0 := Aside0.mk (Nat.le_of_lt (H0.out.drew.lt _ (inR (k := 0) rfl)))
    have H1 := Aside0.mk (H0.out.drew.call hb)
    have H5a := Aside0.mk (H0.out.drew.step hb.bel)
    clear hb
    refine hK.out _ _ ⟨H1.out.cell _ (inL hi) 0 hc, H1.out.cell _ (inR (k := 0) rfl) 1 rfl, H1.out.cell _ (inR (k := 0) rfl) 2 rfl, H1.out.cell _ (inR (k := 1) rfl) 0 rfl⟩ (fun hHeld => ?_)
    clear hK K
    refine norm_ (a' := ?_) ?_ ?_
    rotate_left
    · show Act.put _ (some 21) _ = _
      simp only [Act.put, List.setIfInBounds_toArray, List.set_cons_zero, List.set_cons_succ, i64_w, i32_w]
      rfl
    refine pure_ (i := 11) (N := (some 10)) (v := ?_) (a' := ?_) #[true, true, true, true, true, true, true, true, true, true, true, true, false, false, false, false, false] rfl rfl (by kernel_rfl) (fun _ _ _ h => h) (Or.inl ⟨by rfl, ?_⟩) ?_ ?_
    rotate_left
    · intro w'
      go_simp
      try with_reducible rfl
    rotate_left
    · simp only [Act.put, List.setIfInBounds_toArray, List.set_cons_zero, List.set_cons_succ, i64_w, i32_w]
      rfl
    refine pure_ (i := 12) (N := (some 22)) (v := ?_) (a' := ?_) #[true, true, true, true, true, true, true, true, true, true, true, true, true, false, false, false, false] rfl rfl (by kernel_rfl) (fun _ _ _ h => h) (Or.inl ⟨by rfl, ?_⟩) ?_ ?_
    rotate_left
    · intro w'
      go_simp
      try with_reducible rfl
    rotate_left
    · simp only [Act.put, List.setIfInBounds_toArray, List.set_cons_zero, List.set_cons_succ, i64_w, i32_w]
      rfl
    refine pure_ (i := 13) (N := (some 23)) (v := ?_) (a' := ?_) #[true, true, true, true, true, true, true, true, true, true, true, true, true, true, false, false, false] rfl rfl (by kernel_rfl) (fun _ _ _ h => h) (Or.inl ⟨by rfl, ?_⟩) ?_ ?_
    rotate_left
    · intro w'
      go_simp
      try with_reducible rfl
    rotate_left
    · simp only [Act.put, List.setIfInBounds_toArray, List.set_cons_zero, List.set_cons_succ, i64_w, i32_w]
      rfl
    refine one_ (i := 14) (N := (some 8)) #[true, true, true, true, true, true, true, true, true, true, true, true, true, true, true, false, false] rfl rfl (by kernel_rfl) (by decide) (fun K hK => ?_)
    refine value_ (w1 := ?_) (v := ?_) (by rfl) rfl ?_ ?_
    rotate_left 2
    · go_simp
      constructor
      · rfl
      · rfl
    have H2 := Aside0.mk (H1.out.allocR #[.slice none 0 0] 24)
    refine hK.out _ _ ⟨H2.out.cell _ (inL hi) 0 hc, H2.out.cell _ (inR (k := 0) rfl) 1 rfl, H2.out.cell _ (inR (k := 0) rfl) 2 rfl, H2.out.cell _ (inR (k := 1) rfl) 0 rfl⟩ (fun hHeld => ?_)
    clear hK K
    refine norm_ (a' := ?_) ?_ ?_
    rotate_left
    · show Act.put _ (some 8) _ = _
      simp only [Act.put, List.setIfInBounds_toArray, List.set_cons_zero, List.set_cons_succ, i64_w, i32_w]
      rfl
    refine one_ (i := 15) (N := none) #[true, true, true, true, true, true, true, true, true, true, true, true, true, true, true, true, false] rfl rfl (by kernel_rfl) (by decide) (fun K hK => ?_)
    have k8 := H2.out.cell _ (inR (k := 3) rfl) 0 rfl
    have f8 := H2.out.free _ (inR (k := 3) rfl) 0
    have H5 := Aside0.mk (H5a.out.allocR #[.slice A1 n c1] 24)
    refine skip_ (w1 := ?_) (by rfl) rfl ?_ ?_
    rotate_left
    · go_simp
      try rfl
    have H3 := Aside0.mk (H1.out.allocR #[.slice A1 n c1] 24)
    refine hK.out _ _ ⟨H3.out.cell _ (inL hi) 0 hc, H3.out.cell _ (inR (k := 0) rfl) 1 rfl, H3.out.cell _ (inR (k := 0) rfl) 2 rfl, H3.out.cell _ (inR (k := 1) rfl) 0 rfl⟩ (fun hHeld => ?_)
    clear hK K
    clear k8 f8
    refine pure_ (i := 16) (N := (some 9)) (v := ?_) (a' := ?_) #[true, true, true, true, true, true, true, true, true, true, true, true, true, true, true, true, true] rfl rfl (by kernel_rfl) (fun _ _ _ h => h) (Or.inl ⟨by rfl, ?_⟩) ?_ ?_
    rotate_left
    · intro w'
      go_simp
      try with_reducible rfl
    rotate_left
    · simp only [Act.put, List.setIfInBounds_toArray, List.set_cons_zero, List.set_cons_succ, i64_w, i32_w]
      rfl
    refine done_ (by kernel_rfl) ?_
    have k8 := H3.out.cell _ (inR (k := 3) rfl) 0 rfl
    have kg := H3.out.cell _ (inL hi) 0 hc
    have fg := H3.out.free _ (inL hi) 0
    have n1 := H3.out.neLR i 2 hi rfl
    have n2 := n1.symm
    have kr0 := H3.out.cell _ (inR (k := 2) rfl) 0 rfl
    have kr1 := H3.out.cell _ (inR (k := 2) rfl) 1 rfl
    have fr0 := H3.out.free _ (inR (k := 2) rfl) 0
    have fr1 := H3.out.free _ (inR (k := 2) rfl) 1
    go_wp2
    have H4 := Aside0.mk (((H5.out).setR 2 rfl 0 (.int .i64 0)).setR 2 rfl 1 (.string ⟨#[]⟩))
    clear n1 n2 kr0 kr1 fr0 fr1 k8 kg fg
    refine bodyPost_ret (results_ct rfl _ _ (w.heap.size + 1 + 1) 40 #[.int .i64 0, .string ⟨#[]⟩] (0, 0) _ rfl (H4.out.blk _ (inR (k := 2) rfl)) Try.underlying40 rfl (by kernel_rfl)) rfl ?_
    exact ⟨rfl, H4.out.low⟩
  ·
    refine value_ (w1 := ?_) (v := ?_) (by rfl) rfl ?_ ?_
    rotate_left 2
    · go_simp
      constructor
      · rfl
      · rfl
    have Ha := Aside0.mk (H0.out.drew.allocR_ (q := w.heap.size + 1 + 1 + 1) (heap_three w _ _ _) #[.slice none 0 0] 24)
    refine hK.out _ _ ⟨Ha.out.cell _ (inL hi) 0 hc, Ha.out.cell _ (inR (k := 0) rfl) 1 rfl, Ha.out.cell _ (inR (k := 0) rfl) 2 rfl, Ha.out.cell _ (inR (k := 1) rfl) 0 rfl⟩ (fun hHeld => ?_)
    clear hK K
    refine norm_ (a' := ?_) ?_ ?_
    rotate_left
    · show Act.put _ (some 8) _ = _
      simp only [Act.put, List.setIfInBounds_toArray, List.set_cons_zero, List.set_cons_succ, i64_w, i32_w]
      rfl
    refine one_ (i := 10) (N := (some 21)) #[true, true, true, true, true, true, true, true, true, true, true, false, false, false, true, false, false] rfl rfl (by kernel_rfl) (by decide) (fun K hK => ?_)
    refine goes_ Try.func42 (by kernel_rfl) rfl #[.agg #[.slice A n d], .int .i64 bank, .int .i64 cell, .bool cut] (by rfl) rfl rfl ?hargs ((pulse_at bank cell cut q Ha.out.dom (Ha.out.sure j hj) hn HOK.out HE.out).mono ?_)
    case hargs => first | rfl | (go_simp; done) | kernel_rfl
    rintro e w1 ⟨A1, c1, hs1, rfl, hb⟩
    refine ⟨_, rfl, ?_⟩
    have B0 := Aside0.mk (Nat.le_of_lt (Ha.out.lt _ (inR (k := 0) rfl)))
    have H2 := Aside0.mk (Ha.out.call hb)
    have H5b := Aside0.mk (Ha.out.step hb.bel)
    clear hb
    refine hK.out _ _ ⟨H2.out.cell _ (inL hi) 0 hc, H2.out.cell _ (inR (k := 0) rfl) 1 rfl, H2.out.cell _ (inR (k := 0) rfl) 2 rfl, H2.out.cell _ (inR (k := 1) rfl) 0 rfl⟩ (fun hHeld => ?_)
    clear hK K
    refine norm_ (a' := ?_) ?_ ?_
    rotate_left
    · show Act.put _ (some 21) _ = _
      simp only [Act.put, List.setIfInBounds_toArray, List.set_cons_zero, List.set_cons_succ, i64_w, i32_w]
      rfl
    refine pure_ (i := 11) (N := (some 10)) (v := ?_) (a' := ?_) #[true, true, true, true, true, true, true, true, true, true, true, true, false, false, true, false, false] rfl rfl (by kernel_rfl) (fun _ _ _ h => h) (Or.inl ⟨by rfl, ?_⟩) ?_ ?_
    rotate_left
    · intro w'
      go_simp
      try with_reducible rfl
    rotate_left
    · simp only [Act.put, List.setIfInBounds_toArray, List.set_cons_zero, List.set_cons_succ, i64_w, i32_w]
      rfl
    refine pure_ (i := 12) (N := (some 22)) (v := ?_) (a' := ?_) #[true, true, true, true, true, true, true, true, true, true, true, true, true, false, true, false, false] rfl rfl (by kernel_rfl) (fun _ _ _ h => h) (Or.inl ⟨by rfl, ?_⟩) ?_ ?_
    rotate_left
    · intro w'
      go_simp
      try with_reducible rfl
    rotate_left
    · simp only [Act.put, List.setIfInBounds_toArray, List.set_cons_zero, List.set_cons_succ, i64_w, i32_w]
      rfl
    refine pure_ (i := 13) (N := (some 23)) (v := ?_) (a' := ?_) #[true, true, true, true, true, true, true, true, true, true, true, true, true, true, true, false, false] rfl rfl (by kernel_rfl) (fun _ _ _ h => h) (Or.inl ⟨by rfl, ?_⟩) ?_ ?_
    rotate_left
    · intro w'
      go_simp
      try with_reducible rfl
    rotate_left
    · simp only [Act.put, List.setIfInBounds_toArray, List.set_cons_zero, List.set_cons_succ, i64_w, i32_w]
      rfl
    refine one_ (i := 15) (N := none) #[true, true, true, true, true, true, true, true, true, true, true, true, true, true, true, true, false] rfl rfl (by kernel_rfl) (by decide) (fun K hK => ?_)
    have k8 := H2.out.cell _ (inR (k := 3) rfl) 0 rfl
    have f8 := H2.out.free _ (inR (k := 3) rfl) 0
    have H5 := Aside0.mk (H5b.out.setR 3 rfl 0 (.slice A1 n c1))
    refine skip_ (w1 := ?_) (by rfl) rfl ?_ ?_
    rotate_left
    · go_simp
      try rfl
    have H3 := Aside0.mk (H2.out.setR 3 rfl 0 (.slice A1 n c1))
    refine hK.out _ _ ⟨H3.out.cell _ (inL hi) 0 hc, H3.out.cell _ (inR (k := 0) rfl) 1 rfl, H3.out.cell _ (inR (k := 0) rfl) 2 rfl, H3.out.cell _ (inR (k := 1) rfl) 0 rfl⟩ (fun hHeld => ?_)
    clear hK K
    clear k8 f8
    refine pure_ (i := 16) (N := (some 9)) (v := ?_) (a' := ?_) #[true, true, true, true, true, true, true, true, true, true, true, true, true, true, true, true, true] rfl rfl (by kernel_rfl) (fun _ _ _ h => h) (Or.inl ⟨by rfl, ?_⟩) ?_ ?_
    rotate_left
    · intro w'
      go_simp
      try with_reducible rfl
    rotate_left
    · simp only [Act.put, List.setIfInBounds_toArray, List.set_cons_zero, List.set_cons_succ, i64_w, i32_w]
      rfl
    refine done_ (by kernel_rfl) ?_
    have k8 := H3.out.cell _ (inR (k := 3) rfl) 0 rfl
    have kg := H3.out.cell _ (inL hi) 0 hc
    have fg := H3.out.free _ (inL hi) 0
    have n1 := H3.out.neLR i 2 hi rfl
    have n2 := n1.symm
    have kr0 := H3.out.cell _ (inR (k := 2) rfl) 0 rfl
    have kr1 := H3.out.cell _ (inR (k := 2) rfl) 1 rfl
    have fr0 := H3.out.free _ (inR (k := 2) rfl) 0
    have fr1 := H3.out.free _ (inR (k := 2) rfl) 1
    go_wp2
    have H4 := Aside0.mk (((H5.out).setR 2 rfl 0 (.int .i64 0)).setR 2 rfl 1 (.string ⟨#[]⟩))
    clear n1 n2 kr0 kr1 fr0 fr1 k8 kg fg
    refine bodyPost_ret (results_ct rfl _ _ (w.heap.size + 1 + 1) 40 #[.int .i64 0, .string ⟨#[]⟩] (0, 0) _ rfl (H4.out.blk _ (inR (k := 2) rfl)) Try.underlying40 rfl (by kernel_rfl)) rfl ?_
    exact ⟨rfl, H4.out.low⟩
set_option maxRecDepth 100000 in
set_option maxHeartbeats 8000000 in
theorem run4_yes_t {B : Option Addr} {m d g : Nat} {fl : List ByteArray} {w w0 : World} {S : Nat → Prop} {ds : List (World → Prop)} {os : List Blk} {cs : Array Value} (kd bank cell : Int) (b : ByteArray) (fb : Int) (noise : Bool) (H : St w0 S ds os w) (i j : Nat) (hi : os[i]? = some (g, cs, 31)) (hc : cs[1]? = some (.slice B m d)) (hj : ds[j]? = some (fun w => Fl w B m d fl)) (hok : OkFl fl) (hE : wrE fl cell b = 0) :
    Calls Try.prog 47 #[.pointer (some ⟨g, 0, none⟩), .agg #[.int .i64 kd, .int .i64 bank, .int .i64 cell, .string b], .agg #[.bool true, .int .i64 fb, .bool noise]] w fun e w' => ∃ (S1 : Nat → Prop) (B1 : Option Addr) (c1 : Nat), e = .returned (.tuple #[.agg #[.int .i64 0, .string ⟨#[]⟩], .int .i64 0]) ∧ (∀ k, S1 k → S k ∨ w.heap.size ≤ k) ∧ St w0 S1 ((fun w => Fl w B1 m c1 (wrL fl cell b (min (max fb 0) 256))) :: ds) (os.set i (g, cs.setIfInBounds 1 (.slice B1 m c1), 31)) w' := by
  have H0 := Aside0.mk (H.alloc3 #[.int .i64 kd, .int .i64 bank, .int .i64 cell, .string b] 33 #[.bool true, .int .i64 fb, .bool noise] 35 #[.int .i64 0, .string ⟨#[]⟩] 40)
  have HOK := Aside0.mk hok
  have HE := Aside0.mk hE
  clear hok hE H
  have kc := H0.out.cell _ (inR (k := 1) rfl) 0 rfl
  have kb := H0.out.cell _ (inR (k := 1) rfl) 1 rfl
  go_enter Try.func47, Try.ntmps47
  go_wp2
  clear kc
  clear kb
  refine start_ (n := 16) (S := (fun w' => w'.cell? ⟨g, 1, none⟩ = some (.slice B m d) ∧ w'.cell? ⟨w.heap.size, 2, none⟩ = some (.int .i64 cell) ∧ w'.cell? ⟨w.heap.size, 3, none⟩ = some (.string b))) (ds := []) #[false, false, false, false, false, false, false, false, false, false, false, false, false, false, false, false] (by kernel_rfl) rfl rfl ⟨H0.out.drew.cell _ (inL hi) 1 hc, H0.out.drew.cell _ (inR (k := 0) rfl) 2 rfl, H0.out.drew.cell _ (inR (k := 0) rfl) 3 rfl⟩ (fun hHeld => ?_)
  refine pure_ (i := 0) (N := (some 18)) (v := ?_) (a' := ?_) #[true, false, false, false, false, false, false, false, false, false, false, false, false, false, false, false] rfl rfl (by kernel_rfl) (fun _ _ _ h => h) (Or.inl ⟨by rfl, ?_⟩) ?_ ?_
  rotate_left
  · intro w'
    go_simp
    try with_reducible rfl
  rotate_left
  · simp only [Act.put, List.setIfInBounds_toArray, List.set_cons_zero, List.set_cons_succ, i64_w, i32_w]
    rfl
  refine pure_ (i := 1) (N := (some 19)) (v := ?_) (a' := ?_) #[true, true, false, false, false, false, false, false, false, false, false, false, false, false, false, false] rfl rfl (by kernel_rfl) (fun _ _ _ h => h) (Or.inl ⟨by rfl, ?_⟩) ?_ ?_
  rotate_left
  · intro w'
    go_simp
    try with_reducible rfl
  rotate_left
  · simp only [Act.put, List.setIfInBounds_toArray, List.set_cons_zero, List.set_cons_succ, i64_w, i32_w]
    rfl
  refine pure_ (i := 2) (N := (some 20)) (v := ?_) (a' := ?_) #[true, true, true, false, false, false, false, false, false, false, false, false, false, false, false, false] rfl rfl (by kernel_rfl) (fun _ _ _ h => h) (Or.inl ⟨by rfl, ?_⟩) ?_ ?_
  rotate_left
  · intro w'
    go_simp
    try with_reducible rfl
  rotate_left
  · simp only [Act.put, List.setIfInBounds_toArray, List.set_cons_zero, List.set_cons_succ, i64_w, i32_w]
    rfl
  refine pure_ (i := 4) (N := (some 22)) (v := ?_) (a' := ?_) #[true, true, true, false, true, false, false, false, false, false, false, false, false, false, false, false] rfl rfl (by kernel_rfl) (fun _ _ _ h => h) (Or.inl ⟨by rfl, ?_⟩) ?_ ?_
  rotate_left
  · intro w'
    go_simp
    try with_reducible rfl
  rotate_left
  · simp only [Act.put, List.setIfInBounds_toArray, List.set_cons_zero, List.set_cons_succ, i64_w, i32_w]
    rfl
  refine pure_ (i := 6) (N := (some 24)) (v := ?_) (a' := ?_) #[true, true, true, false, true, false, true, false, false, false, false, false, false, false, false, false] rfl rfl (by kernel_rfl) (fun _ _ _ h => h) (Or.inl ⟨by rfl, ?_⟩) ?_ ?_
  rotate_left
  · intro w'
    go_simp
    try with_reducible rfl
  rotate_left
  · simp only [Act.put, List.setIfInBounds_toArray, List.set_cons_zero, List.set_cons_succ, i64_w, i32_w]
    rfl
  refine pure_ (i := 8) (N := (some 26)) (v := ?_) (a' := ?_) #[true, true, true, false, true, false, true, false, true, false, false, false, false, false, false, false] rfl rfl (by kernel_rfl) (fun _ _ _ h => h) (Or.inl ⟨by rfl, ?_⟩) ?_ ?_
  rotate_left
  · intro w'
    go_simp
    try with_reducible rfl
  rotate_left
  · simp only [Act.put, List.setIfInBounds_toArray, List.set_cons_zero, List.set_cons_succ, i64_w, i32_w]
    rfl
  refine take_ (i := 3) (N := (some 21)) (v := ?_) (a' := ?_) #[true, true, true, true, true, false, true, false, true, false, false, false, false, false, false, false] rfl rfl (by kernel_rfl) (fun _ _ _ h => h) (Or.inl ⟨by rfl, ?_⟩) hHeld ?_ ?_
  rotate_left
  · rintro w' ⟨s0, s1, s2⟩
    go_simp
    try with_reducible rfl
  rotate_left
  · simp only [Act.put, List.setIfInBounds_toArray, List.set_cons_zero, List.set_cons_succ, i64_w, i32_w]
    rfl
  refine take_ (i := 5) (N := (some 23)) (v := ?_) (a' := ?_) #[true, true, true, true, true, true, true, false, true, false, false, false, false, false, false, false] rfl rfl (by kernel_rfl) (fun _ _ _ h => h) (Or.inl ⟨by rfl, ?_⟩) hHeld ?_ ?_
  rotate_left
  · rintro w' ⟨s0, s1, s2⟩
    go_simp
    try with_reducible rfl
  rotate_left
  · simp only [Act.put, List.setIfInBounds_toArray, List.set_cons_zero, List.set_cons_succ, i64_w, i32_w]
    rfl
  refine take_ (i := 7) (N := (some 25)) (v := ?_) (a' := ?_) #[true, true, true, true, true, true, true, true, true, false, false, false, false, false, false, false] rfl rfl (by kernel_rfl) (fun _ _ _ h => h) (Or.inl ⟨by rfl, ?_⟩) hHeld ?_ ?_
  rotate_left
  · rintro w' ⟨s0, s1, s2⟩
    go_simp
    try with_reducible rfl
  rotate_left
  · simp only [Act.put, List.setIfInBounds_toArray, List.set_cons_zero, List.set_cons_succ, i64_w, i32_w]
    rfl
  refine two_ (i := 9) (j := 13) (Ni := (some 27)) (Nj := (some 9)) #[true, true, true, true, true, true, true, true, true, true, false, false, false, false, false, false] #[true, true, true, true, true, true, true, true, true, false, false, false, false, true, false, false] rfl rfl rfl rfl (by kernel_rfl) (by decide) (by decide) (fun K hK => ?_) (fun K hK => ?_)
  ·
    refine goes_ Try.func48 (by kernel_rfl) rfl #[.agg #[.slice B m d], .int .i64 cell, .string b, .int .i64 (min (max fb 0) 256)] (by rfl) rfl rfl ?hargs ((write_at cell b (min (max fb 0) 256) 0 H0.out.drew.dom (H0.out.drew.sure j hj) HOK.out HE.out).mono ?_)
    case hargs => first | rfl | (go_simp; done) | kernel_rfl
    rintro e w1 ⟨B1, c1, rfl, hb⟩
    refine ⟨_, rfl, ?_⟩
    have B0 := Aside0.mk (Nat.le_of_lt (H0.out.drew.lt _ (inR (k := 0) rfl)))
    have H1 := Aside0.mk (H0.out.drew.call hb)
    clear hb
    refine hK.out _ _ ⟨H1.out.cell _ (inL hi) 1 hc, H1.out.cell _ (inR (k := 0) rfl) 2 rfl, H1.out.cell _ (inR (k := 0) rfl) 3 rfl⟩ (fun hHeld => ?_)
    clear hK K
    refine norm_ (a' := ?_) ?_ ?_
    rotate_left
    · show Act.put _ (some 27) _ = _
      simp only [Act.put, List.setIfInBounds_toArray, List.set_cons_zero, List.set_cons_succ, i64_w, i32_w]
      rfl
    refine pure_ (i := 10) (N := (some 17)) (v := ?_) (a' := ?_) #[true, true, true, true, true, true, true, true, true, true, true, false, false, false, false, false] rfl rfl (by kernel_rfl) (fun _ _ _ h => h) (Or.inl ⟨by rfl, ?_⟩) ?_ ?_
    rotate_left
    · intro w'
      go_simp
      try with_reducible rfl
    rotate_left
    · simp only [Act.put, List.setIfInBounds_toArray, List.set_cons_zero, List.set_cons_succ, i64_w, i32_w]
      rfl
    refine pure_ (i := 11) (N := (some 28)) (v := ?_) (a' := ?_) #[true, true, true, true, true, true, true, true, true, true, true, true, false, false, false, false] rfl rfl (by kernel_rfl) (fun _ _ _ h => h) (Or.inl ⟨by rfl, ?_⟩) ?_ ?_
    rotate_left
    · intro w'
      go_simp
      try with_reducible rfl
    rotate_left
    · simp only [Act.put, List.setIfInBounds_toArray, List.set_cons_zero, List.set_cons_succ, i64_w, i32_w]
      rfl
    refine pure_ (i := 12) (N := (some 29)) (v := ?_) (a' := ?_) #[true, true, true, true, true, true, true, true, true, true, true, true, true, false, false, false] rfl rfl (by kernel_rfl) (fun _ _ _ h => h) (Or.inl ⟨by rfl, ?_⟩) ?_ ?_
    rotate_left
    · intro w'
      go_simp
      try with_reducible rfl
    rotate_left
    · simp only [Act.put, List.setIfInBounds_toArray, List.set_cons_zero, List.set_cons_succ, i64_w, i32_w]
      rfl
    refine one_ (i := 13) (N := (some 9)) #[true, true, true, true, true, true, true, true, true, true, true, true, true, true, false, false] rfl rfl (by kernel_rfl) (by decide) (fun K hK => ?_)
    refine value_ (w1 := ?_) (v := ?_) (by rfl) rfl ?_ ?_
    rotate_left 2
    · go_simp
      constructor
      · rfl
      · rfl
    have H2 := Aside0.mk (H1.out.allocR #[.slice none 0 0] 27)
    refine hK.out _ _ ⟨H2.out.cell _ (inL hi) 1 hc, H2.out.cell _ (inR (k := 0) rfl) 2 rfl, H2.out.cell _ (inR (k := 0) rfl) 3 rfl⟩ (fun hHeld => ?_)
    clear hK K
    refine norm_ (a' := ?_) ?_ ?_
    rotate_left
    · show Act.put _ (some 9) _ = _
      simp only [Act.put, List.setIfInBounds_toArray, List.set_cons_zero, List.set_cons_succ, i64_w, i32_w]
      rfl
    refine one_ (i := 14) (N := none) #[true, true, true, true, true, true, true, true, true, true, true, true, true, true, true, false] rfl rfl (by kernel_rfl) (by decide) (fun K hK => ?_)
    have k8 := H2.out.cell _ (inR (k := 3) rfl) 0 rfl
    have f8 := H2.out.free _ (inR (k := 3) rfl) 0
    refine skip_ (w1 := ?_) (by rfl) rfl ?_ ?_
    rotate_left
    · go_simp
      try rfl
    have H3 := Aside0.mk (H1.out.allocR #[.slice B1 m c1] 27)
    refine hK.out _ _ ⟨H3.out.cell _ (inL hi) 1 hc, H3.out.cell _ (inR (k := 0) rfl) 2 rfl, H3.out.cell _ (inR (k := 0) rfl) 3 rfl⟩ (fun hHeld => ?_)
    clear hK K
    clear k8 f8
    refine pure_ (i := 15) (N := (some 10)) (v := ?_) (a' := ?_) #[true, true, true, true, true, true, true, true, true, true, true, true, true, true, true, true] rfl rfl (by kernel_rfl) (fun _ _ _ h => h) (Or.inl ⟨by rfl, ?_⟩) ?_ ?_
    rotate_left
    · intro w'
      go_simp
      try with_reducible rfl
    rotate_left
    · simp only [Act.put, List.setIfInBounds_toArray, List.set_cons_zero, List.set_cons_succ, i64_w, i32_w]
      rfl
    refine done_ (by kernel_rfl) ?_
    have k8 := H3.out.cell _ (inR (k := 3) rfl) 0 rfl
    have kg := H3.out.cell _ (inL hi) 1 hc
    have fg := H3.out.free _ (inL hi) 1
    have n1 := H3.out.neLR i 2 hi rfl
    have n2 := n1.symm
    have kr0 := H3.out.cell _ (inR (k := 2) rfl) 0 rfl
    have kr1 := H3.out.cell _ (inR (k := 2) rfl) 1 rfl
    have fr0 := H3.out.free _ (inR (k := 2) rfl) 0
    have fr1 := H3.out.free _ (inR (k := 2) rfl) 1
    go_wp2
    have H4 := Aside0.mk (((H3.out.setL i hi 1 (.slice B1 m c1)).setR 2 rfl 0 (.int .i64 0)).setR 2 rfl 1 (.string ⟨#[]⟩))
    clear n1 n2 kr0 kr1 fr0 fr1 k8 kg fg
    refine bodyPost_ret (results_ct rfl _ _ (w.heap.size + 1 + 1) 40 #[.int .i64 0, .string ⟨#[]⟩] (0, 0) _ rfl (H4.out.blk _ (inR (k := 2) rfl)) Try.underlying40 rfl (by kernel_rfl)) rfl ?_
    refine ⟨_, B1, c1, rfl, ?_, H4.out.low⟩
    exact fun k hk => hk.imp id (fun h => Nat.le_trans B0.out h.1)
  ·
    refine value_ (w1 := ?_) (v := ?_) (by rfl) rfl ?_ ?_
    rotate_left 2
    · go_simp
      constructor
      · rfl
      · rfl
    have Ha := Aside0.mk (H0.out.drew.allocR_ (q := w.heap.size + 1 + 1 + 1) (heap_three w _ _ _) #[.slice none 0 0] 27)
    refine hK.out _ _ ⟨Ha.out.cell _ (inL hi) 1 hc, Ha.out.cell _ (inR (k := 0) rfl) 2 rfl, Ha.out.cell _ (inR (k := 0) rfl) 3 rfl⟩ (fun hHeld => ?_)
    clear hK K
    refine norm_ (a' := ?_) ?_ ?_
    rotate_left
    · show Act.put _ (some 9) _ = _
      simp only [Act.put, List.setIfInBounds_toArray, List.set_cons_zero, List.set_cons_succ, i64_w, i32_w]
      rfl
    refine one_ (i := 9) (N := (some 27)) #[true, true, true, true, true, true, true, true, true, true, false, false, false, true, false, false] rfl rfl (by kernel_rfl) (by decide) (fun K hK => ?_)
    refine goes_ Try.func48 (by kernel_rfl) rfl #[.agg #[.slice B m d], .int .i64 cell, .string b, .int .i64 (min (max fb 0) 256)] (by rfl) rfl rfl ?hargs ((write_at cell b (min (max fb 0) 256) 0 Ha.out.dom (Ha.out.sure j hj) HOK.out HE.out).mono ?_)
    case hargs => first | rfl | (go_simp; done) | kernel_rfl
    rintro e w1 ⟨B1, c1, rfl, hb⟩
    refine ⟨_, rfl, ?_⟩
    have B0 := Aside0.mk (Nat.le_of_lt (Ha.out.lt _ (inR (k := 0) rfl)))
    have H2 := Aside0.mk (Ha.out.call hb)
    clear hb
    refine hK.out _ _ ⟨H2.out.cell _ (inL hi) 1 hc, H2.out.cell _ (inR (k := 0) rfl) 2 rfl, H2.out.cell _ (inR (k := 0) rfl) 3 rfl⟩ (fun hHeld => ?_)
    clear hK K
    refine norm_ (a' := ?_) ?_ ?_
    rotate_left
    · show Act.put _ (some 27) _ = _
      simp only [Act.put, List.setIfInBounds_toArray, List.set_cons_zero, List.set_cons_succ, i64_w, i32_w]
      rfl
    refine pure_ (i := 10) (N := (some 17)) (v := ?_) (a' := ?_) #[true, true, true, true, true, true, true, true, true, true, true, false, false, true, false, false] rfl rfl (by kernel_rfl) (fun _ _ _ h => h) (Or.inl ⟨by rfl, ?_⟩) ?_ ?_
    rotate_left
    · intro w'
      go_simp
      try with_reducible rfl
    rotate_left
    · simp only [Act.put, List.setIfInBounds_toArray, List.set_cons_zero, List.set_cons_succ, i64_w, i32_w]
      rfl
    refine pure_ (i := 11) (N := (some 28)) (v := ?_) (a' := ?_) #[true, true, true, true, true, true, true, true, true, true, true, true, false, true, false, false] rfl rfl (by kernel_rfl) (fun _ _ _ h => h) (Or.inl ⟨by rfl, ?_⟩) ?_ ?_
    rotate_left
    · intro w'
      go_simp
      try with_reducible rfl
    rotate_left
    · simp only [Act.put, List.setIfInBounds_toArray, List.set_cons_zero, List.set_cons_succ, i64_w, i32_w]
      rfl
    refine pure_ (i := 12) (N := (some 29)) (v := ?_) (a' := ?_) #[true, true, true, true, true, true, true, true, true, true, true, true, true, true, false, false] rfl rfl (by kernel_rfl) (fun _ _ _ h => h) (Or.inl ⟨by rfl, ?_⟩) ?_ ?_
    rotate_left
    · intro w'
      go_simp
      try with_reducible rfl
    rotate_left
    · simp only [Act.put, List.setIfInBounds_toArray, List.set_cons_zero, List.set_cons_succ, i64_w, i32_w]
      rfl
    refine one_ (i := 14) (N := none) #[true, true, true, true, true, true, true, true, true, true, true, true, true, true, true, false] rfl rfl (by kernel_rfl) (by decide) (fun K hK => ?_)
    have k8 := H2.out.cell _ (inR (k := 3) rfl) 0 rfl
    have f8 := H2.out.free _ (inR (k := 3) rfl) 0
    refine skip_ (w1 := ?_) (by rfl) rfl ?_ ?_
    rotate_left
    · go_simp
      try rfl
    have H3 := Aside0.mk (H2.out.setR 3 rfl 0 (.slice B1 m c1))
    refine hK.out _ _ ⟨H3.out.cell _ (inL hi) 1 hc, H3.out.cell _ (inR (k := 0) rfl) 2 rfl, H3.out.cell _ (inR (k := 0) rfl) 3 rfl⟩ (fun hHeld => ?_)
    clear hK K
    clear k8 f8
    refine pure_ (i := 15) (N := (some 10)) (v := ?_) (a' := ?_) #[true, true, true, true, true, true, true, true, true, true, true, true, true, true, true, true] rfl rfl (by kernel_rfl) (fun _ _ _ h => h) (Or.inl ⟨by rfl, ?_⟩) ?_ ?_
    rotate_left
    · intro w'
      go_simp
      try with_reducible rfl
    rotate_left
    · simp only [Act.put, List.setIfInBounds_toArray, List.set_cons_zero, List.set_cons_succ, i64_w, i32_w]
      rfl
    refine done_ (by kernel_rfl) ?_
    have k8 := H3.out.cell _ (inR (k := 3) rfl) 0 rfl
    have kg := H3.out.cell _ (inL hi) 1 hc
    have fg := H3.out.free _ (inL hi) 1
    have n1 := H3.out.neLR i 2 hi rfl
    have n2 := n1.symm
    have kr0 := H3.out.cell _ (inR (k := 2) rfl) 0 rfl
    have kr1 := H3.out.cell _ (inR (k := 2) rfl) 1 rfl
    have fr0 := H3.out.free _ (inR (k := 2) rfl) 0
    have fr1 := H3.out.free _ (inR (k := 2) rfl) 1
    go_wp2
    have H4 := Aside0.mk (((H3.out.setL i hi 1 (.slice B1 m c1)).setR 2 rfl 0 (.int .i64 0)).setR 2 rfl 1 (.string ⟨#[]⟩))
    clear n1 n2 kr0 kr1 fr0 fr1 k8 kg fg
    refine bodyPost_ret (results_ct rfl _ _ (w.heap.size + 1 + 1) 40 #[.int .i64 0, .string ⟨#[]⟩] (0, 0) _ rfl (H4.out.blk _ (inR (k := 2) rfl)) Try.underlying40 rfl (by kernel_rfl)) rfl ?_
    refine ⟨_, B1, c1, rfl, ?_, H4.out.low⟩
    exact fun k hk => hk.imp id (fun h => Nat.le_trans B0.out h.1)
set_option maxRecDepth 100000 in
set_option maxHeartbeats 8000000 in
theorem run4_yes_f {B : Option Addr} {m d g : Nat} {fl : List ByteArray} {w w0 : World} {S : Nat → Prop} {ds : List (World → Prop)} {os : List Blk} {cs : Array Value} (kd bank cell : Int) (b : ByteArray) (fb : Int) (noise : Bool) (H : St w0 S ds os w) (i j : Nat) (hi : os[i]? = some (g, cs, 31)) (hc : cs[1]? = some (.slice B m d)) (hj : ds[j]? = some (fun w => Fl w B m d fl)) (hok : OkFl fl) (hE : wrE fl cell b = 0) :
    Calls Try.prog 47 #[.pointer (some ⟨g, 0, none⟩), .agg #[.int .i64 kd, .int .i64 bank, .int .i64 cell, .string b], .agg #[.bool false, .int .i64 fb, .bool noise]] w fun e w' => ∃ (S1 : Nat → Prop) (B1 : Option Addr) (c1 : Nat), e = .returned (.tuple #[.agg #[.int .i64 0, .string ⟨#[]⟩], .int .i64 0]) ∧ (∀ k, S1 k → S k ∨ w.heap.size ≤ k) ∧ St w0 S1 ((fun w => Fl w B1 m c1 (wrL fl cell b (-1))) :: ds) (os.set i (g, cs.setIfInBounds 1 (.slice B1 m c1), 31)) w' := by
  have H0 := Aside0.mk (H.alloc3 #[.int .i64 kd, .int .i64 bank, .int .i64 cell, .string b] 33 #[.bool false, .int .i64 fb, .bool noise] 35 #[.int .i64 0, .string ⟨#[]⟩] 40)
  have HOK := Aside0.mk hok
  have HE := Aside0.mk hE
  clear hok hE H
  have kc := H0.out.cell _ (inR (k := 1) rfl) 0 rfl
  go_enter Try.func47, Try.ntmps47
  go_wp2
  clear kc
  refine start_ (n := 16) (S := (fun w' => w'.cell? ⟨g, 1, none⟩ = some (.slice B m d) ∧ w'.cell? ⟨w.heap.size, 2, none⟩ = some (.int .i64 cell) ∧ w'.cell? ⟨w.heap.size, 3, none⟩ = some (.string b))) (ds := []) #[false, false, false, false, false, false, false, false, false, false, false, false, false, false, false, false] (by kernel_rfl) rfl rfl ⟨H0.out.drew.cell _ (inL hi) 1 hc, H0.out.drew.cell _ (inR (k := 0) rfl) 2 rfl, H0.out.drew.cell _ (inR (k := 0) rfl) 3 rfl⟩ (fun hHeld => ?_)
  refine pure_ (i := 0) (N := (some 18)) (v := ?_) (a' := ?_) #[true, false, false, false, false, false, false, false, false, false, false, false, false, false, false, false] rfl rfl (by kernel_rfl) (fun _ _ _ h => h) (Or.inl ⟨by rfl, ?_⟩) ?_ ?_
  rotate_left
  · intro w'
    go_simp
    try with_reducible rfl
  rotate_left
  · simp only [Act.put, List.setIfInBounds_toArray, List.set_cons_zero, List.set_cons_succ, i64_w, i32_w]
    rfl
  refine pure_ (i := 1) (N := (some 19)) (v := ?_) (a' := ?_) #[true, true, false, false, false, false, false, false, false, false, false, false, false, false, false, false] rfl rfl (by kernel_rfl) (fun _ _ _ h => h) (Or.inl ⟨by rfl, ?_⟩) ?_ ?_
  rotate_left
  · intro w'
    go_simp
    try with_reducible rfl
  rotate_left
  · simp only [Act.put, List.setIfInBounds_toArray, List.set_cons_zero, List.set_cons_succ, i64_w, i32_w]
    rfl
  refine pure_ (i := 2) (N := (some 20)) (v := ?_) (a' := ?_) #[true, true, true, false, false, false, false, false, false, false, false, false, false, false, false, false] rfl rfl (by kernel_rfl) (fun _ _ _ h => h) (Or.inl ⟨by rfl, ?_⟩) ?_ ?_
  rotate_left
  · intro w'
    go_simp
    try with_reducible rfl
  rotate_left
  · simp only [Act.put, List.setIfInBounds_toArray, List.set_cons_zero, List.set_cons_succ, i64_w, i32_w]
    rfl
  refine pure_ (i := 4) (N := (some 22)) (v := ?_) (a' := ?_) #[true, true, true, false, true, false, false, false, false, false, false, false, false, false, false, false] rfl rfl (by kernel_rfl) (fun _ _ _ h => h) (Or.inl ⟨by rfl, ?_⟩) ?_ ?_
  rotate_left
  · intro w'
    go_simp
    try with_reducible rfl
  rotate_left
  · simp only [Act.put, List.setIfInBounds_toArray, List.set_cons_zero, List.set_cons_succ, i64_w, i32_w]
    rfl
  refine pure_ (i := 6) (N := (some 24)) (v := ?_) (a' := ?_) #[true, true, true, false, true, false, true, false, false, false, false, false, false, false, false, false] rfl rfl (by kernel_rfl) (fun _ _ _ h => h) (Or.inl ⟨by rfl, ?_⟩) ?_ ?_
  rotate_left
  · intro w'
    go_simp
    try with_reducible rfl
  rotate_left
  · simp only [Act.put, List.setIfInBounds_toArray, List.set_cons_zero, List.set_cons_succ, i64_w, i32_w]
    rfl
  refine pure_ (i := 8) (N := (some 26)) (v := ?_) (a' := ?_) #[true, true, true, false, true, false, true, false, true, false, false, false, false, false, false, false] rfl rfl (by kernel_rfl) (fun _ _ _ h => h) (Or.inl ⟨by rfl, ?_⟩) ?_ ?_
  rotate_left
  · intro w'
    go_simp
    try with_reducible rfl
  rotate_left
  · simp only [Act.put, List.setIfInBounds_toArray, List.set_cons_zero, List.set_cons_succ, i64_w, i32_w]
    rfl
  refine take_ (i := 3) (N := (some 21)) (v := ?_) (a' := ?_) #[true, true, true, true, true, false, true, false, true, false, false, false, false, false, false, false] rfl rfl (by kernel_rfl) (fun _ _ _ h => h) (Or.inl ⟨by rfl, ?_⟩) hHeld ?_ ?_
  rotate_left
  · rintro w' ⟨s0, s1, s2⟩
    go_simp
    try with_reducible rfl
  rotate_left
  · simp only [Act.put, List.setIfInBounds_toArray, List.set_cons_zero, List.set_cons_succ, i64_w, i32_w]
    rfl
  refine take_ (i := 5) (N := (some 23)) (v := ?_) (a' := ?_) #[true, true, true, true, true, true, true, false, true, false, false, false, false, false, false, false] rfl rfl (by kernel_rfl) (fun _ _ _ h => h) (Or.inl ⟨by rfl, ?_⟩) hHeld ?_ ?_
  rotate_left
  · rintro w' ⟨s0, s1, s2⟩
    go_simp
    try with_reducible rfl
  rotate_left
  · simp only [Act.put, List.setIfInBounds_toArray, List.set_cons_zero, List.set_cons_succ, i64_w, i32_w]
    rfl
  refine take_ (i := 7) (N := (some 25)) (v := ?_) (a' := ?_) #[true, true, true, true, true, true, true, true, true, false, false, false, false, false, false, false] rfl rfl (by kernel_rfl) (fun _ _ _ h => h) (Or.inl ⟨by rfl, ?_⟩) hHeld ?_ ?_
  rotate_left
  · rintro w' ⟨s0, s1, s2⟩
    go_simp
    try with_reducible rfl
  rotate_left
  · simp only [Act.put, List.setIfInBounds_toArray, List.set_cons_zero, List.set_cons_succ, i64_w, i32_w]
    rfl
  refine two_ (i := 9) (j := 13) (Ni := (some 27)) (Nj := (some 9)) #[true, true, true, true, true, true, true, true, true, true, false, false, false, false, false, false] #[true, true, true, true, true, true, true, true, true, false, false, false, false, true, false, false] rfl rfl rfl rfl (by kernel_rfl) (by decide) (by decide) (fun K hK => ?_) (fun K hK => ?_)
  ·
    refine goes_ Try.func48 (by kernel_rfl) rfl #[.agg #[.slice B m d], .int .i64 cell, .string b, .int .i64 (-1)] (by rfl) rfl rfl ?hargs ((write_at cell b (-1) 0 H0.out.drew.dom (H0.out.drew.sure j hj) HOK.out HE.out).mono ?_)
    case hargs => first | rfl | (go_simp; done) | kernel_rfl
    rintro e w1 ⟨B1, c1, rfl, hb⟩
    refine ⟨_, rfl, ?_⟩
    have B0 := Aside0.mk (Nat.le_of_lt (H0.out.drew.lt _ (inR (k := 0) rfl)))
    have H1 := Aside0.mk (H0.out.drew.call hb)
    clear hb
    refine hK.out _ _ ⟨H1.out.cell _ (inL hi) 1 hc, H1.out.cell _ (inR (k := 0) rfl) 2 rfl, H1.out.cell _ (inR (k := 0) rfl) 3 rfl⟩ (fun hHeld => ?_)
    clear hK K
    refine norm_ (a' := ?_) ?_ ?_
    rotate_left
    · show Act.put _ (some 27) _ = _
      simp only [Act.put, List.setIfInBounds_toArray, List.set_cons_zero, List.set_cons_succ, i64_w, i32_w]
      rfl
    refine pure_ (i := 10) (N := (some 17)) (v := ?_) (a' := ?_) #[true, true, true, true, true, true, true, true, true, true, true, false, false, false, false, false] rfl rfl (by kernel_rfl) (fun _ _ _ h => h) (Or.inl ⟨by rfl, ?_⟩) ?_ ?_
    rotate_left
    · intro w'
      go_simp
      try with_reducible rfl
    rotate_left
    · simp only [Act.put, List.setIfInBounds_toArray, List.set_cons_zero, List.set_cons_succ, i64_w, i32_w]
      rfl
    refine pure_ (i := 11) (N := (some 28)) (v := ?_) (a' := ?_) #[true, true, true, true, true, true, true, true, true, true, true, true, false, false, false, false] rfl rfl (by kernel_rfl) (fun _ _ _ h => h) (Or.inl ⟨by rfl, ?_⟩) ?_ ?_
    rotate_left
    · intro w'
      go_simp
      try with_reducible rfl
    rotate_left
    · simp only [Act.put, List.setIfInBounds_toArray, List.set_cons_zero, List.set_cons_succ, i64_w, i32_w]
      rfl
    refine pure_ (i := 12) (N := (some 29)) (v := ?_) (a' := ?_) #[true, true, true, true, true, true, true, true, true, true, true, true, true, false, false, false] rfl rfl (by kernel_rfl) (fun _ _ _ h => h) (Or.inl ⟨by rfl, ?_⟩) ?_ ?_
    rotate_left
    · intro w'
      go_simp
      try with_reducible rfl
    rotate_left
    · simp only [Act.put, List.setIfInBounds_toArray, List.set_cons_zero, List.set_cons_succ, i64_w, i32_w]
      rfl
    refine one_ (i := 13) (N := (some 9)) #[true, true, true, true, true, true, true, true, true, true, true, true, true, true, false, false] rfl rfl (by kernel_rfl) (by decide) (fun K hK => ?_)
    refine value_ (w1 := ?_) (v := ?_) (by rfl) rfl ?_ ?_
    rotate_left 2
    · go_simp
      constructor
      · rfl
      · rfl
    have H2 := Aside0.mk (H1.out.allocR #[.slice none 0 0] 27)
    refine hK.out _ _ ⟨H2.out.cell _ (inL hi) 1 hc, H2.out.cell _ (inR (k := 0) rfl) 2 rfl, H2.out.cell _ (inR (k := 0) rfl) 3 rfl⟩ (fun hHeld => ?_)
    clear hK K
    refine norm_ (a' := ?_) ?_ ?_
    rotate_left
    · show Act.put _ (some 9) _ = _
      simp only [Act.put, List.setIfInBounds_toArray, List.set_cons_zero, List.set_cons_succ, i64_w, i32_w]
      rfl
    refine one_ (i := 14) (N := none) #[true, true, true, true, true, true, true, true, true, true, true, true, true, true, true, false] rfl rfl (by kernel_rfl) (by decide) (fun K hK => ?_)
    have k8 := H2.out.cell _ (inR (k := 3) rfl) 0 rfl
    have f8 := H2.out.free _ (inR (k := 3) rfl) 0
    refine skip_ (w1 := ?_) (by rfl) rfl ?_ ?_
    rotate_left
    · go_simp
      try rfl
    have H3 := Aside0.mk (H1.out.allocR #[.slice B1 m c1] 27)
    refine hK.out _ _ ⟨H3.out.cell _ (inL hi) 1 hc, H3.out.cell _ (inR (k := 0) rfl) 2 rfl, H3.out.cell _ (inR (k := 0) rfl) 3 rfl⟩ (fun hHeld => ?_)
    clear hK K
    clear k8 f8
    refine pure_ (i := 15) (N := (some 10)) (v := ?_) (a' := ?_) #[true, true, true, true, true, true, true, true, true, true, true, true, true, true, true, true] rfl rfl (by kernel_rfl) (fun _ _ _ h => h) (Or.inl ⟨by rfl, ?_⟩) ?_ ?_
    rotate_left
    · intro w'
      go_simp
      try with_reducible rfl
    rotate_left
    · simp only [Act.put, List.setIfInBounds_toArray, List.set_cons_zero, List.set_cons_succ, i64_w, i32_w]
      rfl
    refine done_ (by kernel_rfl) ?_
    have k8 := H3.out.cell _ (inR (k := 3) rfl) 0 rfl
    have kg := H3.out.cell _ (inL hi) 1 hc
    have fg := H3.out.free _ (inL hi) 1
    have n1 := H3.out.neLR i 2 hi rfl
    have n2 := n1.symm
    have kr0 := H3.out.cell _ (inR (k := 2) rfl) 0 rfl
    have kr1 := H3.out.cell _ (inR (k := 2) rfl) 1 rfl
    have fr0 := H3.out.free _ (inR (k := 2) rfl) 0
    have fr1 := H3.out.free _ (inR (k := 2) rfl) 1
    go_wp2
    have H4 := Aside0.mk (((H3.out.setL i hi 1 (.slice B1 m c1)).setR 2 rfl 0 (.int .i64 0)).setR 2 rfl 1 (.string ⟨#[]⟩))
    clear n1 n2 kr0 kr1 fr0 fr1 k8 kg fg
    refine bodyPost_ret (results_ct rfl _ _ (w.heap.size + 1 + 1) 40 #[.int .i64 0, .string ⟨#[]⟩] (0, 0) _ rfl (H4.out.blk _ (inR (k := 2) rfl)) Try.underlying40 rfl (by kernel_rfl)) rfl ?_
    refine ⟨_, B1, c1, rfl, ?_, H4.out.low⟩
    exact fun k hk => hk.imp id (fun h => Nat.le_trans B0.out h.1)
  ·
    refine value_ (w1 := ?_) (v := ?_) (by rfl) rfl ?_ ?_
    rotate_left 2
    · go_simp
      constructor
      · rfl
      · rfl
    have Ha := Aside0.mk (H0.out.drew.allocR_ (q := w.heap.size + 1 + 1 + 1) (heap_three w _ _ _) #[.slice none 0 0] 27)
    refine hK.out _ _ ⟨Ha.out.cell _ (inL hi) 1 hc, Ha.out.cell _ (inR (k := 0) rfl) 2 rfl, Ha.out.cell _ (inR (k := 0) rfl) 3 rfl⟩ (fun hHeld => ?_)
    clear hK K
    refine norm_ (a' := ?_) ?_ ?_
    rotate_left
    · show Act.put _ (some 9) _ = _
      simp only [Act.put, List.setIfInBounds_toArray, List.set_cons_zero, List.set_cons_succ, i64_w, i32_w]
      rfl
    refine one_ (i := 9) (N := (some 27)) #[true, true, true, true, true, true, true, true, true, true, false, false, false, true, false, false] rfl rfl (by kernel_rfl) (by decide) (fun K hK => ?_)
    refine goes_ Try.func48 (by kernel_rfl) rfl #[.agg #[.slice B m d], .int .i64 cell, .string b, .int .i64 (-1)] (by rfl) rfl rfl ?hargs ((write_at cell b (-1) 0 Ha.out.dom (Ha.out.sure j hj) HOK.out HE.out).mono ?_)
    case hargs => first | rfl | (go_simp; done) | kernel_rfl
    rintro e w1 ⟨B1, c1, rfl, hb⟩
    refine ⟨_, rfl, ?_⟩
    have B0 := Aside0.mk (Nat.le_of_lt (Ha.out.lt _ (inR (k := 0) rfl)))
    have H2 := Aside0.mk (Ha.out.call hb)
    clear hb
    refine hK.out _ _ ⟨H2.out.cell _ (inL hi) 1 hc, H2.out.cell _ (inR (k := 0) rfl) 2 rfl, H2.out.cell _ (inR (k := 0) rfl) 3 rfl⟩ (fun hHeld => ?_)
    clear hK K
    refine norm_ (a' := ?_) ?_ ?_
    rotate_left
    · show Act.put _ (some 27) _ = _
      simp only [Act.put, List.setIfInBounds_toArray, List.set_cons_zero, List.set_cons_succ, i64_w, i32_w]
      rfl
    refine pure_ (i := 10) (N := (some 17)) (v := ?_) (a' := ?_) #[true, true, true, true, true, true, true, true, true, true, true, false, false, true, false, false] rfl rfl (by kernel_rfl) (fun _ _ _ h => h) (Or.inl ⟨by rfl, ?_⟩) ?_ ?_
    rotate_left
    · intro w'
      go_simp
      try with_reducible rfl
    rotate_left
    · simp only [Act.put, List.setIfInBounds_toArray, List.set_cons_zero, List.set_cons_succ, i64_w, i32_w]
      rfl
    refine pure_ (i := 11) (N := (some 28)) (v := ?_) (a' := ?_) #[true, true, true, true, true, true, true, true, true, true, true, true, false, true, false, false] rfl rfl (by kernel_rfl) (fun _ _ _ h => h) (Or.inl ⟨by rfl, ?_⟩) ?_ ?_
    rotate_left
    · intro w'
      go_simp
      try with_reducible rfl
    rotate_left
    · simp only [Act.put, List.setIfInBounds_toArray, List.set_cons_zero, List.set_cons_succ, i64_w, i32_w]
      rfl
    refine pure_ (i := 12) (N := (some 29)) (v := ?_) (a' := ?_) #[true, true, true, true, true, true, true, true, true, true, true, true, true, true, false, false] rfl rfl (by kernel_rfl) (fun _ _ _ h => h) (Or.inl ⟨by rfl, ?_⟩) ?_ ?_
    rotate_left
    · intro w'
      go_simp
      try with_reducible rfl
    rotate_left
    · simp only [Act.put, List.setIfInBounds_toArray, List.set_cons_zero, List.set_cons_succ, i64_w, i32_w]
      rfl
    refine one_ (i := 14) (N := none) #[true, true, true, true, true, true, true, true, true, true, true, true, true, true, true, false] rfl rfl (by kernel_rfl) (by decide) (fun K hK => ?_)
    have k8 := H2.out.cell _ (inR (k := 3) rfl) 0 rfl
    have f8 := H2.out.free _ (inR (k := 3) rfl) 0
    refine skip_ (w1 := ?_) (by rfl) rfl ?_ ?_
    rotate_left
    · go_simp
      try rfl
    have H3 := Aside0.mk (H2.out.setR 3 rfl 0 (.slice B1 m c1))
    refine hK.out _ _ ⟨H3.out.cell _ (inL hi) 1 hc, H3.out.cell _ (inR (k := 0) rfl) 2 rfl, H3.out.cell _ (inR (k := 0) rfl) 3 rfl⟩ (fun hHeld => ?_)
    clear hK K
    clear k8 f8
    refine pure_ (i := 15) (N := (some 10)) (v := ?_) (a' := ?_) #[true, true, true, true, true, true, true, true, true, true, true, true, true, true, true, true] rfl rfl (by kernel_rfl) (fun _ _ _ h => h) (Or.inl ⟨by rfl, ?_⟩) ?_ ?_
    rotate_left
    · intro w'
      go_simp
      try with_reducible rfl
    rotate_left
    · simp only [Act.put, List.setIfInBounds_toArray, List.set_cons_zero, List.set_cons_succ, i64_w, i32_w]
      rfl
    refine done_ (by kernel_rfl) ?_
    have k8 := H3.out.cell _ (inR (k := 3) rfl) 0 rfl
    have kg := H3.out.cell _ (inL hi) 1 hc
    have fg := H3.out.free _ (inL hi) 1
    have n1 := H3.out.neLR i 2 hi rfl
    have n2 := n1.symm
    have kr0 := H3.out.cell _ (inR (k := 2) rfl) 0 rfl
    have kr1 := H3.out.cell _ (inR (k := 2) rfl) 1 rfl
    have fr0 := H3.out.free _ (inR (k := 2) rfl) 0
    have fr1 := H3.out.free _ (inR (k := 2) rfl) 1
    go_wp2
    have H4 := Aside0.mk (((H3.out.setL i hi 1 (.slice B1 m c1)).setR 2 rfl 0 (.int .i64 0)).setR 2 rfl 1 (.string ⟨#[]⟩))
    clear n1 n2 kr0 kr1 fr0 fr1 k8 kg fg
    refine bodyPost_ret (results_ct rfl _ _ (w.heap.size + 1 + 1) 40 #[.int .i64 0, .string ⟨#[]⟩] (0, 0) _ rfl (H4.out.blk _ (inR (k := 2) rfl)) Try.underlying40 rfl (by kernel_rfl)) rfl ?_
    refine ⟨_, B1, c1, rfl, ?_, H4.out.low⟩
    exact fun k hk => hk.imp id (fun h => Nat.le_trans B0.out h.1)
set_option maxRecDepth 100000 in
set_option maxHeartbeats 8000000 in
theorem run4_no_t {B : Option Addr} {m d g : Nat} {fl : List ByteArray} {w w0 : World} {S : Nat → Prop} {ds : List (World → Prop)} {os : List Blk} {cs : Array Value} (kd bank cell : Int) (b : ByteArray) (fb : Int) (noise : Bool) (q : Int) (H : St w0 S ds os w) (i j : Nat) (hi : os[i]? = some (g, cs, 31)) (hc : cs[1]? = some (.slice B m d)) (hj : ds[j]? = some (fun w => Fl w B m d fl)) (hok : OkFl fl) (hE : wrE fl cell b = q) (hq : (q == 0) = false) :
    Calls Try.prog 47 #[.pointer (some ⟨g, 0, none⟩), .agg #[.int .i64 kd, .int .i64 bank, .int .i64 cell, .string b], .agg #[.bool true, .int .i64 fb, .bool noise]] w fun e w' => e = .returned (.tuple #[.agg #[.int .i64 0, .string ⟨#[]⟩], .int .i64 q]) ∧ St w0 S ds os w' := by
  have H0 := Aside0.mk (H.alloc3 #[.int .i64 kd, .int .i64 bank, .int .i64 cell, .string b] 33 #[.bool true, .int .i64 fb, .bool noise] 35 #[.int .i64 0, .string ⟨#[]⟩] 40)
  have HOK := Aside0.mk hok
  have HE := Aside0.mk hE
  clear hok hE H
  have kc := H0.out.cell _ (inR (k := 1) rfl) 0 rfl
  have kb := H0.out.cell _ (inR (k := 1) rfl) 1 rfl
  go_enter Try.func47, Try.ntmps47
  go_wp2
  clear kc
  clear kb
  refine start_ (n := 16) (S := (fun w' => w'.cell? ⟨g, 1, none⟩ = some (.slice B m d) ∧ w'.cell? ⟨w.heap.size, 2, none⟩ = some (.int .i64 cell) ∧ w'.cell? ⟨w.heap.size, 3, none⟩ = some (.string b))) (ds := []) #[false, false, false, false, false, false, false, false, false, false, false, false, false, false, false, false] (by kernel_rfl) rfl rfl ⟨H0.out.drew.cell _ (inL hi) 1 hc, H0.out.drew.cell _ (inR (k := 0) rfl) 2 rfl, H0.out.drew.cell _ (inR (k := 0) rfl) 3 rfl⟩ (fun hHeld => ?_)
  refine pure_ (i := 0) (N := (some 18)) (v := ?_) (a' := ?_) #[true, false, false, false, false, false, false, false, false, false, false, false, false, false, false, false] rfl rfl (by kernel_rfl) (fun _ _ _ h => h) (Or.inl ⟨by rfl, ?_⟩) ?_ ?_
  rotate_left
  · intro w'
    go_simp
    try with_reducible rfl
  rotate_left
  · simp only [Act.put, List.setIfInBounds_toArray, List.set_cons_zero, List.set_cons_succ, i64_w, i32_w]
    rfl
  refine pure_ (i := 1) (N := (some 19)) (v := ?_) (a' := ?_) #[true, true, false, false, false, false, false, false, false, false, false, false, false, false, false, false] rfl rfl (by kernel_rfl) (fun _ _ _ h => h) (Or.inl ⟨by rfl, ?_⟩) ?_ ?_
  rotate_left
  · intro w'
    go_simp
    try with_reducible rfl
  rotate_left
  · simp only [Act.put, List.setIfInBounds_toArray, List.set_cons_zero, List.set_cons_succ, i64_w, i32_w]
    rfl
  refine pure_ (i := 2) (N := (some 20)) (v := ?_) (a' := ?_) #[true, true, true, false, false, false, false, false, false, false, false, false, false, false, false, false] rfl rfl (by kernel_rfl) (fun _ _ _ h => h) (Or.inl ⟨by rfl, ?_⟩) ?_ ?_
  rotate_left
  · intro w'
    go_simp
    try with_reducible rfl
  rotate_left
  · simp only [Act.put, List.setIfInBounds_toArray, List.set_cons_zero, List.set_cons_succ, i64_w, i32_w]
    rfl
  refine pure_ (i := 4) (N := (some 22)) (v := ?_) (a' := ?_) #[true, true, true, false, true, false, false, false, false, false, false, false, false, false, false, false] rfl rfl (by kernel_rfl) (fun _ _ _ h => h) (Or.inl ⟨by rfl, ?_⟩) ?_ ?_
  rotate_left
  · intro w'
    go_simp
    try with_reducible rfl
  rotate_left
  · simp only [Act.put, List.setIfInBounds_toArray, List.set_cons_zero, List.set_cons_succ, i64_w, i32_w]
    rfl
  refine pure_ (i := 6) (N := (some 24)) (v := ?_) (a' := ?_) #[true, true, true, false, true, false, true, false, false, false, false, false, false, false, false, false] rfl rfl (by kernel_rfl) (fun _ _ _ h => h) (Or.inl ⟨by rfl, ?_⟩) ?_ ?_
  rotate_left
  · intro w'
    go_simp
    try with_reducible rfl
  rotate_left
  · simp only [Act.put, List.setIfInBounds_toArray, List.set_cons_zero, List.set_cons_succ, i64_w, i32_w]
    rfl
  refine pure_ (i := 8) (N := (some 26)) (v := ?_) (a' := ?_) #[true, true, true, false, true, false, true, false, true, false, false, false, false, false, false, false] rfl rfl (by kernel_rfl) (fun _ _ _ h => h) (Or.inl ⟨by rfl, ?_⟩) ?_ ?_
  rotate_left
  · intro w'
    go_simp
    try with_reducible rfl
  rotate_left
  · simp only [Act.put, List.setIfInBounds_toArray, List.set_cons_zero, List.set_cons_succ, i64_w, i32_w]
    rfl
  refine take_ (i := 3) (N := (some 21)) (v := ?_) (a' := ?_) #[true, true, true, true, true, false, true, false, true, false, false, false, false, false, false, false] rfl rfl (by kernel_rfl) (fun _ _ _ h => h) (Or.inl ⟨by rfl, ?_⟩) hHeld ?_ ?_
  rotate_left
  · rintro w' ⟨s0, s1, s2⟩
    go_simp
    try with_reducible rfl
  rotate_left
  · simp only [Act.put, List.setIfInBounds_toArray, List.set_cons_zero, List.set_cons_succ, i64_w, i32_w]
    rfl
  refine take_ (i := 5) (N := (some 23)) (v := ?_) (a' := ?_) #[true, true, true, true, true, true, true, false, true, false, false, false, false, false, false, false] rfl rfl (by kernel_rfl) (fun _ _ _ h => h) (Or.inl ⟨by rfl, ?_⟩) hHeld ?_ ?_
  rotate_left
  · rintro w' ⟨s0, s1, s2⟩
    go_simp
    try with_reducible rfl
  rotate_left
  · simp only [Act.put, List.setIfInBounds_toArray, List.set_cons_zero, List.set_cons_succ, i64_w, i32_w]
    rfl
  refine take_ (i := 7) (N := (some 25)) (v := ?_) (a' := ?_) #[true, true, true, true, true, true, true, true, true, false, false, false, false, false, false, false] rfl rfl (by kernel_rfl) (fun _ _ _ h => h) (Or.inl ⟨by rfl, ?_⟩) hHeld ?_ ?_
  rotate_left
  · rintro w' ⟨s0, s1, s2⟩
    go_simp
    try with_reducible rfl
  rotate_left
  · simp only [Act.put, List.setIfInBounds_toArray, List.set_cons_zero, List.set_cons_succ, i64_w, i32_w]
    rfl
  refine two_ (i := 9) (j := 13) (Ni := (some 27)) (Nj := (some 9)) #[true, true, true, true, true, true, true, true, true, true, false, false, false, false, false, false] #[true, true, true, true, true, true, true, true, true, false, false, false, false, true, false, false] rfl rfl rfl rfl (by kernel_rfl) (by decide) (by decide) (fun K hK => ?_) (fun K hK => ?_)
  ·
    refine goes_ Try.func48 (by kernel_rfl) rfl #[.agg #[.slice B m d], .int .i64 cell, .string b, .int .i64 (min (max fb 0) 256)] (by rfl) rfl rfl ?hargs ((write_at cell b (min (max fb 0) 256) q H0.out.drew.dom (H0.out.drew.sure j hj) HOK.out HE.out).mono ?_)
    case hargs => first | rfl | (go_simp; done) | kernel_rfl
    rintro e w1 ⟨B1, c1, rfl, hb⟩
    refine ⟨_, rfl, ?_⟩
    have B0 := Aside0.mk (Nat.le_of_lt (H0.out.drew.lt _ (inR (k := 0) rfl)))
    have H1 := Aside0.mk (H0.out.drew.call hb)
    have H5a := Aside0.mk (H0.out.drew.step hb.bel)
    clear hb
    refine hK.out _ _ ⟨H1.out.cell _ (inL hi) 1 hc, H1.out.cell _ (inR (k := 0) rfl) 2 rfl, H1.out.cell _ (inR (k := 0) rfl) 3 rfl⟩ (fun hHeld => ?_)
    clear hK K
    refine norm_ (a' := ?_) ?_ ?_
    rotate_left
    · show Act.put _ (some 27) _ = _
      simp only [Act.put, List.setIfInBounds_toArray, List.set_cons_zero, List.set_cons_succ, i64_w, i32_w]
      rfl
    refine pure_ (i := 10) (N := (some 17)) (v := ?_) (a' := ?_) #[true, true, true, true, true, true, true, true, true, true, true, false, false, false, false, false] rfl rfl (by kernel_rfl) (fun _ _ _ h => h) (Or.inl ⟨by rfl, ?_⟩) ?_ ?_
    rotate_left
    · intro w'
      go_simp
      try with_reducible rfl
    rotate_left
    · simp only [Act.put, List.setIfInBounds_toArray, List.set_cons_zero, List.set_cons_succ, i64_w, i32_w]
      rfl
    refine pure_ (i := 11) (N := (some 28)) (v := ?_) (a' := ?_) #[true, true, true, true, true, true, true, true, true, true, true, true, false, false, false, false] rfl rfl (by kernel_rfl) (fun _ _ _ h => h) (Or.inl ⟨by rfl, ?_⟩) ?_ ?_
    rotate_left
    · intro w'
      go_simp
      try with_reducible rfl
    rotate_left
    · simp only [Act.put, List.setIfInBounds_toArray, List.set_cons_zero, List.set_cons_succ, i64_w, i32_w]
      rfl
    refine pure_ (i := 12) (N := (some 29)) (v := ?_) (a' := ?_) #[true, true, true, true, true, true, true, true, true, true, true, true, true, false, false, false] rfl rfl (by kernel_rfl) (fun _ _ _ h => h) (Or.inl ⟨by rfl, ?_⟩) ?_ ?_
    rotate_left
    · intro w'
      go_simp
      try with_reducible rfl
    rotate_left
    · simp only [Act.put, List.setIfInBounds_toArray, List.set_cons_zero, List.set_cons_succ, i64_w, i32_w]
      rfl
    refine one_ (i := 13) (N := (some 9)) #[true, true, true, true, true, true, true, true, true, true, true, true, true, true, false, false] rfl rfl (by kernel_rfl) (by decide) (fun K hK => ?_)
    refine value_ (w1 := ?_) (v := ?_) (by rfl) rfl ?_ ?_
    rotate_left 2
    · go_simp
      constructor
      · rfl
      · rfl
    have H2 := Aside0.mk (H1.out.allocR #[.slice none 0 0] 27)
    refine hK.out _ _ ⟨H2.out.cell _ (inL hi) 1 hc, H2.out.cell _ (inR (k := 0) rfl) 2 rfl, H2.out.cell _ (inR (k := 0) rfl) 3 rfl⟩ (fun hHeld => ?_)
    clear hK K
    refine norm_ (a' := ?_) ?_ ?_
    rotate_left
    · show Act.put _ (some 9) _ = _
      simp only [Act.put, List.setIfInBounds_toArray, List.set_cons_zero, List.set_cons_succ, i64_w, i32_w]
      rfl
    refine one_ (i := 14) (N := none) #[true, true, true, true, true, true, true, true, true, true, true, true, true, true, true, false] rfl rfl (by kernel_rfl) (by decide) (fun K hK => ?_)
    have k8 := H2.out.cell _ (inR (k := 3) rfl) 0 rfl
    have f8 := H2.out.free _ (inR (k := 3) rfl) 0
    have H5 := Aside0.mk (H5a.out.allocR #[.slice B1 m c1] 27)
    refine skip_ (w1 := ?_) (by rfl) rfl ?_ ?_
    rotate_left
    · go_simp
      try rfl
    have H3 := Aside0.mk (H1.out.allocR #[.slice B1 m c1] 27)
    refine hK.out _ _ ⟨H3.out.cell _ (inL hi) 1 hc, H3.out.cell _ (inR (k := 0) rfl) 2 rfl, H3.out.cell _ (inR (k := 0) rfl) 3 rfl⟩ (fun hHeld => ?_)
    clear hK K
    clear k8 f8
    refine pure_ (i := 15) (N := (some 10)) (v := ?_) (a' := ?_) #[true, true, true, true, true, true, true, true, true, true, true, true, true, true, true, true] rfl rfl (by kernel_rfl) (fun _ _ _ h => h) (Or.inl ⟨by rfl, ?_⟩) ?_ ?_
    rotate_left
    · intro w'
      go_simp
      try with_reducible rfl
    rotate_left
    · simp only [Act.put, List.setIfInBounds_toArray, List.set_cons_zero, List.set_cons_succ, i64_w, i32_w]
      rfl
    refine done_ (by kernel_rfl) ?_
    have k8 := H3.out.cell _ (inR (k := 3) rfl) 0 rfl
    have kg := H3.out.cell _ (inL hi) 1 hc
    have fg := H3.out.free _ (inL hi) 1
    have n1 := H3.out.neLR i 2 hi rfl
    have n2 := n1.symm
    have kr0 := H3.out.cell _ (inR (k := 2) rfl) 0 rfl
    have kr1 := H3.out.cell _ (inR (k := 2) rfl) 1 rfl
    have fr0 := H3.out.free _ (inR (k := 2) rfl) 0
    have fr1 := H3.out.free _ (inR (k := 2) rfl) 1
    go_wp2
    have H4 := Aside0.mk (((H5.out).setR 2 rfl 0 (.int .i64 0)).setR 2 rfl 1 (.string ⟨#[]⟩))
    clear n1 n2 kr0 kr1 fr0 fr1 k8 kg fg
    refine bodyPost_ret (results_ct rfl _ _ (w.heap.size + 1 + 1) 40 #[.int .i64 0, .string ⟨#[]⟩] (0, 0) _ rfl (H4.out.blk _ (inR (k := 2) rfl)) Try.underlying40 rfl (by kernel_rfl)) rfl ?_
    exact ⟨rfl, H4.out.low⟩
  ·
    refine value_ (w1 := ?_) (v := ?_) (by rfl) rfl ?_ ?_
    rotate_left 2
    · go_simp
      constructor
      · rfl
      · rfl
    have Ha := Aside0.mk (H0.out.drew.allocR_ (q := w.heap.size + 1 + 1 + 1) (heap_three w _ _ _) #[.slice none 0 0] 27)
    refine hK.out _ _ ⟨Ha.out.cell _ (inL hi) 1 hc, Ha.out.cell _ (inR (k := 0) rfl) 2 rfl, Ha.out.cell _ (inR (k := 0) rfl) 3 rfl⟩ (fun hHeld => ?_)
    clear hK K
    refine norm_ (a' := ?_) ?_ ?_
    rotate_left
    · show Act.put _ (some 9) _ = _
      simp only [Act.put, List.setIfInBounds_toArray, List.set_cons_zero, List.set_cons_succ, i64_w, i32_w]
      rfl
    refine one_ (i := 9) (N := (some 27)) #[true, true, true, true, true, true, true, true, true, true, false, false, false, true, false, false] rfl rfl (by kernel_rfl) (by decide) (fun K hK => ?_)
    refine goes_ Try.func48 (by kernel_rfl) rfl #[.agg #[.slice B m d], .int .i64 cell, .string b, .int .i64 (min (max fb 0) 256)] (by rfl) rfl rfl ?hargs ((write_at cell b (min (max fb 0) 256) q Ha.out.dom (Ha.out.sure j hj) HOK.out HE.out).mono ?_)
    case hargs => first | rfl | (go_simp; done) | kernel_rfl
    rintro e w1 ⟨B1, c1, rfl, hb⟩
    refine ⟨_, rfl, ?_⟩
    have B0 := Aside0.mk (Nat.le_of_lt (Ha.out.lt _ (inR (k := 0) rfl)))
    have H2 := Aside0.mk (Ha.out.call hb)
    have H5b := Aside0.mk (Ha.out.step hb.bel)
    clear hb
    refine hK.out _ _ ⟨H2.out.cell _ (inL hi) 1 hc, H2.out.cell _ (inR (k := 0) rfl) 2 rfl, H2.out.cell _ (inR (k := 0) rfl) 3 rfl⟩ (fun hHeld => ?_)
    clear hK K
    refine norm_ (a' := ?_) ?_ ?_
    rotate_left
    · show Act.put _ (some 27) _ = _
      simp only [Act.put, List.setIfInBounds_toArray, List.set_cons_zero, List.set_cons_succ, i64_w, i32_w]
      rfl
    refine pure_ (i := 10) (N := (some 17)) (v := ?_) (a' := ?_) #[true, true, true, true, true, true, true, true, true, true, true, false, false, true, false, false] rfl rfl (by kernel_rfl) (fun _ _ _ h => h) (Or.inl ⟨by rfl, ?_⟩) ?_ ?_
    rotate_left
    · intro w'
      go_simp
      try with_reducible rfl
    rotate_left
    · simp only [Act.put, List.setIfInBounds_toArray, List.set_cons_zero, List.set_cons_succ, i64_w, i32_w]
      rfl
    refine pure_ (i := 11) (N := (some 28)) (v := ?_) (a' := ?_) #[true, true, true, true, true, true, true, true, true, true, true, true, false, true, false, false] rfl rfl (by kernel_rfl) (fun _ _ _ h => h) (Or.inl ⟨by rfl, ?_⟩) ?_ ?_
    rotate_left
    · intro w'
      go_simp
      try with_reducible rfl
    rotate_left
    · simp only [Act.put, List.setIfInBounds_toArray, List.set_cons_zero, List.set_cons_succ, i64_w, i32_w]
      rfl
    refine pure_ (i := 12) (N := (some 29)) (v := ?_) (a' := ?_) #[true, true, true, true, true, true, true, true, true, true, true, true, true, true, false, false] rfl rfl (by kernel_rfl) (fun _ _ _ h => h) (Or.inl ⟨by rfl, ?_⟩) ?_ ?_
    rotate_left
    · intro w'
      go_simp
      try with_reducible rfl
    rotate_left
    · simp only [Act.put, List.setIfInBounds_toArray, List.set_cons_zero, List.set_cons_succ, i64_w, i32_w]
      rfl
    refine one_ (i := 14) (N := none) #[true, true, true, true, true, true, true, true, true, true, true, true, true, true, true, false] rfl rfl (by kernel_rfl) (by decide) (fun K hK => ?_)
    have k8 := H2.out.cell _ (inR (k := 3) rfl) 0 rfl
    have f8 := H2.out.free _ (inR (k := 3) rfl) 0
    have H5 := Aside0.mk (H5b.out.setR 3 rfl 0 (.slice B1 m c1))
    refine skip_ (w1 := ?_) (by rfl) rfl ?_ ?_
    rotate_left
    · go_simp
      try rfl
    have H3 := Aside0.mk (H2.out.setR 3 rfl 0 (.slice B1 m c1))
    refine hK.out _ _ ⟨H3.out.cell _ (inL hi) 1 hc, H3.out.cell _ (inR (k := 0) rfl) 2 rfl, H3.out.cell _ (inR (k := 0) rfl) 3 rfl⟩ (fun hHeld => ?_)
    clear hK K
    clear k8 f8
    refine pure_ (i := 15) (N := (some 10)) (v := ?_) (a' := ?_) #[true, true, true, true, true, true, true, true, true, true, true, true, true, true, true, true] rfl rfl (by kernel_rfl) (fun _ _ _ h => h) (Or.inl ⟨by rfl, ?_⟩) ?_ ?_
    rotate_left
    · intro w'
      go_simp
      try with_reducible rfl
    rotate_left
    · simp only [Act.put, List.setIfInBounds_toArray, List.set_cons_zero, List.set_cons_succ, i64_w, i32_w]
      rfl
    refine done_ (by kernel_rfl) ?_
    have k8 := H3.out.cell _ (inR (k := 3) rfl) 0 rfl
    have kg := H3.out.cell _ (inL hi) 1 hc
    have fg := H3.out.free _ (inL hi) 1
    have n1 := H3.out.neLR i 2 hi rfl
    have n2 := n1.symm
    have kr0 := H3.out.cell _ (inR (k := 2) rfl) 0 rfl
    have kr1 := H3.out.cell _ (inR (k := 2) rfl) 1 rfl
    have fr0 := H3.out.free _ (inR (k := 2) rfl) 0
    have fr1 := H3.out.free _ (inR (k := 2) rfl) 1
    go_wp2
    have H4 := Aside0.mk (((H5.out).setR 2 rfl 0 (.int .i64 0)).setR 2 rfl 1 (.string ⟨#[]⟩))
    clear n1 n2 kr0 kr1 fr0 fr1 k8 kg fg
    refine bodyPost_ret (results_ct rfl _ _ (w.heap.size + 1 + 1) 40 #[.int .i64 0, .string ⟨#[]⟩] (0, 0) _ rfl (H4.out.blk _ (inR (k := 2) rfl)) Try.underlying40 rfl (by kernel_rfl)) rfl ?_
    exact ⟨rfl, H4.out.low⟩
set_option maxRecDepth 100000 in
set_option maxHeartbeats 8000000 in
theorem run4_no_f {B : Option Addr} {m d g : Nat} {fl : List ByteArray} {w w0 : World} {S : Nat → Prop} {ds : List (World → Prop)} {os : List Blk} {cs : Array Value} (kd bank cell : Int) (b : ByteArray) (fb : Int) (noise : Bool) (q : Int) (H : St w0 S ds os w) (i j : Nat) (hi : os[i]? = some (g, cs, 31)) (hc : cs[1]? = some (.slice B m d)) (hj : ds[j]? = some (fun w => Fl w B m d fl)) (hok : OkFl fl) (hE : wrE fl cell b = q) (hq : (q == 0) = false) :
    Calls Try.prog 47 #[.pointer (some ⟨g, 0, none⟩), .agg #[.int .i64 kd, .int .i64 bank, .int .i64 cell, .string b], .agg #[.bool false, .int .i64 fb, .bool noise]] w fun e w' => e = .returned (.tuple #[.agg #[.int .i64 0, .string ⟨#[]⟩], .int .i64 q]) ∧ St w0 S ds os w' := by
  have H0 := Aside0.mk (H.alloc3 #[.int .i64 kd, .int .i64 bank, .int .i64 cell, .string b] 33 #[.bool false, .int .i64 fb, .bool noise] 35 #[.int .i64 0, .string ⟨#[]⟩] 40)
  have HOK := Aside0.mk hok
  have HE := Aside0.mk hE
  clear hok hE H
  have kc := H0.out.cell _ (inR (k := 1) rfl) 0 rfl
  go_enter Try.func47, Try.ntmps47
  go_wp2
  clear kc
  refine start_ (n := 16) (S := (fun w' => w'.cell? ⟨g, 1, none⟩ = some (.slice B m d) ∧ w'.cell? ⟨w.heap.size, 2, none⟩ = some (.int .i64 cell) ∧ w'.cell? ⟨w.heap.size, 3, none⟩ = some (.string b))) (ds := []) #[false, false, false, false, false, false, false, false, false, false, false, false, false, false, false, false] (by kernel_rfl) rfl rfl ⟨H0.out.drew.cell _ (inL hi) 1 hc, H0.out.drew.cell _ (inR (k := 0) rfl) 2 rfl, H0.out.drew.cell _ (inR (k := 0) rfl) 3 rfl⟩ (fun hHeld => ?_)
  refine pure_ (i := 0) (N := (some 18)) (v := ?_) (a' := ?_) #[true, false, false, false, false, false, false, false, false, false, false, false, false, false, false, false] rfl rfl (by kernel_rfl) (fun _ _ _ h => h) (Or.inl ⟨by rfl, ?_⟩) ?_ ?_
  rotate_left
  · intro w'
    go_simp
    try with_reducible rfl
  rotate_left
  · simp only [Act.put, List.setIfInBounds_toArray, List.set_cons_zero, List.set_cons_succ, i64_w, i32_w]
    rfl
  refine pure_ (i := 1) (N := (some 19)) (v := ?_) (a' := ?_) #[true, true, false, false, false, false, false, false, false, false, false, false, false, false, false, false] rfl rfl (by kernel_rfl) (fun _ _ _ h => h) (Or.inl ⟨by rfl, ?_⟩) ?_ ?_
  rotate_left
  · intro w'
    go_simp
    try with_reducible rfl
  rotate_left
  · simp only [Act.put, List.setIfInBounds_toArray, List.set_cons_zero, List.set_cons_succ, i64_w, i32_w]
    rfl
  refine pure_ (i := 2) (N := (some 20)) (v := ?_) (a' := ?_) #[true, true, true, false, false, false, false, false, false, false, false, false, false, false, false, false] rfl rfl (by kernel_rfl) (fun _ _ _ h => h) (Or.inl ⟨by rfl, ?_⟩) ?_ ?_
  rotate_left
  · intro w'
    go_simp
    try with_reducible rfl
  rotate_left
  · simp only [Act.put, List.setIfInBounds_toArray, List.set_cons_zero, List.set_cons_succ, i64_w, i32_w]
    rfl
  refine pure_ (i := 4) (N := (some 22)) (v := ?_) (a' := ?_) #[true, true, true, false, true, false, false, false, false, false, false, false, false, false, false, false] rfl rfl (by kernel_rfl) (fun _ _ _ h => h) (Or.inl ⟨by rfl, ?_⟩) ?_ ?_
  rotate_left
  · intro w'
    go_simp
    try with_reducible rfl
  rotate_left
  · simp only [Act.put, List.setIfInBounds_toArray, List.set_cons_zero, List.set_cons_succ, i64_w, i32_w]
    rfl
  refine pure_ (i := 6) (N := (some 24)) (v := ?_) (a' := ?_) #[true, true, true, false, true, false, true, false, false, false, false, false, false, false, false, false] rfl rfl (by kernel_rfl) (fun _ _ _ h => h) (Or.inl ⟨by rfl, ?_⟩) ?_ ?_
  rotate_left
  · intro w'
    go_simp
    try with_reducible rfl
  rotate_left
  · simp only [Act.put, List.setIfInBounds_toArray, List.set_cons_zero, List.set_cons_succ, i64_w, i32_w]
    rfl
  refine pure_ (i := 8) (N := (some 26)) (v := ?_) (a' := ?_) #[true, true, true, false, true, false, true, false, true, false, false, false, false, false, false, false] rfl rfl (by kernel_rfl) (fun _ _ _ h => h) (Or.inl ⟨by rfl, ?_⟩) ?_ ?_
  rotate_left
  · intro w'
    go_simp
    try with_reducible rfl
  rotate_left
  · simp only [Act.put, List.setIfInBounds_toArray, List.set_cons_zero, List.set_cons_succ, i64_w, i32_w]
    rfl
  refine take_ (i := 3) (N := (some 21)) (v := ?_) (a' := ?_) #[true, true, true, true, true, false, true, false, true, false, false, false, false, false, false, false] rfl rfl (by kernel_rfl) (fun _ _ _ h => h) (Or.inl ⟨by rfl, ?_⟩) hHeld ?_ ?_
  rotate_left
  · rintro w' ⟨s0, s1, s2⟩
    go_simp
    try with_reducible rfl
  rotate_left
  · simp only [Act.put, List.setIfInBounds_toArray, List.set_cons_zero, List.set_cons_succ, i64_w, i32_w]
    rfl
  refine take_ (i := 5) (N := (some 23)) (v := ?_) (a' := ?_) #[true, true, true, true, true, true, true, false, true, false, false, false, false, false, false, false] rfl rfl (by kernel_rfl) (fun _ _ _ h => h) (Or.inl ⟨by rfl, ?_⟩) hHeld ?_ ?_
  rotate_left
  · rintro w' ⟨s0, s1, s2⟩
    go_simp
    try with_reducible rfl
  rotate_left
  · simp only [Act.put, List.setIfInBounds_toArray, List.set_cons_zero, List.set_cons_succ, i64_w, i32_w]
    rfl
  refine take_ (i := 7) (N := (some 25)) (v := ?_) (a' := ?_) #[true, true, true, true, true, true, true, true, true, false, false, false, false, false, false, false] rfl rfl (by kernel_rfl) (fun _ _ _ h => h) (Or.inl ⟨by rfl, ?_⟩) hHeld ?_ ?_
  rotate_left
  · rintro w' ⟨s0, s1, s2⟩
    go_simp
    try with_reducible rfl
  rotate_left
  · simp only [Act.put, List.setIfInBounds_toArray, List.set_cons_zero, List.set_cons_succ, i64_w, i32_w]
    rfl
  refine two_ (i := 9) (j := 13) (Ni := (some 27)) (Nj := (some 9)) #[true, true, true, true, true, true, true, true, true, true, false, false, false, false, false, false] #[true, true, true, true, true, true, true, true, true, false, false, false, false, true, false, false] rfl rfl rfl rfl (by kernel_rfl) (by decide) (by decide) (fun K hK => ?_) (fun K hK => ?_)
  ·
    refine goes_ Try.func48 (by kernel_rfl) rfl #[.agg #[.slice B m d], .int .i64 cell, .string b, .int .i64 (-1)] (by rfl) rfl rfl ?hargs ((write_at cell b (-1) q H0.out.drew.dom (H0.out.drew.sure j hj) HOK.out HE.out).mono ?_)
    case hargs => first | rfl | (go_simp; done) | kernel_rfl
    rintro e w1 ⟨B1, c1, rfl, hb⟩
    refine ⟨_, rfl, ?_⟩
    have B0 := Aside0.mk (Nat.le_of_lt (H0.out.drew.lt _ (inR (k := 0) rfl)))
    have H1 := Aside0.mk (H0.out.drew.call hb)
    have H5a := Aside0.mk (H0.out.drew.step hb.bel)
    clear hb
    refine hK.out _ _ ⟨H1.out.cell _ (inL hi) 1 hc, H1.out.cell _ (inR (k := 0) rfl) 2 rfl, H1.out.cell _ (inR (k := 0) rfl) 3 rfl⟩ (fun hHeld => ?_)
    clear hK K
    refine norm_ (a' := ?_) ?_ ?_
    rotate_left
    · show Act.put _ (some 27) _ = _
      simp only [Act.put, List.setIfInBounds_toArray, List.set_cons_zero, List.set_cons_succ, i64_w, i32_w]
      rfl
    refine pure_ (i := 10) (N := (some 17)) (v := ?_) (a' := ?_) #[true, true, true, true, true, true, true, true, true, true, true, false, false, false, false, false] rfl rfl (by kernel_rfl) (fun _ _ _ h => h) (Or.inl ⟨by rfl, ?_⟩) ?_ ?_
    rotate_left
    · intro w'
      go_simp
      try with_reducible rfl
    rotate_left
    · simp only [Act.put, List.setIfInBounds_toArray, List.set_cons_zero, List.set_cons_succ, i64_w, i32_w]
      rfl
    refine pure_ (i := 11) (N := (some 28)) (v := ?_) (a' := ?_) #[true, true, true, true, true, true, true, true, true, true, true, true, false, false, false, false] rfl rfl (by kernel_rfl) (fun _ _ _ h => h) (Or.inl ⟨by rfl, ?_⟩) ?_ ?_
    rotate_left
    · intro w'
      go_simp
      try with_reducible rfl
    rotate_left
    · simp only [Act.put, List.setIfInBounds_toArray, List.set_cons_zero, List.set_cons_succ, i64_w, i32_w]
      rfl
    refine pure_ (i := 12) (N := (some 29)) (v := ?_) (a' := ?_) #[true, true, true, true, true, true, true, true, true, true, true, true, true, false, false, false] rfl rfl (by kernel_rfl) (fun _ _ _ h => h) (Or.inl ⟨by rfl, ?_⟩) ?_ ?_
    rotate_left
    · intro w'
      go_simp
      try with_reducible rfl
    rotate_left
    · simp only [Act.put, List.setIfInBounds_toArray, List.set_cons_zero, List.set_cons_succ, i64_w, i32_w]
      rfl
    refine one_ (i := 13) (N := (some 9)) #[true, true, true, true, true, true, true, true, true, true, true, true, true, true, false, false] rfl rfl (by kernel_rfl) (by decide) (fun K hK => ?_)
    refine value_ (w1 := ?_) (v := ?_) (by rfl) rfl ?_ ?_
    rotate_left 2
    · go_simp
      constructor
      · rfl
      · rfl
    have H2 := Aside0.mk (H1.out.allocR #[.slice none 0 0] 27)
    refine hK.out _ _ ⟨H2.out.cell _ (inL hi) 1 hc, H2.out.cell _ (inR (k := 0) rfl) 2 rfl, H2.out.cell _ (inR (k := 0) rfl) 3 rfl⟩ (fun hHeld => ?_)
    clear hK K
    refine norm_ (a' := ?_) ?_ ?_
    rotate_left
    · show Act.put _ (some 9) _ = _
      simp only [Act.put, List.setIfInBounds_toArray, List.set_cons_zero, List.set_cons_succ, i64_w, i32_w]
      rfl
    refine one_ (i := 14) (N := none) #[true, true, true, true, true, true, true, true, true, true, true, true, true, true, true, false] rfl rfl (by kernel_rfl) (by decide) (fun K hK => ?_)
    have k8 := H2.out.cell _ (inR (k := 3) rfl) 0 rfl
    have f8 := H2.out.free _ (inR (k := 3) rfl) 0
    have H5 := Aside0.mk (H5a.out.allocR #[.slice B1 m c1] 27)
    refine skip_ (w1 := ?_) (by rfl) rfl ?_ ?_
    rotate_left
    · go_simp
      try rfl
    have H3 := Aside0.mk (H1.out.allocR #[.slice B1 m c1] 27)
    refine hK.out _ _ ⟨H3.out.cell _ (inL hi) 1 hc, H3.out.cell _ (inR (k := 0) rfl) 2 rfl, H3.out.cell _ (inR (k := 0) rfl) 3 rfl⟩ (fun hHeld => ?_)
    clear hK K
    clear k8 f8
    refine pure_ (i := 15) (N := (some 10)) (v := ?_) (a' := ?_) #[true, true, true, true, true, true, true, true, true, true, true, true, true, true, true, true] rfl rfl (by kernel_rfl) (fun _ _ _ h => h) (Or.inl ⟨by rfl, ?_⟩) ?_ ?_
    rotate_left
    · intro w'
      go_simp
      try with_reducible rfl
    rotate_left
    · simp only [Act.put, List.setIfInBounds_toArray, List.set_cons_zero, List.set_cons_succ, i64_w, i32_w]
      rfl
    refine done_ (by kernel_rfl) ?_
    have k8 := H3.out.cell _ (inR (k := 3) rfl) 0 rfl
    have kg := H3.out.cell _ (inL hi) 1 hc
    have fg := H3.out.free _ (inL hi) 1
    have n1 := H3.out.neLR i 2 hi rfl
    have n2 := n1.symm
    have kr0 := H3.out.cell _ (inR (k := 2) rfl) 0 rfl
    have kr1 := H3.out.cell _ (inR (k := 2) rfl) 1 rfl
    have fr0 := H3.out.free _ (inR (k := 2) rfl) 0
    have fr1 := H3.out.free _ (inR (k := 2) rfl) 1
    go_wp2
    have H4 := Aside0.mk (((H5.out).setR 2 rfl 0 (.int .i64 0)).setR 2 rfl 1 (.string ⟨#[]⟩))
    clear n1 n2 kr0 kr1 fr0 fr1 k8 kg fg
    refine bodyPost_ret (results_ct rfl _ _ (w.heap.size + 1 + 1) 40 #[.int .i64 0, .string ⟨#[]⟩] (0, 0) _ rfl (H4.out.blk _ (inR (k := 2) rfl)) Try.underlying40 rfl (by kernel_rfl)) rfl ?_
    exact ⟨rfl, H4.out.low⟩
  ·
    refine value_ (w1 := ?_) (v := ?_) (by rfl) rfl ?_ ?_
    rotate_left 2
    · go_simp
      constructor
      · rfl
      · rfl
    have Ha := Aside0.mk (H0.out.drew.allocR_ (q := w.heap.size + 1 + 1 + 1) (heap_three w _ _ _) #[.slice none 0 0] 27)
    refine hK.out _ _ ⟨Ha.out.cell _ (inL hi) 1 hc, Ha.out.cell _ (inR (k := 0) rfl) 2 rfl, Ha.out.cell _ (inR (k := 0) rfl) 3 rfl⟩ (fun hHeld => ?_)
    clear hK K
    refine norm_ (a' := ?_) ?_ ?_
    rotate_left
    · show Act.put _ (some 9) _ = _
      simp only [Act.put, List.setIfInBounds_toArray, List.set_cons_zero, List.set_cons_succ, i64_w, i32_w]
      rfl
    refine one_ (i := 9) (N := (some 27)) #[true, true, true, true, true, true, true, true, true, true, false, false, false, true, false, false] rfl rfl (by kernel_rfl) (by decide) (fun K hK => ?_)
    refine goes_ Try.func48 (by kernel_rfl) rfl #[.agg #[.slice B m d], .int .i64 cell, .string b, .int .i64 (-1)] (by rfl) rfl rfl ?hargs ((write_at cell b (-1) q Ha.out.dom (Ha.out.sure j hj) HOK.out HE.out).mono ?_)
    case hargs => first | rfl | (go_simp; done) | kernel_rfl
    rintro e w1 ⟨B1, c1, rfl, hb⟩
    refine ⟨_, rfl, ?_⟩
    have B0 := Aside0.mk (Nat.le_of_lt (Ha.out.lt _ (inR (k := 0) rfl)))
    have H2 := Aside0.mk (Ha.out.call hb)
    have H5b := Aside0.mk (Ha.out.step hb.bel)
    clear hb
    refine hK.out _ _ ⟨H2.out.cell _ (inL hi) 1 hc, H2.out.cell _ (inR (k := 0) rfl) 2 rfl, H2.out.cell _ (inR (k := 0) rfl) 3 rfl⟩ (fun hHeld => ?_)
    clear hK K
    refine norm_ (a' := ?_) ?_ ?_
    rotate_left
    · show Act.put _ (some 27) _ = _
      simp only [Act.put, List.setIfInBounds_toArray, List.set_cons_zero, List.set_cons_succ, i64_w, i32_w]
      rfl
    refine pure_ (i := 10) (N := (some 17)) (v := ?_) (a' := ?_) #[true, true, true, true, true, true, true, true, true, true, true, false, false, true, false, false] rfl rfl (by kernel_rfl) (fun _ _ _ h => h) (Or.inl ⟨by rfl, ?_⟩) ?_ ?_
    rotate_left
    · intro w'
      go_simp
      try with_reducible rfl
    rotate_left
    · simp only [Act.put, List.setIfInBounds_toArray, List.set_cons_zero, List.set_cons_succ, i64_w, i32_w]
      rfl
    refine pure_ (i := 11) (N := (some 28)) (v := ?_) (a' := ?_) #[true, true, true, true, true, true, true, true, true, true, true, true, false, true, false, false] rfl rfl (by kernel_rfl) (fun _ _ _ h => h) (Or.inl ⟨by rfl, ?_⟩) ?_ ?_
    rotate_left
    · intro w'
      go_simp
      try with_reducible rfl
    rotate_left
    · simp only [Act.put, List.setIfInBounds_toArray, List.set_cons_zero, List.set_cons_succ, i64_w, i32_w]
      rfl
    refine pure_ (i := 12) (N := (some 29)) (v := ?_) (a' := ?_) #[true, true, true, true, true, true, true, true, true, true, true, true, true, true, false, false] rfl rfl (by kernel_rfl) (fun _ _ _ h => h) (Or.inl ⟨by rfl, ?_⟩) ?_ ?_
    rotate_left
    · intro w'
      go_simp
      try with_reducible rfl
    rotate_left
    · simp only [Act.put, List.setIfInBounds_toArray, List.set_cons_zero, List.set_cons_succ, i64_w, i32_w]
      rfl
    refine one_ (i := 14) (N := none) #[true, true, true, true, true, true, true, true, true, true, true, true, true, true, true, false] rfl rfl (by kernel_rfl) (by decide) (fun K hK => ?_)
    have k8 := H2.out.cell _ (inR (k := 3) rfl) 0 rfl
    have f8 := H2.out.free _ (inR (k := 3) rfl) 0
    have H5 := Aside0.mk (H5b.out.setR 3 rfl 0 (.slice B1 m c1))
    refine skip_ (w1 := ?_) (by rfl) rfl ?_ ?_
    rotate_left
    · go_simp
      try rfl
    have H3 := Aside0.mk (H2.out.setR 3 rfl 0 (.slice B1 m c1))
    refine hK.out _ _ ⟨H3.out.cell _ (inL hi) 1 hc, H3.out.cell _ (inR (k := 0) rfl) 2 rfl, H3.out.cell _ (inR (k := 0) rfl) 3 rfl⟩ (fun hHeld => ?_)
    clear hK K
    clear k8 f8
    refine pure_ (i := 15) (N := (some 10)) (v := ?_) (a' := ?_) #[true, true, true, true, true, true, true, true, true, true, true, true, true, true, true, true] rfl rfl (by kernel_rfl) (fun _ _ _ h => h) (Or.inl ⟨by rfl, ?_⟩) ?_ ?_
    rotate_left
    · intro w'
      go_simp
      try with_reducible rfl
    rotate_left
    · simp only [Act.put, List.setIfInBounds_toArray, List.set_cons_zero, List.set_cons_succ, i64_w, i32_w]
      rfl
    refine done_ (by kernel_rfl) ?_
    have k8 := H3.out.cell _ (inR (k := 3) rfl) 0 rfl
    have kg := H3.out.cell _ (inL hi) 1 hc
    have fg := H3.out.free _ (inL hi) 1
    have n1 := H3.out.neLR i 2 hi rfl
    have n2 := n1.symm
    have kr0 := H3.out.cell _ (inR (k := 2) rfl) 0 rfl
    have kr1 := H3.out.cell _ (inR (k := 2) rfl) 1 rfl
    have fr0 := H3.out.free _ (inR (k := 2) rfl) 0
    have fr1 := H3.out.free _ (inR (k := 2) rfl) 1
    go_wp2
    have H4 := Aside0.mk (((H5.out).setR 2 rfl 0 (.int .i64 0)).setR 2 rfl 1 (.string ⟨#[]⟩))
    clear n1 n2 kr0 kr1 fr0 fr1 k8 kg fg
    refine bodyPost_ret (results_ct rfl _ _ (w.heap.size + 1 + 1) 40 #[.int .i64 0, .string ⟨#[]⟩] (0, 0) _ rfl (H4.out.blk _ (inR (k := 2) rfl)) Try.underlying40 rfl (by kernel_rfl)) rfl ?_
    exact ⟨rfl, H4.out.low⟩
end Go.Proofs.Ytkfhekocbfednaa.Dv
namespace Go.Proofs.Ytkfhekocbfednaa.Dv
set_option linter.unusedVariables false
set_option linter.unusedSimpArgs false
open Go.RowKit Go.Proofs.Ytkfhekocbfednaa Go.Proofs.YtkfhekocbfednaaW.PrintWords Go.Proofs.YtkfhekocbfednaaW.PrintLast Go.Proofs.YtkfhekocbfednaaW.PrintMore
open Go.Proofs.Ytkfhekocbfednaa.Fu Go.Proofs.Ytkfhekocbfednaa.Fl
section
variable {P : Program}
theorem results_c {fn : Func} {p : Tmp} {ty : TypeId} (h : fn.results = #[.cell p ty]) (tmps : Array Value) (w : World) (g : Nat) (t : TypeId) (cs : Array Value) (fr : Nat × Nat) (d : TypeDesc)
    (hp : tmps.getD p undef = .pointer (some ⟨g, 0, none⟩)) (hg : w.heap[g]? = some (.cells cs t fr))
    (hu : P.underlying ty = some d) (hd : (match d with | .struct _ | .array _ _ => true | _ => false) = true) (hi : (P.info? ty).map (·.size) = some cs.size) :
    (results fn tmps).run P w = .ok (.agg cs) w := by
  have hp' : tmps[p]?.getD undef = .pointer (some ⟨g, 0, none⟩) := by simpa using hp
  simp [results, h, hp', asAddr, run_loadVar_row w g t ty cs fr d hg hu hd hi]
theorem results_cct {fn : Func} {p p' u : Tmp} {ty ty' : TypeId} (h : fn.results = #[.cell p ty, .cell p' ty', .tmp u]) (tmps : Array Value) (w : World) (g g' : Nat) (t t' : TypeId) (cs cs' : Array Value) (fr fr' : Nat × Nat) (d d' : TypeDesc)
    (hp : tmps.getD p undef = .pointer (some ⟨g, 0, none⟩)) (hg : w.heap[g]? = some (.cells cs t fr))
    (hu : P.underlying ty = some d) (hd : (match d with | .struct _ | .array _ _ => true | _ => false) = true) (hi : (P.info? ty).map (·.size) = some cs.size)
    (hp2 : tmps.getD p' undef = .pointer (some ⟨g', 0, none⟩)) (hg' : w.heap[g']? = some (.cells cs' t' fr'))
    (hu' : P.underlying ty' = some d') (hd' : (match d' with | .struct _ | .array _ _ => true | _ => false) = true) (hi' : (P.info? ty').map (·.size) = some cs'.size) :
    (results fn tmps).run P w = .ok (.tuple #[.agg cs, .agg cs', tmps.getD u undef]) w := by
  have hp' : tmps[p]?.getD undef = .pointer (some ⟨g, 0, none⟩) := by simpa using hp
  have hp2' : tmps[p']?.getD undef = .pointer (some ⟨g', 0, none⟩) := by simpa using hp2
  simp [results, h, hp', hp2', asAddr, run_loadVar_row w g t ty cs fr d hg hu hd hi, run_loadVar_row w g' t' ty' cs' fr' d' hg' hu' hd' hi']
end
def accs : Array Value := #[.nilFunc, .nilFunc, .func (.func 38) #[] #[], .func (.func 39) #[] #[], .func (.func 38) #[] #[], .func (.func 41) #[] #[], .func (.func 43) #[] #[], .func (.func 44) #[] #[], .func (.func 46) #[] #[], .func (.func 47) #[] #[]]
set_option maxRecDepth 100000 in
set_option maxHeartbeats 4000000 in
theorem accesses_any (w : World) : Calls Try.prog 22 #[] w fun e w' => e = .returned (.agg accs) ∧ Below w.heap.size w w' := by
  go_enter Try.func22, Try.ntmps22
  go_wp2
  exact bodyPost_ret (results_c rfl _ _ w.heap.size 65 accs (0, 0) _ rfl (heap_alloc_new w _) Try.underlying65 rfl (by kernel_rfl)) rfl ⟨rfl, below_alloc (Below.refl _ _) _⟩
end Go.Proofs.Ytkfhekocbfednaa.Dv
end
