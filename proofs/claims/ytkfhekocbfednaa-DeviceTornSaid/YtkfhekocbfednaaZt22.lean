/- Part of the proof of deviceTorn_holds: what later parts use. -/
import Derived.Test.YtkfhekocbfednaaZt0
import Derived.Test.YtkfhekocbfednaaZt1
import Derived.Test.YtkfhekocbfednaaZt2
import Derived.Test.YtkfhekocbfednaaZt3
import Derived.Test.YtkfhekocbfednaaZt4
import Derived.Test.YtkfhekocbfednaaZt5
import Derived.Test.YtkfhekocbfednaaZt6
import Derived.Test.YtkfhekocbfednaaZt7
import Derived.Test.YtkfhekocbfednaaZt8
import Derived.Test.YtkfhekocbfednaaZt9
import Derived.Test.YtkfhekocbfednaaZt10
import Derived.Test.YtkfhekocbfednaaZt11
import Derived.Test.YtkfhekocbfednaaZt12
import Derived.Test.YtkfhekocbfednaaZt13
import Derived.Test.YtkfhekocbfednaaZt14
import Derived.Test.YtkfhekocbfednaaZt15
import Derived.Test.YtkfhekocbfednaaZt16
import Derived.Test.YtkfhekocbfednaaZt17
import Derived.Test.YtkfhekocbfednaaZt18
import Derived.Test.YtkfhekocbfednaaZt19
import Derived.Test.YtkfhekocbfednaaZt20
import Derived.Test.YtkfhekocbfednaaZt21
import Derived.Laws.StructEq
section
namespace Go.Proofs.Ytkfhekocbfednaa.Dv
set_option linter.unusedVariables false
set_option linter.unusedSimpArgs false
open Go.RowKit Go.Proofs.Ytkfhekocbfednaa Go.Proofs.YtkfhekocbfednaaW.PrintWords Go.Proofs.YtkfhekocbfednaaW.PrintLast Go.Proofs.YtkfhekocbfednaaW.PrintMore
open Go.Proofs.Ytkfhekocbfednaa.Fu Go.Proofs.Ytkfhekocbfednaa.Fl
attribute [local go_sem] max2_max min2_min max_two min_two
open Go.Proofs.Ytkfhekocbfednaa.Dv
def hwC (x y : Value) (r : Nat → Int) : Array Value := #[x, y, .int .u8 (r 0), .int .u8 (r 1), .int .u8 (r 2), .int .u8 (r 3), .int .u8 (r 4), .int .u8 (r 5), .int .u8 (r 6), .int .u8 (r 7), .int .u8 (r 8), .int .u8 (r 9), .int .u8 (r 10), .int .u8 (r 11), .int .u8 (r 12), .int .u8 (r 13), .int .u8 (r 14), .int .u8 (r 15)]
def DoRes (S : Nat → Prop) (n m : Nat) (r : Nat → Int) (bk : List (List Int)) (fl : List ByteArray) (v : Int) (s : ByteArray) (code : Int) (w : World) (e : Ending) (w' : World) : Prop :=
  ∃ A c hs B d, e = .returned (.tuple #[.agg (hwC (.slice A n c) (.slice B m d) r), .agg #[.int .i64 v, .string s], .int .i64 code]) ∧ Back S w w' (fun w => Fu w A n c hs bk ∧ Fl w B m d fl)
set_option maxRecDepth 100000 in
set_option maxHeartbeats 16000000 in
theorem do_low {A : Option Addr} {n d : Nat} {hs : List Hdr} {bk : List (List Int)} {B : Option Addr} {m c : Nat} {fl : List ByteArray} {w : World} {S : Nat → Prop} {r : Nat → Int} (kd bank cell : Int) (b : ByteArray) (cut : Bool) (fb : Int) (noise : Bool) (hd : ∀ k, S k → k < w.heap.size) (hF : Sure S w (fun w => Fu w A n d hs bk)) (hL : Sure S w (fun w => Fl w B m c fl)) (hk : kd < 1) :
    Calls Try.prog 10 #[.agg (hwC (.slice A n d) (.slice B m c) r), .agg #[.int .i64 kd, .int .i64 bank, .int .i64 cell, .string b], .agg #[.bool cut, .int .i64 fb, .bool noise]] w (DoRes S n m r bk fl 0 ⟨#[]⟩ 1 w) := by
  have H0 := Aside0.mk ((St.enter2 hd hF hL).alloc5 (hwC (.slice A n d) (.slice B m c) r) 31 #[.int .i64 kd, .int .i64 bank, .int .i64 cell, .string b] 33 #[.bool cut, .int .i64 fb, .bool noise] 35 #[.slice none 0 0, .slice none 0 0, .int .u8 0, .int .u8 0, .int .u8 0, .int .u8 0, .int .u8 0, .int .u8 0, .int .u8 0, .int .u8 0, .int .u8 0, .int .u8 0, .int .u8 0, .int .u8 0, .int .u8 0, .int .u8 0, .int .u8 0, .int .u8 0] 31 #[.int .i64 0, .string ⟨#[]⟩] 40)
  go_enter Try.func10, Try.ntmps10
  go_wp2_with (first | (go_at_call 22; refine (accesses_any _).mono ?_; rintro e w1 ⟨rfl, hb⟩; have H1 := Aside0.mk (H0.out.step hb); clear hb) | (refine storeRowL_ (ty := 65) rfl rfl rfl _ _ _ accs rfl rfl (heap_alloc_new _ _) (by kernel_rfl) rfl (by kernel_rfl) ?_; have H2 := Aside0.mk ((H1.out.alloc #[.nilFunc, .nilFunc, .nilFunc, .nilFunc, .nilFunc, .nilFunc, .nilFunc, .nilFunc, .nilFunc, .nilFunc] 65).setRow 5 rfl accs)))
  refine start_ (n := 18) (S := (fun w' => w'.cell? ⟨w.heap.size + 1, 0, none⟩ = some (.int .i64 kd) ∧ w'.cell? ⟨w.heap.size + 1, 1, none⟩ = some (.int .i64 bank) ∧ w'.cell? ⟨w.heap.size + 1, 2, none⟩ = some (.int .i64 cell) ∧ w'.cell? ⟨w.heap.size + 1, 3, none⟩ = some (.string b))) (ds := []) #[false, false, false, false, false, false, false, false, false, false, false, false, false, false, false, false, false, false] (by kernel_rfl) rfl rfl ⟨H2.out.drew.cell 1 rfl 0 rfl, H2.out.drew.cell 1 rfl 1 rfl, H2.out.drew.cell 1 rfl 2 rfl, H2.out.drew.cell 1 rfl 3 rfl⟩ (fun hHeld => ?_)
  refine pure_ (i := 0) (N := (some 14)) (v := ?_) (a' := ?_) #[true, false, false, false, false, false, false, false, false, false, false, false, false, false, false, false, false, false] rfl rfl (by kernel_rfl) (fun _ _ _ h => h) (Or.inl ⟨by rfl, ?_⟩) ?_ ?_
  rotate_left
  · intro w'
    go_simp
    try with_reducible rfl
  rotate_left
  · simp only [Act.put, List.setIfInBounds_toArray, List.set_cons_zero, List.set_cons_succ, i64_w, i32_w]
    rfl
  refine take_ (i := 1) (N := (some 15)) (v := ?_) (a' := ?_) #[true, true, false, false, false, false, false, false, false, false, false, false, false, false, false, false, false, false] rfl rfl (by kernel_rfl) (fun _ _ _ h => h) (Or.inl ⟨by rfl, ?_⟩) hHeld ?_ ?_
  rotate_left
  · rintro w' ⟨s0, s1, s2, s3⟩
    go_simp
    try with_reducible rfl
  rotate_left
  · simp only [Act.put, List.setIfInBounds_toArray, List.set_cons_zero, List.set_cons_succ, i64_w, i32_w]
    rfl
  refine pure_ (i := 2) (N := (some 16)) (v := ?_) (a' := ?_) #[true, true, true, false, false, false, false, false, false, false, false, false, false, false, false, false, false, false] rfl rfl (by kernel_rfl) (fun _ _ _ h => h) (Or.inl ⟨by rfl, ?_⟩) ?_ ?_
  rotate_left
  · intro w'
    go_simp
    try with_reducible rfl
  rotate_left
  · simp only [Act.put, List.setIfInBounds_toArray, List.set_cons_zero, List.set_cons_succ, i64_w, i32_w]
    rfl
  refine pure_ (i := 3) (N := (some 17)) (v := ?_) (a' := ?_) #[true, true, true, true, false, false, false, false, false, false, false, false, false, false, false, false, false, false] rfl rfl (by kernel_rfl) (fun _ _ _ h => h) (Or.inl ⟨by rfl, ?_⟩) ?_ ?_
  rotate_left
  · intro w'
    go_simp
    try with_reducible rfl
  rotate_left
  · simp only [Act.put, List.setIfInBounds_toArray, List.set_cons_zero, List.set_cons_succ, i64_w, i32_w]
    rfl
  refine pure_ (i := 4) (N := (some 18)) (v := undef) (a' := ?_) #[true, true, true, true, true, false, false, false, false, false, false, false, false, false, false, false, false, false] rfl rfl (by kernel_rfl) (fun _ _ _ h => h) (Or.inr ⟨by rfl, rfl⟩) ?_ ?_
  rotate_left
  · simp only [Act.put, List.setIfInBounds_toArray, List.set_cons_zero, List.set_cons_succ, i64_w, i32_w]
    rfl
  refine pure_ (i := 5) (N := (some 19)) (v := undef) (a' := ?_) #[true, true, true, true, true, true, false, false, false, false, false, false, false, false, false, false, false, false] rfl rfl (by kernel_rfl) (fun _ _ _ h => h) (Or.inr ⟨by rfl, rfl⟩) ?_ ?_
  rotate_left
  · simp only [Act.put, List.setIfInBounds_toArray, List.set_cons_zero, List.set_cons_succ, i64_w, i32_w]
    rfl
  refine pure_ (i := 6) (N := (some 20)) (v := undef) (a' := ?_) #[true, true, true, true, true, true, true, false, false, false, false, false, false, false, false, false, false, false] rfl rfl (by kernel_rfl) (fun _ _ _ h => h) (Or.inr ⟨by rfl, rfl⟩) ?_ ?_
  rotate_left
  · simp only [Act.put, List.setIfInBounds_toArray, List.set_cons_zero, List.set_cons_succ, i64_w, i32_w]
    rfl
  refine pure_ (i := 7) (N := (some 21)) (v := ?_) (a' := ?_) #[true, true, true, true, true, true, true, true, false, false, false, false, false, false, false, false, false, false] rfl rfl (by kernel_rfl) (fun _ _ _ h => h) (Or.inl ⟨by rfl, ?_⟩) ?_ ?_
  rotate_left
  · intro w'
    go_simp
    try with_reducible rfl
  rotate_left
  · simp only [Act.put, List.setIfInBounds_toArray, List.set_cons_zero, List.set_cons_succ, i64_w, i32_w]
    rfl
  refine pure_ (i := 8) (N := (some 22)) (v := ?_) (a' := ?_) #[true, true, true, true, true, true, true, true, true, false, false, false, false, false, false, false, false, false] rfl rfl (by kernel_rfl) (fun _ _ _ h => h) (Or.inl ⟨by rfl, ?_⟩) ?_ ?_
  rotate_left
  · intro w'
    go_simp
    try with_reducible rfl
  rotate_left
  · simp only [Act.put, List.setIfInBounds_toArray, List.set_cons_zero, List.set_cons_succ, i64_w, i32_w]
    rfl
  refine pure_ (i := 9) (N := (some 23)) (v := undef) (a' := ?_) #[true, true, true, true, true, true, true, true, true, true, false, false, false, false, false, false, false, false] rfl rfl (by kernel_rfl) (fun _ _ _ h => h) (Or.inr ⟨by rfl, rfl⟩) ?_ ?_
  rotate_left
  · simp only [Act.put, List.setIfInBounds_toArray, List.set_cons_zero, List.set_cons_succ, i64_w, i32_w]
    rfl
  refine pure_ (i := 10) (N := (some 24)) (v := undef) (a' := ?_) #[true, true, true, true, true, true, true, true, true, true, true, false, false, false, false, false, false, false] rfl rfl (by kernel_rfl) (fun _ _ _ h => h) (Or.inr ⟨by rfl, rfl⟩) ?_ ?_
  rotate_left
  · simp only [Act.put, List.setIfInBounds_toArray, List.set_cons_zero, List.set_cons_succ, i64_w, i32_w]
    rfl
  refine pure_ (i := 11) (N := (some 25)) (v := undef) (a' := ?_) #[true, true, true, true, true, true, true, true, true, true, true, true, false, false, false, false, false, false] rfl rfl (by kernel_rfl) (fun _ _ _ h => h) (Or.inr ⟨by rfl, rfl⟩) ?_ ?_
  rotate_left
  · simp only [Act.put, List.setIfInBounds_toArray, List.set_cons_zero, List.set_cons_succ, i64_w, i32_w]
    rfl
  refine pure_ (i := 12) (N := (some 26)) (v := undef) (a' := ?_) #[true, true, true, true, true, true, true, true, true, true, true, true, true, false, false, false, false, false] rfl rfl (by kernel_rfl) (fun _ _ _ h => h) (Or.inr ⟨by rfl, rfl⟩) ?_ ?_
  rotate_left
  · simp only [Act.put, List.setIfInBounds_toArray, List.set_cons_zero, List.set_cons_succ, i64_w, i32_w]
    rfl
  refine pure_ (i := 13) (N := (some 27)) (v := undef) (a' := ?_) #[true, true, true, true, true, true, true, true, true, true, true, true, true, true, false, false, false, false] rfl rfl (by kernel_rfl) (fun _ _ _ h => h) (Or.inr ⟨by rfl, rfl⟩) ?_ ?_
  rotate_left
  · simp only [Act.put, List.setIfInBounds_toArray, List.set_cons_zero, List.set_cons_succ, i64_w, i32_w]
    rfl
  refine pure_ (i := 14) (N := (some 28)) (v := undef) (a' := ?_) #[true, true, true, true, true, true, true, true, true, true, true, true, true, true, true, false, false, false] rfl rfl (by kernel_rfl) (fun _ _ _ h => h) (Or.inr ⟨by rfl, rfl⟩) ?_ ?_
  rotate_left
  · simp only [Act.put, List.setIfInBounds_toArray, List.set_cons_zero, List.set_cons_succ, i64_w, i32_w]
    rfl
  refine one_ (i := 15) (N := (some 29)) #[true, true, true, true, true, true, true, true, true, true, true, true, true, true, true, true, false, false] rfl rfl (by kernel_rfl) (by decide) (fun K hK => ?_)
  refine off_ (by rfl) ?_
  refine hK.out _ _ ⟨H2.out.drew.cell 1 rfl 0 rfl, H2.out.drew.cell 1 rfl 1 rfl, H2.out.drew.cell 1 rfl 2 rfl, H2.out.drew.cell 1 rfl 3 rfl⟩ (fun hHeld => ?_)
  clear hK K
  refine norm_ (a' := ?_) ?_ ?_
  rotate_left
  · show Act.put _ (some 29) _ = _
    simp only [Act.put, List.setIfInBounds_toArray, List.set_cons_zero, List.set_cons_succ, i64_w, i32_w]
    rfl
  refine pure_ (i := 16) (N := (some 30)) (v := undef) (a' := ?_) #[true, true, true, true, true, true, true, true, true, true, true, true, true, true, true, true, true, false] rfl rfl (by kernel_rfl) (fun _ _ _ h => h) (Or.inr ⟨by rfl, rfl⟩) ?_ ?_
  rotate_left
  · simp only [Act.put, List.setIfInBounds_toArray, List.set_cons_zero, List.set_cons_succ, i64_w, i32_w]
    rfl
  refine pure_ (i := 17) (N := (some 31)) (v := ?_) (a' := ?_) #[true, true, true, true, true, true, true, true, true, true, true, true, true, true, true, true, true, true] rfl rfl (by kernel_rfl) (fun _ _ _ h => h) (Or.inl ⟨by rfl, ?_⟩) ?_ ?_
  rotate_left
  · intro w'
    go_simp
    try with_reducible rfl
  rotate_left
  · simp only [Act.put, List.setIfInBounds_toArray, List.set_cons_zero, List.set_cons_succ, i64_w, i32_w]
    rfl
  refine done_ (by kernel_rfl) ?_
  have H3 := Aside0.mk H2.out.drew
  go_wp2_with (first | (refine loadRowL_ (ty := 31) _ rfl rfl rfl _ _ _ _ _ rfl (H3.out.blk 0 rfl) Try.underlying31 rfl (by kernel_rfl) ?_) | (refine storeRowL_ (ty := 31) rfl rfl rfl _ _ _ (hwC (.slice A n d) (.slice B m c) r) rfl rfl (H3.out.blk 3 rfl) (by kernel_rfl) rfl (by kernel_rfl) ?_; have H4 := Aside0.mk (H3.out.setRow 3 rfl (hwC (.slice A n d) (.slice B m c) r))) | (refine storeRowL_ (ty := 40) rfl rfl rfl _ _ _ #[.int .i64 0, .string ⟨#[]⟩] rfl rfl (H4.out.blk 4 rfl) (by kernel_rfl) rfl (by kernel_rfl) ?_; have H5 := Aside0.mk (H4.out.setRow 4 rfl #[.int .i64 0, .string ⟨#[]⟩])))
  refine bodyPost_ret (results_cct rfl _ _ (w.heap.size + 1 + 1 + 1) (w.heap.size + 1 + 1 + 1 + 1) 31 40 (hwC (.slice A n d) (.slice B m c) r) #[.int .i64 0, .string ⟨#[]⟩] (0, 0) (0, 0) _ _ rfl (H5.out.blk 3 rfl) Try.underlying31 rfl (by kernel_rfl) rfl (H5.out.blk 4 rfl) Try.underlying40 rfl (by kernel_rfl)) rfl ?_
  exact ⟨A, d, hs, B, c, rfl, H5.out.done' ((H5.out.sureNew 0 rfl).and (H5.out.sureNew 1 rfl))⟩
set_option maxRecDepth 100000 in
set_option maxHeartbeats 16000000 in
theorem do_high {A : Option Addr} {n d : Nat} {hs : List Hdr} {bk : List (List Int)} {B : Option Addr} {m c : Nat} {fl : List ByteArray} {w : World} {S : Nat → Prop} {r : Nat → Int} (kd bank cell : Int) (b : ByteArray) (cut : Bool) (fb : Int) (noise : Bool) (hd : ∀ k, S k → k < w.heap.size) (hF : Sure S w (fun w => Fu w A n d hs bk)) (hL : Sure S w (fun w => Fl w B m c fl)) (hk : 5 ≤ kd) :
    Calls Try.prog 10 #[.agg (hwC (.slice A n d) (.slice B m c) r), .agg #[.int .i64 kd, .int .i64 bank, .int .i64 cell, .string b], .agg #[.bool cut, .int .i64 fb, .bool noise]] w (DoRes S n m r bk fl 0 ⟨#[]⟩ 1 w) := by
  have H0 := Aside0.mk ((St.enter2 hd hF hL).alloc5 (hwC (.slice A n d) (.slice B m c) r) 31 #[.int .i64 kd, .int .i64 bank, .int .i64 cell, .string b] 33 #[.bool cut, .int .i64 fb, .bool noise] 35 #[.slice none 0 0, .slice none 0 0, .int .u8 0, .int .u8 0, .int .u8 0, .int .u8 0, .int .u8 0, .int .u8 0, .int .u8 0, .int .u8 0, .int .u8 0, .int .u8 0, .int .u8 0, .int .u8 0, .int .u8 0, .int .u8 0, .int .u8 0, .int .u8 0] 31 #[.int .i64 0, .string ⟨#[]⟩] 40)
  go_enter Try.func10, Try.ntmps10
  go_wp2_with (first | (go_at_call 22; refine (accesses_any _).mono ?_; rintro e w1 ⟨rfl, hb⟩; have H1 := Aside0.mk (H0.out.step hb); clear hb) | (refine storeRowL_ (ty := 65) rfl rfl rfl _ _ _ accs rfl rfl (heap_alloc_new _ _) (by kernel_rfl) rfl (by kernel_rfl) ?_; have H2 := Aside0.mk ((H1.out.alloc #[.nilFunc, .nilFunc, .nilFunc, .nilFunc, .nilFunc, .nilFunc, .nilFunc, .nilFunc, .nilFunc, .nilFunc] 65).setRow 5 rfl accs)))
  have hk1 : ¬ kd < 1 := by omega
  refine start_ (n := 18) (S := (fun w' => w'.cell? ⟨w.heap.size + 1, 0, none⟩ = some (.int .i64 kd) ∧ w'.cell? ⟨w.heap.size + 1, 1, none⟩ = some (.int .i64 bank) ∧ w'.cell? ⟨w.heap.size + 1, 2, none⟩ = some (.int .i64 cell) ∧ w'.cell? ⟨w.heap.size + 1, 3, none⟩ = some (.string b))) (ds := []) #[false, false, false, false, false, false, false, false, false, false, false, false, false, false, false, false, false, false] (by kernel_rfl) rfl rfl ⟨H2.out.drew.cell 1 rfl 0 rfl, H2.out.drew.cell 1 rfl 1 rfl, H2.out.drew.cell 1 rfl 2 rfl, H2.out.drew.cell 1 rfl 3 rfl⟩ (fun hHeld => ?_)
  refine pure_ (i := 0) (N := (some 14)) (v := ?_) (a' := ?_) #[true, false, false, false, false, false, false, false, false, false, false, false, false, false, false, false, false, false] rfl rfl (by kernel_rfl) (fun _ _ _ h => h) (Or.inl ⟨by rfl, ?_⟩) ?_ ?_
  rotate_left
  · intro w'
    go_simp
    try with_reducible rfl
  rotate_left
  · simp only [Act.put, List.setIfInBounds_toArray, List.set_cons_zero, List.set_cons_succ, i64_w, i32_w]
    rfl
  refine take_ (i := 1) (N := (some 15)) (v := ?_) (a' := ?_) #[true, true, false, false, false, false, false, false, false, false, false, false, false, false, false, false, false, false] rfl rfl (by kernel_rfl) (fun _ _ _ h => h) (Or.inl ⟨by rfl, ?_⟩) hHeld ?_ ?_
  rotate_left
  · rintro w' ⟨s0, s1, s2, s3⟩
    go_simp
    try with_reducible rfl
  rotate_left
  · simp only [Act.put, List.setIfInBounds_toArray, List.set_cons_zero, List.set_cons_succ, i64_w, i32_w]
    rfl
  refine pure_ (i := 2) (N := (some 16)) (v := ?_) (a' := ?_) #[true, true, true, false, false, false, false, false, false, false, false, false, false, false, false, false, false, false] rfl rfl (by kernel_rfl) (fun _ _ _ h => h) (Or.inl ⟨by rfl, ?_⟩) ?_ ?_
  rotate_left
  · intro w'
    go_simp
    try with_reducible rfl
  rotate_left
  · simp only [Act.put, List.setIfInBounds_toArray, List.set_cons_zero, List.set_cons_succ, i64_w, i32_w]
    rfl
  refine pure_ (i := 3) (N := (some 17)) (v := ?_) (a' := ?_) #[true, true, true, true, false, false, false, false, false, false, false, false, false, false, false, false, false, false] rfl rfl (by kernel_rfl) (fun _ _ _ h => h) (Or.inl ⟨by rfl, ?_⟩) ?_ ?_
  rotate_left
  · intro w'
    go_simp
    try with_reducible rfl
  rotate_left
  · simp only [Act.put, List.setIfInBounds_toArray, List.set_cons_zero, List.set_cons_succ, i64_w, i32_w]
    rfl
  refine pure_ (i := 4) (N := (some 18)) (v := ?_) (a' := ?_) #[true, true, true, true, true, false, false, false, false, false, false, false, false, false, false, false, false, false] rfl rfl (by kernel_rfl) (fun _ _ _ h => h) (Or.inl ⟨by rfl, ?_⟩) ?_ ?_
  rotate_left
  · intro w'
    go_simp
    try with_reducible rfl
  rotate_left
  · simp only [Act.put, List.setIfInBounds_toArray, List.set_cons_zero, List.set_cons_succ, i64_w, i32_w]
    rfl
  refine take_ (i := 5) (N := (some 19)) (v := ?_) (a' := ?_) #[true, true, true, true, true, true, false, false, false, false, false, false, false, false, false, false, false, false] rfl rfl (by kernel_rfl) (fun _ _ _ h => h) (Or.inl ⟨by rfl, ?_⟩) hHeld ?_ ?_
  rotate_left
  · rintro w' ⟨s0, s1, s2, s3⟩
    go_simp
    try with_reducible rfl
  rotate_left
  · simp only [Act.put, List.setIfInBounds_toArray, List.set_cons_zero, List.set_cons_succ, i64_w, i32_w]
    rfl
  refine pure_ (i := 6) (N := (some 20)) (v := ?_) (a' := ?_) #[true, true, true, true, true, true, true, false, false, false, false, false, false, false, false, false, false, false] rfl rfl (by kernel_rfl) (fun _ _ _ h => h) (Or.inl ⟨by rfl, ?_⟩) ?_ ?_
  rotate_left
  · intro w'
    go_simp
    try with_reducible rfl
  rotate_left
  · simp only [Act.put, List.setIfInBounds_toArray, List.set_cons_zero, List.set_cons_succ, i64_w, i32_w]
    rfl
  refine pure_ (i := 7) (N := (some 21)) (v := ?_) (a' := ?_) #[true, true, true, true, true, true, true, true, false, false, false, false, false, false, false, false, false, false] rfl rfl (by kernel_rfl) (fun _ _ _ h => h) (Or.inl ⟨by rfl, ?_⟩) ?_ ?_
  rotate_left
  · intro w'
    go_simp
    try with_reducible rfl
  rotate_left
  · simp only [Act.put, List.setIfInBounds_toArray, List.set_cons_zero, List.set_cons_succ, i64_w, i32_w]
    rfl
  refine pure_ (i := 8) (N := (some 22)) (v := ?_) (a' := ?_) #[true, true, true, true, true, true, true, true, true, false, false, false, false, false, false, false, false, false] rfl rfl (by kernel_rfl) (fun _ _ _ h => h) (Or.inl ⟨by rfl, ?_⟩) ?_ ?_
  rotate_left
  · intro w'
    go_simp
    try with_reducible rfl
  rotate_left
  · simp only [Act.put, List.setIfInBounds_toArray, List.set_cons_zero, List.set_cons_succ, i64_w, i32_w]
    rfl
  refine pure_ (i := 9) (N := (some 23)) (v := undef) (a' := ?_) #[true, true, true, true, true, true, true, true, true, true, false, false, false, false, false, false, false, false] rfl rfl (by kernel_rfl) (fun _ _ _ h => h) (Or.inr ⟨by rfl, rfl⟩) ?_ ?_
  rotate_left
  · simp only [Act.put, List.setIfInBounds_toArray, List.set_cons_zero, List.set_cons_succ, i64_w, i32_w]
    rfl
  refine pure_ (i := 10) (N := (some 24)) (v := undef) (a' := ?_) #[true, true, true, true, true, true, true, true, true, true, true, false, false, false, false, false, false, false] rfl rfl (by kernel_rfl) (fun _ _ _ h => h) (Or.inr ⟨by rfl, rfl⟩) ?_ ?_
  rotate_left
  · simp only [Act.put, List.setIfInBounds_toArray, List.set_cons_zero, List.set_cons_succ, i64_w, i32_w]
    rfl
  refine pure_ (i := 11) (N := (some 25)) (v := undef) (a' := ?_) #[true, true, true, true, true, true, true, true, true, true, true, true, false, false, false, false, false, false] rfl rfl (by kernel_rfl) (fun _ _ _ h => h) (Or.inr ⟨by rfl, rfl⟩) ?_ ?_
  rotate_left
  · simp only [Act.put, List.setIfInBounds_toArray, List.set_cons_zero, List.set_cons_succ, i64_w, i32_w]
    rfl
  refine pure_ (i := 12) (N := (some 26)) (v := undef) (a' := ?_) #[true, true, true, true, true, true, true, true, true, true, true, true, true, false, false, false, false, false] rfl rfl (by kernel_rfl) (fun _ _ _ h => h) (Or.inr ⟨by rfl, rfl⟩) ?_ ?_
  rotate_left
  · simp only [Act.put, List.setIfInBounds_toArray, List.set_cons_zero, List.set_cons_succ, i64_w, i32_w]
    rfl
  refine pure_ (i := 13) (N := (some 27)) (v := undef) (a' := ?_) #[true, true, true, true, true, true, true, true, true, true, true, true, true, true, false, false, false, false] rfl rfl (by kernel_rfl) (fun _ _ _ h => h) (Or.inr ⟨by rfl, rfl⟩) ?_ ?_
  rotate_left
  · simp only [Act.put, List.setIfInBounds_toArray, List.set_cons_zero, List.set_cons_succ, i64_w, i32_w]
    rfl
  refine pure_ (i := 14) (N := (some 28)) (v := undef) (a' := ?_) #[true, true, true, true, true, true, true, true, true, true, true, true, true, true, true, false, false, false] rfl rfl (by kernel_rfl) (fun _ _ _ h => h) (Or.inr ⟨by rfl, rfl⟩) ?_ ?_
  rotate_left
  · simp only [Act.put, List.setIfInBounds_toArray, List.set_cons_zero, List.set_cons_succ, i64_w, i32_w]
    rfl
  refine one_ (i := 15) (N := (some 29)) #[true, true, true, true, true, true, true, true, true, true, true, true, true, true, true, true, false, false] rfl rfl (by kernel_rfl) (by decide) (fun K hK => ?_)
  refine off_ (by rfl) ?_
  refine hK.out _ _ ⟨H2.out.drew.cell 1 rfl 0 rfl, H2.out.drew.cell 1 rfl 1 rfl, H2.out.drew.cell 1 rfl 2 rfl, H2.out.drew.cell 1 rfl 3 rfl⟩ (fun hHeld => ?_)
  clear hK K
  refine norm_ (a' := ?_) ?_ ?_
  rotate_left
  · show Act.put _ (some 29) _ = _
    simp only [Act.put, List.setIfInBounds_toArray, List.set_cons_zero, List.set_cons_succ, i64_w, i32_w]
    rfl
  refine pure_ (i := 16) (N := (some 30)) (v := undef) (a' := ?_) #[true, true, true, true, true, true, true, true, true, true, true, true, true, true, true, true, true, false] rfl rfl (by kernel_rfl) (fun _ _ _ h => h) (Or.inr ⟨by rfl, rfl⟩) ?_ ?_
  rotate_left
  · simp only [Act.put, List.setIfInBounds_toArray, List.set_cons_zero, List.set_cons_succ, i64_w, i32_w]
    rfl
  refine pure_ (i := 17) (N := (some 31)) (v := ?_) (a' := ?_) #[true, true, true, true, true, true, true, true, true, true, true, true, true, true, true, true, true, true] rfl rfl (by kernel_rfl) (fun _ _ _ h => h) (Or.inl ⟨by rfl, ?_⟩) ?_ ?_
  rotate_left
  · intro w'
    go_simp
    try with_reducible rfl
  rotate_left
  · simp only [Act.put, List.setIfInBounds_toArray, List.set_cons_zero, List.set_cons_succ, i64_w, i32_w]
    rfl
  refine done_ (by kernel_rfl) ?_
  have H3 := Aside0.mk H2.out.drew
  go_wp2_with (first | (refine loadRowL_ (ty := 31) _ rfl rfl rfl _ _ _ _ _ rfl (H3.out.blk 0 rfl) Try.underlying31 rfl (by kernel_rfl) ?_) | (refine storeRowL_ (ty := 31) rfl rfl rfl _ _ _ (hwC (.slice A n d) (.slice B m c) r) rfl rfl (H3.out.blk 3 rfl) (by kernel_rfl) rfl (by kernel_rfl) ?_; have H4 := Aside0.mk (H3.out.setRow 3 rfl (hwC (.slice A n d) (.slice B m c) r))) | (refine storeRowL_ (ty := 40) rfl rfl rfl _ _ _ #[.int .i64 0, .string ⟨#[]⟩] rfl rfl (H4.out.blk 4 rfl) (by kernel_rfl) rfl (by kernel_rfl) ?_; have H5 := Aside0.mk (H4.out.setRow 4 rfl #[.int .i64 0, .string ⟨#[]⟩])))
  refine bodyPost_ret (results_cct rfl _ _ (w.heap.size + 1 + 1 + 1) (w.heap.size + 1 + 1 + 1 + 1) 31 40 (hwC (.slice A n d) (.slice B m c) r) #[.int .i64 0, .string ⟨#[]⟩] (0, 0) (0, 0) _ _ rfl (H5.out.blk 3 rfl) Try.underlying31 rfl (by kernel_rfl) rfl (H5.out.blk 4 rfl) Try.underlying40 rfl (by kernel_rfl)) rfl ?_
  exact ⟨A, d, hs, B, c, rfl, H5.out.done' ((H5.out.sureNew 0 rfl).and (H5.out.sureNew 1 rfl))⟩
set_option maxRecDepth 100000 in
set_option maxHeartbeats 16000000 in
theorem do_inv1 {A : Option Addr} {n d : Nat} {hs : List Hdr} {bk : List (List Int)} {B : Option Addr} {m c : Nat} {fl : List ByteArray} {w : World} {S : Nat → Prop} {r : Nat → Int} (bank cell : Int) (b : ByteArray) (cut : Bool) (fb : Int) (noise : Bool) (hd : ∀ k, S k → k < w.heap.size) (hF : Sure S w (fun w => Fu w A n d hs bk)) (hL : Sure S w (fun w => Fl w B m c fl)) (hv : noBytes b = false) :
    Calls Try.prog 10 #[.agg (hwC (.slice A n d) (.slice B m c) r), .agg #[.int .i64 1, .int .i64 bank, .int .i64 cell, .string b], .agg #[.bool cut, .int .i64 fb, .bool noise]] w (DoRes S n m r bk fl 0 ⟨#[]⟩ 1 w) := by
  have H0 := Aside0.mk ((St.enter2 hd hF hL).alloc5 (hwC (.slice A n d) (.slice B m c) r) 31 #[.int .i64 1, .int .i64 bank, .int .i64 cell, .string b] 33 #[.bool cut, .int .i64 fb, .bool noise] 35 #[.slice none 0 0, .slice none 0 0, .int .u8 0, .int .u8 0, .int .u8 0, .int .u8 0, .int .u8 0, .int .u8 0, .int .u8 0, .int .u8 0, .int .u8 0, .int .u8 0, .int .u8 0, .int .u8 0, .int .u8 0, .int .u8 0, .int .u8 0, .int .u8 0] 31 #[.int .i64 0, .string ⟨#[]⟩] 40)
  have VAL := Aside0.mk (fun w => (onFuse_any 1 bank cell b w).mono (fun e w' h => ⟨h.1.trans (by rw [hv]), h.2⟩) : ∀ w, Calls Try.prog 38 #[.agg #[.int .i64 1, .int .i64 bank, .int .i64 cell, .string b]] w fun e w' => e = .returned (.bool false) ∧ Below w.heap.size w w')
  go_enter Try.func10, Try.ntmps10
  go_wp2_with (first | (go_at_call 22; refine (accesses_any _).mono ?_; rintro e w1 ⟨rfl, hb⟩; have H1 := Aside0.mk (H0.out.step hb); clear hb) | (refine storeRowL_ (ty := 65) rfl rfl rfl _ _ _ accs rfl rfl (heap_alloc_new _ _) (by kernel_rfl) rfl (by kernel_rfl) ?_; have H2 := Aside0.mk ((H1.out.alloc #[.nilFunc, .nilFunc, .nilFunc, .nilFunc, .nilFunc, .nilFunc, .nilFunc, .nilFunc, .nilFunc, .nilFunc] 65).setRow 5 rfl accs)))
  refine start_ (n := 18) (S := (fun w' => w'.cell? ⟨w.heap.size + 1, 0, none⟩ = some (.int .i64 1) ∧ w'.cell? ⟨w.heap.size + 1, 1, none⟩ = some (.int .i64 bank) ∧ w'.cell? ⟨w.heap.size + 1, 2, none⟩ = some (.int .i64 cell) ∧ w'.cell? ⟨w.heap.size + 1, 3, none⟩ = some (.string b) ∧ w'.cell? ⟨w1.heap.size, 2, none⟩ = some (.func (.func 38) #[] #[]))) (ds := []) #[false, false, false, false, false, false, false, false, false, false, false, false, false, false, false, false, false, false] (by kernel_rfl) rfl rfl ⟨H2.out.drew.cell 1 rfl 0 rfl, H2.out.drew.cell 1 rfl 1 rfl, H2.out.drew.cell 1 rfl 2 rfl, H2.out.drew.cell 1 rfl 3 rfl, H2.out.drew.cell 5 rfl 2 rfl⟩ (fun hHeld => ?_)
  refine pure_ (i := 0) (N := (some 14)) (v := ?_) (a' := ?_) #[true, false, false, false, false, false, false, false, false, false, false, false, false, false, false, false, false, false] rfl rfl (by kernel_rfl) (fun _ _ _ h => h) (Or.inl ⟨by rfl, ?_⟩) ?_ ?_
  rotate_left
  · intro w'
    go_simp
    try with_reducible rfl
  rotate_left
  · simp only [Act.put, List.setIfInBounds_toArray, List.set_cons_zero, List.set_cons_succ, i64_w, i32_w]
    rfl
  refine take_ (i := 1) (N := (some 15)) (v := ?_) (a' := ?_) #[true, true, false, false, false, false, false, false, false, false, false, false, false, false, false, false, false, false] rfl rfl (by kernel_rfl) (fun _ _ _ h => h) (Or.inl ⟨by rfl, ?_⟩) hHeld ?_ ?_
  rotate_left
  · rintro w' ⟨s0, s1, s2, s3, s4⟩
    go_simp
    try with_reducible rfl
  rotate_left
  · simp only [Act.put, List.setIfInBounds_toArray, List.set_cons_zero, List.set_cons_succ, i64_w, i32_w]
    rfl
  refine pure_ (i := 2) (N := (some 16)) (v := ?_) (a' := ?_) #[true, true, true, false, false, false, false, false, false, false, false, false, false, false, false, false, false, false] rfl rfl (by kernel_rfl) (fun _ _ _ h => h) (Or.inl ⟨by rfl, ?_⟩) ?_ ?_
  rotate_left
  · intro w'
    go_simp
    try with_reducible rfl
  rotate_left
  · simp only [Act.put, List.setIfInBounds_toArray, List.set_cons_zero, List.set_cons_succ, i64_w, i32_w]
    rfl
  refine pure_ (i := 3) (N := (some 17)) (v := ?_) (a' := ?_) #[true, true, true, true, false, false, false, false, false, false, false, false, false, false, false, false, false, false] rfl rfl (by kernel_rfl) (fun _ _ _ h => h) (Or.inl ⟨by rfl, ?_⟩) ?_ ?_
  rotate_left
  · intro w'
    go_simp
    try with_reducible rfl
  rotate_left
  · simp only [Act.put, List.setIfInBounds_toArray, List.set_cons_zero, List.set_cons_succ, i64_w, i32_w]
    rfl
  refine pure_ (i := 4) (N := (some 18)) (v := ?_) (a' := ?_) #[true, true, true, true, true, false, false, false, false, false, false, false, false, false, false, false, false, false] rfl rfl (by kernel_rfl) (fun _ _ _ h => h) (Or.inl ⟨by rfl, ?_⟩) ?_ ?_
  rotate_left
  · intro w'
    go_simp
    try with_reducible rfl
  rotate_left
  · simp only [Act.put, List.setIfInBounds_toArray, List.set_cons_zero, List.set_cons_succ, i64_w, i32_w]
    rfl
  refine take_ (i := 5) (N := (some 19)) (v := ?_) (a' := ?_) #[true, true, true, true, true, true, false, false, false, false, false, false, false, false, false, false, false, false] rfl rfl (by kernel_rfl) (fun _ _ _ h => h) (Or.inl ⟨by rfl, ?_⟩) hHeld ?_ ?_
  rotate_left
  · rintro w' ⟨s0, s1, s2, s3, s4⟩
    go_simp
    try with_reducible rfl
  rotate_left
  · simp only [Act.put, List.setIfInBounds_toArray, List.set_cons_zero, List.set_cons_succ, i64_w, i32_w]
    rfl
  refine pure_ (i := 6) (N := (some 20)) (v := ?_) (a' := ?_) #[true, true, true, true, true, true, true, false, false, false, false, false, false, false, false, false, false, false] rfl rfl (by kernel_rfl) (fun _ _ _ h => h) (Or.inl ⟨by rfl, ?_⟩) ?_ ?_
  rotate_left
  · intro w'
    go_simp
    try with_reducible rfl
  rotate_left
  · simp only [Act.put, List.setIfInBounds_toArray, List.set_cons_zero, List.set_cons_succ, i64_w, i32_w]
    rfl
  refine pure_ (i := 7) (N := (some 21)) (v := ?_) (a' := ?_) #[true, true, true, true, true, true, true, true, false, false, false, false, false, false, false, false, false, false] rfl rfl (by kernel_rfl) (fun _ _ _ h => h) (Or.inl ⟨by rfl, ?_⟩) ?_ ?_
  rotate_left
  · intro w'
    go_simp
    try with_reducible rfl
  rotate_left
  · simp only [Act.put, List.setIfInBounds_toArray, List.set_cons_zero, List.set_cons_succ, i64_w, i32_w]
    rfl
  refine pure_ (i := 8) (N := (some 22)) (v := ?_) (a' := ?_) #[true, true, true, true, true, true, true, true, true, false, false, false, false, false, false, false, false, false] rfl rfl (by kernel_rfl) (fun _ _ _ h => h) (Or.inl ⟨by rfl, ?_⟩) ?_ ?_
  rotate_left
  · intro w'
    go_simp
    try with_reducible rfl
  rotate_left
  · simp only [Act.put, List.setIfInBounds_toArray, List.set_cons_zero, List.set_cons_succ, i64_w, i32_w]
    rfl
  refine pure_ (i := 9) (N := (some 23)) (v := ?_) (a' := ?_) #[true, true, true, true, true, true, true, true, true, true, false, false, false, false, false, false, false, false] rfl rfl (by kernel_rfl) (fun _ _ _ h => h) (Or.inl ⟨by rfl, ?_⟩) ?_ ?_
  rotate_left
  · intro w'
    go_simp
    try with_reducible rfl
  rotate_left
  · simp only [Act.put, List.setIfInBounds_toArray, List.set_cons_zero, List.set_cons_succ, i64_w, i32_w]
    rfl
  refine take_ (i := 10) (N := (some 24)) (v := ?_) (a' := ?_) #[true, true, true, true, true, true, true, true, true, true, true, false, false, false, false, false, false, false] rfl rfl (by kernel_rfl) (fun _ _ _ h => h) (Or.inl ⟨by rfl, ?_⟩) hHeld ?_ ?_
  rotate_left
  · rintro w' ⟨s0, s1, s2, s3, s4⟩
    go_simp
    try with_reducible rfl
  rotate_left
  · simp only [Act.put, List.setIfInBounds_toArray, List.set_cons_zero, List.set_cons_succ, i64_w, i32_w]
    rfl
  refine pure_ (i := 11) (N := (some 25)) (v := ?_) (a' := ?_) #[true, true, true, true, true, true, true, true, true, true, true, true, false, false, false, false, false, false] rfl rfl (by kernel_rfl) (fun _ _ _ h => h) (Or.inl ⟨by rfl, ?_⟩) ?_ ?_
  rotate_left
  · intro w'
    go_simp
    try with_reducible rfl
  rotate_left
  · simp only [Act.put, List.setIfInBounds_toArray, List.set_cons_zero, List.set_cons_succ, i64_w, i32_w]
    rfl
  refine pure_ (i := 12) (N := (some 26)) (v := ?_) (a' := ?_) #[true, true, true, true, true, true, true, true, true, true, true, true, true, false, false, false, false, false] rfl rfl (by kernel_rfl) (fun _ _ _ h => h) (Or.inl ⟨by rfl, ?_⟩) ?_ ?_
  rotate_left
  · intro w'
    go_simp
    try with_reducible rfl
  rotate_left
  · simp only [Act.put, List.setIfInBounds_toArray, List.set_cons_zero, List.set_cons_succ, i64_w, i32_w]
    rfl
  refine take_ (i := 13) (N := (some 27)) (v := ?_) (a' := ?_) #[true, true, true, true, true, true, true, true, true, true, true, true, true, true, false, false, false, false] rfl rfl (by kernel_rfl) (fun _ _ _ h => h) (Or.inl ⟨by rfl, ?_⟩) hHeld ?_ ?_
  rotate_left
  · rintro w' ⟨s0, s1, s2, s3, s4⟩
    go_simp
    try with_reducible rfl
  rotate_left
  · simp only [Act.put, List.setIfInBounds_toArray, List.set_cons_zero, List.set_cons_succ, i64_w, i32_w]
    rfl
  refine take_ (i := 14) (N := (some 28)) (v := ?_) (a' := ?_) #[true, true, true, true, true, true, true, true, true, true, true, true, true, true, true, false, false, false] rfl rfl (by kernel_rfl) (fun _ _ _ h => h) (Or.inl ⟨by rfl, ?_⟩) hHeld ?_ ?_
  rotate_left
  · rintro w' ⟨s0, s1, s2, s3, s4⟩
    go_simp
    try with_reducible rfl
  rotate_left
  · simp only [Act.put, List.setIfInBounds_toArray, List.set_cons_zero, List.set_cons_succ, i64_w, i32_w]
    rfl
  refine one_ (i := 15) (N := (some 29)) #[true, true, true, true, true, true, true, true, true, true, true, true, true, true, true, true, false, false] rfl rfl (by kernel_rfl) (by decide) (fun K hK => ?_)
  refine call_ 38 #[.agg #[.int .i64 1, .int .i64 bank, .int .i64 cell, .string b]] (by rfl) rfl ?hrun ((VAL.out _).mono ?_)
  case hrun => go_simp
  rintro e w3 ⟨rfl, hb⟩
  refine ⟨_, rfl, ?_⟩
  have H3 := Aside0.mk (H2.out.drew.step hb)
  clear hb
  refine hK.out _ _ ⟨H3.out.cell 1 rfl 0 rfl, H3.out.cell 1 rfl 1 rfl, H3.out.cell 1 rfl 2 rfl, H3.out.cell 1 rfl 3 rfl, H3.out.cell 5 rfl 2 rfl⟩ (fun hHeld => ?_)
  clear hK K
  refine norm_ (a' := ?_) ?_ ?_
  rotate_left
  · show Act.put _ (some 29) _ = _
    simp only [Act.put, List.setIfInBounds_toArray, List.set_cons_zero, List.set_cons_succ, i64_w, i32_w]
    rfl
  refine pure_ (i := 16) (N := (some 30)) (v := ?_) (a' := ?_) #[true, true, true, true, true, true, true, true, true, true, true, true, true, true, true, true, true, false] rfl rfl (by kernel_rfl) (fun _ _ _ h => h) (Or.inl ⟨by rfl, ?_⟩) ?_ ?_
  rotate_left
  · intro w'
    go_simp
    try with_reducible rfl
  rotate_left
  · simp only [Act.put, List.setIfInBounds_toArray, List.set_cons_zero, List.set_cons_succ, i64_w, i32_w]
    rfl
  refine pure_ (i := 17) (N := (some 31)) (v := ?_) (a' := ?_) #[true, true, true, true, true, true, true, true, true, true, true, true, true, true, true, true, true, true] rfl rfl (by kernel_rfl) (fun _ _ _ h => h) (Or.inl ⟨by rfl, ?_⟩) ?_ ?_
  rotate_left
  · intro w'
    go_simp
    try with_reducible rfl
  rotate_left
  · simp only [Act.put, List.setIfInBounds_toArray, List.set_cons_zero, List.set_cons_succ, i64_w, i32_w]
    rfl
  refine done_ (by kernel_rfl) ?_
  go_wp2_with (first | (refine loadRowL_ (ty := 31) _ rfl rfl rfl _ _ _ _ _ rfl (H3.out.blk 0 rfl) Try.underlying31 rfl (by kernel_rfl) ?_) | (refine storeRowL_ (ty := 31) rfl rfl rfl _ _ _ (hwC (.slice A n d) (.slice B m c) r) rfl rfl (H3.out.blk 3 rfl) (by kernel_rfl) rfl (by kernel_rfl) ?_; have H4 := Aside0.mk (H3.out.setRow 3 rfl (hwC (.slice A n d) (.slice B m c) r))) | (refine storeRowL_ (ty := 40) rfl rfl rfl _ _ _ #[.int .i64 0, .string ⟨#[]⟩] rfl rfl (H4.out.blk 4 rfl) (by kernel_rfl) rfl (by kernel_rfl) ?_; have H5 := Aside0.mk (H4.out.setRow 4 rfl #[.int .i64 0, .string ⟨#[]⟩])))
  refine bodyPost_ret (results_cct rfl _ _ (w.heap.size + 1 + 1 + 1) (w.heap.size + 1 + 1 + 1 + 1) 31 40 (hwC (.slice A n d) (.slice B m c) r) #[.int .i64 0, .string ⟨#[]⟩] (0, 0) (0, 0) _ _ rfl (H5.out.blk 3 rfl) Try.underlying31 rfl (by kernel_rfl) rfl (H5.out.blk 4 rfl) Try.underlying40 rfl (by kernel_rfl)) rfl ?_
  exact ⟨A, d, hs, B, c, rfl, H5.out.done' ((H5.out.sureNew 0 rfl).and (H5.out.sureNew 1 rfl))⟩
set_option maxRecDepth 100000 in
set_option maxHeartbeats 16000000 in
theorem do_inv2 {A : Option Addr} {n d : Nat} {hs : List Hdr} {bk : List (List Int)} {B : Option Addr} {m c : Nat} {fl : List ByteArray} {w : World} {S : Nat → Prop} {r : Nat → Int} (bank cell : Int) (b : ByteArray) (cut : Bool) (fb : Int) (noise : Bool) (hd : ∀ k, S k → k < w.heap.size) (hF : Sure S w (fun w => Fu w A n d hs bk)) (hL : Sure S w (fun w => Fl w B m c fl)) (hv : noBytes b = false) :
    Calls Try.prog 10 #[.agg (hwC (.slice A n d) (.slice B m c) r), .agg #[.int .i64 2, .int .i64 bank, .int .i64 cell, .string b], .agg #[.bool cut, .int .i64 fb, .bool noise]] w (DoRes S n m r bk fl 0 ⟨#[]⟩ 1 w) := by
  have H0 := Aside0.mk ((St.enter2 hd hF hL).alloc5 (hwC (.slice A n d) (.slice B m c) r) 31 #[.int .i64 2, .int .i64 bank, .int .i64 cell, .string b] 33 #[.bool cut, .int .i64 fb, .bool noise] 35 #[.slice none 0 0, .slice none 0 0, .int .u8 0, .int .u8 0, .int .u8 0, .int .u8 0, .int .u8 0, .int .u8 0, .int .u8 0, .int .u8 0, .int .u8 0, .int .u8 0, .int .u8 0, .int .u8 0, .int .u8 0, .int .u8 0, .int .u8 0, .int .u8 0] 31 #[.int .i64 0, .string ⟨#[]⟩] 40)
  have VAL := Aside0.mk (fun w => (onFuse_any 2 bank cell b w).mono (fun e w' h => ⟨h.1.trans (by rw [hv]), h.2⟩) : ∀ w, Calls Try.prog 38 #[.agg #[.int .i64 2, .int .i64 bank, .int .i64 cell, .string b]] w fun e w' => e = .returned (.bool false) ∧ Below w.heap.size w w')
  go_enter Try.func10, Try.ntmps10
  go_wp2_with (first | (go_at_call 22; refine (accesses_any _).mono ?_; rintro e w1 ⟨rfl, hb⟩; have H1 := Aside0.mk (H0.out.step hb); clear hb) | (refine storeRowL_ (ty := 65) rfl rfl rfl _ _ _ accs rfl rfl (heap_alloc_new _ _) (by kernel_rfl) rfl (by kernel_rfl) ?_; have H2 := Aside0.mk ((H1.out.alloc #[.nilFunc, .nilFunc, .nilFunc, .nilFunc, .nilFunc, .nilFunc, .nilFunc, .nilFunc, .nilFunc, .nilFunc] 65).setRow 5 rfl accs)))
  refine start_ (n := 18) (S := (fun w' => w'.cell? ⟨w.heap.size + 1, 0, none⟩ = some (.int .i64 2) ∧ w'.cell? ⟨w.heap.size + 1, 1, none⟩ = some (.int .i64 bank) ∧ w'.cell? ⟨w.heap.size + 1, 2, none⟩ = some (.int .i64 cell) ∧ w'.cell? ⟨w.heap.size + 1, 3, none⟩ = some (.string b) ∧ w'.cell? ⟨w1.heap.size, 4, none⟩ = some (.func (.func 38) #[] #[]))) (ds := []) #[false, false, false, false, false, false, false, false, false, false, false, false, false, false, false, false, false, false] (by kernel_rfl) rfl rfl ⟨H2.out.drew.cell 1 rfl 0 rfl, H2.out.drew.cell 1 rfl 1 rfl, H2.out.drew.cell 1 rfl 2 rfl, H2.out.drew.cell 1 rfl 3 rfl, H2.out.drew.cell 5 rfl 4 rfl⟩ (fun hHeld => ?_)
  refine pure_ (i := 0) (N := (some 14)) (v := ?_) (a' := ?_) #[true, false, false, false, false, false, false, false, false, false, false, false, false, false, false, false, false, false] rfl rfl (by kernel_rfl) (fun _ _ _ h => h) (Or.inl ⟨by rfl, ?_⟩) ?_ ?_
  rotate_left
  · intro w'
    go_simp
    try with_reducible rfl
  rotate_left
  · simp only [Act.put, List.setIfInBounds_toArray, List.set_cons_zero, List.set_cons_succ, i64_w, i32_w]
    rfl
  refine take_ (i := 1) (N := (some 15)) (v := ?_) (a' := ?_) #[true, true, false, false, false, false, false, false, false, false, false, false, false, false, false, false, false, false] rfl rfl (by kernel_rfl) (fun _ _ _ h => h) (Or.inl ⟨by rfl, ?_⟩) hHeld ?_ ?_
  rotate_left
  · rintro w' ⟨s0, s1, s2, s3, s4⟩
    go_simp
    try with_reducible rfl
  rotate_left
  · simp only [Act.put, List.setIfInBounds_toArray, List.set_cons_zero, List.set_cons_succ, i64_w, i32_w]
    rfl
  refine pure_ (i := 2) (N := (some 16)) (v := ?_) (a' := ?_) #[true, true, true, false, false, false, false, false, false, false, false, false, false, false, false, false, false, false] rfl rfl (by kernel_rfl) (fun _ _ _ h => h) (Or.inl ⟨by rfl, ?_⟩) ?_ ?_
  rotate_left
  · intro w'
    go_simp
    try with_reducible rfl
  rotate_left
  · simp only [Act.put, List.setIfInBounds_toArray, List.set_cons_zero, List.set_cons_succ, i64_w, i32_w]
    rfl
  refine pure_ (i := 3) (N := (some 17)) (v := ?_) (a' := ?_) #[true, true, true, true, false, false, false, false, false, false, false, false, false, false, false, false, false, false] rfl rfl (by kernel_rfl) (fun _ _ _ h => h) (Or.inl ⟨by rfl, ?_⟩) ?_ ?_
  rotate_left
  · intro w'
    go_simp
    try with_reducible rfl
  rotate_left
  · simp only [Act.put, List.setIfInBounds_toArray, List.set_cons_zero, List.set_cons_succ, i64_w, i32_w]
    rfl
  refine pure_ (i := 4) (N := (some 18)) (v := ?_) (a' := ?_) #[true, true, true, true, true, false, false, false, false, false, false, false, false, false, false, false, false, false] rfl rfl (by kernel_rfl) (fun _ _ _ h => h) (Or.inl ⟨by rfl, ?_⟩) ?_ ?_
  rotate_left
  · intro w'
    go_simp
    try with_reducible rfl
  rotate_left
  · simp only [Act.put, List.setIfInBounds_toArray, List.set_cons_zero, List.set_cons_succ, i64_w, i32_w]
    rfl
  refine take_ (i := 5) (N := (some 19)) (v := ?_) (a' := ?_) #[true, true, true, true, true, true, false, false, false, false, false, false, false, false, false, false, false, false] rfl rfl (by kernel_rfl) (fun _ _ _ h => h) (Or.inl ⟨by rfl, ?_⟩) hHeld ?_ ?_
  rotate_left
  · rintro w' ⟨s0, s1, s2, s3, s4⟩
    go_simp
    try with_reducible rfl
  rotate_left
  · simp only [Act.put, List.setIfInBounds_toArray, List.set_cons_zero, List.set_cons_succ, i64_w, i32_w]
    rfl
  refine pure_ (i := 6) (N := (some 20)) (v := ?_) (a' := ?_) #[true, true, true, true, true, true, true, false, false, false, false, false, false, false, false, false, false, false] rfl rfl (by kernel_rfl) (fun _ _ _ h => h) (Or.inl ⟨by rfl, ?_⟩) ?_ ?_
  rotate_left
  · intro w'
    go_simp
    try with_reducible rfl
  rotate_left
  · simp only [Act.put, List.setIfInBounds_toArray, List.set_cons_zero, List.set_cons_succ, i64_w, i32_w]
    rfl
  refine pure_ (i := 7) (N := (some 21)) (v := ?_) (a' := ?_) #[true, true, true, true, true, true, true, true, false, false, false, false, false, false, false, false, false, false] rfl rfl (by kernel_rfl) (fun _ _ _ h => h) (Or.inl ⟨by rfl, ?_⟩) ?_ ?_
  rotate_left
  · intro w'
    go_simp
    try with_reducible rfl
  rotate_left
  · simp only [Act.put, List.setIfInBounds_toArray, List.set_cons_zero, List.set_cons_succ, i64_w, i32_w]
    rfl
  refine pure_ (i := 8) (N := (some 22)) (v := ?_) (a' := ?_) #[true, true, true, true, true, true, true, true, true, false, false, false, false, false, false, false, false, false] rfl rfl (by kernel_rfl) (fun _ _ _ h => h) (Or.inl ⟨by rfl, ?_⟩) ?_ ?_
  rotate_left
  · intro w'
    go_simp
    try with_reducible rfl
  rotate_left
  · simp only [Act.put, List.setIfInBounds_toArray, List.set_cons_zero, List.set_cons_succ, i64_w, i32_w]
    rfl
  refine pure_ (i := 9) (N := (some 23)) (v := ?_) (a' := ?_) #[true, true, true, true, true, true, true, true, true, true, false, false, false, false, false, false, false, false] rfl rfl (by kernel_rfl) (fun _ _ _ h => h) (Or.inl ⟨by rfl, ?_⟩) ?_ ?_
  rotate_left
  · intro w'
    go_simp
    try with_reducible rfl
  rotate_left
  · simp only [Act.put, List.setIfInBounds_toArray, List.set_cons_zero, List.set_cons_succ, i64_w, i32_w]
    rfl
  refine take_ (i := 10) (N := (some 24)) (v := ?_) (a' := ?_) #[true, true, true, true, true, true, true, true, true, true, true, false, false, false, false, false, false, false] rfl rfl (by kernel_rfl) (fun _ _ _ h => h) (Or.inl ⟨by rfl, ?_⟩) hHeld ?_ ?_
  rotate_left
  · rintro w' ⟨s0, s1, s2, s3, s4⟩
    go_simp
    try with_reducible rfl
  rotate_left
  · simp only [Act.put, List.setIfInBounds_toArray, List.set_cons_zero, List.set_cons_succ, i64_w, i32_w]
    rfl
  refine pure_ (i := 11) (N := (some 25)) (v := ?_) (a' := ?_) #[true, true, true, true, true, true, true, true, true, true, true, true, false, false, false, false, false, false] rfl rfl (by kernel_rfl) (fun _ _ _ h => h) (Or.inl ⟨by rfl, ?_⟩) ?_ ?_
  rotate_left
  · intro w'
    go_simp
    try with_reducible rfl
  rotate_left
  · simp only [Act.put, List.setIfInBounds_toArray, List.set_cons_zero, List.set_cons_succ, i64_w, i32_w]
    rfl
  refine pure_ (i := 12) (N := (some 26)) (v := ?_) (a' := ?_) #[true, true, true, true, true, true, true, true, true, true, true, true, true, false, false, false, false, false] rfl rfl (by kernel_rfl) (fun _ _ _ h => h) (Or.inl ⟨by rfl, ?_⟩) ?_ ?_
  rotate_left
  · intro w'
    go_simp
    try with_reducible rfl
  rotate_left
  · simp only [Act.put, List.setIfInBounds_toArray, List.set_cons_zero, List.set_cons_succ, i64_w, i32_w]
    rfl
  refine take_ (i := 13) (N := (some 27)) (v := ?_) (a' := ?_) #[true, true, true, true, true, true, true, true, true, true, true, true, true, true, false, false, false, false] rfl rfl (by kernel_rfl) (fun _ _ _ h => h) (Or.inl ⟨by rfl, ?_⟩) hHeld ?_ ?_
  rotate_left
  · rintro w' ⟨s0, s1, s2, s3, s4⟩
    go_simp
    try with_reducible rfl
  rotate_left
  · simp only [Act.put, List.setIfInBounds_toArray, List.set_cons_zero, List.set_cons_succ, i64_w, i32_w]
    rfl
  refine take_ (i := 14) (N := (some 28)) (v := ?_) (a' := ?_) #[true, true, true, true, true, true, true, true, true, true, true, true, true, true, true, false, false, false] rfl rfl (by kernel_rfl) (fun _ _ _ h => h) (Or.inl ⟨by rfl, ?_⟩) hHeld ?_ ?_
  rotate_left
  · rintro w' ⟨s0, s1, s2, s3, s4⟩
    go_simp
    try with_reducible rfl
  rotate_left
  · simp only [Act.put, List.setIfInBounds_toArray, List.set_cons_zero, List.set_cons_succ, i64_w, i32_w]
    rfl
  refine one_ (i := 15) (N := (some 29)) #[true, true, true, true, true, true, true, true, true, true, true, true, true, true, true, true, false, false] rfl rfl (by kernel_rfl) (by decide) (fun K hK => ?_)
  refine call_ 38 #[.agg #[.int .i64 2, .int .i64 bank, .int .i64 cell, .string b]] (by rfl) rfl ?hrun ((VAL.out _).mono ?_)
  case hrun => go_simp
  rintro e w3 ⟨rfl, hb⟩
  refine ⟨_, rfl, ?_⟩
  have H3 := Aside0.mk (H2.out.drew.step hb)
  clear hb
  refine hK.out _ _ ⟨H3.out.cell 1 rfl 0 rfl, H3.out.cell 1 rfl 1 rfl, H3.out.cell 1 rfl 2 rfl, H3.out.cell 1 rfl 3 rfl, H3.out.cell 5 rfl 4 rfl⟩ (fun hHeld => ?_)
  clear hK K
  refine norm_ (a' := ?_) ?_ ?_
  rotate_left
  · show Act.put _ (some 29) _ = _
    simp only [Act.put, List.setIfInBounds_toArray, List.set_cons_zero, List.set_cons_succ, i64_w, i32_w]
    rfl
  refine pure_ (i := 16) (N := (some 30)) (v := ?_) (a' := ?_) #[true, true, true, true, true, true, true, true, true, true, true, true, true, true, true, true, true, false] rfl rfl (by kernel_rfl) (fun _ _ _ h => h) (Or.inl ⟨by rfl, ?_⟩) ?_ ?_
  rotate_left
  · intro w'
    go_simp
    try with_reducible rfl
  rotate_left
  · simp only [Act.put, List.setIfInBounds_toArray, List.set_cons_zero, List.set_cons_succ, i64_w, i32_w]
    rfl
  refine pure_ (i := 17) (N := (some 31)) (v := ?_) (a' := ?_) #[true, true, true, true, true, true, true, true, true, true, true, true, true, true, true, true, true, true] rfl rfl (by kernel_rfl) (fun _ _ _ h => h) (Or.inl ⟨by rfl, ?_⟩) ?_ ?_
  rotate_left
  · intro w'
    go_simp
    try with_reducible rfl
  rotate_left
  · simp only [Act.put, List.setIfInBounds_toArray, List.set_cons_zero, List.set_cons_succ, i64_w, i32_w]
    rfl
  refine done_ (by kernel_rfl) ?_
  go_wp2_with (first | (refine loadRowL_ (ty := 31) _ rfl rfl rfl _ _ _ _ _ rfl (H3.out.blk 0 rfl) Try.underlying31 rfl (by kernel_rfl) ?_) | (refine storeRowL_ (ty := 31) rfl rfl rfl _ _ _ (hwC (.slice A n d) (.slice B m c) r) rfl rfl (H3.out.blk 3 rfl) (by kernel_rfl) rfl (by kernel_rfl) ?_; have H4 := Aside0.mk (H3.out.setRow 3 rfl (hwC (.slice A n d) (.slice B m c) r))) | (refine storeRowL_ (ty := 40) rfl rfl rfl _ _ _ #[.int .i64 0, .string ⟨#[]⟩] rfl rfl (H4.out.blk 4 rfl) (by kernel_rfl) rfl (by kernel_rfl) ?_; have H5 := Aside0.mk (H4.out.setRow 4 rfl #[.int .i64 0, .string ⟨#[]⟩])))
  refine bodyPost_ret (results_cct rfl _ _ (w.heap.size + 1 + 1 + 1) (w.heap.size + 1 + 1 + 1 + 1) 31 40 (hwC (.slice A n d) (.slice B m c) r) #[.int .i64 0, .string ⟨#[]⟩] (0, 0) (0, 0) _ _ rfl (H5.out.blk 3 rfl) Try.underlying31 rfl (by kernel_rfl) rfl (H5.out.blk 4 rfl) Try.underlying40 rfl (by kernel_rfl)) rfl ?_
  exact ⟨A, d, hs, B, c, rfl, H5.out.done' ((H5.out.sureNew 0 rfl).and (H5.out.sureNew 1 rfl))⟩
set_option maxRecDepth 100000 in
set_option maxHeartbeats 16000000 in
theorem do_inv3 {A : Option Addr} {n d : Nat} {hs : List Hdr} {bk : List (List Int)} {B : Option Addr} {m c : Nat} {fl : List ByteArray} {w : World} {S : Nat → Prop} {r : Nat → Int} (bank cell : Int) (b : ByteArray) (cut : Bool) (fb : Int) (noise : Bool) (hd : ∀ k, S k → k < w.heap.size) (hF : Sure S w (fun w => Fu w A n d hs bk)) (hL : Sure S w (fun w => Fl w B m c fl)) (hv : (noBytes b && decide (bank = 0)) = false) :
    Calls Try.prog 10 #[.agg (hwC (.slice A n d) (.slice B m c) r), .agg #[.int .i64 3, .int .i64 bank, .int .i64 cell, .string b], .agg #[.bool cut, .int .i64 fb, .bool noise]] w (DoRes S n m r bk fl 0 ⟨#[]⟩ 1 w) := by
  have H0 := Aside0.mk ((St.enter2 hd hF hL).alloc5 (hwC (.slice A n d) (.slice B m c) r) 31 #[.int .i64 3, .int .i64 bank, .int .i64 cell, .string b] 33 #[.bool cut, .int .i64 fb, .bool noise] 35 #[.slice none 0 0, .slice none 0 0, .int .u8 0, .int .u8 0, .int .u8 0, .int .u8 0, .int .u8 0, .int .u8 0, .int .u8 0, .int .u8 0, .int .u8 0, .int .u8 0, .int .u8 0, .int .u8 0, .int .u8 0, .int .u8 0, .int .u8 0, .int .u8 0] 31 #[.int .i64 0, .string ⟨#[]⟩] 40)
  have VAL := Aside0.mk (fun w => (onRead_any 3 bank cell b w).mono (fun e w' h => ⟨h.1.trans (by rw [hv]), h.2⟩) : ∀ w, Calls Try.prog 43 #[.agg #[.int .i64 3, .int .i64 bank, .int .i64 cell, .string b]] w fun e w' => e = .returned (.bool false) ∧ Below w.heap.size w w')
  go_enter Try.func10, Try.ntmps10
  go_wp2_with (first | (go_at_call 22; refine (accesses_any _).mono ?_; rintro e w1 ⟨rfl, hb⟩; have H1 := Aside0.mk (H0.out.step hb); clear hb) | (refine storeRowL_ (ty := 65) rfl rfl rfl _ _ _ accs rfl rfl (heap_alloc_new _ _) (by kernel_rfl) rfl (by kernel_rfl) ?_; have H2 := Aside0.mk ((H1.out.alloc #[.nilFunc, .nilFunc, .nilFunc, .nilFunc, .nilFunc, .nilFunc, .nilFunc, .nilFunc, .nilFunc, .nilFunc] 65).setRow 5 rfl accs)))
  refine start_ (n := 18) (S := (fun w' => w'.cell? ⟨w.heap.size + 1, 0, none⟩ = some (.int .i64 3) ∧ w'.cell? ⟨w.heap.size + 1, 1, none⟩ = some (.int .i64 bank) ∧ w'.cell? ⟨w.heap.size + 1, 2, none⟩ = some (.int .i64 cell) ∧ w'.cell? ⟨w.heap.size + 1, 3, none⟩ = some (.string b) ∧ w'.cell? ⟨w1.heap.size, 6, none⟩ = some (.func (.func 43) #[] #[]))) (ds := []) #[false, false, false, false, false, false, false, false, false, false, false, false, false, false, false, false, false, false] (by kernel_rfl) rfl rfl ⟨H2.out.drew.cell 1 rfl 0 rfl, H2.out.drew.cell 1 rfl 1 rfl, H2.out.drew.cell 1 rfl 2 rfl, H2.out.drew.cell 1 rfl 3 rfl, H2.out.drew.cell 5 rfl 6 rfl⟩ (fun hHeld => ?_)
  refine pure_ (i := 0) (N := (some 14)) (v := ?_) (a' := ?_) #[true, false, false, false, false, false, false, false, false, false, false, false, false, false, false, false, false, false] rfl rfl (by kernel_rfl) (fun _ _ _ h => h) (Or.inl ⟨by rfl, ?_⟩) ?_ ?_
  rotate_left
  · intro w'
    go_simp
    try with_reducible rfl
  rotate_left
  · simp only [Act.put, List.setIfInBounds_toArray, List.set_cons_zero, List.set_cons_succ, i64_w, i32_w]
    rfl
  refine take_ (i := 1) (N := (some 15)) (v := ?_) (a' := ?_) #[true, true, false, false, false, false, false, false, false, false, false, false, false, false, false, false, false, false] rfl rfl (by kernel_rfl) (fun _ _ _ h => h) (Or.inl ⟨by rfl, ?_⟩) hHeld ?_ ?_
  rotate_left
  · rintro w' ⟨s0, s1, s2, s3, s4⟩
    go_simp
    try with_reducible rfl
  rotate_left
  · simp only [Act.put, List.setIfInBounds_toArray, List.set_cons_zero, List.set_cons_succ, i64_w, i32_w]
    rfl
  refine pure_ (i := 2) (N := (some 16)) (v := ?_) (a' := ?_) #[true, true, true, false, false, false, false, false, false, false, false, false, false, false, false, false, false, false] rfl rfl (by kernel_rfl) (fun _ _ _ h => h) (Or.inl ⟨by rfl, ?_⟩) ?_ ?_
  rotate_left
  · intro w'
    go_simp
    try with_reducible rfl
  rotate_left
  · simp only [Act.put, List.setIfInBounds_toArray, List.set_cons_zero, List.set_cons_succ, i64_w, i32_w]
    rfl
  refine pure_ (i := 3) (N := (some 17)) (v := ?_) (a' := ?_) #[true, true, true, true, false, false, false, false, false, false, false, false, false, false, false, false, false, false] rfl rfl (by kernel_rfl) (fun _ _ _ h => h) (Or.inl ⟨by rfl, ?_⟩) ?_ ?_
  rotate_left
  · intro w'
    go_simp
    try with_reducible rfl
  rotate_left
  · simp only [Act.put, List.setIfInBounds_toArray, List.set_cons_zero, List.set_cons_succ, i64_w, i32_w]
    rfl
  refine pure_ (i := 4) (N := (some 18)) (v := ?_) (a' := ?_) #[true, true, true, true, true, false, false, false, false, false, false, false, false, false, false, false, false, false] rfl rfl (by kernel_rfl) (fun _ _ _ h => h) (Or.inl ⟨by rfl, ?_⟩) ?_ ?_
  rotate_left
  · intro w'
    go_simp
    try with_reducible rfl
  rotate_left
  · simp only [Act.put, List.setIfInBounds_toArray, List.set_cons_zero, List.set_cons_succ, i64_w, i32_w]
    rfl
  refine take_ (i := 5) (N := (some 19)) (v := ?_) (a' := ?_) #[true, true, true, true, true, true, false, false, false, false, false, false, false, false, false, false, false, false] rfl rfl (by kernel_rfl) (fun _ _ _ h => h) (Or.inl ⟨by rfl, ?_⟩) hHeld ?_ ?_
  rotate_left
  · rintro w' ⟨s0, s1, s2, s3, s4⟩
    go_simp
    try with_reducible rfl
  rotate_left
  · simp only [Act.put, List.setIfInBounds_toArray, List.set_cons_zero, List.set_cons_succ, i64_w, i32_w]
    rfl
  refine pure_ (i := 6) (N := (some 20)) (v := ?_) (a' := ?_) #[true, true, true, true, true, true, true, false, false, false, false, false, false, false, false, false, false, false] rfl rfl (by kernel_rfl) (fun _ _ _ h => h) (Or.inl ⟨by rfl, ?_⟩) ?_ ?_
  rotate_left
  · intro w'
    go_simp
    try with_reducible rfl
  rotate_left
  · simp only [Act.put, List.setIfInBounds_toArray, List.set_cons_zero, List.set_cons_succ, i64_w, i32_w]
    rfl
  refine pure_ (i := 7) (N := (some 21)) (v := ?_) (a' := ?_) #[true, true, true, true, true, true, true, true, false, false, false, false, false, false, false, false, false, false] rfl rfl (by kernel_rfl) (fun _ _ _ h => h) (Or.inl ⟨by rfl, ?_⟩) ?_ ?_
  rotate_left
  · intro w'
    go_simp
    try with_reducible rfl
  rotate_left
  · simp only [Act.put, List.setIfInBounds_toArray, List.set_cons_zero, List.set_cons_succ, i64_w, i32_w]
    rfl
  refine pure_ (i := 8) (N := (some 22)) (v := ?_) (a' := ?_) #[true, true, true, true, true, true, true, true, true, false, false, false, false, false, false, false, false, false] rfl rfl (by kernel_rfl) (fun _ _ _ h => h) (Or.inl ⟨by rfl, ?_⟩) ?_ ?_
  rotate_left
  · intro w'
    go_simp
    try with_reducible rfl
  rotate_left
  · simp only [Act.put, List.setIfInBounds_toArray, List.set_cons_zero, List.set_cons_succ, i64_w, i32_w]
    rfl
  refine pure_ (i := 9) (N := (some 23)) (v := ?_) (a' := ?_) #[true, true, true, true, true, true, true, true, true, true, false, false, false, false, false, false, false, false] rfl rfl (by kernel_rfl) (fun _ _ _ h => h) (Or.inl ⟨by rfl, ?_⟩) ?_ ?_
  rotate_left
  · intro w'
    go_simp
    try with_reducible rfl
  rotate_left
  · simp only [Act.put, List.setIfInBounds_toArray, List.set_cons_zero, List.set_cons_succ, i64_w, i32_w]
    rfl
  refine take_ (i := 10) (N := (some 24)) (v := ?_) (a' := ?_) #[true, true, true, true, true, true, true, true, true, true, true, false, false, false, false, false, false, false] rfl rfl (by kernel_rfl) (fun _ _ _ h => h) (Or.inl ⟨by rfl, ?_⟩) hHeld ?_ ?_
  rotate_left
  · rintro w' ⟨s0, s1, s2, s3, s4⟩
    go_simp
    try with_reducible rfl
  rotate_left
  · simp only [Act.put, List.setIfInBounds_toArray, List.set_cons_zero, List.set_cons_succ, i64_w, i32_w]
    rfl
  refine pure_ (i := 11) (N := (some 25)) (v := ?_) (a' := ?_) #[true, true, true, true, true, true, true, true, true, true, true, true, false, false, false, false, false, false] rfl rfl (by kernel_rfl) (fun _ _ _ h => h) (Or.inl ⟨by rfl, ?_⟩) ?_ ?_
  rotate_left
  · intro w'
    go_simp
    try with_reducible rfl
  rotate_left
  · simp only [Act.put, List.setIfInBounds_toArray, List.set_cons_zero, List.set_cons_succ, i64_w, i32_w]
    rfl
  refine pure_ (i := 12) (N := (some 26)) (v := ?_) (a' := ?_) #[true, true, true, true, true, true, true, true, true, true, true, true, true, false, false, false, false, false] rfl rfl (by kernel_rfl) (fun _ _ _ h => h) (Or.inl ⟨by rfl, ?_⟩) ?_ ?_
  rotate_left
  · intro w'
    go_simp
    try with_reducible rfl
  rotate_left
  · simp only [Act.put, List.setIfInBounds_toArray, List.set_cons_zero, List.set_cons_succ, i64_w, i32_w]
    rfl
  refine take_ (i := 13) (N := (some 27)) (v := ?_) (a' := ?_) #[true, true, true, true, true, true, true, true, true, true, true, true, true, true, false, false, false, false] rfl rfl (by kernel_rfl) (fun _ _ _ h => h) (Or.inl ⟨by rfl, ?_⟩) hHeld ?_ ?_
  rotate_left
  · rintro w' ⟨s0, s1, s2, s3, s4⟩
    go_simp
    try with_reducible rfl
  rotate_left
  · simp only [Act.put, List.setIfInBounds_toArray, List.set_cons_zero, List.set_cons_succ, i64_w, i32_w]
    rfl
  refine take_ (i := 14) (N := (some 28)) (v := ?_) (a' := ?_) #[true, true, true, true, true, true, true, true, true, true, true, true, true, true, true, false, false, false] rfl rfl (by kernel_rfl) (fun _ _ _ h => h) (Or.inl ⟨by rfl, ?_⟩) hHeld ?_ ?_
  rotate_left
  · rintro w' ⟨s0, s1, s2, s3, s4⟩
    go_simp
    try with_reducible rfl
  rotate_left
  · simp only [Act.put, List.setIfInBounds_toArray, List.set_cons_zero, List.set_cons_succ, i64_w, i32_w]
    rfl
  refine one_ (i := 15) (N := (some 29)) #[true, true, true, true, true, true, true, true, true, true, true, true, true, true, true, true, false, false] rfl rfl (by kernel_rfl) (by decide) (fun K hK => ?_)
  refine call_ 43 #[.agg #[.int .i64 3, .int .i64 bank, .int .i64 cell, .string b]] (by rfl) rfl ?hrun ((VAL.out _).mono ?_)
  case hrun => go_simp
  rintro e w3 ⟨rfl, hb⟩
  refine ⟨_, rfl, ?_⟩
  have H3 := Aside0.mk (H2.out.drew.step hb)
  clear hb
  refine hK.out _ _ ⟨H3.out.cell 1 rfl 0 rfl, H3.out.cell 1 rfl 1 rfl, H3.out.cell 1 rfl 2 rfl, H3.out.cell 1 rfl 3 rfl, H3.out.cell 5 rfl 6 rfl⟩ (fun hHeld => ?_)
  clear hK K
  refine norm_ (a' := ?_) ?_ ?_
  rotate_left
  · show Act.put _ (some 29) _ = _
    simp only [Act.put, List.setIfInBounds_toArray, List.set_cons_zero, List.set_cons_succ, i64_w, i32_w]
    rfl
  refine pure_ (i := 16) (N := (some 30)) (v := ?_) (a' := ?_) #[true, true, true, true, true, true, true, true, true, true, true, true, true, true, true, true, true, false] rfl rfl (by kernel_rfl) (fun _ _ _ h => h) (Or.inl ⟨by rfl, ?_⟩) ?_ ?_
  rotate_left
  · intro w'
    go_simp
    try with_reducible rfl
  rotate_left
  · simp only [Act.put, List.setIfInBounds_toArray, List.set_cons_zero, List.set_cons_succ, i64_w, i32_w]
    rfl
  refine pure_ (i := 17) (N := (some 31)) (v := ?_) (a' := ?_) #[true, true, true, true, true, true, true, true, true, true, true, true, true, true, true, true, true, true] rfl rfl (by kernel_rfl) (fun _ _ _ h => h) (Or.inl ⟨by rfl, ?_⟩) ?_ ?_
  rotate_left
  · intro w'
    go_simp
    try with_reducible rfl
  rotate_left
  · simp only [Act.put, List.setIfInBounds_toArray, List.set_cons_zero, List.set_cons_succ, i64_w, i32_w]
    rfl
  refine done_ (by kernel_rfl) ?_
  go_wp2_with (first | (refine loadRowL_ (ty := 31) _ rfl rfl rfl _ _ _ _ _ rfl (H3.out.blk 0 rfl) Try.underlying31 rfl (by kernel_rfl) ?_) | (refine storeRowL_ (ty := 31) rfl rfl rfl _ _ _ (hwC (.slice A n d) (.slice B m c) r) rfl rfl (H3.out.blk 3 rfl) (by kernel_rfl) rfl (by kernel_rfl) ?_; have H4 := Aside0.mk (H3.out.setRow 3 rfl (hwC (.slice A n d) (.slice B m c) r))) | (refine storeRowL_ (ty := 40) rfl rfl rfl _ _ _ #[.int .i64 0, .string ⟨#[]⟩] rfl rfl (H4.out.blk 4 rfl) (by kernel_rfl) rfl (by kernel_rfl) ?_; have H5 := Aside0.mk (H4.out.setRow 4 rfl #[.int .i64 0, .string ⟨#[]⟩])))
  refine bodyPost_ret (results_cct rfl _ _ (w.heap.size + 1 + 1 + 1) (w.heap.size + 1 + 1 + 1 + 1) 31 40 (hwC (.slice A n d) (.slice B m c) r) #[.int .i64 0, .string ⟨#[]⟩] (0, 0) (0, 0) _ _ rfl (H5.out.blk 3 rfl) Try.underlying31 rfl (by kernel_rfl) rfl (H5.out.blk 4 rfl) Try.underlying40 rfl (by kernel_rfl)) rfl ?_
  exact ⟨A, d, hs, B, c, rfl, H5.out.done' ((H5.out.sureNew 0 rfl).and (H5.out.sureNew 1 rfl))⟩
set_option maxRecDepth 100000 in
set_option maxHeartbeats 16000000 in
theorem do_inv4 {A : Option Addr} {n d : Nat} {hs : List Hdr} {bk : List (List Int)} {B : Option Addr} {m c : Nat} {fl : List ByteArray} {w : World} {S : Nat → Prop} {r : Nat → Int} (bank cell : Int) (b : ByteArray) (cut : Bool) (fb : Int) (noise : Bool) (hd : ∀ k, S k → k < w.heap.size) (hF : Sure S w (fun w => Fu w A n d hs bk)) (hL : Sure S w (fun w => Fl w B m c fl)) (hv : decide (bank = 0) = false) :
    Calls Try.prog 10 #[.agg (hwC (.slice A n d) (.slice B m c) r), .agg #[.int .i64 4, .int .i64 bank, .int .i64 cell, .string b], .agg #[.bool cut, .int .i64 fb, .bool noise]] w (DoRes S n m r bk fl 0 ⟨#[]⟩ 1 w) := by
  have H0 := Aside0.mk ((St.enter2 hd hF hL).alloc5 (hwC (.slice A n d) (.slice B m c) r) 31 #[.int .i64 4, .int .i64 bank, .int .i64 cell, .string b] 33 #[.bool cut, .int .i64 fb, .bool noise] 35 #[.slice none 0 0, .slice none 0 0, .int .u8 0, .int .u8 0, .int .u8 0, .int .u8 0, .int .u8 0, .int .u8 0, .int .u8 0, .int .u8 0, .int .u8 0, .int .u8 0, .int .u8 0, .int .u8 0, .int .u8 0, .int .u8 0, .int .u8 0, .int .u8 0] 31 #[.int .i64 0, .string ⟨#[]⟩] 40)
  have VAL := Aside0.mk (fun w => (onWrite_any 4 bank cell b w).mono (fun e w' h => ⟨h.1.trans (by rw [hv]), h.2⟩) : ∀ w, Calls Try.prog 46 #[.agg #[.int .i64 4, .int .i64 bank, .int .i64 cell, .string b]] w fun e w' => e = .returned (.bool false) ∧ Below w.heap.size w w')
  go_enter Try.func10, Try.ntmps10
  go_wp2_with (first | (go_at_call 22; refine (accesses_any _).mono ?_; rintro e w1 ⟨rfl, hb⟩; have H1 := Aside0.mk (H0.out.step hb); clear hb) | (refine storeRowL_ (ty := 65) rfl rfl rfl _ _ _ accs rfl rfl (heap_alloc_new _ _) (by kernel_rfl) rfl (by kernel_rfl) ?_; have H2 := Aside0.mk ((H1.out.alloc #[.nilFunc, .nilFunc, .nilFunc, .nilFunc, .nilFunc, .nilFunc, .nilFunc, .nilFunc, .nilFunc, .nilFunc] 65).setRow 5 rfl accs)))
  refine start_ (n := 18) (S := (fun w' => w'.cell? ⟨w.heap.size + 1, 0, none⟩ = some (.int .i64 4) ∧ w'.cell? ⟨w.heap.size + 1, 1, none⟩ = some (.int .i64 bank) ∧ w'.cell? ⟨w.heap.size + 1, 2, none⟩ = some (.int .i64 cell) ∧ w'.cell? ⟨w.heap.size + 1, 3, none⟩ = some (.string b) ∧ w'.cell? ⟨w1.heap.size, 8, none⟩ = some (.func (.func 46) #[] #[]))) (ds := []) #[false, false, false, false, false, false, false, false, false, false, false, false, false, false, false, false, false, false] (by kernel_rfl) rfl rfl ⟨H2.out.drew.cell 1 rfl 0 rfl, H2.out.drew.cell 1 rfl 1 rfl, H2.out.drew.cell 1 rfl 2 rfl, H2.out.drew.cell 1 rfl 3 rfl, H2.out.drew.cell 5 rfl 8 rfl⟩ (fun hHeld => ?_)
  refine pure_ (i := 0) (N := (some 14)) (v := ?_) (a' := ?_) #[true, false, false, false, false, false, false, false, false, false, false, false, false, false, false, false, false, false] rfl rfl (by kernel_rfl) (fun _ _ _ h => h) (Or.inl ⟨by rfl, ?_⟩) ?_ ?_
  rotate_left
  · intro w'
    go_simp
    try with_reducible rfl
  rotate_left
  · simp only [Act.put, List.setIfInBounds_toArray, List.set_cons_zero, List.set_cons_succ, i64_w, i32_w]
    rfl
  refine take_ (i := 1) (N := (some 15)) (v := ?_) (a' := ?_) #[true, true, false, false, false, false, false, false, false, false, false, false, false, false, false, false, false, false] rfl rfl (by kernel_rfl) (fun _ _ _ h => h) (Or.inl ⟨by rfl, ?_⟩) hHeld ?_ ?_
  rotate_left
  · rintro w' ⟨s0, s1, s2, s3, s4⟩
    go_simp
    try with_reducible rfl
  rotate_left
  · simp only [Act.put, List.setIfInBounds_toArray, List.set_cons_zero, List.set_cons_succ, i64_w, i32_w]
    rfl
  refine pure_ (i := 2) (N := (some 16)) (v := ?_) (a' := ?_) #[true, true, true, false, false, false, false, false, false, false, false, false, false, false, false, false, false, false] rfl rfl (by kernel_rfl) (fun _ _ _ h => h) (Or.inl ⟨by rfl, ?_⟩) ?_ ?_
  rotate_left
  · intro w'
    go_simp
    try with_reducible rfl
  rotate_left
  · simp only [Act.put, List.setIfInBounds_toArray, List.set_cons_zero, List.set_cons_succ, i64_w, i32_w]
    rfl
  refine pure_ (i := 3) (N := (some 17)) (v := ?_) (a' := ?_) #[true, true, true, true, false, false, false, false, false, false, false, false, false, false, false, false, false, false] rfl rfl (by kernel_rfl) (fun _ _ _ h => h) (Or.inl ⟨by rfl, ?_⟩) ?_ ?_
  rotate_left
  · intro w'
    go_simp
    try with_reducible rfl
  rotate_left
  · simp only [Act.put, List.setIfInBounds_toArray, List.set_cons_zero, List.set_cons_succ, i64_w, i32_w]
    rfl
  refine pure_ (i := 4) (N := (some 18)) (v := ?_) (a' := ?_) #[true, true, true, true, true, false, false, false, false, false, false, false, false, false, false, false, false, false] rfl rfl (by kernel_rfl) (fun _ _ _ h => h) (Or.inl ⟨by rfl, ?_⟩) ?_ ?_
  rotate_left
  · intro w'
    go_simp
    try with_reducible rfl
  rotate_left
  · simp only [Act.put, List.setIfInBounds_toArray, List.set_cons_zero, List.set_cons_succ, i64_w, i32_w]
    rfl
  refine take_ (i := 5) (N := (some 19)) (v := ?_) (a' := ?_) #[true, true, true, true, true, true, false, false, false, false, false, false, false, false, false, false, false, false] rfl rfl (by kernel_rfl) (fun _ _ _ h => h) (Or.inl ⟨by rfl, ?_⟩) hHeld ?_ ?_
  rotate_left
  · rintro w' ⟨s0, s1, s2, s3, s4⟩
    go_simp
    try with_reducible rfl
  rotate_left
  · simp only [Act.put, List.setIfInBounds_toArray, List.set_cons_zero, List.set_cons_succ, i64_w, i32_w]
    rfl
  refine pure_ (i := 6) (N := (some 20)) (v := ?_) (a' := ?_) #[true, true, true, true, true, true, true, false, false, false, false, false, false, false, false, false, false, false] rfl rfl (by kernel_rfl) (fun _ _ _ h => h) (Or.inl ⟨by rfl, ?_⟩) ?_ ?_
  rotate_left
  · intro w'
    go_simp
    try with_reducible rfl
  rotate_left
  · simp only [Act.put, List.setIfInBounds_toArray, List.set_cons_zero, List.set_cons_succ, i64_w, i32_w]
    rfl
  refine pure_ (i := 7) (N := (some 21)) (v := ?_) (a' := ?_) #[true, true, true, true, true, true, true, true, false, false, false, false, false, false, false, false, false, false] rfl rfl (by kernel_rfl) (fun _ _ _ h => h) (Or.inl ⟨by rfl, ?_⟩) ?_ ?_
  rotate_left
  · intro w'
    go_simp
    try with_reducible rfl
  rotate_left
  · simp only [Act.put, List.setIfInBounds_toArray, List.set_cons_zero, List.set_cons_succ, i64_w, i32_w]
    rfl
  refine pure_ (i := 8) (N := (some 22)) (v := ?_) (a' := ?_) #[true, true, true, true, true, true, true, true, true, false, false, false, false, false, false, false, false, false] rfl rfl (by kernel_rfl) (fun _ _ _ h => h) (Or.inl ⟨by rfl, ?_⟩) ?_ ?_
  rotate_left
  · intro w'
    go_simp
    try with_reducible rfl
  rotate_left
  · simp only [Act.put, List.setIfInBounds_toArray, List.set_cons_zero, List.set_cons_succ, i64_w, i32_w]
    rfl
  refine pure_ (i := 9) (N := (some 23)) (v := ?_) (a' := ?_) #[true, true, true, true, true, true, true, true, true, true, false, false, false, false, false, false, false, false] rfl rfl (by kernel_rfl) (fun _ _ _ h => h) (Or.inl ⟨by rfl, ?_⟩) ?_ ?_
  rotate_left
  · intro w'
    go_simp
    try with_reducible rfl
  rotate_left
  · simp only [Act.put, List.setIfInBounds_toArray, List.set_cons_zero, List.set_cons_succ, i64_w, i32_w]
    rfl
  refine take_ (i := 10) (N := (some 24)) (v := ?_) (a' := ?_) #[true, true, true, true, true, true, true, true, true, true, true, false, false, false, false, false, false, false] rfl rfl (by kernel_rfl) (fun _ _ _ h => h) (Or.inl ⟨by rfl, ?_⟩) hHeld ?_ ?_
  rotate_left
  · rintro w' ⟨s0, s1, s2, s3, s4⟩
    go_simp
    try with_reducible rfl
  rotate_left
  · simp only [Act.put, List.setIfInBounds_toArray, List.set_cons_zero, List.set_cons_succ, i64_w, i32_w]
    rfl
  refine pure_ (i := 11) (N := (some 25)) (v := ?_) (a' := ?_) #[true, true, true, true, true, true, true, true, true, true, true, true, false, false, false, false, false, false] rfl rfl (by kernel_rfl) (fun _ _ _ h => h) (Or.inl ⟨by rfl, ?_⟩) ?_ ?_
  rotate_left
  · intro w'
    go_simp
    try with_reducible rfl
  rotate_left
  · simp only [Act.put, List.setIfInBounds_toArray, List.set_cons_zero, List.set_cons_succ, i64_w, i32_w]
    rfl
  refine pure_ (i := 12) (N := (some 26)) (v := ?_) (a' := ?_) #[true, true, true, true, true, true, true, true, true, true, true, true, true, false, false, false, false, false] rfl rfl (by kernel_rfl) (fun _ _ _ h => h) (Or.inl ⟨by rfl, ?_⟩) ?_ ?_
  rotate_left
  · intro w'
    go_simp
    try with_reducible rfl
  rotate_left
  · simp only [Act.put, List.setIfInBounds_toArray, List.set_cons_zero, List.set_cons_succ, i64_w, i32_w]
    rfl
  refine take_ (i := 13) (N := (some 27)) (v := ?_) (a' := ?_) #[true, true, true, true, true, true, true, true, true, true, true, true, true, true, false, false, false, false] rfl rfl (by kernel_rfl) (fun _ _ _ h => h) (Or.inl ⟨by rfl, ?_⟩) hHeld ?_ ?_
  rotate_left
  · rintro w' ⟨s0, s1, s2, s3, s4⟩
    go_simp
    try with_reducible rfl
  rotate_left
  · simp only [Act.put, List.setIfInBounds_toArray, List.set_cons_zero, List.set_cons_succ, i64_w, i32_w]
    rfl
  refine take_ (i := 14) (N := (some 28)) (v := ?_) (a' := ?_) #[true, true, true, true, true, true, true, true, true, true, true, true, true, true, true, false, false, false] rfl rfl (by kernel_rfl) (fun _ _ _ h => h) (Or.inl ⟨by rfl, ?_⟩) hHeld ?_ ?_
  rotate_left
  · rintro w' ⟨s0, s1, s2, s3, s4⟩
    go_simp
    try with_reducible rfl
  rotate_left
  · simp only [Act.put, List.setIfInBounds_toArray, List.set_cons_zero, List.set_cons_succ, i64_w, i32_w]
    rfl
  refine one_ (i := 15) (N := (some 29)) #[true, true, true, true, true, true, true, true, true, true, true, true, true, true, true, true, false, false] rfl rfl (by kernel_rfl) (by decide) (fun K hK => ?_)
  refine call_ 46 #[.agg #[.int .i64 4, .int .i64 bank, .int .i64 cell, .string b]] (by rfl) rfl ?hrun ((VAL.out _).mono ?_)
  case hrun => go_simp
  rintro e w3 ⟨rfl, hb⟩
  refine ⟨_, rfl, ?_⟩
  have H3 := Aside0.mk (H2.out.drew.step hb)
  clear hb
  refine hK.out _ _ ⟨H3.out.cell 1 rfl 0 rfl, H3.out.cell 1 rfl 1 rfl, H3.out.cell 1 rfl 2 rfl, H3.out.cell 1 rfl 3 rfl, H3.out.cell 5 rfl 8 rfl⟩ (fun hHeld => ?_)
  clear hK K
  refine norm_ (a' := ?_) ?_ ?_
  rotate_left
  · show Act.put _ (some 29) _ = _
    simp only [Act.put, List.setIfInBounds_toArray, List.set_cons_zero, List.set_cons_succ, i64_w, i32_w]
    rfl
  refine pure_ (i := 16) (N := (some 30)) (v := ?_) (a' := ?_) #[true, true, true, true, true, true, true, true, true, true, true, true, true, true, true, true, true, false] rfl rfl (by kernel_rfl) (fun _ _ _ h => h) (Or.inl ⟨by rfl, ?_⟩) ?_ ?_
  rotate_left
  · intro w'
    go_simp
    try with_reducible rfl
  rotate_left
  · simp only [Act.put, List.setIfInBounds_toArray, List.set_cons_zero, List.set_cons_succ, i64_w, i32_w]
    rfl
  refine pure_ (i := 17) (N := (some 31)) (v := ?_) (a' := ?_) #[true, true, true, true, true, true, true, true, true, true, true, true, true, true, true, true, true, true] rfl rfl (by kernel_rfl) (fun _ _ _ h => h) (Or.inl ⟨by rfl, ?_⟩) ?_ ?_
  rotate_left
  · intro w'
    go_simp
    try with_reducible rfl
  rotate_left
  · simp only [Act.put, List.setIfInBounds_toArray, List.set_cons_zero, List.set_cons_succ, i64_w, i32_w]
    rfl
  refine done_ (by kernel_rfl) ?_
  go_wp2_with (first | (refine loadRowL_ (ty := 31) _ rfl rfl rfl _ _ _ _ _ rfl (H3.out.blk 0 rfl) Try.underlying31 rfl (by kernel_rfl) ?_) | (refine storeRowL_ (ty := 31) rfl rfl rfl _ _ _ (hwC (.slice A n d) (.slice B m c) r) rfl rfl (H3.out.blk 3 rfl) (by kernel_rfl) rfl (by kernel_rfl) ?_; have H4 := Aside0.mk (H3.out.setRow 3 rfl (hwC (.slice A n d) (.slice B m c) r))) | (refine storeRowL_ (ty := 40) rfl rfl rfl _ _ _ #[.int .i64 0, .string ⟨#[]⟩] rfl rfl (H4.out.blk 4 rfl) (by kernel_rfl) rfl (by kernel_rfl) ?_; have H5 := Aside0.mk (H4.out.setRow 4 rfl #[.int .i64 0, .string ⟨#[]⟩])))
  refine bodyPost_ret (results_cct rfl _ _ (w.heap.size + 1 + 1 + 1) (w.heap.size + 1 + 1 + 1 + 1) 31 40 (hwC (.slice A n d) (.slice B m c) r) #[.int .i64 0, .string ⟨#[]⟩] (0, 0) (0, 0) _ _ rfl (H5.out.blk 3 rfl) Try.underlying31 rfl (by kernel_rfl) rfl (H5.out.blk 4 rfl) Try.underlying40 rfl (by kernel_rfl)) rfl ?_
  exact ⟨A, d, hs, B, c, rfl, H5.out.done' ((H5.out.sureNew 0 rfl).and (H5.out.sureNew 1 rfl))⟩
end Go.Proofs.Ytkfhekocbfednaa.Dv
namespace Go.Proofs.Ytkfhekocbfednaa.Dv
set_option linter.unusedVariables false
set_option linter.unusedSimpArgs false
open Go.RowKit Go.Proofs.Ytkfhekocbfednaa Go.Proofs.YtkfhekocbfednaaW.PrintWords Go.Proofs.YtkfhekocbfednaaW.PrintLast Go.Proofs.YtkfhekocbfednaaW.PrintMore
open Go.Proofs.Ytkfhekocbfednaa.Fu Go.Proofs.Ytkfhekocbfednaa.Fl
def RunOk (w0 : World) (S : Nat → Prop) (ds : List (World → Prop)) (os : List Blk) (i g n m : Nat) (r : Nat → Int) (bk : List (List Int)) (fl : List ByteArray) (v : Int) (s : ByteArray) (w : World) (e : Ending) (w' : World) : Prop :=
  ∃ (S1 : Nat → Prop) (A : Option Addr) (c : Nat) (hs : List Hdr) (B : Option Addr) (d : Nat), e = .returned (.tuple #[.agg #[.int .i64 v, .string s], .int .i64 0]) ∧ (∀ k, S1 k → S k ∨ w.heap.size ≤ k) ∧
    St w0 S1 ((fun w => Fu w A n c hs bk ∧ Fl w B m d fl) :: ds) (os.set i (g, hwC (.slice A n c) (.slice B m d) r, 31)) w'
def RunErr (w0 : World) (S : Nat → Prop) (ds : List (World → Prop)) (os : List Blk) (q : Int) (_w : World) (e : Ending) (w' : World) : Prop :=
  ∃ v s, e = .returned (.tuple #[.agg #[.int .i64 v, .string s], .int .i64 q]) ∧ St w0 S ds os w'
theorem set_self {α : Type} {l : List α} {i : Nat} {x : α} (h : l[i]? = some x) : l.set i x = l := by
  apply List.ext_getElem?
  intro m
  rw [List.getElem?_set]
  by_cases e : i = m
  · subst e; rw [if_pos rfl, if_pos (List.getElem?_eq_some_iff.1 h).1, h]
  · rw [if_neg e]
theorem hw1 (x y z : Value) (r : Nat → Int) : (hwC x y r).setIfInBounds 1 z = hwC x z r := rfl
section
variable {A B : Option Addr} {n d m c g : Nat} {hs : List Hdr} {bk : List (List Int)} {fl : List ByteArray} {w w0 : World} {S : Nat → Prop} {ds : List (World → Prop)} {os : List Blk} {r : Nat → Int}
theorem _root_.Go.Proofs.Ytkfhekocbfednaa.St.both (H : St w0 S ds os w) {p q : World → Prop} (hp : Sure S w p) (hq : Sure S w q) : St w0 S ((fun w => p w ∧ q w) :: ds) os w := H.add (hp.and hq)
theorem run1_ok (bank cell : Int) (b : ByteArray) (cut : Bool) (fb : Int) (noise : Bool) (H : St w0 S ds os w) (i j l : Nat) (hi : os[i]? = some (g, hwC (.slice A n d) (.slice B m c) r, 31)) (hj : ds[j]? = some (fun w => Fu w A n d hs bk)) (hl : ds[l]? = some (fun w => Fl w B m c fl))
    (hE : frE bk bank cell = 0) : Calls Try.prog 39 #[.pointer (some ⟨g, 0, none⟩), .agg #[.int .i64 1, .int .i64 bank, .int .i64 cell, .string b], .agg #[.bool cut, .int .i64 fb, .bool noise]] w (RunOk w0 S ds os i g n m r bk fl (frV bk bank cell noise) ⟨#[]⟩ w) := by
  refine (run1_any 1 bank cell b cut fb noise (H.cell i hi 0 rfl) (H.at j hj)).mono ?_
  rintro e w' ⟨rfl, hb⟩
  refine ⟨S, A, d, hs, B, c, by rw [hE], fun k hk => .inl hk, ?_⟩
  rw [set_self hi]
  have H1 := H.step hb
  exact H1.both (H1.sure j hj) (H1.sure l hl)
theorem run1_err (bank cell : Int) (b : ByteArray) (cut : Bool) (fb : Int) (noise : Bool) (q : Int) (H : St w0 S ds os w) (i j : Nat) (hi : os[i]? = some (g, hwC (.slice A n d) (.slice B m c) r, 31)) (hj : ds[j]? = some (fun w => Fu w A n d hs bk))
    (hE : frE bk bank cell = q) : Calls Try.prog 39 #[.pointer (some ⟨g, 0, none⟩), .agg #[.int .i64 1, .int .i64 bank, .int .i64 cell, .string b], .agg #[.bool cut, .int .i64 fb, .bool noise]] w (RunErr w0 S ds os q w) := by
  refine (run1_any 1 bank cell b cut fb noise (H.cell i hi 0 rfl) (H.at j hj)).mono ?_
  rintro e w' ⟨rfl, hb⟩
  exact ⟨_, _, by rw [hE], H.step hb⟩
theorem run3_ok (bank cell : Int) (b : ByteArray) (cut : Bool) (fb : Int) (noise : Bool) (H : St w0 S ds os w) (i j l : Nat) (hi : os[i]? = some (g, hwC (.slice A n d) (.slice B m c) r, 31)) (hj : ds[j]? = some (fun w => Fu w A n d hs bk)) (hl : ds[l]? = some (fun w => Fl w B m c fl))
    (hE : rdE fl cell = 0) : Calls Try.prog 44 #[.pointer (some ⟨g, 0, none⟩), .agg #[.int .i64 3, .int .i64 bank, .int .i64 cell, .string b], .agg #[.bool cut, .int .i64 fb, .bool noise]] w (RunOk w0 S ds os i g n m r bk fl 0 (rdS fl cell) w) := by
  refine (run3_any 3 bank cell b cut fb noise (H.cell i hi 1 rfl) (H.at l hl)).mono ?_
  rintro e w' ⟨rfl, hb⟩
  refine ⟨S, A, d, hs, B, c, by rw [hE], fun k hk => .inl hk, ?_⟩
  rw [set_self hi]
  have H1 := H.step hb
  exact H1.both (H1.sure j hj) (H1.sure l hl)
theorem run3_err (bank cell : Int) (b : ByteArray) (cut : Bool) (fb : Int) (noise : Bool) (q : Int) (H : St w0 S ds os w) (i l : Nat) (hi : os[i]? = some (g, hwC (.slice A n d) (.slice B m c) r, 31)) (hl : ds[l]? = some (fun w => Fl w B m c fl))
    (hE : rdE fl cell = q) : Calls Try.prog 44 #[.pointer (some ⟨g, 0, none⟩), .agg #[.int .i64 3, .int .i64 bank, .int .i64 cell, .string b], .agg #[.bool cut, .int .i64 fb, .bool noise]] w (RunErr w0 S ds os q w) := by
  refine (run3_any 3 bank cell b cut fb noise (H.cell i hi 1 rfl) (H.at l hl)).mono ?_
  rintro e w' ⟨rfl, hb⟩
  exact ⟨_, _, by rw [hE], H.step hb⟩
theorem run2_ok (bank cell : Int) (b : ByteArray) (cut : Bool) (fb : Int) (noise : Bool) (H : St w0 S ds os w) (i j l : Nat) (hi : os[i]? = some (g, hwC (.slice A n d) (.slice B m c) r, 31)) (hj : ds[j]? = some (fun w => Fu w A n d hs bk)) (hl : ds[l]? = some (fun w => Fl w B m c fl))
    (hn : n ≤ 1000) (hok : OkBk bk) (hE : frE bk bank cell = 0) : Calls Try.prog 41 #[.pointer (some ⟨g, 0, none⟩), .agg #[.int .i64 2, .int .i64 bank, .int .i64 cell, .string b], .agg #[.bool cut, .int .i64 fb, .bool noise]] w (RunOk w0 S ds os i g n m r (fpL bk bank cell cut) fl 0 ⟨#[]⟩ w) := by
  refine (run2_yes 2 bank cell b cut fb noise H i j hi rfl hj hn hok hE).mono ?_
  rintro e w' ⟨S1, A1, c1, hs1, rfl, hS, HB⟩
  exact ⟨S1, A1, c1, hs1, B, c, rfl, hS, (HB.both (HB.sure 0 rfl) (HB.sure (l + 1) hl)).drop fun p hp => by rcases List.mem_cons.1 hp with rfl | hp; exact List.mem_cons_self; exact List.mem_cons_of_mem _ (List.mem_cons_of_mem _ hp)⟩
theorem run2_err (bank cell : Int) (b : ByteArray) (cut : Bool) (fb : Int) (noise : Bool) (q : Int) (H : St w0 S ds os w) (i j : Nat) (hi : os[i]? = some (g, hwC (.slice A n d) (.slice B m c) r, 31)) (hj : ds[j]? = some (fun w => Fu w A n d hs bk))
    (hn : n ≤ 1000) (hok : OkBk bk) (hE : frE bk bank cell = q) (hq : (q == 0) = false) : Calls Try.prog 41 #[.pointer (some ⟨g, 0, none⟩), .agg #[.int .i64 2, .int .i64 bank, .int .i64 cell, .string b], .agg #[.bool cut, .int .i64 fb, .bool noise]] w (RunErr w0 S ds os q w) := by
  refine (run2_no 2 bank cell b cut fb noise q H i j hi rfl hj hn hok hE hq).mono ?_
  rintro e w' ⟨rfl, HB⟩
  exact ⟨_, _, rfl, HB⟩
theorem run4_ok (bank cell : Int) (b : ByteArray) (cut : Bool) (fb : Int) (noise : Bool) (H : St w0 S ds os w) (i j l : Nat) (hi : os[i]? = some (g, hwC (.slice A n d) (.slice B m c) r, 31)) (hj : ds[j]? = some (fun w => Fu w A n d hs bk)) (hl : ds[l]? = some (fun w => Fl w B m c fl))
    (hok : OkFl fl) (hE : wrE fl cell b = 0) : Calls Try.prog 47 #[.pointer (some ⟨g, 0, none⟩), .agg #[.int .i64 4, .int .i64 bank, .int .i64 cell, .string b], .agg #[.bool cut, .int .i64 fb, .bool noise]] w (RunOk w0 S ds os i g n m r bk (wrL fl cell b (cutV cut fb)) 0 ⟨#[]⟩ w) := by
  cases cut with
  | true =>
    refine (run4_yes_t 4 bank cell b fb noise H i l hi rfl hl hok hE).mono ?_
    rintro e w' ⟨S1, B1, c1, rfl, hS, HB⟩
    exact ⟨S1, A, d, hs, B1, c1, rfl, hS, (HB.both (HB.sure (j + 1) hj) (HB.sure 0 rfl)).drop fun p hp => by rcases List.mem_cons.1 hp with rfl | hp; exact List.mem_cons_self; exact List.mem_cons_of_mem _ (List.mem_cons_of_mem _ hp)⟩
  | false =>
    refine (run4_yes_f 4 bank cell b fb noise H i l hi rfl hl hok hE).mono ?_
    rintro e w' ⟨S1, B1, c1, rfl, hS, HB⟩
    exact ⟨S1, A, d, hs, B1, c1, rfl, hS, (HB.both (HB.sure (j + 1) hj) (HB.sure 0 rfl)).drop fun p hp => by rcases List.mem_cons.1 hp with rfl | hp; exact List.mem_cons_self; exact List.mem_cons_of_mem _ (List.mem_cons_of_mem _ hp)⟩
theorem run4_err (bank cell : Int) (b : ByteArray) (cut : Bool) (fb : Int) (noise : Bool) (q : Int) (H : St w0 S ds os w) (i l : Nat) (hi : os[i]? = some (g, hwC (.slice A n d) (.slice B m c) r, 31)) (hl : ds[l]? = some (fun w => Fl w B m c fl))
    (hok : OkFl fl) (hE : wrE fl cell b = q) (hq : (q == 0) = false) : Calls Try.prog 47 #[.pointer (some ⟨g, 0, none⟩), .agg #[.int .i64 4, .int .i64 bank, .int .i64 cell, .string b], .agg #[.bool cut, .int .i64 fb, .bool noise]] w (RunErr w0 S ds os q w) := by
  cases cut with
  | true =>
    refine (run4_no_t 4 bank cell b fb noise q H i l hi rfl hl hok hE hq).mono ?_
    rintro e w' ⟨rfl, HB⟩
    exact ⟨_, _, rfl, HB⟩
  | false =>
    refine (run4_no_f 4 bank cell b fb noise q H i l hi rfl hl hok hE hq).mono ?_
    rintro e w' ⟨rfl, HB⟩
    exact ⟨_, _, rfl, HB⟩
end
end Go.Proofs.Ytkfhekocbfednaa.Dv
end
