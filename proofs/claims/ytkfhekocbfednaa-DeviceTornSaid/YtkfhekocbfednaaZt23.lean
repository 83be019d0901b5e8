/- Part of the proof of deviceTorn_holds: what later parts use. -/
import Derived.Test.YtkfhekocbfednaaZt0
import Derived.Test.YtkfhekocbfednaaZt1
import Derived.Test.YtkfhekocbfednaaZt2
import Derived.Test.YtkfhekocbfednaaZt3
import Derived.Test.YtkfhekocbfednaaZt4
import Derived.Test.YtkfhekocbfednaaZt5
import Derived.Test.YtkfhekocbfednaaZt6
import Derived.Test.YtkfhekocbfednaaZt7
import Derived.Test.YtkfhekocbfednaaZt8
import Derived.Test.YtkfhekocbfednaaZt9
import Derived.Test.YtkfhekocbfednaaZt10
import Derived.Test.YtkfhekocbfednaaZt11
import Derived.Test.YtkfhekocbfednaaZt12
import Derived.Test.YtkfhekocbfednaaZt13
import Derived.Test.YtkfhekocbfednaaZt14
import Derived.Test.YtkfhekocbfednaaZt15
import Derived.Test.YtkfhekocbfednaaZt16
import Derived.Test.YtkfhekocbfednaaZt17
import Derived.Test.YtkfhekocbfednaaZt18
import Derived.Test.YtkfhekocbfednaaZt19
import Derived.Test.YtkfhekocbfednaaZt20
import Derived.Test.YtkfhekocbfednaaZt21
import Derived.Test.YtkfhekocbfednaaZt22
import Derived.Laws.StructEq
section
namespace Go.Proofs.Ytkfhekocbfednaa.Dv
set_option linter.unusedVariables false
set_option linter.unusedSimpArgs false
open Go.RowKit Go.Proofs.Ytkfhekocbfednaa Go.Proofs.YtkfhekocbfednaaW.PrintWords Go.Proofs.YtkfhekocbfednaaW.PrintLast Go.Proofs.YtkfhekocbfednaaW.PrintMore
open Go.Proofs.Ytkfhekocbfednaa.Fu Go.Proofs.Ytkfhekocbfednaa.Fl
attribute [local go_sem] max2_max min2_min max_two min_two
set_option maxRecDepth 100000 in
set_option maxHeartbeats 16000000 in
theorem do_errG {A : Option Addr} {n d : Nat} {hs : List Hdr} {bk : List (List Int)} {B : Option Addr} {m c : Nat} {fl : List ByteArray} {w : World} {S : Nat → Prop} {r : Nat → Int} (bank cell : Int) (b : ByteArray) (cut : Bool) (fb : Int) (noise : Bool) (hd : ∀ k, S k → k < w.heap.size) (hF : Sure S w (fun w => Fu w A n d hs bk)) (hL : Sure S w (fun w => Fl w B m c fl)) (kd : Int) (hK1 : 1 ≤ kd) (hK4 : kd ≤ 4) (fv fr : Nat) (hfv : accs[kd.toNat * 2]? = some (.func (.func fv) #[] #[])) (hfr : accs[kd.toNat * 2 + 1]? = some (.func (.func fr) #[] #[])) (hev : ∀ (xs : Array Value) (w : World), (callFunc fv xs).run Try.prog w = .ok (.enter fv xs) w) (her : ∀ (xs : Array Value) (w : World), (callFunc fr xs).run Try.prog w = .ok (.enter fr xs) w) (hval : ∀ w, Calls Try.prog fv #[.agg #[.int .i64 kd, .int .i64 bank, .int .i64 cell, .string b]] w fun e w' => e = .returned (.bool true) ∧ Below w.heap.size w w') (q : Int) (hq : (q == 0) = false) (hrun : ∀ (w0 w1 : World) (S : Nat → Prop) (ds : List (World → Prop)) (os : List Blk) {g : Nat}, St w0 S ds os w1 → os[6]? = some (g, hwC (.slice A n d) (.slice B m c) r, 31) → ds[0]? = some (fun w => Fu w A n d hs bk) → ds[1]? = some (fun w => Fl w B m c fl) → Calls Try.prog fr #[.pointer (some ⟨g, 0, none⟩), .agg #[.int .i64 kd, .int .i64 bank, .int .i64 cell, .string b], .agg #[.bool cut, .int .i64 fb, .bool noise]] w1 (RunErr w0 S ds os q w1)) :
    Calls Try.prog 10 #[.agg (hwC (.slice A n d) (.slice B m c) r), .agg #[.int .i64 kd, .int .i64 bank, .int .i64 cell, .string b], .agg #[.bool cut, .int .i64 fb, .bool noise]] w (DoRes S n m r bk fl 0 ⟨#[]⟩ q w) := by
  have H0 := Aside0.mk ((St.enter2 hd hF hL).alloc5 (hwC (.slice A n d) (.slice B m c) r) 31 #[.int .i64 kd, .int .i64 bank, .int .i64 cell, .string b] 33 #[.bool cut, .int .i64 fb, .bool noise] 35 #[.slice none 0 0, .slice none 0 0, .int .u8 0, .int .u8 0, .int .u8 0, .int .u8 0, .int .u8 0, .int .u8 0, .int .u8 0, .int .u8 0, .int .u8 0, .int .u8 0, .int .u8 0, .int .u8 0, .int .u8 0, .int .u8 0, .int .u8 0, .int .u8 0] 31 #[.int .i64 0, .string ⟨#[]⟩] 40)
  have VAL := Aside0.mk hval
  have RUN := Aside0.mk hrun
  clear hval hrun
  go_enter Try.func10, Try.ntmps10
  go_wp2_with (first | (go_at_call 22; refine (accesses_any _).mono ?_; rintro e w1 ⟨rfl, hb⟩; have H1 := Aside0.mk (H0.out.step hb); clear hb) | (refine storeRowL_ (ty := 65) rfl rfl rfl _ _ _ accs rfl rfl (heap_alloc_new _ _) (by kernel_rfl) rfl (by kernel_rfl) ?_; have H2 := Aside0.mk ((H1.out.alloc #[.nilFunc, .nilFunc, .nilFunc, .nilFunc, .nilFunc, .nilFunc, .nilFunc, .nilFunc, .nilFunc, .nilFunc] 65).setRow 5 rfl accs)))
  have k1 : ¬ kd < 1 := by omega
  have k5 : ¬ 5 ≤ kd := by omega
  have k6 : kd < 5 := by omega
  have k7 : 0 ≤ kd := by omega
  refine start_ (n := 18) (S := (fun w' => w'.cell? ⟨w.heap.size + 1, 0, none⟩ = some (.int .i64 kd) ∧ w'.cell? ⟨w.heap.size + 1, 1, none⟩ = some (.int .i64 bank) ∧ w'.cell? ⟨w.heap.size + 1, 2, none⟩ = some (.int .i64 cell) ∧ w'.cell? ⟨w.heap.size + 1, 3, none⟩ = some (.string b) ∧ w'.cell? ⟨w1.heap.size, kd.toNat * 2, none⟩ = some (.func (.func fv) #[] #[]))) (ds := []) #[false, false, false, false, false, false, false, false, false, false, false, false, false, false, false, false, false, false] (by kernel_rfl) rfl rfl ⟨H2.out.drew.cell 1 rfl 0 rfl, H2.out.drew.cell 1 rfl 1 rfl, H2.out.drew.cell 1 rfl 2 rfl, H2.out.drew.cell 1 rfl 3 rfl, H2.out.drew.cell 5 rfl (kd.toNat * 2) hfv⟩ (fun hHeld => ?_)
  refine pure_ (i := 0) (N := (some 14)) (v := ?_) (a' := ?_) #[true, false, false, false, false, false, false, false, false, false, false, false, false, false, false, false, false, false] rfl rfl (by kernel_rfl) (fun _ _ _ h => h) (Or.inl ⟨by rfl, ?_⟩) ?_ ?_
  rotate_left
  · intro w'
    go_simp
    try with_reducible rfl
  rotate_left
  · simp only [Act.put, List.setIfInBounds_toArray, List.set_cons_zero, List.set_cons_succ, i64_w, i32_w]
    rfl
  refine take_ (i := 1) (N := (some 15)) (v := ?_) (a' := ?_) #[true, true, false, false, false, false, false, false, false, false, false, false, false, false, false, false, false, false] rfl rfl (by kernel_rfl) (fun _ _ _ h => h) (Or.inl ⟨by rfl, ?_⟩) hHeld ?_ ?_
  rotate_left
  · rintro w' ⟨s0, s1, s2, s3, s4⟩
    go_simp
    try with_reducible rfl
  rotate_left
  · simp only [Act.put, List.setIfInBounds_toArray, List.set_cons_zero, List.set_cons_succ, i64_w, i32_w]
    rfl
  refine pure_ (i := 2) (N := (some 16)) (v := ?_) (a' := ?_) #[true, true, true, false, false, false, false, false, false, false, false, false, false, false, false, false, false, false] rfl rfl (by kernel_rfl) (fun _ _ _ h => h) (Or.inl ⟨by rfl, ?_⟩) ?_ ?_
  rotate_left
  · intro w'
    go_simp
    try with_reducible rfl
  rotate_left
  · simp only [Act.put, List.setIfInBounds_toArray, List.set_cons_zero, List.set_cons_succ, i64_w, i32_w]
    rfl
  refine pure_ (i := 3) (N := (some 17)) (v := ?_) (a' := ?_) #[true, true, true, true, false, false, false, false, false, false, false, false, false, false, false, false, false, false] rfl rfl (by kernel_rfl) (fun _ _ _ h => h) (Or.inl ⟨by rfl, ?_⟩) ?_ ?_
  rotate_left
  · intro w'
    go_simp
    try with_reducible rfl
  rotate_left
  · simp only [Act.put, List.setIfInBounds_toArray, List.set_cons_zero, List.set_cons_succ, i64_w, i32_w]
    rfl
  refine pure_ (i := 4) (N := (some 18)) (v := ?_) (a' := ?_) #[true, true, true, true, true, false, false, false, false, false, false, false, false, false, false, false, false, false] rfl rfl (by kernel_rfl) (fun _ _ _ h => h) (Or.inl ⟨by rfl, ?_⟩) ?_ ?_
  rotate_left
  · intro w'
    go_simp
    try with_reducible rfl
  rotate_left
  · simp only [Act.put, List.setIfInBounds_toArray, List.set_cons_zero, List.set_cons_succ, i64_w, i32_w]
    rfl
  refine take_ (i := 5) (N := (some 19)) (v := ?_) (a' := ?_) #[true, true, true, true, true, true, false, false, false, false, false, false, false, false, false, false, false, false] rfl rfl (by kernel_rfl) (fun _ _ _ h => h) (Or.inl ⟨by rfl, ?_⟩) hHeld ?_ ?_
  rotate_left
  · rintro w' ⟨s0, s1, s2, s3, s4⟩
    go_simp
    try with_reducible rfl
  rotate_left
  · simp only [Act.put, List.setIfInBounds_toArray, List.set_cons_zero, List.set_cons_succ, i64_w, i32_w]
    rfl
  refine pure_ (i := 6) (N := (some 20)) (v := ?_) (a' := ?_) #[true, true, true, true, true, true, true, false, false, false, false, false, false, false, false, false, false, false] rfl rfl (by kernel_rfl) (fun _ _ _ h => h) (Or.inl ⟨by rfl, ?_⟩) ?_ ?_
  rotate_left
  · intro w'
    go_simp
    try with_reducible rfl
  rotate_left
  · simp only [Act.put, List.setIfInBounds_toArray, List.set_cons_zero, List.set_cons_succ, i64_w, i32_w]
    rfl
  refine pure_ (i := 7) (N := (some 21)) (v := ?_) (a' := ?_) #[true, true, true, true, true, true, true, true, false, false, false, false, false, false, false, false, false, false] rfl rfl (by kernel_rfl) (fun _ _ _ h => h) (Or.inl ⟨by rfl, ?_⟩) ?_ ?_
  rotate_left
  · intro w'
    go_simp
    try with_reducible rfl
  rotate_left
  · simp only [Act.put, List.setIfInBounds_toArray, List.set_cons_zero, List.set_cons_succ, i64_w, i32_w]
    rfl
  refine pure_ (i := 8) (N := (some 22)) (v := ?_) (a' := ?_) #[true, true, true, true, true, true, true, true, true, false, false, false, false, false, false, false, false, false] rfl rfl (by kernel_rfl) (fun _ _ _ h => h) (Or.inl ⟨by rfl, ?_⟩) ?_ ?_
  rotate_left
  · intro w'
    go_simp
    try with_reducible rfl
  rotate_left
  · simp only [Act.put, List.setIfInBounds_toArray, List.set_cons_zero, List.set_cons_succ, i64_w, i32_w]
    rfl
  refine pure_ (i := 9) (N := (some 23)) (v := ?_) (a' := ?_) #[true, true, true, true, true, true, true, true, true, true, false, false, false, false, false, false, false, false] rfl rfl (by kernel_rfl) (fun _ _ _ h => h) (Or.inl ⟨by rfl, ?_⟩) ?_ ?_
  rotate_left
  · intro w'
    go_simp
    try with_reducible rfl
  rotate_left
  · simp only [Act.put, List.setIfInBounds_toArray, List.set_cons_zero, List.set_cons_succ, i64_w, i32_w]
    rfl
  refine take_ (i := 10) (N := (some 24)) (v := ?_) (a' := ?_) #[true, true, true, true, true, true, true, true, true, true, true, false, false, false, false, false, false, false] rfl rfl (by kernel_rfl) (fun _ _ _ h => h) (Or.inl ⟨by rfl, ?_⟩) hHeld ?_ ?_
  rotate_left
  · rintro w' ⟨s0, s1, s2, s3, s4⟩
    go_simp
    try with_reducible rfl
  rotate_left
  · simp only [Act.put, List.setIfInBounds_toArray, List.set_cons_zero, List.set_cons_succ, i64_w, i32_w]
    rfl
  refine pure_ (i := 11) (N := (some 25)) (v := ?_) (a' := ?_) #[true, true, true, true, true, true, true, true, true, true, true, true, false, false, false, false, false, false] rfl rfl (by kernel_rfl) (fun _ _ _ h => h) (Or.inl ⟨by rfl, ?_⟩) ?_ ?_
  rotate_left
  · intro w'
    go_simp
    try with_reducible rfl
  rotate_left
  · simp only [Act.put, List.setIfInBounds_toArray, List.set_cons_zero, List.set_cons_succ, i64_w, i32_w]
    rfl
  refine pure_ (i := 12) (N := (some 26)) (v := ?_) (a' := ?_) #[true, true, true, true, true, true, true, true, true, true, true, true, true, false, false, false, false, false] rfl rfl (by kernel_rfl) (fun _ _ _ h => h) (Or.inl ⟨by rfl, ?_⟩) ?_ ?_
  rotate_left
  · intro w'
    go_simp
    try with_reducible rfl
  rotate_left
  · simp only [Act.put, List.setIfInBounds_toArray, List.set_cons_zero, List.set_cons_succ, i64_w, i32_w]
    rfl
  refine take_ (i := 13) (N := (some 27)) (v := ?_) (a' := ?_) #[true, true, true, true, true, true, true, true, true, true, true, true, true, true, false, false, false, false] rfl rfl (by kernel_rfl) (fun _ _ _ h => h) (Or.inl ⟨by rfl, ?_⟩) hHeld ?_ ?_
  rotate_left
  · rintro w' ⟨s0, s1, s2, s3, s4⟩
    go_simp
    try with_reducible rfl
  rotate_left
  · simp only [Act.put, List.setIfInBounds_toArray, List.set_cons_zero, List.set_cons_succ, i64_w, i32_w]
    rfl
  refine take_ (i := 14) (N := (some 28)) (v := ?_) (a' := ?_) #[true, true, true, true, true, true, true, true, true, true, true, true, true, true, true, false, false, false] rfl rfl (by kernel_rfl) (fun _ _ _ h => h) (Or.inl ⟨by rfl, ?_⟩) hHeld ?_ ?_
  rotate_left
  · rintro w' ⟨s0, s1, s2, s3, s4⟩
    go_simp
    try with_reducible rfl
  rotate_left
  · simp only [Act.put, List.setIfInBounds_toArray, List.set_cons_zero, List.set_cons_succ, i64_w, i32_w]
    rfl
  refine one_ (i := 15) (N := (some 29)) #[true, true, true, true, true, true, true, true, true, true, true, true, true, true, true, true, false, false] rfl rfl (by kernel_rfl) (by decide) (fun K hK => ?_)
  refine call_ fv #[.agg #[.int .i64 kd, .int .i64 bank, .int .i64 cell, .string b]] (by rfl) rfl ?hrun ((VAL.out _).mono ?_)
  case hrun => go_simp; (try simp only [hev, her, Result.andThen_ok])
  rintro e w3 ⟨rfl, hb⟩
  refine ⟨_, rfl, ?_⟩
  have H3 := Aside0.mk (H2.out.drew.step hb)
  clear hb
  refine hK.out _ _ ⟨H3.out.cell 1 rfl 0 rfl, H3.out.cell 1 rfl 1 rfl, H3.out.cell 1 rfl 2 rfl, H3.out.cell 1 rfl 3 rfl, H3.out.cell 5 rfl (kd.toNat * 2) hfv⟩ (fun hHeld => ?_)
  clear hK K
  refine norm_ (a' := ?_) ?_ ?_
  rotate_left
  · show Act.put _ (some 29) _ = _
    simp only [Act.put, List.setIfInBounds_toArray, List.set_cons_zero, List.set_cons_succ, i64_w, i32_w]
    rfl
  refine pure_ (i := 16) (N := (some 30)) (v := ?_) (a' := ?_) #[true, true, true, true, true, true, true, true, true, true, true, true, true, true, true, true, true, false] rfl rfl (by kernel_rfl) (fun _ _ _ h => h) (Or.inl ⟨by rfl, ?_⟩) ?_ ?_
  rotate_left
  · intro w'
    go_simp
    try with_reducible rfl
  rotate_left
  · simp only [Act.put, List.setIfInBounds_toArray, List.set_cons_zero, List.set_cons_succ, i64_w, i32_w]
    rfl
  refine pure_ (i := 17) (N := (some 31)) (v := ?_) (a' := ?_) #[true, true, true, true, true, true, true, true, true, true, true, true, true, true, true, true, true, true] rfl rfl (by kernel_rfl) (fun _ _ _ h => h) (Or.inl ⟨by rfl, ?_⟩) ?_ ?_
  rotate_left
  · intro w'
    go_simp
    try with_reducible rfl
  rotate_left
  · simp only [Act.put, List.setIfInBounds_toArray, List.set_cons_zero, List.set_cons_succ, i64_w, i32_w]
    rfl
  refine done_ (by kernel_rfl) ?_
  go_wp2_with (first | (refine loadRowL_ (ty := 31) _ rfl rfl rfl _ _ _ _ _ rfl (H3.out.blk 0 rfl) Try.underlying31 rfl (by kernel_rfl) ?_) | (refine storeRowL_ (ty := 31) rfl rfl rfl _ _ _ (hwC (.slice A n d) (.slice B m c) r) rfl rfl (heap_alloc_new _ _) (by kernel_rfl) rfl (by kernel_rfl) ?_; have H4 := Aside0.mk ((H3.out.alloc #[.slice none 0 0, .slice none 0 0, .int .u8 0, .int .u8 0, .int .u8 0, .int .u8 0, .int .u8 0, .int .u8 0, .int .u8 0, .int .u8 0, .int .u8 0, .int .u8 0, .int .u8 0, .int .u8 0, .int .u8 0, .int .u8 0, .int .u8 0, .int .u8 0] 31).setRow 6 rfl (hwC (.slice A n d) (.slice B m c) r))))
  have k1 : ¬ kd < 1 := by omega
  have k5 : ¬ 5 ≤ kd := by omega
  have k6 : kd < 5 := by omega
  have k7 : 0 ≤ kd := by omega
  refine start_ (n := 14) (S := (fun w' => w'.cell? ⟨w.heap.size + 1, 0, none⟩ = some (.int .i64 kd) ∧ w'.cell? ⟨w.heap.size + 1, 1, none⟩ = some (.int .i64 bank) ∧ w'.cell? ⟨w.heap.size + 1, 2, none⟩ = some (.int .i64 cell) ∧ w'.cell? ⟨w.heap.size + 1, 3, none⟩ = some (.string b) ∧ w'.cell? ⟨w.heap.size + 1 + 1, 0, none⟩ = some (.bool cut) ∧ w'.cell? ⟨w.heap.size + 1 + 1, 1, none⟩ = some (.int .i64 fb) ∧ w'.cell? ⟨w.heap.size + 1 + 1, 2, none⟩ = some (.bool noise) ∧ w'.cell? ⟨w1.heap.size, kd.toNat * 2 + 1, none⟩ = some (.func (.func fr) #[] #[]))) (ds := []) #[false, false, false, false, false, false, false, false, false, false, false, false, false, false] (by kernel_rfl) rfl rfl ⟨H4.out.drew.cell 1 rfl 0 rfl, H4.out.drew.cell 1 rfl 1 rfl, H4.out.drew.cell 1 rfl 2 rfl, H4.out.drew.cell 1 rfl 3 rfl, H4.out.drew.cell 2 rfl 0 rfl, H4.out.drew.cell 2 rfl 1 rfl, H4.out.drew.cell 2 rfl 2 rfl, H4.out.drew.cell 5 rfl (kd.toNat * 2 + 1) hfr⟩ (fun hHeld => ?_)
  refine pure_ (i := 0) (N := (some 36)) (v := ?_) (a' := ?_) #[true, false, false, false, false, false, false, false, false, false, false, false, false, false] rfl rfl (by kernel_rfl) (fun _ _ _ h => h) (Or.inl ⟨by rfl, ?_⟩) ?_ ?_
  rotate_left
  · intro w'
    go_simp
    try with_reducible rfl
  rotate_left
  · simp only [Act.put, List.setIfInBounds_toArray, List.set_cons_zero, List.set_cons_succ, i64_w, i32_w]
    rfl
  refine take_ (i := 1) (N := (some 37)) (v := ?_) (a' := ?_) #[true, true, false, false, false, false, false, false, false, false, false, false, false, false] rfl rfl (by kernel_rfl) (fun _ _ _ h => h) (Or.inl ⟨by rfl, ?_⟩) hHeld ?_ ?_
  rotate_left
  · rintro w' ⟨s0, s1, s2, s3, s4, s5, s6, s7⟩
    go_simp
    try with_reducible rfl
  rotate_left
  · simp only [Act.put, List.setIfInBounds_toArray, List.set_cons_zero, List.set_cons_succ, i64_w, i32_w]
    rfl
  refine pure_ (i := 2) (N := (some 38)) (v := ?_) (a' := ?_) #[true, true, true, false, false, false, false, false, false, false, false, false, false, false] rfl rfl (by kernel_rfl) (fun _ _ _ h => h) (Or.inl ⟨by rfl, ?_⟩) ?_ ?_
  rotate_left
  · intro w'
    go_simp
    try with_reducible rfl
  rotate_left
  · simp only [Act.put, List.setIfInBounds_toArray, List.set_cons_zero, List.set_cons_succ, i64_w, i32_w]
    rfl
  refine pure_ (i := 3) (N := (some 39)) (v := ?_) (a' := ?_) #[true, true, true, true, false, false, false, false, false, false, false, false, false, false] rfl rfl (by kernel_rfl) (fun _ _ _ h => h) (Or.inl ⟨by rfl, ?_⟩) ?_ ?_
  rotate_left
  · intro w'
    go_simp
    try with_reducible rfl
  rotate_left
  · simp only [Act.put, List.setIfInBounds_toArray, List.set_cons_zero, List.set_cons_succ, i64_w, i32_w]
    rfl
  refine take_ (i := 4) (N := (some 40)) (v := ?_) (a' := ?_) #[true, true, true, true, true, false, false, false, false, false, false, false, false, false] rfl rfl (by kernel_rfl) (fun _ _ _ h => h) (Or.inl ⟨by rfl, ?_⟩) hHeld ?_ ?_
  rotate_left
  · rintro w' ⟨s0, s1, s2, s3, s4, s5, s6, s7⟩
    go_simp
    try with_reducible rfl
  rotate_left
  · simp only [Act.put, List.setIfInBounds_toArray, List.set_cons_zero, List.set_cons_succ, i64_w, i32_w]
    rfl
  refine take_ (i := 5) (N := (some 41)) (v := ?_) (a' := ?_) #[true, true, true, true, true, true, false, false, false, false, false, false, false, false] rfl rfl (by kernel_rfl) (fun _ _ _ h => h) (Or.inl ⟨by rfl, ?_⟩) hHeld ?_ ?_
  rotate_left
  · rintro w' ⟨s0, s1, s2, s3, s4, s5, s6, s7⟩
    go_simp
    try with_reducible rfl
  rotate_left
  · simp only [Act.put, List.setIfInBounds_toArray, List.set_cons_zero, List.set_cons_succ, i64_w, i32_w]
    rfl
  refine take_ (i := 6) (N := (some 42)) (v := ?_) (a' := ?_) #[true, true, true, true, true, true, true, false, false, false, false, false, false, false] rfl rfl (by kernel_rfl) (fun _ _ _ h => h) (Or.inl ⟨by rfl, ?_⟩) hHeld ?_ ?_
  rotate_left
  · rintro w' ⟨s0, s1, s2, s3, s4, s5, s6, s7⟩
    go_simp
    try with_reducible rfl
  rotate_left
  · simp only [Act.put, List.setIfInBounds_toArray, List.set_cons_zero, List.set_cons_succ, i64_w, i32_w]
    rfl
  refine two_ (i := 7) (j := 11) (Ni := (some 43)) (Nj := (some 11)) #[true, true, true, true, true, true, true, true, false, false, false, false, false, false] #[true, true, true, true, true, true, true, false, false, false, false, true, false, false] rfl rfl rfl rfl (by kernel_rfl) (by decide) (by decide) (fun K hK => ?_) (fun K hK => ?_)
  ·
    refine call_ fr #[.pointer (some ⟨w3.heap.size, 0, none⟩), .agg #[.int .i64 kd, .int .i64 bank, .int .i64 cell, .string b], .agg #[.bool cut, .int .i64 fb, .bool noise]] (by rfl) rfl ?hrun ((RUN.out _ _ _ _ _ H4.out.drew rfl rfl rfl).mono ?_)
    case hrun => go_simp; (try simp only [hev, her, Result.andThen_ok])
    rintro e w5 ⟨v5, s5, rfl, hb⟩
    refine ⟨_, rfl, ?_⟩
    have H5 := Aside0.mk hb
    clear hb
    refine hK.out _ _ ⟨H5.out.cell 1 rfl 0 rfl, H5.out.cell 1 rfl 1 rfl, H5.out.cell 1 rfl 2 rfl, H5.out.cell 1 rfl 3 rfl, H5.out.cell 2 rfl 0 rfl, H5.out.cell 2 rfl 1 rfl, H5.out.cell 2 rfl 2 rfl, H5.out.cell 5 rfl (kd.toNat * 2 + 1) hfr⟩ (fun hHeld => ?_)
    clear hK K
    refine norm_ (a' := ?_) ?_ ?_
    rotate_left
    · show Act.put _ (some 43) _ = _
      simp only [Act.put, List.setIfInBounds_toArray, List.set_cons_zero, List.set_cons_succ, i64_w, i32_w]
      rfl
    refine pure_ (i := 8) (N := (some 35)) (v := ?_) (a' := ?_) #[true, true, true, true, true, true, true, true, true, false, false, false, false, false] rfl rfl (by kernel_rfl) (fun _ _ _ h => h) (Or.inl ⟨by rfl, ?_⟩) ?_ ?_
    rotate_left
    · intro w'
      go_simp
      try with_reducible rfl
    rotate_left
    · simp only [Act.put, List.setIfInBounds_toArray, List.set_cons_zero, List.set_cons_succ, i64_w, i32_w]
      rfl
    refine pure_ (i := 9) (N := (some 44)) (v := ?_) (a' := ?_) #[true, true, true, true, true, true, true, true, true, true, false, false, false, false] rfl rfl (by kernel_rfl) (fun _ _ _ h => h) (Or.inl ⟨by rfl, ?_⟩) ?_ ?_
    rotate_left
    · intro w'
      go_simp
      try with_reducible rfl
    rotate_left
    · simp only [Act.put, List.setIfInBounds_toArray, List.set_cons_zero, List.set_cons_succ, i64_w, i32_w]
      rfl
    refine pure_ (i := 10) (N := (some 45)) (v := ?_) (a' := ?_) #[true, true, true, true, true, true, true, true, true, true, true, false, false, false] rfl rfl (by kernel_rfl) (fun _ _ _ h => h) (Or.inl ⟨by rfl, ?_⟩) ?_ ?_
    rotate_left
    · intro w'
      go_simp
      try with_reducible rfl
    rotate_left
    · simp only [Act.put, List.setIfInBounds_toArray, List.set_cons_zero, List.set_cons_succ, i64_w, i32_w]
      rfl
    refine one_ (i := 11) (N := (some 11)) #[true, true, true, true, true, true, true, true, true, true, true, true, false, false] rfl rfl (by kernel_rfl) (by decide) (fun K hK => ?_)
    refine value_ (w1 := ?_) (v := ?_) (by rfl) rfl ?_ ?_
    rotate_left 2
    · go_simp
      constructor
      · rfl
      · rfl
    have H6 := Aside0.mk (H5.out.alloc #[.int .i64 0, .string ⟨#[]⟩] 40)
    refine hK.out _ _ ⟨H6.out.cell 1 rfl 0 rfl, H6.out.cell 1 rfl 1 rfl, H6.out.cell 1 rfl 2 rfl, H6.out.cell 1 rfl 3 rfl, H6.out.cell 2 rfl 0 rfl, H6.out.cell 2 rfl 1 rfl, H6.out.cell 2 rfl 2 rfl, H6.out.cell 5 rfl (kd.toNat * 2 + 1) hfr⟩ (fun hHeld => ?_)
    clear hK K
    refine norm_ (a' := ?_) ?_ ?_
    rotate_left
    · show Act.put _ (some 11) _ = _
      simp only [Act.put, List.setIfInBounds_toArray, List.set_cons_zero, List.set_cons_succ, i64_w, i32_w]
      rfl
    refine one_ (i := 12) (N := none) #[true, true, true, true, true, true, true, true, true, true, true, true, true, false] rfl rfl (by kernel_rfl) (by decide) (fun K hK => ?_)
    refine skip_ (by rfl) rfl (store_row (ty := 40) (p := .tmp 11) (q := .tmp 44) _ _ _ #[.int .i64 v5, .string s5] rfl rfl rfl (H6.out.blk 7 rfl) (by kernel_rfl) rfl (by kernel_rfl)) ?_
    have H7 := Aside0.mk (H6.out.setRow 7 rfl #[.int .i64 v5, .string s5])
    refine hK.out _ _ ⟨H7.out.cell 1 rfl 0 rfl, H7.out.cell 1 rfl 1 rfl, H7.out.cell 1 rfl 2 rfl, H7.out.cell 1 rfl 3 rfl, H7.out.cell 2 rfl 0 rfl, H7.out.cell 2 rfl 1 rfl, H7.out.cell 2 rfl 2 rfl, H7.out.cell 5 rfl (kd.toNat * 2 + 1) hfr⟩ (fun hHeld => ?_)
    clear hK K
    refine pure_ (i := 13) (N := (some 12)) (v := ?_) (a' := ?_) #[true, true, true, true, true, true, true, true, true, true, true, true, true, true] rfl rfl (by kernel_rfl) (fun _ _ _ h => h) (Or.inl ⟨by rfl, ?_⟩) ?_ ?_
    rotate_left
    · intro w'
      go_simp
      try with_reducible rfl
    rotate_left
    · simp only [Act.put, List.setIfInBounds_toArray, List.set_cons_zero, List.set_cons_succ, i64_w, i32_w]
      rfl
    refine done_ (by kernel_rfl) ?_
    go_wp2_with (first | (refine loadRowL_ (ty := 31) _ rfl rfl rfl _ _ _ _ _ rfl (H7.out.blk 0 rfl) Try.underlying31 rfl (by kernel_rfl) ?_) | (refine storeRowL_ (ty := 31) rfl rfl rfl _ _ _ (hwC (.slice A n d) (.slice B m c) r) rfl rfl (H7.out.blk 3 rfl) (by kernel_rfl) rfl (by kernel_rfl) ?_; have H8 := Aside0.mk (H7.out.setRow 3 rfl (hwC (.slice A n d) (.slice B m c) r))) | (refine storeRowL_ (ty := 40) rfl rfl rfl _ _ _ #[.int .i64 0, .string ⟨#[]⟩] rfl rfl (H8.out.blk 4 rfl) (by kernel_rfl) rfl (by kernel_rfl) ?_; have H9 := Aside0.mk (H8.out.setRow 4 rfl #[.int .i64 0, .string ⟨#[]⟩])))
    refine bodyPost_ret (results_cct rfl _ _ (w.heap.size + 1 + 1 + 1) (w.heap.size + 1 + 1 + 1 + 1) 31 40 (hwC (.slice A n d) (.slice B m c) r) #[.int .i64 0, .string ⟨#[]⟩] (0, 0) (0, 0) _ _ rfl (H9.out.blk 3 rfl) Try.underlying31 rfl (by kernel_rfl) rfl (H9.out.blk 4 rfl) Try.underlying40 rfl (by kernel_rfl)) rfl ?_
    exact ⟨A, d, hs, B, c, rfl, H9.out.done' ((H9.out.sureNew 0 rfl).and (H9.out.sureNew 1 rfl))⟩
  ·
    refine value_ (w1 := ?_) (v := ?_) (by rfl) rfl ?_ ?_
    rotate_left 2
    · go_simp
      constructor
      · rfl
      · rfl
    have Ha := Aside0.mk (H4.out.drew.alloc_ (q := w3.heap.size + 1) (by simp) #[.int .i64 0, .string ⟨#[]⟩] 40)
    refine hK.out _ _ ⟨Ha.out.cell 1 rfl 0 rfl, Ha.out.cell 1 rfl 1 rfl, Ha.out.cell 1 rfl 2 rfl, Ha.out.cell 1 rfl 3 rfl, Ha.out.cell 2 rfl 0 rfl, Ha.out.cell 2 rfl 1 rfl, Ha.out.cell 2 rfl 2 rfl, Ha.out.cell 5 rfl (kd.toNat * 2 + 1) hfr⟩ (fun hHeld => ?_)
    clear hK K
    refine norm_ (a' := ?_) ?_ ?_
    rotate_left
    · show Act.put _ (some 11) _ = _
      simp only [Act.put, List.setIfInBounds_toArray, List.set_cons_zero, List.set_cons_succ, i64_w, i32_w]
      rfl
    refine one_ (i := 7) (N := (some 43)) #[true, true, true, true, true, true, true, true, false, false, false, true, false, false] rfl rfl (by kernel_rfl) (by decide) (fun K hK => ?_)
    refine call_ fr #[.pointer (some ⟨w3.heap.size, 0, none⟩), .agg #[.int .i64 kd, .int .i64 bank, .int .i64 cell, .string b], .agg #[.bool cut, .int .i64 fb, .bool noise]] (by rfl) rfl ?hrun ((RUN.out _ _ _ _ _ Ha.out rfl rfl rfl).mono ?_)
    case hrun => go_simp; (try simp only [hev, her, Result.andThen_ok])
    rintro e w5 ⟨v5, s5, rfl, hb⟩
    refine ⟨_, rfl, ?_⟩
    have H6 := Aside0.mk hb
    clear hb
    refine hK.out _ _ ⟨H6.out.cell 1 rfl 0 rfl, H6.out.cell 1 rfl 1 rfl, H6.out.cell 1 rfl 2 rfl, H6.out.cell 1 rfl 3 rfl, H6.out.cell 2 rfl 0 rfl, H6.out.cell 2 rfl 1 rfl, H6.out.cell 2 rfl 2 rfl, H6.out.cell 5 rfl (kd.toNat * 2 + 1) hfr⟩ (fun hHeld => ?_)
    clear hK K
    refine norm_ (a' := ?_) ?_ ?_
    rotate_left
    · show Act.put _ (some 43) _ = _
      simp only [Act.put, List.setIfInBounds_toArray, List.set_cons_zero, List.set_cons_succ, i64_w, i32_w]
      rfl
    refine pure_ (i := 8) (N := (some 35)) (v := ?_) (a' := ?_) #[true, true, true, true, true, true, true, true, true, false, false, true, false, false] rfl rfl (by kernel_rfl) (fun _ _ _ h => h) (Or.inl ⟨by rfl, ?_⟩) ?_ ?_
    rotate_left
    · intro w'
      go_simp
      try with_reducible rfl
    rotate_left
    · simp only [Act.put, List.setIfInBounds_toArray, List.set_cons_zero, List.set_cons_succ, i64_w, i32_w]
      rfl
    refine pure_ (i := 9) (N := (some 44)) (v := ?_) (a' := ?_) #[true, true, true, true, true, true, true, true, true, true, false, true, false, false] rfl rfl (by kernel_rfl) (fun _ _ _ h => h) (Or.inl ⟨by rfl, ?_⟩) ?_ ?_
    rotate_left
    · intro w'
      go_simp
      try with_reducible rfl
    rotate_left
    · simp only [Act.put, List.setIfInBounds_toArray, List.set_cons_zero, List.set_cons_succ, i64_w, i32_w]
      rfl
    refine pure_ (i := 10) (N := (some 45)) (v := ?_) (a' := ?_) #[true, true, true, true, true, true, true, true, true, true, true, true, false, false] rfl rfl (by kernel_rfl) (fun _ _ _ h => h) (Or.inl ⟨by rfl, ?_⟩) ?_ ?_
    rotate_left
    · intro w'
      go_simp
      try with_reducible rfl
    rotate_left
    · simp only [Act.put, List.setIfInBounds_toArray, List.set_cons_zero, List.set_cons_succ, i64_w, i32_w]
      rfl
    refine one_ (i := 12) (N := none) #[true, true, true, true, true, true, true, true, true, true, true, true, true, false] rfl rfl (by kernel_rfl) (by decide) (fun K hK => ?_)
    refine skip_ (by rfl) rfl (store_row (ty := 40) (p := .tmp 11) (q := .tmp 44) _ _ _ #[.int .i64 v5, .string s5] rfl rfl rfl (H6.out.blk 7 rfl) (by kernel_rfl) rfl (by kernel_rfl)) ?_
    have H7 := Aside0.mk (H6.out.setRow 7 rfl #[.int .i64 v5, .string s5])
    refine hK.out _ _ ⟨H7.out.cell 1 rfl 0 rfl, H7.out.cell 1 rfl 1 rfl, H7.out.cell 1 rfl 2 rfl, H7.out.cell 1 rfl 3 rfl, H7.out.cell 2 rfl 0 rfl, H7.out.cell 2 rfl 1 rfl, H7.out.cell 2 rfl 2 rfl, H7.out.cell 5 rfl (kd.toNat * 2 + 1) hfr⟩ (fun hHeld => ?_)
    clear hK K
    refine pure_ (i := 13) (N := (some 12)) (v := ?_) (a' := ?_) #[true, true, true, true, true, true, true, true, true, true, true, true, true, true] rfl rfl (by kernel_rfl) (fun _ _ _ h => h) (Or.inl ⟨by rfl, ?_⟩) ?_ ?_
    rotate_left
    · intro w'
      go_simp
      try with_reducible rfl
    rotate_left
    · simp only [Act.put, List.setIfInBounds_toArray, List.set_cons_zero, List.set_cons_succ, i64_w, i32_w]
      rfl
    refine done_ (by kernel_rfl) ?_
    go_wp2_with (first | (refine loadRowL_ (ty := 31) _ rfl rfl rfl _ _ _ _ _ rfl (H7.out.blk 0 rfl) Try.underlying31 rfl (by kernel_rfl) ?_) | (refine storeRowL_ (ty := 31) rfl rfl rfl _ _ _ (hwC (.slice A n d) (.slice B m c) r) rfl rfl (H7.out.blk 3 rfl) (by kernel_rfl) rfl (by kernel_rfl) ?_; have H8 := Aside0.mk (H7.out.setRow 3 rfl (hwC (.slice A n d) (.slice B m c) r))) | (refine storeRowL_ (ty := 40) rfl rfl rfl _ _ _ #[.int .i64 0, .string ⟨#[]⟩] rfl rfl (H8.out.blk 4 rfl) (by kernel_rfl) rfl (by kernel_rfl) ?_; have H9 := Aside0.mk (H8.out.setRow 4 rfl #[.int .i64 0, .string ⟨#[]⟩])))
    refine bodyPost_ret (results_cct rfl _ _ (w.heap.size + 1 + 1 + 1) (w.heap.size + 1 + 1 + 1 + 1) 31 40 (hwC (.slice A n d) (.slice B m c) r) #[.int .i64 0, .string ⟨#[]⟩] (0, 0) (0, 0) _ _ rfl (H9.out.blk 3 rfl) Try.underlying31 rfl (by kernel_rfl) rfl (H9.out.blk 4 rfl) Try.underlying40 rfl (by kernel_rfl)) rfl ?_
    exact ⟨A, d, hs, B, c, rfl, H9.out.done' ((H9.out.sureNew 0 rfl).and (H9.out.sureNew 1 rfl))⟩
set_option maxRecDepth 100000 in
set_option maxHeartbeats 16000000 in
theorem do_cutG {A : Option Addr} {n d : Nat} {hs : List Hdr} {bk : List (List Int)} {B : Option Addr} {m c : Nat} {fl : List ByteArray} {w : World} {S : Nat → Prop} {r : Nat → Int} (bank cell : Int) (b : ByteArray) (fb : Int) (noise : Bool) (hd : ∀ k, S k → k < w.heap.size) (hF : Sure S w (fun w => Fu w A n d hs bk)) (hL : Sure S w (fun w => Fl w B m c fl)) (bk1 : List (List Int)) (fl1 : List ByteArray) (v : Int) (s : ByteArray) (kd : Int) (hK1 : 1 ≤ kd) (hK4 : kd ≤ 4) (fv fr : Nat) (hfv : accs[kd.toNat * 2]? = some (.func (.func fv) #[] #[])) (hfr : accs[kd.toNat * 2 + 1]? = some (.func (.func fr) #[] #[])) (hev : ∀ (xs : Array Value) (w : World), (callFunc fv xs).run Try.prog w = .ok (.enter fv xs) w) (her : ∀ (xs : Array Value) (w : World), (callFunc fr xs).run Try.prog w = .ok (.enter fr xs) w) (hval : ∀ w, Calls Try.prog fv #[.agg #[.int .i64 kd, .int .i64 bank, .int .i64 cell, .string b]] w fun e w' => e = .returned (.bool true) ∧ Below w.heap.size w w') (hrun : ∀ (w0 w1 : World) (S : Nat → Prop) (ds : List (World → Prop)) (os : List Blk) {g : Nat}, St w0 S ds os w1 → os[6]? = some (g, hwC (.slice A n d) (.slice B m c) r, 31) → ds[0]? = some (fun w => Fu w A n d hs bk) → ds[1]? = some (fun w => Fl w B m c fl) → Calls Try.prog fr #[.pointer (some ⟨g, 0, none⟩), .agg #[.int .i64 kd, .int .i64 bank, .int .i64 cell, .string b], .agg #[.bool true, .int .i64 fb, .bool noise]] w1 (RunOk w0 S ds os 6 g n m r bk1 fl1 v s w1)) :
    Calls Try.prog 10 #[.agg (hwC (.slice A n d) (.slice B m c) r), .agg #[.int .i64 kd, .int .i64 bank, .int .i64 cell, .string b], .agg #[.bool true, .int .i64 fb, .bool noise]] w (DoRes S n m r bk1 fl1 0 ⟨#[]⟩ 0 w) := by
  have H0 := Aside0.mk ((St.enter2 hd hF hL).alloc5 (hwC (.slice A n d) (.slice B m c) r) 31 #[.int .i64 kd, .int .i64 bank, .int .i64 cell, .string b] 33 #[.bool true, .int .i64 fb, .bool noise] 35 #[.slice none 0 0, .slice none 0 0, .int .u8 0, .int .u8 0, .int .u8 0, .int .u8 0, .int .u8 0, .int .u8 0, .int .u8 0, .int .u8 0, .int .u8 0, .int .u8 0, .int .u8 0, .int .u8 0, .int .u8 0, .int .u8 0, .int .u8 0, .int .u8 0] 31 #[.int .i64 0, .string ⟨#[]⟩] 40)
  have VAL := Aside0.mk hval
  have RUN := Aside0.mk hrun
  clear hval hrun
  go_enter Try.func10, Try.ntmps10
  go_wp2_with (first | (go_at_call 22; refine (accesses_any _).mono ?_; rintro e w1 ⟨rfl, hb⟩; have H1 := Aside0.mk (H0.out.step hb); clear hb) | (refine storeRowL_ (ty := 65) rfl rfl rfl _ _ _ accs rfl rfl (heap_alloc_new _ _) (by kernel_rfl) rfl (by kernel_rfl) ?_; have H2 := Aside0.mk ((H1.out.alloc #[.nilFunc, .nilFunc, .nilFunc, .nilFunc, .nilFunc, .nilFunc, .nilFunc, .nilFunc, .nilFunc, .nilFunc] 65).setRow 5 rfl accs)))
  have k1 : ¬ kd < 1 := by omega
  have k5 : ¬ 5 ≤ kd := by omega
  have k6 : kd < 5 := by omega
  have k7 : 0 ≤ kd := by omega
  refine start_ (n := 18) (S := (fun w' => w'.cell? ⟨w.heap.size + 1, 0, none⟩ = some (.int .i64 kd) ∧ w'.cell? ⟨w.heap.size + 1, 1, none⟩ = some (.int .i64 bank) ∧ w'.cell? ⟨w.heap.size + 1, 2, none⟩ = some (.int .i64 cell) ∧ w'.cell? ⟨w.heap.size + 1, 3, none⟩ = some (.string b) ∧ w'.cell? ⟨w1.heap.size, kd.toNat * 2, none⟩ = some (.func (.func fv) #[] #[]))) (ds := []) #[false, false, false, false, false, false, false, false, false, false, false, false, false, false, false, false, false, false] (by kernel_rfl) rfl rfl ⟨H2.out.drew.cell 1 rfl 0 rfl, H2.out.drew.cell 1 rfl 1 rfl, H2.out.drew.cell 1 rfl 2 rfl, H2.out.drew.cell 1 rfl 3 rfl, H2.out.drew.cell 5 rfl (kd.toNat * 2) hfv⟩ (fun hHeld => ?_)
  refine pure_ (i := 0) (N := (some 14)) (v := ?_) (a' := ?_) #[true, false, false, false, false, false, false, false, false, false, false, false, false, false, false, false, false, false] rfl rfl (by kernel_rfl) (fun _ _ _ h => h) (Or.inl ⟨by rfl, ?_⟩) ?_ ?_
  rotate_left
  · intro w'
    go_simp
    try with_reducible rfl
  rotate_left
  · simp only [Act.put, List.setIfInBounds_toArray, List.set_cons_zero, List.set_cons_succ, i64_w, i32_w]
    rfl
  refine take_ (i := 1) (N := (some 15)) (v := ?_) (a' := ?_) #[true, true, false, false, false, false, false, false, false, false, false, false, false, false, false, false, false, false] rfl rfl (by kernel_rfl) (fun _ _ _ h => h) (Or.inl ⟨by rfl, ?_⟩) hHeld ?_ ?_
  rotate_left
  · rintro w' ⟨s0, s1, s2, s3, s4⟩
    go_simp
    try with_reducible rfl
  rotate_left
  · simp only [Act.put, List.setIfInBounds_toArray, List.set_cons_zero, List.set_cons_succ, i64_w, i32_w]
    rfl
  refine pure_ (i := 2) (N := (some 16)) (v := ?_) (a' := ?_) #[true, true, true, false, false, false, false, false, false, false, false, false, false, false, false, false, false, false] rfl rfl (by kernel_rfl) (fun _ _ _ h => h) (Or.inl ⟨by rfl, ?_⟩) ?_ ?_
  rotate_left
  · intro w'
    go_simp
    try with_reducible rfl
  rotate_left
  · simp only [Act.put, List.setIfInBounds_toArray, List.set_cons_zero, List.set_cons_succ, i64_w, i32_w]
    rfl
  refine pure_ (i := 3) (N := (some 17)) (v := ?_) (a' := ?_) #[true, true, true, true, false, false, false, false, false, false, false, false, false, false, false, false, false, false] rfl rfl (by kernel_rfl) (fun _ _ _ h => h) (Or.inl ⟨by rfl, ?_⟩) ?_ ?_
  rotate_left
  · intro w'
    go_simp
    try with_reducible rfl
  rotate_left
  · simp only [Act.put, List.setIfInBounds_toArray, List.set_cons_zero, List.set_cons_succ, i64_w, i32_w]
    rfl
  refine pure_ (i := 4) (N := (some 18)) (v := ?_) (a' := ?_) #[true, true, true, true, true, false, false, false, false, false, false, false, false, false, false, false, false, false] rfl rfl (by kernel_rfl) (fun _ _ _ h => h) (Or.inl ⟨by rfl, ?_⟩) ?_ ?_
  rotate_left
  · intro w'
    go_simp
    try with_reducible rfl
  rotate_left
  · simp only [Act.put, List.setIfInBounds_toArray, List.set_cons_zero, List.set_cons_succ, i64_w, i32_w]
    rfl
  refine take_ (i := 5) (N := (some 19)) (v := ?_) (a' := ?_) #[true, true, true, true, true, true, false, false, false, false, false, false, false, false, false, false, false, false] rfl rfl (by kernel_rfl) (fun _ _ _ h => h) (Or.inl ⟨by rfl, ?_⟩) hHeld ?_ ?_
  rotate_left
  · rintro w' ⟨s0, s1, s2, s3, s4⟩
    go_simp
    try with_reducible rfl
  rotate_left
  · simp only [Act.put, List.setIfInBounds_toArray, List.set_cons_zero, List.set_cons_succ, i64_w, i32_w]
    rfl
  refine pure_ (i := 6) (N := (some 20)) (v := ?_) (a' := ?_) #[true, true, true, true, true, true, true, false, false, false, false, false, false, false, false, false, false, false] rfl rfl (by kernel_rfl) (fun _ _ _ h => h) (Or.inl ⟨by rfl, ?_⟩) ?_ ?_
  rotate_left
  · intro w'
    go_simp
    try with_reducible rfl
  rotate_left
  · simp only [Act.put, List.setIfInBounds_toArray, List.set_cons_zero, List.set_cons_succ, i64_w, i32_w]
    rfl
  refine pure_ (i := 7) (N := (some 21)) (v := ?_) (a' := ?_) #[true, true, true, true, true, true, true, true, false, false, false, false, false, false, false, false, false, false] rfl rfl (by kernel_rfl) (fun _ _ _ h => h) (Or.inl ⟨by rfl, ?_⟩) ?_ ?_
  rotate_left
  · intro w'
    go_simp
    try with_reducible rfl
  rotate_left
  · simp only [Act.put, List.setIfInBounds_toArray, List.set_cons_zero, List.set_cons_succ, i64_w, i32_w]
    rfl
  refine pure_ (i := 8) (N := (some 22)) (v := ?_) (a' := ?_) #[true, true, true, true, true, true, true, true, true, false, false, false, false, false, false, false, false, false] rfl rfl (by kernel_rfl) (fun _ _ _ h => h) (Or.inl ⟨by rfl, ?_⟩) ?_ ?_
  rotate_left
  · intro w'
    go_simp
    try with_reducible rfl
  rotate_left
  · simp only [Act.put, List.setIfInBounds_toArray, List.set_cons_zero, List.set_cons_succ, i64_w, i32_w]
    rfl
  refine pure_ (i := 9) (N := (some 23)) (v := ?_) (a' := ?_) #[true, true, true, true, true, true, true, true, true, true, false, false, false, false, false, false, false, false] rfl rfl (by kernel_rfl) (fun _ _ _ h => h) (Or.inl ⟨by rfl, ?_⟩) ?_ ?_
  rotate_left
  · intro w'
    go_simp
    try with_reducible rfl
  rotate_left
  · simp only [Act.put, List.setIfInBounds_toArray, List.set_cons_zero, List.set_cons_succ, i64_w, i32_w]
    rfl
  refine take_ (i := 10) (N := (some 24)) (v := ?_) (a' := ?_) #[true, true, true, true, true, true, true, true, true, true, true, false, false, false, false, false, false, false] rfl rfl (by kernel_rfl) (fun _ _ _ h => h) (Or.inl ⟨by rfl, ?_⟩) hHeld ?_ ?_
  rotate_left
  · rintro w' ⟨s0, s1, s2, s3, s4⟩
    go_simp
    try with_reducible rfl
  rotate_left
  · simp only [Act.put, List.setIfInBounds_toArray, List.set_cons_zero, List.set_cons_succ, i64_w, i32_w]
    rfl
  refine pure_ (i := 11) (N := (some 25)) (v := ?_) (a' := ?_) #[true, true, true, true, true, true, true, true, true, true, true, true, false, false, false, false, false, false] rfl rfl (by kernel_rfl) (fun _ _ _ h => h) (Or.inl ⟨by rfl, ?_⟩) ?_ ?_
  rotate_left
  · intro w'
    go_simp
    try with_reducible rfl
  rotate_left
  · simp only [Act.put, List.setIfInBounds_toArray, List.set_cons_zero, List.set_cons_succ, i64_w, i32_w]
    rfl
  refine pure_ (i := 12) (N := (some 26)) (v := ?_) (a' := ?_) #[true, true, true, true, true, true, true, true, true, true, true, true, true, false, false, false, false, false] rfl rfl (by kernel_rfl) (fun _ _ _ h => h) (Or.inl ⟨by rfl, ?_⟩) ?_ ?_
  rotate_left
  · intro w'
    go_simp
    try with_reducible rfl
  rotate_left
  · simp only [Act.put, List.setIfInBounds_toArray, List.set_cons_zero, List.set_cons_succ, i64_w, i32_w]
    rfl
  refine take_ (i := 13) (N := (some 27)) (v := ?_) (a' := ?_) #[true, true, true, true, true, true, true, true, true, true, true, true, true, true, false, false, false, false] rfl rfl (by kernel_rfl) (fun _ _ _ h => h) (Or.inl ⟨by rfl, ?_⟩) hHeld ?_ ?_
  rotate_left
  · rintro w' ⟨s0, s1, s2, s3, s4⟩
    go_simp
    try with_reducible rfl
  rotate_left
  · simp only [Act.put, List.setIfInBounds_toArray, List.set_cons_zero, List.set_cons_succ, i64_w, i32_w]
    rfl
  refine take_ (i := 14) (N := (some 28)) (v := ?_) (a' := ?_) #[true, true, true, true, true, true, true, true, true, true, true, true, true, true, true, false, false, false] rfl rfl (by kernel_rfl) (fun _ _ _ h => h) (Or.inl ⟨by rfl, ?_⟩) hHeld ?_ ?_
  rotate_left
  · rintro w' ⟨s0, s1, s2, s3, s4⟩
    go_simp
    try with_reducible rfl
  rotate_left
  · simp only [Act.put, List.setIfInBounds_toArray, List.set_cons_zero, List.set_cons_succ, i64_w, i32_w]
    rfl
  refine one_ (i := 15) (N := (some 29)) #[true, true, true, true, true, true, true, true, true, true, true, true, true, true, true, true, false, false] rfl rfl (by kernel_rfl) (by decide) (fun K hK => ?_)
  refine call_ fv #[.agg #[.int .i64 kd, .int .i64 bank, .int .i64 cell, .string b]] (by rfl) rfl ?hrun ((VAL.out _).mono ?_)
  case hrun => go_simp; (try simp only [hev, her, Result.andThen_ok])
  rintro e w3 ⟨rfl, hb⟩
  refine ⟨_, rfl, ?_⟩
  have H3 := Aside0.mk (H2.out.drew.step hb)
  clear hb
  refine hK.out _ _ ⟨H3.out.cell 1 rfl 0 rfl, H3.out.cell 1 rfl 1 rfl, H3.out.cell 1 rfl 2 rfl, H3.out.cell 1 rfl 3 rfl, H3.out.cell 5 rfl (kd.toNat * 2) hfv⟩ (fun hHeld => ?_)
  clear hK K
  refine norm_ (a' := ?_) ?_ ?_
  rotate_left
  · show Act.put _ (some 29) _ = _
    simp only [Act.put, List.setIfInBounds_toArray, List.set_cons_zero, List.set_cons_succ, i64_w, i32_w]
    rfl
  refine pure_ (i := 16) (N := (some 30)) (v := ?_) (a' := ?_) #[true, true, true, true, true, true, true, true, true, true, true, true, true, true, true, true, true, false] rfl rfl (by kernel_rfl) (fun _ _ _ h => h) (Or.inl ⟨by rfl, ?_⟩) ?_ ?_
  rotate_left
  · intro w'
    go_simp
    try with_reducible rfl
  rotate_left
  · simp only [Act.put, List.setIfInBounds_toArray, List.set_cons_zero, List.set_cons_succ, i64_w, i32_w]
    rfl
  refine pure_ (i := 17) (N := (some 31)) (v := ?_) (a' := ?_) #[true, true, true, true, true, true, true, true, true, true, true, true, true, true, true, true, true, true] rfl rfl (by kernel_rfl) (fun _ _ _ h => h) (Or.inl ⟨by rfl, ?_⟩) ?_ ?_
  rotate_left
  · intro w'
    go_simp
    try with_reducible rfl
  rotate_left
  · simp only [Act.put, List.setIfInBounds_toArray, List.set_cons_zero, List.set_cons_succ, i64_w, i32_w]
    rfl
  refine done_ (by kernel_rfl) ?_
  go_wp2_with (first | (refine loadRowL_ (ty := 31) _ rfl rfl rfl _ _ _ _ _ rfl (H3.out.blk 0 rfl) Try.underlying31 rfl (by kernel_rfl) ?_) | (refine storeRowL_ (ty := 31) rfl rfl rfl _ _ _ (hwC (.slice A n d) (.slice B m c) r) rfl rfl (heap_alloc_new _ _) (by kernel_rfl) rfl (by kernel_rfl) ?_; have H4 := Aside0.mk ((H3.out.alloc #[.slice none 0 0, .slice none 0 0, .int .u8 0, .int .u8 0, .int .u8 0, .int .u8 0, .int .u8 0, .int .u8 0, .int .u8 0, .int .u8 0, .int .u8 0, .int .u8 0, .int .u8 0, .int .u8 0, .int .u8 0, .int .u8 0, .int .u8 0, .int .u8 0] 31).setRow 6 rfl (hwC (.slice A n d) (.slice B m c) r))))
  have k1 : ¬ kd < 1 := by omega
  have k5 : ¬ 5 ≤ kd := by omega
  have k6 : kd < 5 := by omega
  have k7 : 0 ≤ kd := by omega
  refine start_ (n := 14) (S := (fun w' => w'.cell? ⟨w.heap.size + 1, 0, none⟩ = some (.int .i64 kd) ∧ w'.cell? ⟨w.heap.size + 1, 1, none⟩ = some (.int .i64 bank) ∧ w'.cell? ⟨w.heap.size + 1, 2, none⟩ = some (.int .i64 cell) ∧ w'.cell? ⟨w.heap.size + 1, 3, none⟩ = some (.string b) ∧ w'.cell? ⟨w.heap.size + 1 + 1, 0, none⟩ = some (.bool true) ∧ w'.cell? ⟨w.heap.size + 1 + 1, 1, none⟩ = some (.int .i64 fb) ∧ w'.cell? ⟨w.heap.size + 1 + 1, 2, none⟩ = some (.bool noise) ∧ w'.cell? ⟨w1.heap.size, kd.toNat * 2 + 1, none⟩ = some (.func (.func fr) #[] #[]))) (ds := []) #[false, false, false, false, false, false, false, false, false, false, false, false, false, false] (by kernel_rfl) rfl rfl ⟨H4.out.drew.cell 1 rfl 0 rfl, H4.out.drew.cell 1 rfl 1 rfl, H4.out.drew.cell 1 rfl 2 rfl, H4.out.drew.cell 1 rfl 3 rfl, H4.out.drew.cell 2 rfl 0 rfl, H4.out.drew.cell 2 rfl 1 rfl, H4.out.drew.cell 2 rfl 2 rfl, H4.out.drew.cell 5 rfl (kd.toNat * 2 + 1) hfr⟩ (fun hHeld => ?_)
  refine pure_ (i := 0) (N := (some 36)) (v := ?_) (a' := ?_) #[true, false, false, false, false, false, false, false, false, false, false, false, false, false] rfl rfl (by kernel_rfl) (fun _ _ _ h => h) (Or.inl ⟨by rfl, ?_⟩) ?_ ?_
  rotate_left
  · intro w'
    go_simp
    try with_reducible rfl
  rotate_left
  · simp only [Act.put, List.setIfInBounds_toArray, List.set_cons_zero, List.set_cons_succ, i64_w, i32_w]
    rfl
  refine take_ (i := 1) (N := (some 37)) (v := ?_) (a' := ?_) #[true, true, false, false, false, false, false, false, false, false, false, false, false, false] rfl rfl (by kernel_rfl) (fun _ _ _ h => h) (Or.inl ⟨by rfl, ?_⟩) hHeld ?_ ?_
  rotate_left
  · rintro w' ⟨s0, s1, s2, s3, s4, s5, s6, s7⟩
    go_simp
    try with_reducible rfl
  rotate_left
  · simp only [Act.put, List.setIfInBounds_toArray, List.set_cons_zero, List.set_cons_succ, i64_w, i32_w]
    rfl
  refine pure_ (i := 2) (N := (some 38)) (v := ?_) (a' := ?_) #[true, true, true, false, false, false, false, false, false, false, false, false, false, false] rfl rfl (by kernel_rfl) (fun _ _ _ h => h) (Or.inl ⟨by rfl, ?_⟩) ?_ ?_
  rotate_left
  · intro w'
    go_simp
    try with_reducible rfl
  rotate_left
  · simp only [Act.put, List.setIfInBounds_toArray, List.set_cons_zero, List.set_cons_succ, i64_w, i32_w]
    rfl
  refine pure_ (i := 3) (N := (some 39)) (v := ?_) (a' := ?_) #[true, true, true, true, false, false, false, false, false, false, false, false, false, false] rfl rfl (by kernel_rfl) (fun _ _ _ h => h) (Or.inl ⟨by rfl, ?_⟩) ?_ ?_
  rotate_left
  · intro w'
    go_simp
    try with_reducible rfl
  rotate_left
  · simp only [Act.put, List.setIfInBounds_toArray, List.set_cons_zero, List.set_cons_succ, i64_w, i32_w]
    rfl
  refine take_ (i := 4) (N := (some 40)) (v := ?_) (a' := ?_) #[true, true, true, true, true, false, false, false, false, false, false, false, false, false] rfl rfl (by kernel_rfl) (fun _ _ _ h => h) (Or.inl ⟨by rfl, ?_⟩) hHeld ?_ ?_
  rotate_left
  · rintro w' ⟨s0, s1, s2, s3, s4, s5, s6, s7⟩
    go_simp
    try with_reducible rfl
  rotate_left
  · simp only [Act.put, List.setIfInBounds_toArray, List.set_cons_zero, List.set_cons_succ, i64_w, i32_w]
    rfl
  refine take_ (i := 5) (N := (some 41)) (v := ?_) (a' := ?_) #[true, true, true, true, true, true, false, false, false, false, false, false, false, false] rfl rfl (by kernel_rfl) (fun _ _ _ h => h) (Or.inl ⟨by rfl, ?_⟩) hHeld ?_ ?_
  rotate_left
  · rintro w' ⟨s0, s1, s2, s3, s4, s5, s6, s7⟩
    go_simp
    try with_reducible rfl
  rotate_left
  · simp only [Act.put, List.setIfInBounds_toArray, List.set_cons_zero, List.set_cons_succ, i64_w, i32_w]
    rfl
  refine take_ (i := 6) (N := (some 42)) (v := ?_) (a' := ?_) #[true, true, true, true, true, true, true, false, false, false, false, false, false, false] rfl rfl (by kernel_rfl) (fun _ _ _ h => h) (Or.inl ⟨by rfl, ?_⟩) hHeld ?_ ?_
  rotate_left
  · rintro w' ⟨s0, s1, s2, s3, s4, s5, s6, s7⟩
    go_simp
    try with_reducible rfl
  rotate_left
  · simp only [Act.put, List.setIfInBounds_toArray, List.set_cons_zero, List.set_cons_succ, i64_w, i32_w]
    rfl
  refine two_ (i := 7) (j := 11) (Ni := (some 43)) (Nj := (some 11)) #[true, true, true, true, true, true, true, true, false, false, false, false, false, false] #[true, true, true, true, true, true, true, false, false, false, false, true, false, false] rfl rfl rfl rfl (by kernel_rfl) (by decide) (by decide) (fun K hK => ?_) (fun K hK => ?_)
  ·
    refine call_ fr #[.pointer (some ⟨w3.heap.size, 0, none⟩), .agg #[.int .i64 kd, .int .i64 bank, .int .i64 cell, .string b], .agg #[.bool true, .int .i64 fb, .bool noise]] (by rfl) rfl ?hrun ((RUN.out _ _ _ _ _ H4.out.drew rfl rfl rfl).mono ?_)
    case hrun => go_simp; (try simp only [hev, her, Result.andThen_ok])
    rintro e w5 ⟨S1, A1, c1, hs1, B1, d1, rfl, hS1, hb⟩
    refine ⟨_, rfl, ?_⟩
    have H5 := Aside0.mk hb
    have HS := Aside0.mk (fun k hk => (hS1 k hk).imp id (fun h => Nat.le_trans H4.out.drew.bel.size h) : ∀ k, S1 k → S k ∨ w.heap.size ≤ k)
    clear hb hS1
    refine hK.out _ _ ⟨H5.out.cell 1 rfl 0 rfl, H5.out.cell 1 rfl 1 rfl, H5.out.cell 1 rfl 2 rfl, H5.out.cell 1 rfl 3 rfl, H5.out.cell 2 rfl 0 rfl, H5.out.cell 2 rfl 1 rfl, H5.out.cell 2 rfl 2 rfl, H5.out.cell 5 rfl (kd.toNat * 2 + 1) hfr⟩ (fun hHeld => ?_)
    clear hK K
    refine norm_ (a' := ?_) ?_ ?_
    rotate_left
    · show Act.put _ (some 43) _ = _
      simp only [Act.put, List.setIfInBounds_toArray, List.set_cons_zero, List.set_cons_succ, i64_w, i32_w]
      rfl
    refine pure_ (i := 8) (N := (some 35)) (v := ?_) (a' := ?_) #[true, true, true, true, true, true, true, true, true, false, false, false, false, false] rfl rfl (by kernel_rfl) (fun _ _ _ h => h) (Or.inl ⟨by rfl, ?_⟩) ?_ ?_
    rotate_left
    · intro w'
      go_simp
      try with_reducible rfl
    rotate_left
    · simp only [Act.put, List.setIfInBounds_toArray, List.set_cons_zero, List.set_cons_succ, i64_w, i32_w]
      rfl
    refine pure_ (i := 9) (N := (some 44)) (v := ?_) (a' := ?_) #[true, true, true, true, true, true, true, true, true, true, false, false, false, false] rfl rfl (by kernel_rfl) (fun _ _ _ h => h) (Or.inl ⟨by rfl, ?_⟩) ?_ ?_
    rotate_left
    · intro w'
      go_simp
      try with_reducible rfl
    rotate_left
    · simp only [Act.put, List.setIfInBounds_toArray, List.set_cons_zero, List.set_cons_succ, i64_w, i32_w]
      rfl
    refine pure_ (i := 10) (N := (some 45)) (v := ?_) (a' := ?_) #[true, true, true, true, true, true, true, true, true, true, true, false, false, false] rfl rfl (by kernel_rfl) (fun _ _ _ h => h) (Or.inl ⟨by rfl, ?_⟩) ?_ ?_
    rotate_left
    · intro w'
      go_simp
      try with_reducible rfl
    rotate_left
    · simp only [Act.put, List.setIfInBounds_toArray, List.set_cons_zero, List.set_cons_succ, i64_w, i32_w]
      rfl
    refine one_ (i := 11) (N := (some 11)) #[true, true, true, true, true, true, true, true, true, true, true, true, false, false] rfl rfl (by kernel_rfl) (by decide) (fun K hK => ?_)
    refine value_ (w1 := ?_) (v := ?_) (by rfl) rfl ?_ ?_
    rotate_left 2
    · go_simp
      constructor
      · rfl
      · rfl
    have H6 := Aside0.mk (H5.out.alloc #[.int .i64 0, .string ⟨#[]⟩] 40)
    refine hK.out _ _ ⟨H6.out.cell 1 rfl 0 rfl, H6.out.cell 1 rfl 1 rfl, H6.out.cell 1 rfl 2 rfl, H6.out.cell 1 rfl 3 rfl, H6.out.cell 2 rfl 0 rfl, H6.out.cell 2 rfl 1 rfl, H6.out.cell 2 rfl 2 rfl, H6.out.cell 5 rfl (kd.toNat * 2 + 1) hfr⟩ (fun hHeld => ?_)
    clear hK K
    refine norm_ (a' := ?_) ?_ ?_
    rotate_left
    · show Act.put _ (some 11) _ = _
      simp only [Act.put, List.setIfInBounds_toArray, List.set_cons_zero, List.set_cons_succ, i64_w, i32_w]
      rfl
    refine one_ (i := 12) (N := none) #[true, true, true, true, true, true, true, true, true, true, true, true, true, false] rfl rfl (by kernel_rfl) (by decide) (fun K hK => ?_)
    refine skip_ (by rfl) rfl (store_row (ty := 40) (p := .tmp 11) (q := .tmp 44) _ _ _ #[.int .i64 v, .string s] rfl rfl rfl (H6.out.blk 7 rfl) (by kernel_rfl) rfl (by kernel_rfl)) ?_
    have H7 := Aside0.mk (H6.out.setRow 7 rfl #[.int .i64 v, .string s])
    refine hK.out _ _ ⟨H7.out.cell 1 rfl 0 rfl, H7.out.cell 1 rfl 1 rfl, H7.out.cell 1 rfl 2 rfl, H7.out.cell 1 rfl 3 rfl, H7.out.cell 2 rfl 0 rfl, H7.out.cell 2 rfl 1 rfl, H7.out.cell 2 rfl 2 rfl, H7.out.cell 5 rfl (kd.toNat * 2 + 1) hfr⟩ (fun hHeld => ?_)
    clear hK K
    refine pure_ (i := 13) (N := (some 12)) (v := ?_) (a' := ?_) #[true, true, true, true, true, true, true, true, true, true, true, true, true, true] rfl rfl (by kernel_rfl) (fun _ _ _ h => h) (Or.inl ⟨by rfl, ?_⟩) ?_ ?_
    rotate_left
    · intro w'
      go_simp
      try with_reducible rfl
    rotate_left
    · simp only [Act.put, List.setIfInBounds_toArray, List.set_cons_zero, List.set_cons_succ, i64_w, i32_w]
      rfl
    refine done_ (by kernel_rfl) ?_
    have k2 := H7.out.cell 2 rfl 0 rfl
    go_wp2_with (first | (refine storeRowL_ (ty := 40) rfl rfl rfl _ _ _ #[.int .i64 0, .string ⟨#[]⟩] rfl rfl (H7.out.blk 7 rfl) (by kernel_rfl) rfl (by kernel_rfl) ?_; have H8 := Aside0.mk (H7.out.setRow 7 rfl #[.int .i64 0, .string ⟨#[]⟩])))
    clear k2
    have k1 : ¬ kd < 1 := by omega
    have k5 : ¬ 5 ≤ kd := by omega
    have k6 : kd < 5 := by omega
    have k7 : 0 ≤ kd := by omega
    refine start_ (n := 5) (S := (fun w' => w'.heap[w3.heap.size]? = some (.cells (hwC (.slice A1 n c1) (.slice B1 m d1) r) 31) ∧ w'.heap[w5.heap.size]? = some (.cells #[.int .i64 0, .string ⟨#[]⟩] 40))) (ds := []) #[false, false, false, false, false] (by kernel_rfl) rfl rfl ⟨H8.out.drew.blk 6 rfl, H8.out.drew.blk 7 rfl⟩ (fun hHeld => ?_)
    refine take_ (i := 0) (N := (some 54)) (v := ?_) (a' := ?_) #[true, false, false, false, false] rfl rfl (by kernel_rfl) (fun _ _ _ h => h) (Or.inl ⟨by rfl, ?_⟩) hHeld ?_ ?_
    rotate_left
    · rintro w' ⟨s0, s1⟩
      refine load_row (ty := 31) (p := .tmp 10) _ _ _ _ _ ?p1 ?p2 s0 Try.underlying31 ?p4 ?p5; (case p1 => rfl); (case p2 => rfl); (case p4 => rfl); (case p5 => kernel_rfl)
    rotate_left
    · simp only [Act.put, List.setIfInBounds_toArray, List.set_cons_zero, List.set_cons_succ, i64_w, i32_w]
      rfl
    refine take_ (i := 1) (N := (some 55)) (v := ?_) (a' := ?_) #[true, true, false, false, false] rfl rfl (by kernel_rfl) (fun _ _ _ h => h) (Or.inl ⟨by rfl, ?_⟩) hHeld ?_ ?_
    rotate_left
    · rintro w' ⟨s0, s1⟩
      refine load_row (ty := 40) (p := .tmp 11) _ _ _ _ _ ?p1 ?p2 s1 Try.underlying40 ?p4 ?p5; (case p1 => rfl); (case p2 => rfl); (case p4 => rfl); (case p5 => kernel_rfl)
    rotate_left
    · simp only [Act.put, List.setIfInBounds_toArray, List.set_cons_zero, List.set_cons_succ, i64_w, i32_w]
      rfl
    refine one_ (i := 2) (N := none) #[true, true, true, false, false] rfl rfl (by kernel_rfl) (by decide) (fun K hK => ?_)
    refine skip_ (by rfl) rfl (store_row (ty := 31) (p := .tmp 6) (q := .tmp 54) _ _ _ (hwC (.slice A1 n c1) (.slice B1 m d1) r) rfl rfl rfl (H8.out.drew.blk 3 rfl) (by kernel_rfl) rfl (by kernel_rfl)) ?_
    have H9 := Aside0.mk (H8.out.drew.setRow 3 rfl (hwC (.slice A1 n c1) (.slice B1 m d1) r))
    refine hK.out _ _ ⟨H9.out.blk 6 rfl, H9.out.blk 7 rfl⟩ (fun hHeld => ?_)
    clear hK K
    refine one_ (i := 3) (N := none) #[true, true, true, true, false] rfl rfl (by kernel_rfl) (by decide) (fun K hK => ?_)
    refine skip_ (by rfl) rfl (store_row (ty := 40) (p := .tmp 7) (q := .tmp 55) _ _ _ #[.int .i64 0, .string ⟨#[]⟩] rfl rfl rfl (H9.out.blk 4 rfl) (by kernel_rfl) rfl (by kernel_rfl)) ?_
    have H10 := Aside0.mk (H9.out.setRow 4 rfl #[.int .i64 0, .string ⟨#[]⟩])
    refine hK.out _ _ ⟨H10.out.blk 6 rfl, H10.out.blk 7 rfl⟩ (fun hHeld => ?_)
    clear hK K
    refine pure_ (i := 4) (N := (some 8)) (v := ?_) (a' := ?_) #[true, true, true, true, true] rfl rfl (by kernel_rfl) (fun _ _ _ h => h) (Or.inl ⟨by rfl, ?_⟩) ?_ ?_
    rotate_left
    · intro w'
      go_simp
      try with_reducible rfl
    rotate_left
    · simp only [Act.put, List.setIfInBounds_toArray, List.set_cons_zero, List.set_cons_succ, i64_w, i32_w]
      rfl
    refine done_ (by kernel_rfl) ?_
    go_wp2
    refine bodyPost_ret (results_cct rfl _ _ (w.heap.size + 1 + 1 + 1) (w.heap.size + 1 + 1 + 1 + 1) 31 40 (hwC (.slice A1 n c1) (.slice B1 m d1) r) #[.int .i64 0, .string ⟨#[]⟩] (0, 0) (0, 0) _ _ rfl (H10.out.blk 3 rfl) Try.underlying31 rfl (by kernel_rfl) rfl (H10.out.blk 4 rfl) Try.underlying40 rfl (by kernel_rfl)) rfl ?_
    exact ⟨A1, c1, hs1, B1, d1, rfl, H10.out.done (H10.out.sureNew 0 rfl) HS.out⟩
  ·
    refine value_ (w1 := ?_) (v := ?_) (by rfl) rfl ?_ ?_
    rotate_left 2
    · go_simp
      constructor
      · rfl
      · rfl
    have Ha := Aside0.mk (H4.out.drew.alloc_ (q := w3.heap.size + 1) (by simp) #[.int .i64 0, .string ⟨#[]⟩] 40)
    refine hK.out _ _ ⟨Ha.out.cell 1 rfl 0 rfl, Ha.out.cell 1 rfl 1 rfl, Ha.out.cell 1 rfl 2 rfl, Ha.out.cell 1 rfl 3 rfl, Ha.out.cell 2 rfl 0 rfl, Ha.out.cell 2 rfl 1 rfl, Ha.out.cell 2 rfl 2 rfl, Ha.out.cell 5 rfl (kd.toNat * 2 + 1) hfr⟩ (fun hHeld => ?_)
    clear hK K
    refine norm_ (a' := ?_) ?_ ?_
    rotate_left
    · show Act.put _ (some 11) _ = _
      simp only [Act.put, List.setIfInBounds_toArray, List.set_cons_zero, List.set_cons_succ, i64_w, i32_w]
      rfl
    refine one_ (i := 7) (N := (some 43)) #[true, true, true, true, true, true, true, true, false, false, false, true, false, false] rfl rfl (by kernel_rfl) (by decide) (fun K hK => ?_)
    refine call_ fr #[.pointer (some ⟨w3.heap.size, 0, none⟩), .agg #[.int .i64 kd, .int .i64 bank, .int .i64 cell, .string b], .agg #[.bool true, .int .i64 fb, .bool noise]] (by rfl) rfl ?hrun ((RUN.out _ _ _ _ _ Ha.out rfl rfl rfl).mono ?_)
    case hrun => go_simp; (try simp only [hev, her, Result.andThen_ok])
    rintro e w5 ⟨S1, A1, c1, hs1, B1, d1, rfl, hS1, hb⟩
    refine ⟨_, rfl, ?_⟩
    have H6 := Aside0.mk hb
    have HS := Aside0.mk (fun k hk => (hS1 k hk).imp id (fun h => Nat.le_trans Ha.out.bel.size h) : ∀ k, S1 k → S k ∨ w.heap.size ≤ k)
    clear hb hS1
    refine hK.out _ _ ⟨H6.out.cell 1 rfl 0 rfl, H6.out.cell 1 rfl 1 rfl, H6.out.cell 1 rfl 2 rfl, H6.out.cell 1 rfl 3 rfl, H6.out.cell 2 rfl 0 rfl, H6.out.cell 2 rfl 1 rfl, H6.out.cell 2 rfl 2 rfl, H6.out.cell 5 rfl (kd.toNat * 2 + 1) hfr⟩ (fun hHeld => ?_)
    clear hK K
    refine norm_ (a' := ?_) ?_ ?_
    rotate_left
    · show Act.put _ (some 43) _ = _
      simp only [Act.put, List.setIfInBounds_toArray, List.set_cons_zero, List.set_cons_succ, i64_w, i32_w]
      rfl
    refine pure_ (i := 8) (N := (some 35)) (v := ?_) (a' := ?_) #[true, true, true, true, true, true, true, true, true, false, false, true, false, false] rfl rfl (by kernel_rfl) (fun _ _ _ h => h) (Or.inl ⟨by rfl, ?_⟩) ?_ ?_
    rotate_left
    · intro w'
      go_simp
      try with_reducible rfl
    rotate_left
    · simp only [Act.put, List.setIfInBounds_toArray, List.set_cons_zero, List.set_cons_succ, i64_w, i32_w]
      rfl
    refine pure_ (i := 9) (N := (some 44)) (v := ?_) (a' := ?_) #[true, true, true, true, true, true, true, true, true, true, false, true, false, false] rfl rfl (by kernel_rfl) (fun _ _ _ h => h) (Or.inl ⟨by rfl, ?_⟩) ?_ ?_
    rotate_left
    · intro w'
      go_simp
      try with_reducible rfl
    rotate_left
    · simp only [Act.put, List.setIfInBounds_toArray, List.set_cons_zero, List.set_cons_succ, i64_w, i32_w]
      rfl
    refine pure_ (i := 10) (N := (some 45)) (v := ?_) (a' := ?_) #[true, true, true, true, true, true, true, true, true, true, true, true, false, false] rfl rfl (by kernel_rfl) (fun _ _ _ h => h) (Or.inl ⟨by rfl, ?_⟩) ?_ ?_
    rotate_left
    · intro w'
      go_simp
      try with_reducible rfl
    rotate_left
    · simp only [Act.put, List.setIfInBounds_toArray, List.set_cons_zero, List.set_cons_succ, i64_w, i32_w]
      rfl
    refine one_ (i := 12) (N := none) #[true, true, true, true, true, true, true, true, true, true, true, true, true, false] rfl rfl (by kernel_rfl) (by decide) (fun K hK => ?_)
    refine skip_ (by rfl) rfl (store_row (ty := 40) (p := .tmp 11) (q := .tmp 44) _ _ _ #[.int .i64 v, .string s] rfl rfl rfl (H6.out.blk 7 rfl) (by kernel_rfl) rfl (by kernel_rfl)) ?_
    have H7 := Aside0.mk (H6.out.setRow 7 rfl #[.int .i64 v, .string s])
    refine hK.out _ _ ⟨H7.out.cell 1 rfl 0 rfl, H7.out.cell 1 rfl 1 rfl, H7.out.cell 1 rfl 2 rfl, H7.out.cell 1 rfl 3 rfl, H7.out.cell 2 rfl 0 rfl, H7.out.cell 2 rfl 1 rfl, H7.out.cell 2 rfl 2 rfl, H7.out.cell 5 rfl (kd.toNat * 2 + 1) hfr⟩ (fun hHeld => ?_)
    clear hK K
    refine pure_ (i := 13) (N := (some 12)) (v := ?_) (a' := ?_) #[true, true, true, true, true, true, true, true, true, true, true, true, true, true] rfl rfl (by kernel_rfl) (fun _ _ _ h => h) (Or.inl ⟨by rfl, ?_⟩) ?_ ?_
    rotate_left
    · intro w'
      go_simp
      try with_reducible rfl
    rotate_left
    · simp only [Act.put, List.setIfInBounds_toArray, List.set_cons_zero, List.set_cons_succ, i64_w, i32_w]
      rfl
    refine done_ (by kernel_rfl) ?_
    have k2 := H7.out.cell 2 rfl 0 rfl
    go_wp2_with (first | (refine storeRowL_ (ty := 40) rfl rfl rfl _ _ _ #[.int .i64 0, .string ⟨#[]⟩] rfl rfl (H7.out.blk 7 rfl) (by kernel_rfl) rfl (by kernel_rfl) ?_; have H8 := Aside0.mk (H7.out.setRow 7 rfl #[.int .i64 0, .string ⟨#[]⟩])))
    clear k2
    have k1 : ¬ kd < 1 := by omega
    have k5 : ¬ 5 ≤ kd := by omega
    have k6 : kd < 5 := by omega
    have k7 : 0 ≤ kd := by omega
    refine start_ (n := 5) (S := (fun w' => w'.heap[w3.heap.size]? = some (.cells (hwC (.slice A1 n c1) (.slice B1 m d1) r) 31) ∧ w'.heap[(w3.heap.size + 1)]? = some (.cells #[.int .i64 0, .string ⟨#[]⟩] 40))) (ds := []) #[false, false, false, false, false] (by kernel_rfl) rfl rfl ⟨H8.out.drew.blk 6 rfl, H8.out.drew.blk 7 rfl⟩ (fun hHeld => ?_)
    refine take_ (i := 0) (N := (some 54)) (v := ?_) (a' := ?_) #[true, false, false, false, false] rfl rfl (by kernel_rfl) (fun _ _ _ h => h) (Or.inl ⟨by rfl, ?_⟩) hHeld ?_ ?_
    rotate_left
    · rintro w' ⟨s0, s1⟩
      refine load_row (ty := 31) (p := .tmp 10) _ _ _ _ _ ?p1 ?p2 s0 Try.underlying31 ?p4 ?p5; (case p1 => rfl); (case p2 => rfl); (case p4 => rfl); (case p5 => kernel_rfl)
    rotate_left
    · simp only [Act.put, List.setIfInBounds_toArray, List.set_cons_zero, List.set_cons_succ, i64_w, i32_w]
      rfl
    refine take_ (i := 1) (N := (some 55)) (v := ?_) (a' := ?_) #[true, true, false, false, false] rfl rfl (by kernel_rfl) (fun _ _ _ h => h) (Or.inl ⟨by rfl, ?_⟩) hHeld ?_ ?_
    rotate_left
    · rintro w' ⟨s0, s1⟩
      refine load_row (ty := 40) (p := .tmp 11) _ _ _ _ _ ?p1 ?p2 s1 Try.underlying40 ?p4 ?p5; (case p1 => rfl); (case p2 => rfl); (case p4 => rfl); (case p5 => kernel_rfl)
    rotate_left
    · simp only [Act.put, List.setIfInBounds_toArray, List.set_cons_zero, List.set_cons_succ, i64_w, i32_w]
      rfl
    refine one_ (i := 2) (N := none) #[true, true, true, false, false] rfl rfl (by kernel_rfl) (by decide) (fun K hK => ?_)
    refine skip_ (by rfl) rfl (store_row (ty := 31) (p := .tmp 6) (q := .tmp 54) _ _ _ (hwC (.slice A1 n c1) (.slice B1 m d1) r) rfl rfl rfl (H8.out.drew.blk 3 rfl) (by kernel_rfl) rfl (by kernel_rfl)) ?_
    have H9 := Aside0.mk (H8.out.drew.setRow 3 rfl (hwC (.slice A1 n c1) (.slice B1 m d1) r))
    refine hK.out _ _ ⟨H9.out.blk 6 rfl, H9.out.blk 7 rfl⟩ (fun hHeld => ?_)
    clear hK K
    refine one_ (i := 3) (N := none) #[true, true, true, true, false] rfl rfl (by kernel_rfl) (by decide) (fun K hK => ?_)
    refine skip_ (by rfl) rfl (store_row (ty := 40) (p := .tmp 7) (q := .tmp 55) _ _ _ #[.int .i64 0, .string ⟨#[]⟩] rfl rfl rfl (H9.out.blk 4 rfl) (by kernel_rfl) rfl (by kernel_rfl)) ?_
    have H10 := Aside0.mk (H9.out.setRow 4 rfl #[.int .i64 0, .string ⟨#[]⟩])
    refine hK.out _ _ ⟨H10.out.blk 6 rfl, H10.out.blk 7 rfl⟩ (fun hHeld => ?_)
    clear hK K
    refine pure_ (i := 4) (N := (some 8)) (v := ?_) (a' := ?_) #[true, true, true, true, true] rfl rfl (by kernel_rfl) (fun _ _ _ h => h) (Or.inl ⟨by rfl, ?_⟩) ?_ ?_
    rotate_left
    · intro w'
      go_simp
      try with_reducible rfl
    rotate_left
    · simp only [Act.put, List.setIfInBounds_toArray, List.set_cons_zero, List.set_cons_succ, i64_w, i32_w]
      rfl
    refine done_ (by kernel_rfl) ?_
    go_wp2
    refine bodyPost_ret (results_cct rfl _ _ (w.heap.size + 1 + 1 + 1) (w.heap.size + 1 + 1 + 1 + 1) 31 40 (hwC (.slice A1 n c1) (.slice B1 m d1) r) #[.int .i64 0, .string ⟨#[]⟩] (0, 0) (0, 0) _ _ rfl (H10.out.blk 3 rfl) Try.underlying31 rfl (by kernel_rfl) rfl (H10.out.blk 4 rfl) Try.underlying40 rfl (by kernel_rfl)) rfl ?_
    exact ⟨A1, c1, hs1, B1, d1, rfl, H10.out.done (H10.out.sureNew 0 rfl) HS.out⟩
set_option maxRecDepth 100000 in
set_option maxHeartbeats 16000000 in
theorem do_allG {A : Option Addr} {n d : Nat} {hs : List Hdr} {bk : List (List Int)} {B : Option Addr} {m c : Nat} {fl : List ByteArray} {w : World} {S : Nat → Prop} {r : Nat → Int} (bank cell : Int) (b : ByteArray) (fb : Int) (noise : Bool) (hd : ∀ k, S k → k < w.heap.size) (hF : Sure S w (fun w => Fu w A n d hs bk)) (hL : Sure S w (fun w => Fl w B m c fl)) (bk1 : List (List Int)) (fl1 : List ByteArray) (v : Int) (s : ByteArray) (kd : Int) (hK1 : 1 ≤ kd) (hK4 : kd ≤ 4) (fv fr : Nat) (hfv : accs[kd.toNat * 2]? = some (.func (.func fv) #[] #[])) (hfr : accs[kd.toNat * 2 + 1]? = some (.func (.func fr) #[] #[])) (hev : ∀ (xs : Array Value) (w : World), (callFunc fv xs).run Try.prog w = .ok (.enter fv xs) w) (her : ∀ (xs : Array Value) (w : World), (callFunc fr xs).run Try.prog w = .ok (.enter fr xs) w) (hval : ∀ w, Calls Try.prog fv #[.agg #[.int .i64 kd, .int .i64 bank, .int .i64 cell, .string b]] w fun e w' => e = .returned (.bool true) ∧ Below w.heap.size w w') (hrun : ∀ (w0 w1 : World) (S : Nat → Prop) (ds : List (World → Prop)) (os : List Blk) {g : Nat}, St w0 S ds os w1 → os[6]? = some (g, hwC (.slice A n d) (.slice B m c) r, 31) → ds[0]? = some (fun w => Fu w A n d hs bk) → ds[1]? = some (fun w => Fl w B m c fl) → Calls Try.prog fr #[.pointer (some ⟨g, 0, none⟩), .agg #[.int .i64 kd, .int .i64 bank, .int .i64 cell, .string b], .agg #[.bool false, .int .i64 fb, .bool noise]] w1 (RunOk w0 S ds os 6 g n m r bk1 fl1 v s w1)) :
    Calls Try.prog 10 #[.agg (hwC (.slice A n d) (.slice B m c) r), .agg #[.int .i64 kd, .int .i64 bank, .int .i64 cell, .string b], .agg #[.bool false, .int .i64 fb, .bool noise]] w (DoRes S n m r bk1 fl1 v s 0 w) := by
  have H0 := Aside0.mk ((St.enter2 hd hF hL).alloc5 (hwC (.slice A n d) (.slice B m c) r) 31 #[.int .i64 kd, .int .i64 bank, .int .i64 cell, .string b] 33 #[.bool false, .int .i64 fb, .bool noise] 35 #[.slice none 0 0, .slice none 0 0, .int .u8 0, .int .u8 0, .int .u8 0, .int .u8 0, .int .u8 0, .int .u8 0, .int .u8 0, .int .u8 0, .int .u8 0, .int .u8 0, .int .u8 0, .int .u8 0, .int .u8 0, .int .u8 0, .int .u8 0, .int .u8 0] 31 #[.int .i64 0, .string ⟨#[]⟩] 40)
  have VAL := Aside0.mk hval
  have RUN := Aside0.mk hrun
  clear hval hrun
  go_enter Try.func10, Try.ntmps10
  go_wp2_with (first | (go_at_call 22; refine (accesses_any _).mono ?_; rintro e w1 ⟨rfl, hb⟩; have H1 := Aside0.mk (H0.out.step hb); clear hb) | (refine storeRowL_ (ty := 65) rfl rfl rfl _ _ _ accs rfl rfl (heap_alloc_new _ _) (by kernel_rfl) rfl (by kernel_rfl) ?_; have H2 := Aside0.mk ((H1.out.alloc #[.nilFunc, .nilFunc, .nilFunc, .nilFunc, .nilFunc, .nilFunc, .nilFunc, .nilFunc, .nilFunc, .nilFunc] 65).setRow 5 rfl accs)))
  have k1 : ¬ kd < 1 := by omega
  have k5 : ¬ 5 ≤ kd := by omega
  have k6 : kd < 5 := by omega
  have k7 : 0 ≤ kd := by omega
  refine start_ (n := 18) (S := (fun w' => w'.cell? ⟨w.heap.size + 1, 0, none⟩ = some (.int .i64 kd) ∧ w'.cell? ⟨w.heap.size + 1, 1, none⟩ = some (.int .i64 bank) ∧ w'.cell? ⟨w.heap.size + 1, 2, none⟩ = some (.int .i64 cell) ∧ w'.cell? ⟨w.heap.size + 1, 3, none⟩ = some (.string b) ∧ w'.cell? ⟨w1.heap.size, kd.toNat * 2, none⟩ = some (.func (.func fv) #[] #[]))) (ds := []) #[false, false, false, false, false, false, false, false, false, false, false, false, false, false, false, false, false, false] (by kernel_rfl) rfl rfl ⟨H2.out.drew.cell 1 rfl 0 rfl, H2.out.drew.cell 1 rfl 1 rfl, H2.out.drew.cell 1 rfl 2 rfl, H2.out.drew.cell 1 rfl 3 rfl, H2.out.drew.cell 5 rfl (kd.toNat * 2) hfv⟩ (fun hHeld => ?_)
  refine pure_ (i := 0) (N := (some 14)) (v := ?_) (a' := ?_) #[true, false, false, false, false, false, false, false, false, false, false, false, false, false, false, false, false, false] rfl rfl (by kernel_rfl) (fun _ _ _ h => h) (Or.inl ⟨by rfl, ?_⟩) ?_ ?_
  rotate_left
  · intro w'
    go_simp
    try with_reducible rfl
  rotate_left
  · simp only [Act.put, List.setIfInBounds_toArray, List.set_cons_zero, List.set_cons_succ, i64_w, i32_w]
    rfl
  refine take_ (i := 1) (N := (some 15)) (v := ?_) (a' := ?_) #[true, true, false, false, false, false, false, false, false, false, false, false, false, false, false, false, false, false] rfl rfl (by kernel_rfl) (fun _ _ _ h => h) (Or.inl ⟨by rfl, ?_⟩) hHeld ?_ ?_
  rotate_left
  · rintro w' ⟨s0, s1, s2, s3, s4⟩
    go_simp
    try with_reducible rfl
  rotate_left
  · simp only [Act.put, List.setIfInBounds_toArray, List.set_cons_zero, List.set_cons_succ, i64_w, i32_w]
    rfl
  refine pure_ (i := 2) (N := (some 16)) (v := ?_) (a' := ?_) #[true, true, true, false, false, false, false, false, false, false, false, false, false, false, false, false, false, false] rfl rfl (by kernel_rfl) (fun _ _ _ h => h) (Or.inl ⟨by rfl, ?_⟩) ?_ ?_
  rotate_left
  · intro w'
    go_simp
    try with_reducible rfl
  rotate_left
  · simp only [Act.put, List.setIfInBounds_toArray, List.set_cons_zero, List.set_cons_succ, i64_w, i32_w]
    rfl
  refine pure_ (i := 3) (N := (some 17)) (v := ?_) (a' := ?_) #[true, true, true, true, false, false, false, false, false, false, false, false, false, false, false, false, false, false] rfl rfl (by kernel_rfl) (fun _ _ _ h => h) (Or.inl ⟨by rfl, ?_⟩) ?_ ?_
  rotate_left
  · intro w'
    go_simp
    try with_reducible rfl
  rotate_left
  · simp only [Act.put, List.setIfInBounds_toArray, List.set_cons_zero, List.set_cons_succ, i64_w, i32_w]
    rfl
  refine pure_ (i := 4) (N := (some 18)) (v := ?_) (a' := ?_) #[true, true, true, true, true, false, false, false, false, false, false, false, false, false, false, false, false, false] rfl rfl (by kernel_rfl) (fun _ _ _ h => h) (Or.inl ⟨by rfl, ?_⟩) ?_ ?_
  rotate_left
  · intro w'
    go_simp
    try with_reducible rfl
  rotate_left
  · simp only [Act.put, List.setIfInBounds_toArray, List.set_cons_zero, List.set_cons_succ, i64_w, i32_w]
    rfl
  refine take_ (i := 5) (N := (some 19)) (v := ?_) (a' := ?_) #[true, true, true, true, true, true, false, false, false, false, false, false, false, false, false, false, false, false] rfl rfl (by kernel_rfl) (fun _ _ _ h => h) (Or.inl ⟨by rfl, ?_⟩) hHeld ?_ ?_
  rotate_left
  · rintro w' ⟨s0, s1, s2, s3, s4⟩
    go_simp
    try with_reducible rfl
  rotate_left
  · simp only [Act.put, List.setIfInBounds_toArray, List.set_cons_zero, List.set_cons_succ, i64_w, i32_w]
    rfl
  refine pure_ (i := 6) (N := (some 20)) (v := ?_) (a' := ?_) #[true, true, true, true, true, true, true, false, false, false, false, false, false, false, false, false, false, false] rfl rfl (by kernel_rfl) (fun _ _ _ h => h) (Or.inl ⟨by rfl, ?_⟩) ?_ ?_
  rotate_left
  · intro w'
    go_simp
    try with_reducible rfl
  rotate_left
  · simp only [Act.put, List.setIfInBounds_toArray, List.set_cons_zero, List.set_cons_succ, i64_w, i32_w]
    rfl
  refine pure_ (i := 7) (N := (some 21)) (v := ?_) (a' := ?_) #[true, true, true, true, true, true, true, true, false, false, false, false, false, false, false, false, false, false] rfl rfl (by kernel_rfl) (fun _ _ _ h => h) (Or.inl ⟨by rfl, ?_⟩) ?_ ?_
  rotate_left
  · intro w'
    go_simp
    try with_reducible rfl
  rotate_left
  · simp only [Act.put, List.setIfInBounds_toArray, List.set_cons_zero, List.set_cons_succ, i64_w, i32_w]
    rfl
  refine pure_ (i := 8) (N := (some 22)) (v := ?_) (a' := ?_) #[true, true, true, true, true, true, true, true, true, false, false, false, false, false, false, false, false, false] rfl rfl (by kernel_rfl) (fun _ _ _ h => h) (Or.inl ⟨by rfl, ?_⟩) ?_ ?_
  rotate_left
  · intro w'
    go_simp
    try with_reducible rfl
  rotate_left
  · simp only [Act.put, List.setIfInBounds_toArray, List.set_cons_zero, List.set_cons_succ, i64_w, i32_w]
    rfl
  refine pure_ (i := 9) (N := (some 23)) (v := ?_) (a' := ?_) #[true, true, true, true, true, true, true, true, true, true, false, false, false, false, false, false, false, false] rfl rfl (by kernel_rfl) (fun _ _ _ h => h) (Or.inl ⟨by rfl, ?_⟩) ?_ ?_
  rotate_left
  · intro w'
    go_simp
    try with_reducible rfl
  rotate_left
  · simp only [Act.put, List.setIfInBounds_toArray, List.set_cons_zero, List.set_cons_succ, i64_w, i32_w]
    rfl
  refine take_ (i := 10) (N := (some 24)) (v := ?_) (a' := ?_) #[true, true, true, true, true, true, true, true, true, true, true, false, false, false, false, false, false, false] rfl rfl (by kernel_rfl) (fun _ _ _ h => h) (Or.inl ⟨by rfl, ?_⟩) hHeld ?_ ?_
  rotate_left
  · rintro w' ⟨s0, s1, s2, s3, s4⟩
    go_simp
    try with_reducible rfl
  rotate_left
  · simp only [Act.put, List.setIfInBounds_toArray, List.set_cons_zero, List.set_cons_succ, i64_w, i32_w]
    rfl
  refine pure_ (i := 11) (N := (some 25)) (v := ?_) (a' := ?_) #[true, true, true, true, true, true, true, true, true, true, true, true, false, false, false, false, false, false] rfl rfl (by kernel_rfl) (fun _ _ _ h => h) (Or.inl ⟨by rfl, ?_⟩) ?_ ?_
  rotate_left
  · intro w'
    go_simp
    try with_reducible rfl
  rotate_left
  · simp only [Act.put, List.setIfInBounds_toArray, List.set_cons_zero, List.set_cons_succ, i64_w, i32_w]
    rfl
  refine pure_ (i := 12) (N := (some 26)) (v := ?_) (a' := ?_) #[true, true, true, true, true, true, true, true, true, true, true, true, true, false, false, false, false, false] rfl rfl (by kernel_rfl) (fun _ _ _ h => h) (Or.inl ⟨by rfl, ?_⟩) ?_ ?_
  rotate_left
  · intro w'
    go_simp
    try with_reducible rfl
  rotate_left
  · simp only [Act.put, List.setIfInBounds_toArray, List.set_cons_zero, List.set_cons_succ, i64_w, i32_w]
    rfl
  refine take_ (i := 13) (N := (some 27)) (v := ?_) (a' := ?_) #[true, true, true, true, true, true, true, true, true, true, true, true, true, true, false, false, false, false] rfl rfl (by kernel_rfl) (fun _ _ _ h => h) (Or.inl ⟨by rfl, ?_⟩) hHeld ?_ ?_
  rotate_left
  · rintro w' ⟨s0, s1, s2, s3, s4⟩
    go_simp
    try with_reducible rfl
  rotate_left
  · simp only [Act.put, List.setIfInBounds_toArray, List.set_cons_zero, List.set_cons_succ, i64_w, i32_w]
    rfl
  refine take_ (i := 14) (N := (some 28)) (v := ?_) (a' := ?_) #[true, true, true, true, true, true, true, true, true, true, true, true, true, true, true, false, false, false] rfl rfl (by kernel_rfl) (fun _ _ _ h => h) (Or.inl ⟨by rfl, ?_⟩) hHeld ?_ ?_
  rotate_left
  · rintro w' ⟨s0, s1, s2, s3, s4⟩
    go_simp
    try with_reducible rfl
  rotate_left
  · simp only [Act.put, List.setIfInBounds_toArray, List.set_cons_zero, List.set_cons_succ, i64_w, i32_w]
    rfl
  refine one_ (i := 15) (N := (some 29)) #[true, true, true, true, true, true, true, true, true, true, true, true, true, true, true, true, false, false] rfl rfl (by kernel_rfl) (by decide) (fun K hK => ?_)
  refine call_ fv #[.agg #[.int .i64 kd, .int .i64 bank, .int .i64 cell, .string b]] (by rfl) rfl ?hrun ((VAL.out _).mono ?_)
  case hrun => go_simp; (try simp only [hev, her, Result.andThen_ok])
  rintro e w3 ⟨rfl, hb⟩
  refine ⟨_, rfl, ?_⟩
  have H3 := Aside0.mk (H2.out.drew.step hb)
  clear hb
  refine hK.out _ _ ⟨H3.out.cell 1 rfl 0 rfl, H3.out.cell 1 rfl 1 rfl, H3.out.cell 1 rfl 2 rfl, H3.out.cell 1 rfl 3 rfl, H3.out.cell 5 rfl (kd.toNat * 2) hfv⟩ (fun hHeld => ?_)
  clear hK K
  refine norm_ (a' := ?_) ?_ ?_
  rotate_left
  · show Act.put _ (some 29) _ = _
    simp only [Act.put, List.setIfInBounds_toArray, List.set_cons_zero, List.set_cons_succ, i64_w, i32_w]
    rfl
  refine pure_ (i := 16) (N := (some 30)) (v := ?_) (a' := ?_) #[true, true, true, true, true, true, true, true, true, true, true, true, true, true, true, true, true, false] rfl rfl (by kernel_rfl) (fun _ _ _ h => h) (Or.inl ⟨by rfl, ?_⟩) ?_ ?_
  rotate_left
  · intro w'
    go_simp
    try with_reducible rfl
  rotate_left
  · simp only [Act.put, List.setIfInBounds_toArray, List.set_cons_zero, List.set_cons_succ, i64_w, i32_w]
    rfl
  refine pure_ (i := 17) (N := (some 31)) (v := ?_) (a' := ?_) #[true, true, true, true, true, true, true, true, true, true, true, true, true, true, true, true, true, true] rfl rfl (by kernel_rfl) (fun _ _ _ h => h) (Or.inl ⟨by rfl, ?_⟩) ?_ ?_
  rotate_left
  · intro w'
    go_simp
    try with_reducible rfl
  rotate_left
  · simp only [Act.put, List.setIfInBounds_toArray, List.set_cons_zero, List.set_cons_succ, i64_w, i32_w]
    rfl
  refine done_ (by kernel_rfl) ?_
  go_wp2_with (first | (refine loadRowL_ (ty := 31) _ rfl rfl rfl _ _ _ _ _ rfl (H3.out.blk 0 rfl) Try.underlying31 rfl (by kernel_rfl) ?_) | (refine storeRowL_ (ty := 31) rfl rfl rfl _ _ _ (hwC (.slice A n d) (.slice B m c) r) rfl rfl (heap_alloc_new _ _) (by kernel_rfl) rfl (by kernel_rfl) ?_; have H4 := Aside0.mk ((H3.out.alloc #[.slice none 0 0, .slice none 0 0, .int .u8 0, .int .u8 0, .int .u8 0, .int .u8 0, .int .u8 0, .int .u8 0, .int .u8 0, .int .u8 0, .int .u8 0, .int .u8 0, .int .u8 0, .int .u8 0, .int .u8 0, .int .u8 0, .int .u8 0, .int .u8 0] 31).setRow 6 rfl (hwC (.slice A n d) (.slice B m c) r))))
  have k1 : ¬ kd < 1 := by omega
  have k5 : ¬ 5 ≤ kd := by omega
  have k6 : kd < 5 := by omega
  have k7 : 0 ≤ kd := by omega
  refine start_ (n := 14) (S := (fun w' => w'.cell? ⟨w.heap.size + 1, 0, none⟩ = some (.int .i64 kd) ∧ w'.cell? ⟨w.heap.size + 1, 1, none⟩ = some (.int .i64 bank) ∧ w'.cell? ⟨w.heap.size + 1, 2, none⟩ = some (.int .i64 cell) ∧ w'.cell? ⟨w.heap.size + 1, 3, none⟩ = some (.string b) ∧ w'.cell? ⟨w.heap.size + 1 + 1, 0, none⟩ = some (.bool false) ∧ w'.cell? ⟨w.heap.size + 1 + 1, 1, none⟩ = some (.int .i64 fb) ∧ w'.cell? ⟨w.heap.size + 1 + 1, 2, none⟩ = some (.bool noise) ∧ w'.cell? ⟨w1.heap.size, kd.toNat * 2 + 1, none⟩ = some (.func (.func fr) #[] #[]))) (ds := []) #[false, false, false, false, false, false, false, false, false, false, false, false, false, false] (by kernel_rfl) rfl rfl ⟨H4.out.drew.cell 1 rfl 0 rfl, H4.out.drew.cell 1 rfl 1 rfl, H4.out.drew.cell 1 rfl 2 rfl, H4.out.drew.cell 1 rfl 3 rfl, H4.out.drew.cell 2 rfl 0 rfl, H4.out.drew.cell 2 rfl 1 rfl, H4.out.drew.cell 2 rfl 2 rfl, H4.out.drew.cell 5 rfl (kd.toNat * 2 + 1) hfr⟩ (fun hHeld => ?_)
  refine pure_ (i := 0) (N := (some 36)) (v := ?_) (a' := ?_) #[true, false, false, false, false, false, false, false, false, false, false, false, false, false] rfl rfl (by kernel_rfl) (fun _ _ _ h => h) (Or.inl ⟨by rfl, ?_⟩) ?_ ?_
  rotate_left
  · intro w'
    go_simp
    try with_reducible rfl
  rotate_left
  · simp only [Act.put, List.setIfInBounds_toArray, List.set_cons_zero, List.set_cons_succ, i64_w, i32_w]
    rfl
  refine take_ (i := 1) (N := (some 37)) (v := ?_) (a' := ?_) #[true, true, false, false, false, false, false, false, false, false, false, false, false, false] rfl rfl (by kernel_rfl) (fun _ _ _ h => h) (Or.inl ⟨by rfl, ?_⟩) hHeld ?_ ?_
  rotate_left
  · rintro w' ⟨s0, s1, s2, s3, s4, s5, s6, s7⟩
    go_simp
    try with_reducible rfl
  rotate_left
  · simp only [Act.put, List.setIfInBounds_toArray, List.set_cons_zero, List.set_cons_succ, i64_w, i32_w]
    rfl
  refine pure_ (i := 2) (N := (some 38)) (v := ?_) (a' := ?_) #[true, true, true, false, false, false, false, false, false, false, false, false, false, false] rfl rfl (by kernel_rfl) (fun _ _ _ h => h) (Or.inl ⟨by rfl, ?_⟩) ?_ ?_
  rotate_left
  · intro w'
    go_simp
    try with_reducible rfl
  rotate_left
  · simp only [Act.put, List.setIfInBounds_toArray, List.set_cons_zero, List.set_cons_succ, i64_w, i32_w]
    rfl
  refine pure_ (i := 3) (N := (some 39)) (v := ?_) (a' := ?_) #[true, true, true, true, false, false, false, false, false, false, false, false, false, false] rfl rfl (by kernel_rfl) (fun _ _ _ h => h) (Or.inl ⟨by rfl, ?_⟩) ?_ ?_
  rotate_left
  · intro w'
    go_simp
    try with_reducible rfl
  rotate_left
  · simp only [Act.put, List.setIfInBounds_toArray, List.set_cons_zero, List.set_cons_succ, i64_w, i32_w]
    rfl
  refine take_ (i := 4) (N := (some 40)) (v := ?_) (a' := ?_) #[true, true, true, true, true, false, false, false, false, false, false, false, false, false] rfl rfl (by kernel_rfl) (fun _ _ _ h => h) (Or.inl ⟨by rfl, ?_⟩) hHeld ?_ ?_
  rotate_left
  · rintro w' ⟨s0, s1, s2, s3, s4, s5, s6, s7⟩
    go_simp
    try with_reducible rfl
  rotate_left
  · simp only [Act.put, List.setIfInBounds_toArray, List.set_cons_zero, List.set_cons_succ, i64_w, i32_w]
    rfl
  refine take_ (i := 5) (N := (some 41)) (v := ?_) (a' := ?_) #[true, true, true, true, true, true, false, false, false, false, false, false, false, false] rfl rfl (by kernel_rfl) (fun _ _ _ h => h) (Or.inl ⟨by rfl, ?_⟩) hHeld ?_ ?_
  rotate_left
  · rintro w' ⟨s0, s1, s2, s3, s4, s5, s6, s7⟩
    go_simp
    try with_reducible rfl
  rotate_left
  · simp only [Act.put, List.setIfInBounds_toArray, List.set_cons_zero, List.set_cons_succ, i64_w, i32_w]
    rfl
  refine take_ (i := 6) (N := (some 42)) (v := ?_) (a' := ?_) #[true, true, true, true, true, true, true, false, false, false, false, false, false, false] rfl rfl (by kernel_rfl) (fun _ _ _ h => h) (Or.inl ⟨by rfl, ?_⟩) hHeld ?_ ?_
  rotate_left
  · rintro w' ⟨s0, s1, s2, s3, s4, s5, s6, s7⟩
    go_simp
    try with_reducible rfl
  rotate_left
  · simp only [Act.put, List.setIfInBounds_toArray, List.set_cons_zero, List.set_cons_succ, i64_w, i32_w]
    rfl
  refine two_ (i := 7) (j := 11) (Ni := (some 43)) (Nj := (some 11)) #[true, true, true, true, true, true, true, true, false, false, false, false, false, false] #[true, true, true, true, true, true, true, false, false, false, false, true, false, false] rfl rfl rfl rfl (by kernel_rfl) (by decide) (by decide) (fun K hK => ?_) (fun K hK => ?_)
  ·
    refine call_ fr #[.pointer (some ⟨w3.heap.size, 0, none⟩), .agg #[.int .i64 kd, .int .i64 bank, .int .i64 cell, .string b], .agg #[.bool false, .int .i64 fb, .bool noise]] (by rfl) rfl ?hrun ((RUN.out _ _ _ _ _ H4.out.drew rfl rfl rfl).mono ?_)
    case hrun => go_simp; (try simp only [hev, her, Result.andThen_ok])
    rintro e w5 ⟨S1, A1, c1, hs1, B1, d1, rfl, hS1, hb⟩
    refine ⟨_, rfl, ?_⟩
    have H5 := Aside0.mk hb
    have HS := Aside0.mk (fun k hk => (hS1 k hk).imp id (fun h => Nat.le_trans H4.out.drew.bel.size h) : ∀ k, S1 k → S k ∨ w.heap.size ≤ k)
    clear hb hS1
    refine hK.out _ _ ⟨H5.out.cell 1 rfl 0 rfl, H5.out.cell 1 rfl 1 rfl, H5.out.cell 1 rfl 2 rfl, H5.out.cell 1 rfl 3 rfl, H5.out.cell 2 rfl 0 rfl, H5.out.cell 2 rfl 1 rfl, H5.out.cell 2 rfl 2 rfl, H5.out.cell 5 rfl (kd.toNat * 2 + 1) hfr⟩ (fun hHeld => ?_)
    clear hK K
    refine norm_ (a' := ?_) ?_ ?_
    rotate_left
    · show Act.put _ (some 43) _ = _
      simp only [Act.put, List.setIfInBounds_toArray, List.set_cons_zero, List.set_cons_succ, i64_w, i32_w]
      rfl
    refine pure_ (i := 8) (N := (some 35)) (v := ?_) (a' := ?_) #[true, true, true, true, true, true, true, true, true, false, false, false, false, false] rfl rfl (by kernel_rfl) (fun _ _ _ h => h) (Or.inl ⟨by rfl, ?_⟩) ?_ ?_
    rotate_left
    · intro w'
      go_simp
      try with_reducible rfl
    rotate_left
    · simp only [Act.put, List.setIfInBounds_toArray, List.set_cons_zero, List.set_cons_succ, i64_w, i32_w]
      rfl
    refine pure_ (i := 9) (N := (some 44)) (v := ?_) (a' := ?_) #[true, true, true, true, true, true, true, true, true, true, false, false, false, false] rfl rfl (by kernel_rfl) (fun _ _ _ h => h) (Or.inl ⟨by rfl, ?_⟩) ?_ ?_
    rotate_left
    · intro w'
      go_simp
      try with_reducible rfl
    rotate_left
    · simp only [Act.put, List.setIfInBounds_toArray, List.set_cons_zero, List.set_cons_succ, i64_w, i32_w]
      rfl
    refine pure_ (i := 10) (N := (some 45)) (v := ?_) (a' := ?_) #[true, true, true, true, true, true, true, true, true, true, true, false, false, false] rfl rfl (by kernel_rfl) (fun _ _ _ h => h) (Or.inl ⟨by rfl, ?_⟩) ?_ ?_
    rotate_left
    · intro w'
      go_simp
      try with_reducible rfl
    rotate_left
    · simp only [Act.put, List.setIfInBounds_toArray, List.set_cons_zero, List.set_cons_succ, i64_w, i32_w]
      rfl
    refine one_ (i := 11) (N := (some 11)) #[true, true, true, true, true, true, true, true, true, true, true, true, false, false] rfl rfl (by kernel_rfl) (by decide) (fun K hK => ?_)
    refine value_ (w1 := ?_) (v := ?_) (by rfl) rfl ?_ ?_
    rotate_left 2
    · go_simp
      constructor
      · rfl
      · rfl
    have H6 := Aside0.mk (H5.out.alloc #[.int .i64 0, .string ⟨#[]⟩] 40)
    refine hK.out _ _ ⟨H6.out.cell 1 rfl 0 rfl, H6.out.cell 1 rfl 1 rfl, H6.out.cell 1 rfl 2 rfl, H6.out.cell 1 rfl 3 rfl, H6.out.cell 2 rfl 0 rfl, H6.out.cell 2 rfl 1 rfl, H6.out.cell 2 rfl 2 rfl, H6.out.cell 5 rfl (kd.toNat * 2 + 1) hfr⟩ (fun hHeld => ?_)
    clear hK K
    refine norm_ (a' := ?_) ?_ ?_
    rotate_left
    · show Act.put _ (some 11) _ = _
      simp only [Act.put, List.setIfInBounds_toArray, List.set_cons_zero, List.set_cons_succ, i64_w, i32_w]
      rfl
    refine one_ (i := 12) (N := none) #[true, true, true, true, true, true, true, true, true, true, true, true, true, false] rfl rfl (by kernel_rfl) (by decide) (fun K hK => ?_)
    refine skip_ (by rfl) rfl (store_row (ty := 40) (p := .tmp 11) (q := .tmp 44) _ _ _ #[.int .i64 v, .string s] rfl rfl rfl (H6.out.blk 7 rfl) (by kernel_rfl) rfl (by kernel_rfl)) ?_
    have H7 := Aside0.mk (H6.out.setRow 7 rfl #[.int .i64 v, .string s])
    refine hK.out _ _ ⟨H7.out.cell 1 rfl 0 rfl, H7.out.cell 1 rfl 1 rfl, H7.out.cell 1 rfl 2 rfl, H7.out.cell 1 rfl 3 rfl, H7.out.cell 2 rfl 0 rfl, H7.out.cell 2 rfl 1 rfl, H7.out.cell 2 rfl 2 rfl, H7.out.cell 5 rfl (kd.toNat * 2 + 1) hfr⟩ (fun hHeld => ?_)
    clear hK K
    refine pure_ (i := 13) (N := (some 12)) (v := ?_) (a' := ?_) #[true, true, true, true, true, true, true, true, true, true, true, true, true, true] rfl rfl (by kernel_rfl) (fun _ _ _ h => h) (Or.inl ⟨by rfl, ?_⟩) ?_ ?_
    rotate_left
    · intro w'
      go_simp
      try with_reducible rfl
    rotate_left
    · simp only [Act.put, List.setIfInBounds_toArray, List.set_cons_zero, List.set_cons_succ, i64_w, i32_w]
      rfl
    refine done_ (by kernel_rfl) ?_
    have k2 := H7.out.cell 2 rfl 0 rfl
    have H8 := H7
    go_wp2
    clear k2
    have k1 : ¬ kd < 1 := by omega
    have k5 : ¬ 5 ≤ kd := by omega
    have k6 : kd < 5 := by omega
    have k7 : 0 ≤ kd := by omega
    refine start_ (n := 5) (S := (fun w' => w'.heap[w3.heap.size]? = some (.cells (hwC (.slice A1 n c1) (.slice B1 m d1) r) 31) ∧ w'.heap[w5.heap.size]? = some (.cells #[.int .i64 v, .string s] 40))) (ds := []) #[false, false, false, false, false] (by kernel_rfl) rfl rfl ⟨H8.out.drew.blk 6 rfl, H8.out.drew.blk 7 rfl⟩ (fun hHeld => ?_)
    refine take_ (i := 0) (N := (some 54)) (v := ?_) (a' := ?_) #[true, false, false, false, false] rfl rfl (by kernel_rfl) (fun _ _ _ h => h) (Or.inl ⟨by rfl, ?_⟩) hHeld ?_ ?_
    rotate_left
    · rintro w' ⟨s0, s1⟩
      refine load_row (ty := 31) (p := .tmp 10) _ _ _ _ _ ?p1 ?p2 s0 Try.underlying31 ?p4 ?p5; (case p1 => rfl); (case p2 => rfl); (case p4 => rfl); (case p5 => kernel_rfl)
    rotate_left
    · simp only [Act.put, List.setIfInBounds_toArray, List.set_cons_zero, List.set_cons_succ, i64_w, i32_w]
      rfl
    refine take_ (i := 1) (N := (some 55)) (v := ?_) (a' := ?_) #[true, true, false, false, false] rfl rfl (by kernel_rfl) (fun _ _ _ h => h) (Or.inl ⟨by rfl, ?_⟩) hHeld ?_ ?_
    rotate_left
    · rintro w' ⟨s0, s1⟩
      refine load_row (ty := 40) (p := .tmp 11) _ _ _ _ _ ?p1 ?p2 s1 Try.underlying40 ?p4 ?p5; (case p1 => rfl); (case p2 => rfl); (case p4 => rfl); (case p5 => kernel_rfl)
    rotate_left
    · simp only [Act.put, List.setIfInBounds_toArray, List.set_cons_zero, List.set_cons_succ, i64_w, i32_w]
      rfl
    refine one_ (i := 2) (N := none) #[true, true, true, false, false] rfl rfl (by kernel_rfl) (by decide) (fun K hK => ?_)
    refine skip_ (by rfl) rfl (store_row (ty := 31) (p := .tmp 6) (q := .tmp 54) _ _ _ (hwC (.slice A1 n c1) (.slice B1 m d1) r) rfl rfl rfl (H8.out.drew.blk 3 rfl) (by kernel_rfl) rfl (by kernel_rfl)) ?_
    have H9 := Aside0.mk (H8.out.drew.setRow 3 rfl (hwC (.slice A1 n c1) (.slice B1 m d1) r))
    refine hK.out _ _ ⟨H9.out.blk 6 rfl, H9.out.blk 7 rfl⟩ (fun hHeld => ?_)
    clear hK K
    refine one_ (i := 3) (N := none) #[true, true, true, true, false] rfl rfl (by kernel_rfl) (by decide) (fun K hK => ?_)
    refine skip_ (by rfl) rfl (store_row (ty := 40) (p := .tmp 7) (q := .tmp 55) _ _ _ #[.int .i64 v, .string s] rfl rfl rfl (H9.out.blk 4 rfl) (by kernel_rfl) rfl (by kernel_rfl)) ?_
    have H10 := Aside0.mk (H9.out.setRow 4 rfl #[.int .i64 v, .string s])
    refine hK.out _ _ ⟨H10.out.blk 6 rfl, H10.out.blk 7 rfl⟩ (fun hHeld => ?_)
    clear hK K
    refine pure_ (i := 4) (N := (some 8)) (v := ?_) (a' := ?_) #[true, true, true, true, true] rfl rfl (by kernel_rfl) (fun _ _ _ h => h) (Or.inl ⟨by rfl, ?_⟩) ?_ ?_
    rotate_left
    · intro w'
      go_simp
      try with_reducible rfl
    rotate_left
    · simp only [Act.put, List.setIfInBounds_toArray, List.set_cons_zero, List.set_cons_succ, i64_w, i32_w]
      rfl
    refine done_ (by kernel_rfl) ?_
    go_wp2
    refine bodyPost_ret (results_cct rfl _ _ (w.heap.size + 1 + 1 + 1) (w.heap.size + 1 + 1 + 1 + 1) 31 40 (hwC (.slice A1 n c1) (.slice B1 m d1) r) #[.int .i64 v, .string s] (0, 0) (0, 0) _ _ rfl (H10.out.blk 3 rfl) Try.underlying31 rfl (by kernel_rfl) rfl (H10.out.blk 4 rfl) Try.underlying40 rfl (by kernel_rfl)) rfl ?_
    exact ⟨A1, c1, hs1, B1, d1, rfl, H10.out.done (H10.out.sureNew 0 rfl) HS.out⟩
  ·
    refine value_ (w1 := ?_) (v := ?_) (by rfl) rfl ?_ ?_
    rotate_left 2
    · go_simp
      constructor
      · rfl
      · rfl
    have Ha := Aside0.mk (H4.out.drew.alloc_ (q := w3.heap.size + 1) (by simp) #[.int .i64 0, .string ⟨#[]⟩] 40)
    refine hK.out _ _ ⟨Ha.out.cell 1 rfl 0 rfl, Ha.out.cell 1 rfl 1 rfl, Ha.out.cell 1 rfl 2 rfl, Ha.out.cell 1 rfl 3 rfl, Ha.out.cell 2 rfl 0 rfl, Ha.out.cell 2 rfl 1 rfl, Ha.out.cell 2 rfl 2 rfl, Ha.out.cell 5 rfl (kd.toNat * 2 + 1) hfr⟩ (fun hHeld => ?_)
    clear hK K
    refine norm_ (a' := ?_) ?_ ?_
    rotate_left
    · show Act.put _ (some 11) _ = _
      simp only [Act.put, List.setIfInBounds_toArray, List.set_cons_zero, List.set_cons_succ, i64_w, i32_w]
      rfl
    refine one_ (i := 7) (N := (some 43)) #[true, true, true, true, true, true, true, true, false, false, false, true, false, false] rfl rfl (by kernel_rfl) (by decide) (fun K hK => ?_)
    refine call_ fr #[.pointer (some ⟨w3.heap.size, 0, none⟩), .agg #[.int .i64 kd, .int .i64 bank, .int .i64 cell, .string b], .agg #[.bool false, .int .i64 fb, .bool noise]] (by rfl) rfl ?hrun ((RUN.out _ _ _ _ _ Ha.out rfl rfl rfl).mono ?_)
    case hrun => go_simp; (try simp only [hev, her, Result.andThen_ok])
    rintro e w5 ⟨S1, A1, c1, hs1, B1, d1, rfl, hS1, hb⟩
    refine ⟨_, rfl, ?_⟩
    have H6 := Aside0.mk hb
    have HS := Aside0.mk (fun k hk => (hS1 k hk).imp id (fun h => Nat.le_trans Ha.out.bel.size h) : ∀ k, S1 k → S k ∨ w.heap.size ≤ k)
    clear hb hS1
    refine hK.out _ _ ⟨H6.out.cell 1 rfl 0 rfl, H6.out.cell 1 rfl 1 rfl, H6.out.cell 1 rfl 2 rfl, H6.out.cell 1 rfl 3 rfl, H6.out.cell 2 rfl 0 rfl, H6.out.cell 2 rfl 1 rfl, H6.out.cell 2 rfl 2 rfl, H6.out.cell 5 rfl (kd.toNat * 2 + 1) hfr⟩ (fun hHeld => ?_)
    clear hK K
    refine norm_ (a' := ?_) ?_ ?_
    rotate_left
    · show Act.put _ (some 43) _ = _
      simp only [Act.put, List.setIfInBounds_toArray, List.set_cons_zero, List.set_cons_succ, i64_w, i32_w]
      rfl
    refine pure_ (i := 8) (N := (some 35)) (v := ?_) (a' := ?_) #[true, true, true, true, true, true, true, true, true, false, false, true, false, false] rfl rfl (by kernel_rfl) (fun _ _ _ h => h) (Or.inl ⟨by rfl, ?_⟩) ?_ ?_
    rotate_left
    · intro w'
      go_simp
      try with_reducible rfl
    rotate_left
    · simp only [Act.put, List.setIfInBounds_toArray, List.set_cons_zero, List.set_cons_succ, i64_w, i32_w]
      rfl
    refine pure_ (i := 9) (N := (some 44)) (v := ?_) (a' := ?_) #[true, true, true, true, true, true, true, true, true, true, false, true, false, false] rfl rfl (by kernel_rfl) (fun _ _ _ h => h) (Or.inl ⟨by rfl, ?_⟩) ?_ ?_
    rotate_left
    · intro w'
      go_simp
      try with_reducible rfl
    rotate_left
    · simp only [Act.put, List.setIfInBounds_toArray, List.set_cons_zero, List.set_cons_succ, i64_w, i32_w]
      rfl
    refine pure_ (i := 10) (N := (some 45)) (v := ?_) (a' := ?_) #[true, true, true, true, true, true, true, true, true, true, true, true, false, false] rfl rfl (by kernel_rfl) (fun _ _ _ h => h) (Or.inl ⟨by rfl, ?_⟩) ?_ ?_
    rotate_left
    · intro w'
      go_simp
      try with_reducible rfl
    rotate_left
    · simp only [Act.put, List.setIfInBounds_toArray, List.set_cons_zero, List.set_cons_succ, i64_w, i32_w]
      rfl
    refine one_ (i := 12) (N := none) #[true, true, true, true, true, true, true, true, true, true, true, true, true, false] rfl rfl (by kernel_rfl) (by decide) (fun K hK => ?_)
    refine skip_ (by rfl) rfl (store_row (ty := 40) (p := .tmp 11) (q := .tmp 44) _ _ _ #[.int .i64 v, .string s] rfl rfl rfl (H6.out.blk 7 rfl) (by kernel_rfl) rfl (by kernel_rfl)) ?_
    have H7 := Aside0.mk (H6.out.setRow 7 rfl #[.int .i64 v, .string s])
    refine hK.out _ _ ⟨H7.out.cell 1 rfl 0 rfl, H7.out.cell 1 rfl 1 rfl, H7.out.cell 1 rfl 2 rfl, H7.out.cell 1 rfl 3 rfl, H7.out.cell 2 rfl 0 rfl, H7.out.cell 2 rfl 1 rfl, H7.out.cell 2 rfl 2 rfl, H7.out.cell 5 rfl (kd.toNat * 2 + 1) hfr⟩ (fun hHeld => ?_)
    clear hK K
    refine pure_ (i := 13) (N := (some 12)) (v := ?_) (a' := ?_) #[true, true, true, true, true, true, true, true, true, true, true, true, true, true] rfl rfl (by kernel_rfl) (fun _ _ _ h => h) (Or.inl ⟨by rfl, ?_⟩) ?_ ?_
    rotate_left
    · intro w'
      go_simp
      try with_reducible rfl
    rotate_left
    · simp only [Act.put, List.setIfInBounds_toArray, List.set_cons_zero, List.set_cons_succ, i64_w, i32_w]
      rfl
    refine done_ (by kernel_rfl) ?_
    have k2 := H7.out.cell 2 rfl 0 rfl
    have H8 := H7
    go_wp2
    clear k2
    have k1 : ¬ kd < 1 := by omega
    have k5 : ¬ 5 ≤ kd := by omega
    have k6 : kd < 5 := by omega
    have k7 : 0 ≤ kd := by omega
    refine start_ (n := 5) (S := (fun w' => w'.heap[w3.heap.size]? = some (.cells (hwC (.slice A1 n c1) (.slice B1 m d1) r) 31) ∧ w'.heap[(w3.heap.size + 1)]? = some (.cells #[.int .i64 v, .string s] 40))) (ds := []) #[false, false, false, false, false] (by kernel_rfl) rfl rfl ⟨H8.out.drew.blk 6 rfl, H8.out.drew.blk 7 rfl⟩ (fun hHeld => ?_)
    refine take_ (i := 0) (N := (some 54)) (v := ?_) (a' := ?_) #[true, false, false, false, false] rfl rfl (by kernel_rfl) (fun _ _ _ h => h) (Or.inl ⟨by rfl, ?_⟩) hHeld ?_ ?_
    rotate_left
    · rintro w' ⟨s0, s1⟩
      refine load_row (ty := 31) (p := .tmp 10) _ _ _ _ _ ?p1 ?p2 s0 Try.underlying31 ?p4 ?p5; (case p1 => rfl); (case p2 => rfl); (case p4 => rfl); (case p5 => kernel_rfl)
    rotate_left
    · simp only [Act.put, List.setIfInBounds_toArray, List.set_cons_zero, List.set_cons_succ, i64_w, i32_w]
      rfl
    refine take_ (i := 1) (N := (some 55)) (v := ?_) (a' := ?_) #[true, true, false, false, false] rfl rfl (by kernel_rfl) (fun _ _ _ h => h) (Or.inl ⟨by rfl, ?_⟩) hHeld ?_ ?_
    rotate_left
    · rintro w' ⟨s0, s1⟩
      refine load_row (ty := 40) (p := .tmp 11) _ _ _ _ _ ?p1 ?p2 s1 Try.underlying40 ?p4 ?p5; (case p1 => rfl); (case p2 => rfl); (case p4 => rfl); (case p5 => kernel_rfl)
    rotate_left
    · simp only [Act.put, List.setIfInBounds_toArray, List.set_cons_zero, List.set_cons_succ, i64_w, i32_w]
      rfl
    refine one_ (i := 2) (N := none) #[true, true, true, false, false] rfl rfl (by kernel_rfl) (by decide) (fun K hK => ?_)
    refine skip_ (by rfl) rfl (store_row (ty := 31) (p := .tmp 6) (q := .tmp 54) _ _ _ (hwC (.slice A1 n c1) (.slice B1 m d1) r) rfl rfl rfl (H8.out.drew.blk 3 rfl) (by kernel_rfl) rfl (by kernel_rfl)) ?_
    have H9 := Aside0.mk (H8.out.drew.setRow 3 rfl (hwC (.slice A1 n c1) (.slice B1 m d1) r))
    refine hK.out _ _ ⟨H9.out.blk 6 rfl, H9.out.blk 7 rfl⟩ (fun hHeld => ?_)
    clear hK K
    refine one_ (i := 3) (N := none) #[true, true, true, true, false] rfl rfl (by kernel_rfl) (by decide) (fun K hK => ?_)
    refine skip_ (by rfl) rfl (store_row (ty := 40) (p := .tmp 7) (q := .tmp 55) _ _ _ #[.int .i64 v, .string s] rfl rfl rfl (H9.out.blk 4 rfl) (by kernel_rfl) rfl (by kernel_rfl)) ?_
    have H10 := Aside0.mk (H9.out.setRow 4 rfl #[.int .i64 v, .string s])
    refine hK.out _ _ ⟨H10.out.blk 6 rfl, H10.out.blk 7 rfl⟩ (fun hHeld => ?_)
    clear hK K
    refine pure_ (i := 4) (N := (some 8)) (v := ?_) (a' := ?_) #[true, true, true, true, true] rfl rfl (by kernel_rfl) (fun _ _ _ h => h) (Or.inl ⟨by rfl, ?_⟩) ?_ ?_
    rotate_left
    · intro w'
      go_simp
      try with_reducible rfl
    rotate_left
    · simp only [Act.put, List.setIfInBounds_toArray, List.set_cons_zero, List.set_cons_succ, i64_w, i32_w]
      rfl
    refine done_ (by kernel_rfl) ?_
    go_wp2
    refine bodyPost_ret (results_cct rfl _ _ (w.heap.size + 1 + 1 + 1) (w.heap.size + 1 + 1 + 1 + 1) 31 40 (hwC (.slice A1 n c1) (.slice B1 m d1) r) #[.int .i64 v, .string s] (0, 0) (0, 0) _ _ rfl (H10.out.blk 3 rfl) Try.underlying31 rfl (by kernel_rfl) rfl (H10.out.blk 4 rfl) Try.underlying40 rfl (by kernel_rfl)) rfl ?_
    exact ⟨A1, c1, hs1, B1, d1, rfl, H10.out.done (H10.out.sureNew 0 rfl) HS.out⟩
end Go.Proofs.Ytkfhekocbfednaa.Dv
namespace Go.Proofs.Ytkfhekocbfednaa.Dv
set_option linter.unusedVariables false
set_option linter.unusedSimpArgs false
open Go.RowKit Go.Proofs.Ytkfhekocbfednaa Go.Proofs.YtkfhekocbfednaaW.PrintWords Go.Proofs.YtkfhekocbfednaaW.PrintLast
open Go.Proofs.Ytkfhekocbfednaa.Fu Go.Proofs.Ytkfhekocbfednaa.Fl
theorem do_err1 {A : Option Addr} {n d : Nat} {hs : List Hdr} {bk : List (List Int)} {B : Option Addr} {m c : Nat} {fl : List ByteArray} {w : World} {S : Nat → Prop} {r : Nat → Int} (bank cell : Int) (b : ByteArray) (cut : Bool) (fb : Int) (noise : Bool) (hd : ∀ k, S k → k < w.heap.size) (hF : Sure S w (fun w => Fu w A n d hs bk)) (hL : Sure S w (fun w => Fl w B m c fl)) (q : Int) (hv : noBytes b = true) (hE : frE bk bank cell = q) (hq : (q == 0) = false) :
    Calls Try.prog 10 #[.agg (hwC (.slice A n d) (.slice B m c) r), .agg #[.int .i64 1, .int .i64 bank, .int .i64 cell, .string b], .agg #[.bool cut, .int .i64 fb, .bool noise]] w (DoRes S n m r bk fl 0 ⟨#[]⟩ q w) :=
  do_errG bank cell b cut fb noise hd hF hL 1 (by omega) (by omega) 38 39 rfl rfl (enters_ Try.func38 (by kernel_rfl) rfl) (enters_ Try.func39 (by kernel_rfl) rfl) (fun w => (onFuse_any 1 bank cell b w).mono fun e w' h => ⟨h.1.trans (by rw [hv]), h.2⟩) q hq (fun w0 w1 S ds os g H hi hj hl => run1_err bank cell b cut fb noise q H 6 0 hi hj hE)
theorem do_cut1 {A : Option Addr} {n d : Nat} {hs : List Hdr} {bk : List (List Int)} {B : Option Addr} {m c : Nat} {fl : List ByteArray} {w : World} {S : Nat → Prop} {r : Nat → Int} (bank cell : Int) (b : ByteArray) (fb : Int) (noise : Bool) (hd : ∀ k, S k → k < w.heap.size) (hF : Sure S w (fun w => Fu w A n d hs bk)) (hL : Sure S w (fun w => Fl w B m c fl)) (hv : noBytes b = true) (hE : frE bk bank cell = 0) :
    Calls Try.prog 10 #[.agg (hwC (.slice A n d) (.slice B m c) r), .agg #[.int .i64 1, .int .i64 bank, .int .i64 cell, .string b], .agg #[.bool true, .int .i64 fb, .bool noise]] w (DoRes S n m r bk fl 0 ⟨#[]⟩ 0 w) :=
  do_cutG bank cell b fb noise hd hF hL bk fl (frV bk bank cell noise) ⟨#[]⟩ 1 (by omega) (by omega) 38 39 rfl rfl (enters_ Try.func38 (by kernel_rfl) rfl) (enters_ Try.func39 (by kernel_rfl) rfl) (fun w => (onFuse_any 1 bank cell b w).mono fun e w' h => ⟨h.1.trans (by rw [hv]), h.2⟩) (fun w0 w1 S ds os g H hi hj hl => run1_ok bank cell b true fb noise H 6 0 1 hi hj hl hE)
theorem do_all1 {A : Option Addr} {n d : Nat} {hs : List Hdr} {bk : List (List Int)} {B : Option Addr} {m c : Nat} {fl : List ByteArray} {w : World} {S : Nat → Prop} {r : Nat → Int} (bank cell : Int) (b : ByteArray) (fb : Int) (noise : Bool) (hd : ∀ k, S k → k < w.heap.size) (hF : Sure S w (fun w => Fu w A n d hs bk)) (hL : Sure S w (fun w => Fl w B m c fl)) (hv : noBytes b = true) (hE : frE bk bank cell = 0) :
    Calls Try.prog 10 #[.agg (hwC (.slice A n d) (.slice B m c) r), .agg #[.int .i64 1, .int .i64 bank, .int .i64 cell, .string b], .agg #[.bool false, .int .i64 fb, .bool noise]] w (DoRes S n m r bk fl (frV bk bank cell noise) ⟨#[]⟩ 0 w) :=
  do_allG bank cell b fb noise hd hF hL bk fl (frV bk bank cell noise) ⟨#[]⟩ 1 (by omega) (by omega) 38 39 rfl rfl (enters_ Try.func38 (by kernel_rfl) rfl) (enters_ Try.func39 (by kernel_rfl) rfl) (fun w => (onFuse_any 1 bank cell b w).mono fun e w' h => ⟨h.1.trans (by rw [hv]), h.2⟩) (fun w0 w1 S ds os g H hi hj hl => run1_ok bank cell b false fb noise H 6 0 1 hi hj hl hE)
theorem do_err2 {A : Option Addr} {n d : Nat} {hs : List Hdr} {bk : List (List Int)} {B : Option Addr} {m c : Nat} {fl : List ByteArray} {w : World} {S : Nat → Prop} {r : Nat → Int} (bank cell : Int) (b : ByteArray) (cut : Bool) (fb : Int) (noise : Bool) (hd : ∀ k, S k → k < w.heap.size) (hF : Sure S w (fun w => Fu w A n d hs bk)) (hL : Sure S w (fun w => Fl w B m c fl)) (hn : n ≤ 1000) (hok : OkBk bk) (q : Int) (hv : noBytes b = true) (hE : frE bk bank cell = q) (hq : (q == 0) = false) :
    Calls Try.prog 10 #[.agg (hwC (.slice A n d) (.slice B m c) r), .agg #[.int .i64 2, .int .i64 bank, .int .i64 cell, .string b], .agg #[.bool cut, .int .i64 fb, .bool noise]] w (DoRes S n m r bk fl 0 ⟨#[]⟩ q w) :=
  do_errG bank cell b cut fb noise hd hF hL 2 (by omega) (by omega) 38 41 rfl rfl (enters_ Try.func38 (by kernel_rfl) rfl) (enters_ Try.func41 (by kernel_rfl) rfl) (fun w => (onFuse_any 2 bank cell b w).mono fun e w' h => ⟨h.1.trans (by rw [hv]), h.2⟩) q hq (fun w0 w1 S ds os g H hi hj hl => run2_err bank cell b cut fb noise q H 6 0 hi hj hn hok hE hq)
theorem do_cut2 {A : Option Addr} {n d : Nat} {hs : List Hdr} {bk : List (List Int)} {B : Option Addr} {m c : Nat} {fl : List ByteArray} {w : World} {S : Nat → Prop} {r : Nat → Int} (bank cell : Int) (b : ByteArray) (fb : Int) (noise : Bool) (hd : ∀ k, S k → k < w.heap.size) (hF : Sure S w (fun w => Fu w A n d hs bk)) (hL : Sure S w (fun w => Fl w B m c fl)) (hn : n ≤ 1000) (hok : OkBk bk) (hv : noBytes b = true) (hE : frE bk bank cell = 0) :
    Calls Try.prog 10 #[.agg (hwC (.slice A n d) (.slice B m c) r), .agg #[.int .i64 2, .int .i64 bank, .int .i64 cell, .string b], .agg #[.bool true, .int .i64 fb, .bool noise]] w (DoRes S n m r (fpL bk bank cell true) fl 0 ⟨#[]⟩ 0 w) :=
  do_cutG bank cell b fb noise hd hF hL (fpL bk bank cell true) fl 0 ⟨#[]⟩ 2 (by omega) (by omega) 38 41 rfl rfl (enters_ Try.func38 (by kernel_rfl) rfl) (enters_ Try.func41 (by kernel_rfl) rfl) (fun w => (onFuse_any 2 bank cell b w).mono fun e w' h => ⟨h.1.trans (by rw [hv]), h.2⟩) (fun w0 w1 S ds os g H hi hj hl => run2_ok bank cell b true fb noise H 6 0 1 hi hj hl hn hok hE)
theorem do_all2 {A : Option Addr} {n d : Nat} {hs : List Hdr} {bk : List (List Int)} {B : Option Addr} {m c : Nat} {fl : List ByteArray} {w : World} {S : Nat → Prop} {r : Nat → Int} (bank cell : Int) (b : ByteArray) (fb : Int) (noise : Bool) (hd : ∀ k, S k → k < w.heap.size) (hF : Sure S w (fun w => Fu w A n d hs bk)) (hL : Sure S w (fun w => Fl w B m c fl)) (hn : n ≤ 1000) (hok : OkBk bk) (hv : noBytes b = true) (hE : frE bk bank cell = 0) :
    Calls Try.prog 10 #[.agg (hwC (.slice A n d) (.slice B m c) r), .agg #[.int .i64 2, .int .i64 bank, .int .i64 cell, .string b], .agg #[.bool false, .int .i64 fb, .bool noise]] w (DoRes S n m r (fpL bk bank cell false) fl 0 ⟨#[]⟩ 0 w) :=
  do_allG bank cell b fb noise hd hF hL (fpL bk bank cell false) fl 0 ⟨#[]⟩ 2 (by omega) (by omega) 38 41 rfl rfl (enters_ Try.func38 (by kernel_rfl) rfl) (enters_ Try.func41 (by kernel_rfl) rfl) (fun w => (onFuse_any 2 bank cell b w).mono fun e w' h => ⟨h.1.trans (by rw [hv]), h.2⟩) (fun w0 w1 S ds os g H hi hj hl => run2_ok bank cell b false fb noise H 6 0 1 hi hj hl hn hok hE)
theorem do_err3 {A : Option Addr} {n d : Nat} {hs : List Hdr} {bk : List (List Int)} {B : Option Addr} {m c : Nat} {fl : List ByteArray} {w : World} {S : Nat → Prop} {r : Nat → Int} (bank cell : Int) (b : ByteArray) (cut : Bool) (fb : Int) (noise : Bool) (hd : ∀ k, S k → k < w.heap.size) (hF : Sure S w (fun w => Fu w A n d hs bk)) (hL : Sure S w (fun w => Fl w B m c fl)) (q : Int) (hv : (noBytes b && decide (bank = 0)) = true) (hE : rdE fl cell = q) (hq : (q == 0) = false) :
    Calls Try.prog 10 #[.agg (hwC (.slice A n d) (.slice B m c) r), .agg #[.int .i64 3, .int .i64 bank, .int .i64 cell, .string b], .agg #[.bool cut, .int .i64 fb, .bool noise]] w (DoRes S n m r bk fl 0 ⟨#[]⟩ q w) :=
  do_errG bank cell b cut fb noise hd hF hL 3 (by omega) (by omega) 43 44 rfl rfl (enters_ Try.func43 (by kernel_rfl) rfl) (enters_ Try.func44 (by kernel_rfl) rfl) (fun w => (onRead_any 3 bank cell b w).mono fun e w' h => ⟨h.1.trans (by rw [hv]), h.2⟩) q hq (fun w0 w1 S ds os g H hi hj hl => run3_err bank cell b cut fb noise q H 6 1 hi hl hE)
theorem do_cut3 {A : Option Addr} {n d : Nat} {hs : List Hdr} {bk : List (List Int)} {B : Option Addr} {m c : Nat} {fl : List ByteArray} {w : World} {S : Nat → Prop} {r : Nat → Int} (bank cell : Int) (b : ByteArray) (fb : Int) (noise : Bool) (hd : ∀ k, S k → k < w.heap.size) (hF : Sure S w (fun w => Fu w A n d hs bk)) (hL : Sure S w (fun w => Fl w B m c fl)) (hv : (noBytes b && decide (bank = 0)) = true) (hE : rdE fl cell = 0) :
    Calls Try.prog 10 #[.agg (hwC (.slice A n d) (.slice B m c) r), .agg #[.int .i64 3, .int .i64 bank, .int .i64 cell, .string b], .agg #[.bool true, .int .i64 fb, .bool noise]] w (DoRes S n m r bk fl 0 ⟨#[]⟩ 0 w) :=
  do_cutG bank cell b fb noise hd hF hL bk fl 0 (rdS fl cell) 3 (by omega) (by omega) 43 44 rfl rfl (enters_ Try.func43 (by kernel_rfl) rfl) (enters_ Try.func44 (by kernel_rfl) rfl) (fun w => (onRead_any 3 bank cell b w).mono fun e w' h => ⟨h.1.trans (by rw [hv]), h.2⟩) (fun w0 w1 S ds os g H hi hj hl => run3_ok bank cell b true fb noise H 6 0 1 hi hj hl hE)
theorem do_all3 {A : Option Addr} {n d : Nat} {hs : List Hdr} {bk : List (List Int)} {B : Option Addr} {m c : Nat} {fl : List ByteArray} {w : World} {S : Nat → Prop} {r : Nat → Int} (bank cell : Int) (b : ByteArray) (fb : Int) (noise : Bool) (hd : ∀ k, S k → k < w.heap.size) (hF : Sure S w (fun w => Fu w A n d hs bk)) (hL : Sure S w (fun w => Fl w B m c fl)) (hv : (noBytes b && decide (bank = 0)) = true) (hE : rdE fl cell = 0) :
    Calls Try.prog 10 #[.agg (hwC (.slice A n d) (.slice B m c) r), .agg #[.int .i64 3, .int .i64 bank, .int .i64 cell, .string b], .agg #[.bool false, .int .i64 fb, .bool noise]] w (DoRes S n m r bk fl 0 (rdS fl cell) 0 w) :=
  do_allG bank cell b fb noise hd hF hL bk fl 0 (rdS fl cell) 3 (by omega) (by omega) 43 44 rfl rfl (enters_ Try.func43 (by kernel_rfl) rfl) (enters_ Try.func44 (by kernel_rfl) rfl) (fun w => (onRead_any 3 bank cell b w).mono fun e w' h => ⟨h.1.trans (by rw [hv]), h.2⟩) (fun w0 w1 S ds os g H hi hj hl => run3_ok bank cell b false fb noise H 6 0 1 hi hj hl hE)
theorem do_err4 {A : Option Addr} {n d : Nat} {hs : List Hdr} {bk : List (List Int)} {B : Option Addr} {m c : Nat} {fl : List ByteArray} {w : World} {S : Nat → Prop} {r : Nat → Int} (bank cell : Int) (b : ByteArray) (cut : Bool) (fb : Int) (noise : Bool) (hd : ∀ k, S k → k < w.heap.size) (hF : Sure S w (fun w => Fu w A n d hs bk)) (hL : Sure S w (fun w => Fl w B m c fl)) (hok : OkFl fl) (q : Int) (hv : decide (bank = 0) = true) (hE : wrE fl cell b = q) (hq : (q == 0) = false) :
    Calls Try.prog 10 #[.agg (hwC (.slice A n d) (.slice B m c) r), .agg #[.int .i64 4, .int .i64 bank, .int .i64 cell, .string b], .agg #[.bool cut, .int .i64 fb, .bool noise]] w (DoRes S n m r bk fl 0 ⟨#[]⟩ q w) :=
  do_errG bank cell b cut fb noise hd hF hL 4 (by omega) (by omega) 46 47 rfl rfl (enters_ Try.func46 (by kernel_rfl) rfl) (enters_ Try.func47 (by kernel_rfl) rfl) (fun w => (onWrite_any 4 bank cell b w).mono fun e w' h => ⟨h.1.trans (by rw [hv]), h.2⟩) q hq (fun w0 w1 S ds os g H hi hj hl => run4_err bank cell b cut fb noise q H 6 1 hi hl hok hE hq)
theorem do_cut4 {A : Option Addr} {n d : Nat} {hs : List Hdr} {bk : List (List Int)} {B : Option Addr} {m c : Nat} {fl : List ByteArray} {w : World} {S : Nat → Prop} {r : Nat → Int} (bank cell : Int) (b : ByteArray) (fb : Int) (noise : Bool) (hd : ∀ k, S k → k < w.heap.size) (hF : Sure S w (fun w => Fu w A n d hs bk)) (hL : Sure S w (fun w => Fl w B m c fl)) (hok : OkFl fl) (hv : decide (bank = 0) = true) (hE : wrE fl cell b = 0) :
    Calls Try.prog 10 #[.agg (hwC (.slice A n d) (.slice B m c) r), .agg #[.int .i64 4, .int .i64 bank, .int .i64 cell, .string b], .agg #[.bool true, .int .i64 fb, .bool noise]] w (DoRes S n m r bk (wrL fl cell b (cutV true fb)) 0 ⟨#[]⟩ 0 w) :=
  do_cutG bank cell b fb noise hd hF hL bk (wrL fl cell b (cutV true fb)) 0 ⟨#[]⟩ 4 (by omega) (by omega) 46 47 rfl rfl (enters_ Try.func46 (by kernel_rfl) rfl) (enters_ Try.func47 (by kernel_rfl) rfl) (fun w => (onWrite_any 4 bank cell b w).mono fun e w' h => ⟨h.1.trans (by rw [hv]), h.2⟩) (fun w0 w1 S ds os g H hi hj hl => run4_ok bank cell b true fb noise H 6 0 1 hi hj hl hok hE)
theorem do_all4 {A : Option Addr} {n d : Nat} {hs : List Hdr} {bk : List (List Int)} {B : Option Addr} {m c : Nat} {fl : List ByteArray} {w : World} {S : Nat → Prop} {r : Nat → Int} (bank cell : Int) (b : ByteArray) (fb : Int) (noise : Bool) (hd : ∀ k, S k → k < w.heap.size) (hF : Sure S w (fun w => Fu w A n d hs bk)) (hL : Sure S w (fun w => Fl w B m c fl)) (hok : OkFl fl) (hv : decide (bank = 0) = true) (hE : wrE fl cell b = 0) :
    Calls Try.prog 10 #[.agg (hwC (.slice A n d) (.slice B m c) r), .agg #[.int .i64 4, .int .i64 bank, .int .i64 cell, .string b], .agg #[.bool false, .int .i64 fb, .bool noise]] w (DoRes S n m r bk (wrL fl cell b (cutV false fb)) 0 ⟨#[]⟩ 0 w) :=
  do_allG bank cell b fb noise hd hF hL bk (wrL fl cell b (cutV false fb)) 0 ⟨#[]⟩ 4 (by omega) (by omega) 46 47 rfl rfl (enters_ Try.func46 (by kernel_rfl) rfl) (enters_ Try.func47 (by kernel_rfl) rfl) (fun w => (onWrite_any 4 bank cell b w).mono fun e w' h => ⟨h.1.trans (by rw [hv]), h.2⟩) (fun w0 w1 S ds os g H hi hj hl => run4_ok bank cell b false fb noise H 6 0 1 hi hj hl hok hE)
end Go.Proofs.Ytkfhekocbfednaa.Dv
end
