/- Part of the proof of deviceSeparate_holds, deviceAll_holds, deviceMonotonic_holds: what later parts use. -/
import Derived.Test.YtkfhekocbfednaaZu0
import Derived.Test.YtkfhekocbfednaaZu1
import Derived.Test.YtkfhekocbfednaaZu2
import Derived.Test.YtkfhekocbfednaaZu3
import Derived.Test.YtkfhekocbfednaaZu4
import Derived.Test.YtkfhekocbfednaaZu5
import Derived.Test.YtkfhekocbfednaaZu6
import Derived.Test.YtkfhekocbfednaaZu7
import Derived.Test.YtkfhekocbfednaaZu8
import Derived.Test.YtkfhekocbfednaaZu9
import Derived.Test.YtkfhekocbfednaaZu10
import Derived.Test.YtkfhekocbfednaaZu11
import Derived.Test.YtkfhekocbfednaaZu12
import Derived.Test.YtkfhekocbfednaaZu13
import Derived.Test.YtkfhekocbfednaaZu14
import Derived.Test.YtkfhekocbfednaaZu15
import Derived.Test.YtkfhekocbfednaaZu16
import Derived.Test.YtkfhekocbfednaaZu17
import Derived.Test.YtkfhekocbfednaaZu18
import Derived.Test.YtkfhekocbfednaaZu19
import Derived.Test.YtkfhekocbfednaaZu20
import Derived.Test.YtkfhekocbfednaaZu21
import Derived.Test.YtkfhekocbfednaaZu22
import Derived.Test.YtkfhekocbfednaaZu23
import Derived.Test.YtkfhekocbfednaaZu25
import Derived.Laws.StructEq
section
namespace Go.Proofs.Ytkfhekocbfednaa.Dv
set_option linter.unusedVariables false
set_option linter.unusedSimpArgs false
open Go.RowKit Go.Proofs.Ytkfhekocbfednaa Go.Proofs.YtkfhekocbfednaaW.PrintWords Go.Proofs.YtkfhekocbfednaaW.PrintLast Go.Proofs.YtkfhekocbfednaaW.PrintMore
open Go.Proofs.Ytkfhekocbfednaa.Fu Go.Proofs.Ytkfhekocbfednaa.Fl
attribute [local go_sem] max2_max min2_min max_two min_two
set_option maxRecDepth 100000 in
set_option maxHeartbeats 16000000 in
theorem rdo_errt4 {A : Option Addr} {n d : Nat} {hs : List Hdr} {bk : List (List Int)} {B : Option Addr} {m c : Nat} {fl : List ByteArray} {w : World} {S : Nat → Prop} {r : Nat → Int} (cell : Int) (b : ByteArray) (fb : Int) (noise : Bool) (hd : ∀ k, S k → k < w.heap.size) (hF : Sure S w (fun w => Fu w A n d hs bk)) (hL : Sure S w (fun w => Fl w B m c fl)) (hok : OkFl fl) (q : Int) (hE : wrE fl cell b = q) (hq : (q == 0) = false) :
    Calls Try.prog 11 #[.agg (hwC (.slice A n d) (.slice B m c) r), .agg #[.int .i64 4, .int .i64 0, .int .i64 cell, .string b], .agg #[.bool true, .int .i64 fb, .bool noise]] w (DoRes S n m r bk fl 0 ⟨#[]⟩ q w) := by
  have H0 := Aside0.mk ((St.enter2 hd hF hL).alloc5 (hwC (.slice A n d) (.slice B m c) r) 31 #[.int .i64 4, .int .i64 0, .int .i64 cell, .string b] 33 #[.bool true, .int .i64 fb, .bool noise] 35 #[.slice none 0 0, .slice none 0 0, .int .u8 0, .int .u8 0, .int .u8 0, .int .u8 0, .int .u8 0, .int .u8 0, .int .u8 0, .int .u8 0, .int .u8 0, .int .u8 0, .int .u8 0, .int .u8 0, .int .u8 0, .int .u8 0, .int .u8 0, .int .u8 0] 31 #[.int .i64 0, .string ⟨#[]⟩] 40)
  have HE := Aside0.mk hE
  have HOK := Aside0.mk hok
  clear hE hok
  go_enter Try.func11, Try.ntmps11
  go_wp2_with (first | (refine loadRowL_ (ty := 31) _ rfl rfl rfl _ _ _ _ _ rfl (H0.out.blk 0 rfl) Try.underlying31 rfl (by kernel_rfl) ?_) | ((with_reducible refine gate_store (t := 31) rfl ?_); refine storeRowSt_ (ty := 31) rfl rfl rfl (hwC (.slice A n d) (.slice B m c) r) (H0.out.alloc_ (q := w.heap.size + 1 + 1 + 1 + 1 + 1) (by simp) #[.slice none 0 0, .slice none 0 0, .int .u8 0, .int .u8 0, .int .u8 0, .int .u8 0, .int .u8 0, .int .u8 0, .int .u8 0, .int .u8 0, .int .u8 0, .int .u8 0, .int .u8 0, .int .u8 0, .int .u8 0, .int .u8 0, .int .u8 0, .int .u8 0] 31) 5 rfl rfl rfl (by kernel_rfl) rfl (by kernel_rfl) ?_; intro w1 h_; have H1 := Aside0.mk h_; clear h_) | ((with_reducible refine gate_store (t := 40) rfl ?_); refine storeRowSt_ (ty := 40) rfl rfl rfl #[.int .i64 0, .string ⟨#[]⟩] (H1.out.alloc #[.int .i64 0, .string ⟨#[]⟩] 40) 6 rfl rfl rfl (by kernel_rfl) rfl (by kernel_rfl) ?_; intro w2 h_; have H2 := Aside0.mk h_; clear h_; have a0 := H2.out.cell 1 rfl 0 rfl; have a1 := H2.out.cell 1 rfl 1 rfl; have a2 := H2.out.cell 1 rfl 2 rfl; have a3 := H2.out.cell 1 rfl 3 rfl; have f0 := H2.out.cell 2 rfl 0 rfl; have f1 := H2.out.cell 2 rfl 1 rfl; have f2 := H2.out.cell 2 rfl 2 rfl; have h0 := H2.out.cell 0 rfl 0 rfl; have h1 := H2.out.cell 0 rfl 1 rfl) | (go_at_call 26; refine (rwrite_at cell b (max 0 (min 256 fb)) _ q H2.out.dom (H2.out.sure 1 rfl) HOK.out HE.out (cut_t fb)).mono ?_; rintro e w3 ⟨B1, c1, rfl, hb⟩; have H3 := Aside0.mk (H2.out.call hb); clear hb; clear a0 a1 a2 a3 f0 f1 f2 h0 h1) | ((with_reducible refine gate_store (t := 27) (p := 18) rfl ?_); refine storeRowSt_ (ty := 27) rfl rfl rfl #[.slice B1 m c1] (H3.out.alloc #[.slice none 0 0] 27) 7 rfl rfl rfl (by kernel_rfl) rfl (by kernel_rfl) ?_; intro w4 h_; have H4 := Aside0.mk h_; clear h_; have k7 := H4.out.cell 7 rfl 0 rfl))
  clear k7
  refine start_ (n := 6) (S := (fun w' => w'.heap[w.heap.size]? = some (.cells (hwC (.slice A n d) (.slice B m c) r) 31) ∧ w'.heap[w1.heap.size]? = some (.cells #[.int .i64 0, .string ⟨#[]⟩] 40))) (ds := []) #[false, false, false, false, false, false] (by kernel_rfl) rfl rfl ⟨H4.out.drew.blk 0 rfl, H4.out.drew.blk 6 rfl⟩ (fun hHeld => ?_)
  refine pure_ (i := 2) (N := (some 133)) (v := ?_) (a' := ?_) #[false, false, true, false, false, false] rfl rfl (by kernel_rfl) (fun _ _ _ h => h) (Or.inl ⟨by rfl, ?_⟩) ?_ ?_
  rotate_left
  · intro w'
    go_simp
    try with_reducible rfl
  rotate_left
  · simp only [Act.put, List.setIfInBounds_toArray, List.set_cons_zero, List.set_cons_succ, i64_w, i32_w]
    rfl
  refine take_ (i := 0) (N := (some 131)) (v := ?_) (a' := ?_) #[true, false, true, false, false, false] rfl rfl (by kernel_rfl) (fun _ _ _ h => h) (Or.inl ⟨by rfl, ?_⟩) hHeld ?_ ?_
  rotate_left
  · rintro w' ⟨s0, s1⟩
    refine load_row (ty := 31) (p := .tmp 3) _ _ _ _ _ ?p1 ?p2 s0 Try.underlying31 ?p4 ?p5; (case p1 => rfl); (case p2 => rfl); (case p4 => rfl); (case p5 => kernel_rfl)
  rotate_left
  · simp only [Act.put, List.setIfInBounds_toArray, List.set_cons_zero, List.set_cons_succ, i64_w, i32_w]
    rfl
  refine take_ (i := 1) (N := (some 132)) (v := ?_) (a' := ?_) #[true, true, true, false, false, false] rfl rfl (by kernel_rfl) (fun _ _ _ h => h) (Or.inl ⟨by rfl, ?_⟩) hHeld ?_ ?_
  rotate_left
  · rintro w' ⟨s0, s1⟩
    refine load_row (ty := 40) (p := .tmp 10) _ _ _ _ _ ?p1 ?p2 s1 Try.underlying40 ?p4 ?p5; (case p1 => rfl); (case p2 => rfl); (case p4 => rfl); (case p5 => kernel_rfl)
  rotate_left
  · simp only [Act.put, List.setIfInBounds_toArray, List.set_cons_zero, List.set_cons_succ, i64_w, i32_w]
    rfl
  refine one_ (i := 3) (N := none) #[true, true, true, true, false, false] rfl rfl (by kernel_rfl) (by decide) (fun K hK => ?_)
  refine skip_ (by rfl) rfl (store_row (ty := 31) (p := .tmp 6) (q := .tmp 131) _ _ _ (hwC (.slice A n d) (.slice B m c) r) rfl rfl rfl (H4.out.drew.blk 3 rfl) (by kernel_rfl) rfl (by kernel_rfl)) ?_
  have H8 := Aside0.mk (H4.out.drew.setRow 3 rfl (hwC (.slice A n d) (.slice B m c) r))
  refine hK.out _ _ ⟨H8.out.blk 0 rfl, H8.out.blk 6 rfl⟩ (fun hHeld => ?_)
  clear hK K
  refine one_ (i := 4) (N := none) #[true, true, true, true, true, false] rfl rfl (by kernel_rfl) (by decide) (fun K hK => ?_)
  refine skip_ (by rfl) rfl (store_row (ty := 40) (p := .tmp 7) (q := .tmp 132) _ _ _ #[.int .i64 0, .string ⟨#[]⟩] rfl rfl rfl (H8.out.blk 4 rfl) (by kernel_rfl) rfl (by kernel_rfl)) ?_
  have H9 := Aside0.mk (H8.out.setRow 4 rfl #[.int .i64 0, .string ⟨#[]⟩])
  refine hK.out _ _ ⟨H9.out.blk 0 rfl, H9.out.blk 6 rfl⟩ (fun hHeld => ?_)
  clear hK K
  refine pure_ (i := 5) (N := (some 8)) (v := ?_) (a' := ?_) #[true, true, true, true, true, true] rfl rfl (by kernel_rfl) (fun _ _ _ h => h) (Or.inl ⟨by rfl, ?_⟩) ?_ ?_
  rotate_left
  · intro w'
    go_simp
    try with_reducible rfl
  rotate_left
  · simp only [Act.put, List.setIfInBounds_toArray, List.set_cons_zero, List.set_cons_succ, i64_w, i32_w]
    rfl
  refine done_ (by kernel_rfl) ?_
  go_wp2
  refine bodyPost_ret (results_cct rfl _ _ (w.heap.size + 1 + 1 + 1) (w.heap.size + 1 + 1 + 1 + 1) 31 40 (hwC (.slice A n d) (.slice B m c) r) #[.int .i64 0, .string ⟨#[]⟩] (0, 0) (0, 0) _ _ rfl (H9.out.blk 3 rfl) Try.underlying31 rfl (by kernel_rfl) rfl (H9.out.blk 4 rfl) Try.underlying40 rfl (by kernel_rfl)) rfl ?_
  exact ⟨A, d, hs, B, c, rfl, H9.out.done ((H9.out.sureNew 1 rfl).and (H9.out.sureNew 2 rfl)) (fun k hk => hk.imp id (fun h => Nat.le_trans H2.out.bel.size h.1))⟩
set_option maxRecDepth 100000 in
set_option maxHeartbeats 16000000 in
theorem rdo_errf4 {A : Option Addr} {n d : Nat} {hs : List Hdr} {bk : List (List Int)} {B : Option Addr} {m c : Nat} {fl : List ByteArray} {w : World} {S : Nat → Prop} {r : Nat → Int} (cell : Int) (b : ByteArray) (fb : Int) (noise : Bool) (hd : ∀ k, S k → k < w.heap.size) (hF : Sure S w (fun w => Fu w A n d hs bk)) (hL : Sure S w (fun w => Fl w B m c fl)) (hok : OkFl fl) (q : Int) (hE : wrE fl cell b = q) (hq : (q == 0) = false) :
    Calls Try.prog 11 #[.agg (hwC (.slice A n d) (.slice B m c) r), .agg #[.int .i64 4, .int .i64 0, .int .i64 cell, .string b], .agg #[.bool false, .int .i64 fb, .bool noise]] w (DoRes S n m r bk fl 0 ⟨#[]⟩ q w) := by
  have H0 := Aside0.mk ((St.enter2 hd hF hL).alloc5 (hwC (.slice A n d) (.slice B m c) r) 31 #[.int .i64 4, .int .i64 0, .int .i64 cell, .string b] 33 #[.bool false, .int .i64 fb, .bool noise] 35 #[.slice none 0 0, .slice none 0 0, .int .u8 0, .int .u8 0, .int .u8 0, .int .u8 0, .int .u8 0, .int .u8 0, .int .u8 0, .int .u8 0, .int .u8 0, .int .u8 0, .int .u8 0, .int .u8 0, .int .u8 0, .int .u8 0, .int .u8 0, .int .u8 0] 31 #[.int .i64 0, .string ⟨#[]⟩] 40)
  have HE := Aside0.mk hE
  have HOK := Aside0.mk hok
  clear hE hok
  go_enter Try.func11, Try.ntmps11
  go_wp2_with (first | (refine loadRowL_ (ty := 31) _ rfl rfl rfl _ _ _ _ _ rfl (H0.out.blk 0 rfl) Try.underlying31 rfl (by kernel_rfl) ?_) | ((with_reducible refine gate_store (t := 31) rfl ?_); refine storeRowSt_ (ty := 31) rfl rfl rfl (hwC (.slice A n d) (.slice B m c) r) (H0.out.alloc_ (q := w.heap.size + 1 + 1 + 1 + 1 + 1) (by simp) #[.slice none 0 0, .slice none 0 0, .int .u8 0, .int .u8 0, .int .u8 0, .int .u8 0, .int .u8 0, .int .u8 0, .int .u8 0, .int .u8 0, .int .u8 0, .int .u8 0, .int .u8 0, .int .u8 0, .int .u8 0, .int .u8 0, .int .u8 0, .int .u8 0] 31) 5 rfl rfl rfl (by kernel_rfl) rfl (by kernel_rfl) ?_; intro w1 h_; have H1 := Aside0.mk h_; clear h_) | ((with_reducible refine gate_store (t := 40) rfl ?_); refine storeRowSt_ (ty := 40) rfl rfl rfl #[.int .i64 0, .string ⟨#[]⟩] (H1.out.alloc #[.int .i64 0, .string ⟨#[]⟩] 40) 6 rfl rfl rfl (by kernel_rfl) rfl (by kernel_rfl) ?_; intro w2 h_; have H2 := Aside0.mk h_; clear h_; have a0 := H2.out.cell 1 rfl 0 rfl; have a1 := H2.out.cell 1 rfl 1 rfl; have a2 := H2.out.cell 1 rfl 2 rfl; have a3 := H2.out.cell 1 rfl 3 rfl; have f0 := H2.out.cell 2 rfl 0 rfl; have f1 := H2.out.cell 2 rfl 1 rfl; have f2 := H2.out.cell 2 rfl 2 rfl; have h0 := H2.out.cell 0 rfl 0 rfl; have h1 := H2.out.cell 0 rfl 1 rfl) | (go_at_call 26; refine (rwrite_at cell b (-1) _ q H2.out.dom (H2.out.sure 1 rfl) HOK.out HE.out (cut_f fb)).mono ?_; rintro e w3 ⟨B1, c1, rfl, hb⟩; have H3 := Aside0.mk (H2.out.call hb); clear hb; clear a0 a1 a2 a3 f0 f1 f2 h0 h1) | ((with_reducible refine gate_store (t := 27) (p := 18) rfl ?_); refine storeRowSt_ (ty := 27) rfl rfl rfl #[.slice B1 m c1] (H3.out.alloc #[.slice none 0 0] 27) 7 rfl rfl rfl (by kernel_rfl) rfl (by kernel_rfl) ?_; intro w4 h_; have H4 := Aside0.mk h_; clear h_; have k7 := H4.out.cell 7 rfl 0 rfl))
  clear k7
  refine start_ (n := 6) (S := (fun w' => w'.heap[w.heap.size]? = some (.cells (hwC (.slice A n d) (.slice B m c) r) 31) ∧ w'.heap[w1.heap.size]? = some (.cells #[.int .i64 0, .string ⟨#[]⟩] 40))) (ds := []) #[false, false, false, false, false, false] (by kernel_rfl) rfl rfl ⟨H4.out.drew.blk 0 rfl, H4.out.drew.blk 6 rfl⟩ (fun hHeld => ?_)
  refine pure_ (i := 2) (N := (some 133)) (v := ?_) (a' := ?_) #[false, false, true, false, false, false] rfl rfl (by kernel_rfl) (fun _ _ _ h => h) (Or.inl ⟨by rfl, ?_⟩) ?_ ?_
  rotate_left
  · intro w'
    go_simp
    try with_reducible rfl
  rotate_left
  · simp only [Act.put, List.setIfInBounds_toArray, List.set_cons_zero, List.set_cons_succ, i64_w, i32_w]
    rfl
  refine take_ (i := 0) (N := (some 131)) (v := ?_) (a' := ?_) #[true, false, true, false, false, false] rfl rfl (by kernel_rfl) (fun _ _ _ h => h) (Or.inl ⟨by rfl, ?_⟩) hHeld ?_ ?_
  rotate_left
  · rintro w' ⟨s0, s1⟩
    refine load_row (ty := 31) (p := .tmp 3) _ _ _ _ _ ?p1 ?p2 s0 Try.underlying31 ?p4 ?p5; (case p1 => rfl); (case p2 => rfl); (case p4 => rfl); (case p5 => kernel_rfl)
  rotate_left
  · simp only [Act.put, List.setIfInBounds_toArray, List.set_cons_zero, List.set_cons_succ, i64_w, i32_w]
    rfl
  refine take_ (i := 1) (N := (some 132)) (v := ?_) (a' := ?_) #[true, true, true, false, false, false] rfl rfl (by kernel_rfl) (fun _ _ _ h => h) (Or.inl ⟨by rfl, ?_⟩) hHeld ?_ ?_
  rotate_left
  · rintro w' ⟨s0, s1⟩
    refine load_row (ty := 40) (p := .tmp 10) _ _ _ _ _ ?p1 ?p2 s1 Try.underlying40 ?p4 ?p5; (case p1 => rfl); (case p2 => rfl); (case p4 => rfl); (case p5 => kernel_rfl)
  rotate_left
  · simp only [Act.put, List.setIfInBounds_toArray, List.set_cons_zero, List.set_cons_succ, i64_w, i32_w]
    rfl
  refine one_ (i := 3) (N := none) #[true, true, true, true, false, false] rfl rfl (by kernel_rfl) (by decide) (fun K hK => ?_)
  refine skip_ (by rfl) rfl (store_row (ty := 31) (p := .tmp 6) (q := .tmp 131) _ _ _ (hwC (.slice A n d) (.slice B m c) r) rfl rfl rfl (H4.out.drew.blk 3 rfl) (by kernel_rfl) rfl (by kernel_rfl)) ?_
  have H8 := Aside0.mk (H4.out.drew.setRow 3 rfl (hwC (.slice A n d) (.slice B m c) r))
  refine hK.out _ _ ⟨H8.out.blk 0 rfl, H8.out.blk 6 rfl⟩ (fun hHeld => ?_)
  clear hK K
  refine one_ (i := 4) (N := none) #[true, true, true, true, true, false] rfl rfl (by kernel_rfl) (by decide) (fun K hK => ?_)
  refine skip_ (by rfl) rfl (store_row (ty := 40) (p := .tmp 7) (q := .tmp 132) _ _ _ #[.int .i64 0, .string ⟨#[]⟩] rfl rfl rfl (H8.out.blk 4 rfl) (by kernel_rfl) rfl (by kernel_rfl)) ?_
  have H9 := Aside0.mk (H8.out.setRow 4 rfl #[.int .i64 0, .string ⟨#[]⟩])
  refine hK.out _ _ ⟨H9.out.blk 0 rfl, H9.out.blk 6 rfl⟩ (fun hHeld => ?_)
  clear hK K
  refine pure_ (i := 5) (N := (some 8)) (v := ?_) (a' := ?_) #[true, true, true, true, true, true] rfl rfl (by kernel_rfl) (fun _ _ _ h => h) (Or.inl ⟨by rfl, ?_⟩) ?_ ?_
  rotate_left
  · intro w'
    go_simp
    try with_reducible rfl
  rotate_left
  · simp only [Act.put, List.setIfInBounds_toArray, List.set_cons_zero, List.set_cons_succ, i64_w, i32_w]
    rfl
  refine done_ (by kernel_rfl) ?_
  go_wp2
  refine bodyPost_ret (results_cct rfl _ _ (w.heap.size + 1 + 1 + 1) (w.heap.size + 1 + 1 + 1 + 1) 31 40 (hwC (.slice A n d) (.slice B m c) r) #[.int .i64 0, .string ⟨#[]⟩] (0, 0) (0, 0) _ _ rfl (H9.out.blk 3 rfl) Try.underlying31 rfl (by kernel_rfl) rfl (H9.out.blk 4 rfl) Try.underlying40 rfl (by kernel_rfl)) rfl ?_
  exact ⟨A, d, hs, B, c, rfl, H9.out.done ((H9.out.sureNew 1 rfl).and (H9.out.sureNew 2 rfl)) (fun k hk => hk.imp id (fun h => Nat.le_trans H2.out.bel.size h.1))⟩
set_option maxRecDepth 100000 in
set_option maxHeartbeats 16000000 in
theorem rdo_cut4 {A : Option Addr} {n d : Nat} {hs : List Hdr} {bk : List (List Int)} {B : Option Addr} {m c : Nat} {fl : List ByteArray} {w : World} {S : Nat → Prop} {r : Nat → Int} (cell : Int) (b : ByteArray) (fb : Int) (noise : Bool) (hd : ∀ k, S k → k < w.heap.size) (hF : Sure S w (fun w => Fu w A n d hs bk)) (hL : Sure S w (fun w => Fl w B m c fl)) (hok : OkFl fl) (hE : wrE fl cell b = 0) :
    Calls Try.prog 11 #[.agg (hwC (.slice A n d) (.slice B m c) r), .agg #[.int .i64 4, .int .i64 0, .int .i64 cell, .string b], .agg #[.bool true, .int .i64 fb, .bool noise]] w (DoRes S n m r bk (wrL fl cell b (cutV true fb)) 0 ⟨#[]⟩ 0 w) := by
  have H0 := Aside0.mk ((St.enter2 hd hF hL).alloc5 (hwC (.slice A n d) (.slice B m c) r) 31 #[.int .i64 4, .int .i64 0, .int .i64 cell, .string b] 33 #[.bool true, .int .i64 fb, .bool noise] 35 #[.slice none 0 0, .slice none 0 0, .int .u8 0, .int .u8 0, .int .u8 0, .int .u8 0, .int .u8 0, .int .u8 0, .int .u8 0, .int .u8 0, .int .u8 0, .int .u8 0, .int .u8 0, .int .u8 0, .int .u8 0, .int .u8 0, .int .u8 0, .int .u8 0] 31 #[.int .i64 0, .string ⟨#[]⟩] 40)
  have HE := Aside0.mk hE
  have HOK := Aside0.mk hok
  clear hE hok
  go_enter Try.func11, Try.ntmps11
  go_wp2_with (first | (refine loadRowL_ (ty := 31) _ rfl rfl rfl _ _ _ _ _ rfl (H0.out.blk 0 rfl) Try.underlying31 rfl (by kernel_rfl) ?_) | ((with_reducible refine gate_store (t := 31) rfl ?_); refine storeRowSt_ (ty := 31) rfl rfl rfl (hwC (.slice A n d) (.slice B m c) r) (H0.out.alloc_ (q := w.heap.size + 1 + 1 + 1 + 1 + 1) (by simp) #[.slice none 0 0, .slice none 0 0, .int .u8 0, .int .u8 0, .int .u8 0, .int .u8 0, .int .u8 0, .int .u8 0, .int .u8 0, .int .u8 0, .int .u8 0, .int .u8 0, .int .u8 0, .int .u8 0, .int .u8 0, .int .u8 0, .int .u8 0, .int .u8 0] 31) 5 rfl rfl rfl (by kernel_rfl) rfl (by kernel_rfl) ?_; intro w1 h_; have H1 := Aside0.mk h_; clear h_) | ((with_reducible refine gate_store (t := 40) rfl ?_); refine storeRowSt_ (ty := 40) rfl rfl rfl #[.int .i64 0, .string ⟨#[]⟩] (H1.out.alloc #[.int .i64 0, .string ⟨#[]⟩] 40) 6 rfl rfl rfl (by kernel_rfl) rfl (by kernel_rfl) ?_; intro w2 h_; have H2 := Aside0.mk h_; clear h_; have a0 := H2.out.cell 1 rfl 0 rfl; have a1 := H2.out.cell 1 rfl 1 rfl; have a2 := H2.out.cell 1 rfl 2 rfl; have a3 := H2.out.cell 1 rfl 3 rfl; have f0 := H2.out.cell 2 rfl 0 rfl; have f1 := H2.out.cell 2 rfl 1 rfl; have f2 := H2.out.cell 2 rfl 2 rfl; have h0 := H2.out.cell 0 rfl 0 rfl; have h1 := H2.out.cell 0 rfl 1 rfl) | (go_at_call 26; refine (rwrite_at cell b (max 0 (min 256 fb)) _ 0 H2.out.dom (H2.out.sure 1 rfl) HOK.out HE.out (cut_t fb)).mono ?_; rintro e w3 ⟨B1, c1, rfl, hb⟩; have H3 := Aside0.mk (H2.out.call hb); clear hb; clear a0 a1 a2 a3 f0 f1 f2 h0 h1) | ((with_reducible refine gate_store (t := 27) (p := 18) rfl ?_); refine storeRowSt_ (ty := 27) rfl rfl rfl #[.slice B1 m c1] (H3.out.alloc #[.slice none 0 0] 27) 7 rfl rfl rfl (by kernel_rfl) rfl (by kernel_rfl) ?_; intro w4 h_; have H4 := Aside0.mk h_; clear h_; have k7 := H4.out.cell 7 rfl 0 rfl) | ((with_reducible refine gate_store (t := 27) (p := 135) rfl ?_); refine storeCellSt_ rfl rfl rfl (.slice B1 m c1) H4.out 5 1 rfl rfl rfl ?hr ?_; (case hr => intro w h1 h2; go_simp; try rfl); intro w5 h_; have H5 := Aside0.mk h_; clear h_; clear k7; have f0 := H5.out.cell 2 rfl 0 rfl) | ((with_reducible refine gate_store (t := 40) (p := 10) rfl ?_); refine storeRowSt_ (ty := 40) rfl rfl rfl #[.int .i64 0, .string ⟨#[]⟩] H5.out 6 rfl rfl rfl (by kernel_rfl) rfl (by kernel_rfl) ?_; intro w6 h_; have H6 := Aside0.mk h_; clear h_))
  refine start_ (n := 5) (S := (fun w' => w'.heap[w.heap.size + 1 + 1 + 1 + 1 + 1]? = some (.cells (hwC (.slice A n d) (.slice B1 m c1) r) 31) ∧ w'.heap[w1.heap.size]? = some (.cells #[.int .i64 0, .string ⟨#[]⟩] 40))) (ds := []) #[false, false, false, false, false] (by kernel_rfl) rfl rfl ⟨H6.out.drew.blk 5 rfl, H6.out.drew.blk 6 rfl⟩ (fun hHeld => ?_)
  refine take_ (i := 0) (N := (some 139)) (v := ?_) (a' := ?_) #[true, false, false, false, false] rfl rfl (by kernel_rfl) (fun _ _ _ h => h) (Or.inl ⟨by rfl, ?_⟩) hHeld ?_ ?_
  rotate_left
  · rintro w' ⟨s0, s1⟩
    refine load_row (ty := 31) (p := .tmp 9) _ _ _ _ _ ?p1 ?p2 s0 Try.underlying31 ?p4 ?p5; (case p1 => rfl); (case p2 => rfl); (case p4 => rfl); (case p5 => kernel_rfl)
  rotate_left
  · simp only [Act.put, List.setIfInBounds_toArray, List.set_cons_zero, List.set_cons_succ, i64_w, i32_w]
    rfl
  refine take_ (i := 1) (N := (some 140)) (v := ?_) (a' := ?_) #[true, true, false, false, false] rfl rfl (by kernel_rfl) (fun _ _ _ h => h) (Or.inl ⟨by rfl, ?_⟩) hHeld ?_ ?_
  rotate_left
  · rintro w' ⟨s0, s1⟩
    refine load_row (ty := 40) (p := .tmp 10) _ _ _ _ _ ?p1 ?p2 s1 Try.underlying40 ?p4 ?p5; (case p1 => rfl); (case p2 => rfl); (case p4 => rfl); (case p5 => kernel_rfl)
  rotate_left
  · simp only [Act.put, List.setIfInBounds_toArray, List.set_cons_zero, List.set_cons_succ, i64_w, i32_w]
    rfl
  refine one_ (i := 2) (N := none) #[true, true, true, false, false] rfl rfl (by kernel_rfl) (by decide) (fun K hK => ?_)
  refine skip_ (by rfl) rfl (store_row (ty := 31) (p := .tmp 6) (q := .tmp 139) _ _ _ (hwC (.slice A n d) (.slice B1 m c1) r) rfl rfl rfl (H6.out.drew.blk 3 rfl) (by kernel_rfl) rfl (by kernel_rfl)) ?_
  have H8 := Aside0.mk (H6.out.drew.setRow 3 rfl (hwC (.slice A n d) (.slice B1 m c1) r))
  refine hK.out _ _ ⟨H8.out.blk 5 rfl, H8.out.blk 6 rfl⟩ (fun hHeld => ?_)
  clear hK K
  refine one_ (i := 3) (N := none) #[true, true, true, true, false] rfl rfl (by kernel_rfl) (by decide) (fun K hK => ?_)
  refine skip_ (by rfl) rfl (store_row (ty := 40) (p := .tmp 7) (q := .tmp 140) _ _ _ #[.int .i64 0, .string ⟨#[]⟩] rfl rfl rfl (H8.out.blk 4 rfl) (by kernel_rfl) rfl (by kernel_rfl)) ?_
  have H9 := Aside0.mk (H8.out.setRow 4 rfl #[.int .i64 0, .string ⟨#[]⟩])
  refine hK.out _ _ ⟨H9.out.blk 5 rfl, H9.out.blk 6 rfl⟩ (fun hHeld => ?_)
  clear hK K
  refine pure_ (i := 4) (N := (some 8)) (v := ?_) (a' := ?_) #[true, true, true, true, true] rfl rfl (by kernel_rfl) (fun _ _ _ h => h) (Or.inl ⟨by rfl, ?_⟩) ?_ ?_
  rotate_left
  · intro w'
    go_simp
    try with_reducible rfl
  rotate_left
  · simp only [Act.put, List.setIfInBounds_toArray, List.set_cons_zero, List.set_cons_succ, i64_w, i32_w]
    rfl
  refine done_ (by kernel_rfl) ?_
  go_wp2
  refine bodyPost_ret (results_cct rfl _ _ (w.heap.size + 1 + 1 + 1) (w.heap.size + 1 + 1 + 1 + 1) 31 40 (hwC (.slice A n d) (.slice B1 m c1) r) #[.int .i64 0, .string ⟨#[]⟩] (0, 0) (0, 0) _ _ rfl (H9.out.blk 3 rfl) Try.underlying31 rfl (by kernel_rfl) rfl (H9.out.blk 4 rfl) Try.underlying40 rfl (by kernel_rfl)) rfl ?_
  exact ⟨A, d, hs, B1, c1, rfl, H9.out.done ((H9.out.sureNew 1 rfl).and (H9.out.sureNew 0 rfl)) (fun k hk => hk.imp id (fun h => Nat.le_trans H2.out.bel.size h.1))⟩
set_option maxRecDepth 100000 in
set_option maxHeartbeats 16000000 in
theorem rdo_all4 {A : Option Addr} {n d : Nat} {hs : List Hdr} {bk : List (List Int)} {B : Option Addr} {m c : Nat} {fl : List ByteArray} {w : World} {S : Nat → Prop} {r : Nat → Int} (cell : Int) (b : ByteArray) (fb : Int) (noise : Bool) (hd : ∀ k, S k → k < w.heap.size) (hF : Sure S w (fun w => Fu w A n d hs bk)) (hL : Sure S w (fun w => Fl w B m c fl)) (hok : OkFl fl) (hE : wrE fl cell b = 0) :
    Calls Try.prog 11 #[.agg (hwC (.slice A n d) (.slice B m c) r), .agg #[.int .i64 4, .int .i64 0, .int .i64 cell, .string b], .agg #[.bool false, .int .i64 fb, .bool noise]] w (DoRes S n m r bk (wrL fl cell b (cutV false fb)) 0 ⟨#[]⟩ 0 w) := by
  have H0 := Aside0.mk ((St.enter2 hd hF hL).alloc5 (hwC (.slice A n d) (.slice B m c) r) 31 #[.int .i64 4, .int .i64 0, .int .i64 cell, .string b] 33 #[.bool false, .int .i64 fb, .bool noise] 35 #[.slice none 0 0, .slice none 0 0, .int .u8 0, .int .u8 0, .int .u8 0, .int .u8 0, .int .u8 0, .int .u8 0, .int .u8 0, .int .u8 0, .int .u8 0, .int .u8 0, .int .u8 0, .int .u8 0, .int .u8 0, .int .u8 0, .int .u8 0, .int .u8 0] 31 #[.int .i64 0, .string ⟨#[]⟩] 40)
  have HE := Aside0.mk hE
  have HOK := Aside0.mk hok
  clear hE hok
  go_enter Try.func11, Try.ntmps11
  go_wp2_with (first | (refine loadRowL_ (ty := 31) _ rfl rfl rfl _ _ _ _ _ rfl (H0.out.blk 0 rfl) Try.underlying31 rfl (by kernel_rfl) ?_) | ((with_reducible refine gate_store (t := 31) rfl ?_); refine storeRowSt_ (ty := 31) rfl rfl rfl (hwC (.slice A n d) (.slice B m c) r) (H0.out.alloc_ (q := w.heap.size + 1 + 1 + 1 + 1 + 1) (by simp) #[.slice none 0 0, .slice none 0 0, .int .u8 0, .int .u8 0, .int .u8 0, .int .u8 0, .int .u8 0, .int .u8 0, .int .u8 0, .int .u8 0, .int .u8 0, .int .u8 0, .int .u8 0, .int .u8 0, .int .u8 0, .int .u8 0, .int .u8 0, .int .u8 0] 31) 5 rfl rfl rfl (by kernel_rfl) rfl (by kernel_rfl) ?_; intro w1 h_; have H1 := Aside0.mk h_; clear h_) | ((with_reducible refine gate_store (t := 40) rfl ?_); refine storeRowSt_ (ty := 40) rfl rfl rfl #[.int .i64 0, .string ⟨#[]⟩] (H1.out.alloc #[.int .i64 0, .string ⟨#[]⟩] 40) 6 rfl rfl rfl (by kernel_rfl) rfl (by kernel_rfl) ?_; intro w2 h_; have H2 := Aside0.mk h_; clear h_; have a0 := H2.out.cell 1 rfl 0 rfl; have a1 := H2.out.cell 1 rfl 1 rfl; have a2 := H2.out.cell 1 rfl 2 rfl; have a3 := H2.out.cell 1 rfl 3 rfl; have f0 := H2.out.cell 2 rfl 0 rfl; have f1 := H2.out.cell 2 rfl 1 rfl; have f2 := H2.out.cell 2 rfl 2 rfl; have h0 := H2.out.cell 0 rfl 0 rfl; have h1 := H2.out.cell 0 rfl 1 rfl) | (go_at_call 26; refine (rwrite_at cell b (-1) _ 0 H2.out.dom (H2.out.sure 1 rfl) HOK.out HE.out (cut_f fb)).mono ?_; rintro e w3 ⟨B1, c1, rfl, hb⟩; have H3 := Aside0.mk (H2.out.call hb); clear hb; clear a0 a1 a2 a3 f0 f1 f2 h0 h1) | ((with_reducible refine gate_store (t := 27) (p := 18) rfl ?_); refine storeRowSt_ (ty := 27) rfl rfl rfl #[.slice B1 m c1] (H3.out.alloc #[.slice none 0 0] 27) 7 rfl rfl rfl (by kernel_rfl) rfl (by kernel_rfl) ?_; intro w4 h_; have H4 := Aside0.mk h_; clear h_; have k7 := H4.out.cell 7 rfl 0 rfl) | ((with_reducible refine gate_store (t := 27) (p := 135) rfl ?_); refine storeCellSt_ rfl rfl rfl (.slice B1 m c1) H4.out 5 1 rfl rfl rfl ?hr ?_; (case hr => intro w h1 h2; go_simp; try rfl); intro w5 h_; have H5 := Aside0.mk h_; clear h_; clear k7; have f0 := H5.out.cell 2 rfl 0 rfl))
  refine start_ (n := 5) (S := (fun w' => w'.heap[w.heap.size + 1 + 1 + 1 + 1 + 1]? = some (.cells (hwC (.slice A n d) (.slice B1 m c1) r) 31) ∧ w'.heap[w1.heap.size]? = some (.cells #[.int .i64 0, .string ⟨#[]⟩] 40))) (ds := []) #[false, false, false, false, false] (by kernel_rfl) rfl rfl ⟨H5.out.drew.blk 5 rfl, H5.out.drew.blk 6 rfl⟩ (fun hHeld => ?_)
  refine take_ (i := 0) (N := (some 139)) (v := ?_) (a' := ?_) #[true, false, false, false, false] rfl rfl (by kernel_rfl) (fun _ _ _ h => h) (Or.inl ⟨by rfl, ?_⟩) hHeld ?_ ?_
  rotate_left
  · rintro w' ⟨s0, s1⟩
    refine load_row (ty := 31) (p := .tmp 9) _ _ _ _ _ ?p1 ?p2 s0 Try.underlying31 ?p4 ?p5; (case p1 => rfl); (case p2 => rfl); (case p4 => rfl); (case p5 => kernel_rfl)
  rotate_left
  · simp only [Act.put, List.setIfInBounds_toArray, List.set_cons_zero, List.set_cons_succ, i64_w, i32_w]
    rfl
  refine take_ (i := 1) (N := (some 140)) (v := ?_) (a' := ?_) #[true, true, false, false, false] rfl rfl (by kernel_rfl) (fun _ _ _ h => h) (Or.inl ⟨by rfl, ?_⟩) hHeld ?_ ?_
  rotate_left
  · rintro w' ⟨s0, s1⟩
    refine load_row (ty := 40) (p := .tmp 10) _ _ _ _ _ ?p1 ?p2 s1 Try.underlying40 ?p4 ?p5; (case p1 => rfl); (case p2 => rfl); (case p4 => rfl); (case p5 => kernel_rfl)
  rotate_left
  · simp only [Act.put, List.setIfInBounds_toArray, List.set_cons_zero, List.set_cons_succ, i64_w, i32_w]
    rfl
  refine one_ (i := 2) (N := none) #[true, true, true, false, false] rfl rfl (by kernel_rfl) (by decide) (fun K hK => ?_)
  refine skip_ (by rfl) rfl (store_row (ty := 31) (p := .tmp 6) (q := .tmp 139) _ _ _ (hwC (.slice A n d) (.slice B1 m c1) r) rfl rfl rfl (H5.out.drew.blk 3 rfl) (by kernel_rfl) rfl (by kernel_rfl)) ?_
  have H8 := Aside0.mk (H5.out.drew.setRow 3 rfl (hwC (.slice A n d) (.slice B1 m c1) r))
  refine hK.out _ _ ⟨H8.out.blk 5 rfl, H8.out.blk 6 rfl⟩ (fun hHeld => ?_)
  clear hK K
  refine one_ (i := 3) (N := none) #[true, true, true, true, false] rfl rfl (by kernel_rfl) (by decide) (fun K hK => ?_)
  refine skip_ (by rfl) rfl (store_row (ty := 40) (p := .tmp 7) (q := .tmp 140) _ _ _ #[.int .i64 0, .string ⟨#[]⟩] rfl rfl rfl (H8.out.blk 4 rfl) (by kernel_rfl) rfl (by kernel_rfl)) ?_
  have H9 := Aside0.mk (H8.out.setRow 4 rfl #[.int .i64 0, .string ⟨#[]⟩])
  refine hK.out _ _ ⟨H9.out.blk 5 rfl, H9.out.blk 6 rfl⟩ (fun hHeld => ?_)
  clear hK K
  refine pure_ (i := 4) (N := (some 8)) (v := ?_) (a' := ?_) #[true, true, true, true, true] rfl rfl (by kernel_rfl) (fun _ _ _ h => h) (Or.inl ⟨by rfl, ?_⟩) ?_ ?_
  rotate_left
  · intro w'
    go_simp
    try with_reducible rfl
  rotate_left
  · simp only [Act.put, List.setIfInBounds_toArray, List.set_cons_zero, List.set_cons_succ, i64_w, i32_w]
    rfl
  refine done_ (by kernel_rfl) ?_
  go_wp2
  refine bodyPost_ret (results_cct rfl _ _ (w.heap.size + 1 + 1 + 1) (w.heap.size + 1 + 1 + 1 + 1) 31 40 (hwC (.slice A n d) (.slice B1 m c1) r) #[.int .i64 0, .string ⟨#[]⟩] (0, 0) (0, 0) _ _ rfl (H9.out.blk 3 rfl) Try.underlying31 rfl (by kernel_rfl) rfl (H9.out.blk 4 rfl) Try.underlying40 rfl (by kernel_rfl)) rfl ?_
  exact ⟨A, d, hs, B1, c1, rfl, H9.out.done ((H9.out.sureNew 1 rfl).and (H9.out.sureNew 0 rfl)) (fun k hk => hk.imp id (fun h => Nat.le_trans H2.out.bel.size h.1))⟩
end Go.Proofs.Ytkfhekocbfednaa.Dv
end
