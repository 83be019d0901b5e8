/- Part of the proof of deviceTorn_holds: what later parts use. -/
import Derived.Test.YtkfhekocbfednaaZt0
import Derived.Test.YtkfhekocbfednaaZt1
import Derived.Test.YtkfhekocbfednaaZt2
import Derived.Test.YtkfhekocbfednaaZt3
import Derived.Test.YtkfhekocbfednaaZt4
import Derived.Test.YtkfhekocbfednaaZt5
import Derived.Test.YtkfhekocbfednaaZt6
import Derived.Test.YtkfhekocbfednaaZt7
import Derived.Test.YtkfhekocbfednaaZt8
import Derived.Test.YtkfhekocbfednaaZt9
import Derived.Test.YtkfhekocbfednaaZt10
import Derived.Test.YtkfhekocbfednaaZt11
import Derived.Test.YtkfhekocbfednaaZt12
import Derived.Test.YtkfhekocbfednaaZt13
import Derived.Test.YtkfhekocbfednaaZt14
import Derived.Test.YtkfhekocbfednaaZt15
import Derived.Test.YtkfhekocbfednaaZt16
import Derived.Test.YtkfhekocbfednaaZt17
import Derived.Test.YtkfhekocbfednaaZt18
import Derived.Test.YtkfhekocbfednaaZt19
import Derived.Test.YtkfhekocbfednaaZt20
import Derived.Test.YtkfhekocbfednaaZt21
import Derived.Test.YtkfhekocbfednaaZt22
import Derived.Test.YtkfhekocbfednaaZt23
import Derived.Test.YtkfhekocbfednaaZt24
import Derived.Test.YtkfhekocbfednaaZt25
import Derived.Test.YtkfhekocbfednaaZt26
import Derived.Laws.EntriesVeiled
import Derived.Laws.StructEq
section
namespace Go.Proofs.Ytkfhekocbfednaa.Dv
set_option linter.unusedVariables false
set_option linter.unusedSimpArgs false
open Go.RowKit Go.Proofs.Ytkfhekocbfednaa Go.Proofs.YtkfhekocbfednaaW.PrintWords Go.Proofs.YtkfhekocbfednaaW.PrintLast Go.Proofs.YtkfhekocbfednaaW.PrintMore
open Go.Proofs.Ytkfhekocbfednaa.Fu Go.Proofs.Ytkfhekocbfednaa.Fl
attribute [local go_sem] max2_max min2_min max_two min_two
attribute [local go_sem] eq_r5
set_option maxRecDepth 100000 in
set_option maxHeartbeats 64000000 in
theorem sanity_any (w : World) : Calls Try.prog 8 #[] w fun e w' => e = .returned (.bool true) ∧ Below w.heap.size w w' := by
  obtain ⟨sV, eV⟩ : ∃ y, sS = y := ⟨_, rfl⟩
  have EV := Aside0.mk (d2S.trans eV)
  have VZ := Aside0.mk (show sV.size = 256 from eV ▸ sS_size)
  have V4 := Aside0.mk (show sV.extract 0 4 = ⟨#[97, 97, 97, 0]⟩ from eV ▸ sS_four)
  clear eV
  have H0 := Aside0.mk ((St.enter0 w).other (.cells #[.int .i64 2, .int .i64 1] 3))
  have CR : Kd.C (Kd.int .i64) (w.alloc (.cells #[.int .i64 2, .int .i64 1] 3)) (some ⟨w.heap.size, 0, none⟩) 2 [2, 1] := C_of_rowBlk (xs := [2, 1]) (rest := []) (heap_alloc_new w _) (by decide)
  have CRA := Aside0.mk CR
  clear CR
  go_enter Try.func8, Try.ntmps8
  go_wp2_with (first | (go_at_call 12; refine (new5 H0.out.dom CRA.out).mono ?_; rintro e w1 ⟨A0, c0, hs0, B0, d0, rfl, hb⟩; have H1 := Aside0.mk (H0.out.call hb); clear hb) | ((with_reducible refine gate_store (t := 31) (p := 1) rfl ?_); refine storeRowSt_ (ty := 31) rfl rfl rfl (hwC (.slice A0 sB0.length c0) (.slice B0 sF0.length d0) r5) (H1.out.alloc #[.slice none 0 0, .slice none 0 0, .int .u8 0, .int .u8 0, .int .u8 0, .int .u8 0, .int .u8 0, .int .u8 0, .int .u8 0, .int .u8 0, .int .u8 0, .int .u8 0, .int .u8 0, .int .u8 0, .int .u8 0, .int .u8 0, .int .u8 0, .int .u8 0] 31) 0 rfl rfl rfl (by kernel_rfl) rfl (by kernel_rfl) ?_; intro w2 h_; have H2 := Aside0.mk h_; clear h_))
  refine start_ (n := 14) (S := (fun w' => w'.heap[w1.heap.size]? = some (.cells (hwC (.slice A0 sB0.length c0) (.slice B0 sF0.length d0) r5) 31))) (ds := []) #[false, false, false, false, false, false, false, false, false, false, false, false, false, false] (by kernel_rfl) rfl rfl (H2.out.drew.blk 0 rfl) (fun hHeld => ?_)
  refine join_ (σ := Sg) 0 #[true, true, true, true, true, true, true, true, true, true, true, true, true, true] (fun s => [(28, .agg (hwC (.slice A0 sB0.length c0) (.slice B0 sF0.length d0) r5)), (29, .string (fullS 97)), (30, .agg #[.int .i64 4, .int .i64 0, .int .i64 1, .string (fullS 97)]), (31, .agg #[.bool true, .int .i64 3, .bool false]), (32, .tuple #[.agg (hwC (.slice s.A sB0.length s.c) (.slice s.B sF0.length s.d) r5), .agg #[.int .i64 0, .string ⟨#[]⟩], .int .i64 0]), (27, .tuple #[.agg (hwC (.slice s.A sB0.length s.c) (.slice s.B sF0.length s.d) r5), .agg #[.int .i64 0, .string ⟨#[]⟩], .int .i64 0]), (33, .agg (hwC (.slice s.A sB0.length s.c) (.slice s.B sF0.length s.d) r5)), (34, .agg #[.int .i64 0, .string ⟨#[]⟩]), (35, .int .i64 0), (3, .pointer (some ⟨s.g3, 0, none⟩)), (4, .pointer (some ⟨s.g4, 0, none⟩)), (5, .int .i64 0)]) (fun s w' => Aside0 (St w s.S [Dev s.A s.c s.hs sB0 s.B s.d sF1, Dev A0 c0 hs0 sB0 B0 d0 sF0] [(w1.heap.size, (hwC (.slice A0 sB0.length c0) (.slice B0 sF0.length d0) r5), 31), (s.g3, (hwC (.slice s.A sB0.length s.c) (.slice s.B sF0.length s.d) r5), 31), (s.g4, #[.int .i64 0, .string ⟨#[]⟩], 40)] w')) ?hcont ?hall
  case hcont =>
    rintro s w9 hs9
    have Hr := hs9
    clear hs9 hHeld
    refine done_ (by kernel_rfl) ?_
    simp only [putAll, Act.put, List.setIfInBounds_toArray, List.set_cons_zero, List.set_cons_succ]
    go_upto_region 4 with (first | ((with_reducible refine gate_dst (N := 37) rfl ?_); refine loadRowL_ (ty := 31) _ rfl rfl rfl _ _ _ _ _ rfl (Hr.out.blk 1 rfl) Try.underlying31 rfl (by kernel_rfl) ?_) | (go_at_call 10; refine (do_at 3 0 1 ⟨#[]⟩ false 0 false sB0 sF1 0 sV 0 Hr.out.dom (Hr.out.sure 0 rfl) sB0_n sB0_ok sF1_ok d2B d2F d2V EV.out d2E).mono ?_; rintro e u2 ⟨A2, c2, hs2, B2, d2, rfl, hb⟩; have G2 := Aside0.mk (Hr.out.call hb); clear hb) | ((with_reducible refine gate_store (t := 31) (p := 6) rfl ?_); refine storeRowSt_ (ty := 31) rfl rfl rfl (hwC (.slice A2 sB0.length c2) (.slice B2 sF0.length d2) r5) (G2.out.alloc2 #[.slice none 0 0, .slice none 0 0, .int .u8 0, .int .u8 0, .int .u8 0, .int .u8 0, .int .u8 0, .int .u8 0, .int .u8 0, .int .u8 0, .int .u8 0, .int .u8 0, .int .u8 0, .int .u8 0, .int .u8 0, .int .u8 0, .int .u8 0, .int .u8 0] 31 #[.int .i64 0, .string ⟨#[]⟩] 40) 3 rfl rfl rfl (by kernel_rfl) rfl (by kernel_rfl) ?_; intro x2 h_; have J2 := Aside0.mk h_; clear h_) | ((with_reducible refine gate_store (t := 40) (p := 7) rfl ?_); refine storeRowSt_ (ty := 40) rfl rfl rfl #[.int .i64 0, .string sV] J2.out 4 rfl rfl rfl (by kernel_rfl) rfl (by kernel_rfl) ?_; intro y2 h_; have I2 := Aside0.mk (h_.as [(w1.heap.size, (hwC (.slice A0 sB0.length c0) (.slice B0 sF0.length d0) r5), 31), (s.g3, (hwC (.slice s.A sB0.length s.c) (.slice s.B sF0.length s.d) r5), 31), (s.g4, #[.int .i64 0, .string ⟨#[]⟩], 40), (u2.heap.size, (hwC (.slice A2 sB0.length c2) (.slice B2 sF0.length d2) r5), 31), (u2.heap.size + 1, #[.int .i64 0, .string sV], 40)] rfl); clear h_))
    go_upto_region 5 with (first | ((with_reducible refine gate_dst (N := 45) rfl ?_); refine loadRowL_ (ty := 31) _ rfl rfl rfl _ _ _ _ _ rfl (I2.out.blk 3 rfl) Try.underlying31 rfl (by kernel_rfl) ?_) | (go_at_call 10; refine (do_at 2 1 2 ⟨#[]⟩ true 0 false sB1 sF1 0 ⟨#[]⟩ 0 I2.out.dom (I2.out.sure 0 rfl) sB0_n sB0_ok sF1_ok d3B d3F d3V d3S d3E).mono ?_; rintro e u3 ⟨A3, c3, hs3, B3, d3, rfl, hb⟩; have G3 := Aside0.mk (I2.out.call hb); clear hb) | ((with_reducible refine gate_store (t := 31) (p := 9) rfl ?_); refine storeRowSt_ (ty := 31) rfl rfl rfl (hwC (.slice A3 sB0.length c3) (.slice B3 sF0.length d3) r5) (G3.out.alloc2 #[.slice none 0 0, .slice none 0 0, .int .u8 0, .int .u8 0, .int .u8 0, .int .u8 0, .int .u8 0, .int .u8 0, .int .u8 0, .int .u8 0, .int .u8 0, .int .u8 0, .int .u8 0, .int .u8 0, .int .u8 0, .int .u8 0, .int .u8 0, .int .u8 0] 31 #[.int .i64 0, .string ⟨#[]⟩] 40) 5 rfl rfl rfl (by kernel_rfl) rfl (by kernel_rfl) ?_; intro x3 h_; have J3 := Aside0.mk h_; clear h_) | ((with_reducible refine gate_store (t := 40) (p := 10) rfl ?_); refine storeRowSt_ (ty := 40) rfl rfl rfl #[.int .i64 0, .string ⟨#[]⟩] J3.out 6 rfl rfl rfl (by kernel_rfl) rfl (by kernel_rfl) ?_; intro y3 h_; have I3 := Aside0.mk (h_.as [(w1.heap.size, (hwC (.slice A0 sB0.length c0) (.slice B0 sF0.length d0) r5), 31), (s.g3, (hwC (.slice s.A sB0.length s.c) (.slice s.B sF0.length s.d) r5), 31), (s.g4, #[.int .i64 0, .string ⟨#[]⟩], 40), (u2.heap.size, (hwC (.slice A2 sB0.length c2) (.slice B2 sF0.length d2) r5), 31), (u2.heap.size + 1, #[.int .i64 0, .string sV], 40), (u3.heap.size, (hwC (.slice A3 sB0.length c3) (.slice B3 sF0.length d3) r5), 31), (u3.heap.size + 1, #[.int .i64 0, .string ⟨#[]⟩], 40)] rfl); clear h_))
    go_upto_region 6 with (first | ((with_reducible refine gate_dst (N := 53) rfl ?_); refine loadRowL_ (ty := 31) _ rfl rfl rfl _ _ _ _ _ rfl (I3.out.blk 5 rfl) Try.underlying31 rfl (by kernel_rfl) ?_) | (go_at_call 10; refine (do_at 1 1 2 ⟨#[]⟩ false 0 true sB1 sF1 1 ⟨#[]⟩ 0 I3.out.dom (I3.out.sure 0 rfl) sB0_n sB1_ok sF1_ok d4B d4F d4V d4S d4E).mono ?_; rintro e u4 ⟨A4, c4, hs4, B4, d4, rfl, hb⟩; have G4 := Aside0.mk (I3.out.call hb); clear hb) | ((with_reducible refine gate_store (t := 31) (p := 12) rfl ?_); refine storeRowSt_ (ty := 31) rfl rfl rfl (hwC (.slice A4 sB0.length c4) (.slice B4 sF0.length d4) r5) (G4.out.alloc2 #[.slice none 0 0, .slice none 0 0, .int .u8 0, .int .u8 0, .int .u8 0, .int .u8 0, .int .u8 0, .int .u8 0, .int .u8 0, .int .u8 0, .int .u8 0, .int .u8 0, .int .u8 0, .int .u8 0, .int .u8 0, .int .u8 0, .int .u8 0, .int .u8 0] 31 #[.int .i64 0, .string ⟨#[]⟩] 40) 7 rfl rfl rfl (by kernel_rfl) rfl (by kernel_rfl) ?_; intro x4 h_; have J4 := Aside0.mk h_; clear h_) | ((with_reducible refine gate_store (t := 40) (p := 13) rfl ?_); refine storeRowSt_ (ty := 40) rfl rfl rfl #[.int .i64 1, .string ⟨#[]⟩] J4.out 8 rfl rfl rfl (by kernel_rfl) rfl (by kernel_rfl) ?_; intro y4 h_; have I4 := Aside0.mk (h_.as [(w1.heap.size, (hwC (.slice A0 sB0.length c0) (.slice B0 sF0.length d0) r5), 31), (s.g3, (hwC (.slice s.A sB0.length s.c) (.slice s.B sF0.length s.d) r5), 31), (s.g4, #[.int .i64 0, .string ⟨#[]⟩], 40), (u2.heap.size, (hwC (.slice A2 sB0.length c2) (.slice B2 sF0.length d2) r5), 31), (u2.heap.size + 1, #[.int .i64 0, .string sV], 40), (u3.heap.size, (hwC (.slice A3 sB0.length c3) (.slice B3 sF0.length d3) r5), 31), (u3.heap.size + 1, #[.int .i64 0, .string ⟨#[]⟩], 40), (u4.heap.size, (hwC (.slice A4 sB0.length c4) (.slice B4 sF0.length d4) r5), 31), (u4.heap.size + 1, #[.int .i64 1, .string ⟨#[]⟩], 40)] rfl); clear h_))
    go_upto_region 7 with (first | ((with_reducible refine gate_dst (N := 61) rfl ?_); refine loadRowL_ (ty := 31) _ rfl rfl rfl _ _ _ _ _ rfl (I4.out.blk 5 rfl) Try.underlying31 rfl (by kernel_rfl) ?_) | (go_at_call 10; refine (do_at 1 1 2 ⟨#[]⟩ false 0 false sB1 sF1 0 ⟨#[]⟩ 0 I4.out.dom (I4.out.sure 1 rfl) sB0_n sB1_ok sF1_ok d4B d4F d5V d4S d4E).mono ?_; rintro e u5 ⟨A5, c5, hs5, B5, d5, rfl, hb⟩; have G5 := Aside0.mk (I4.out.call hb); clear hb) | ((with_reducible refine gate_store (t := 31) (p := 15) rfl ?_); refine storeRowSt_ (ty := 31) rfl rfl rfl (hwC (.slice A5 sB0.length c5) (.slice B5 sF0.length d5) r5) (G5.out.alloc2 #[.slice none 0 0, .slice none 0 0, .int .u8 0, .int .u8 0, .int .u8 0, .int .u8 0, .int .u8 0, .int .u8 0, .int .u8 0, .int .u8 0, .int .u8 0, .int .u8 0, .int .u8 0, .int .u8 0, .int .u8 0, .int .u8 0, .int .u8 0, .int .u8 0] 31 #[.int .i64 0, .string ⟨#[]⟩] 40) 9 rfl rfl rfl (by kernel_rfl) rfl (by kernel_rfl) ?_; intro x5 h_; have J5 := Aside0.mk h_; clear h_) | ((with_reducible refine gate_store (t := 40) (p := 16) rfl ?_); refine storeRowSt_ (ty := 40) rfl rfl rfl #[.int .i64 0, .string ⟨#[]⟩] J5.out 10 rfl rfl rfl (by kernel_rfl) rfl (by kernel_rfl) ?_; intro y5 h_; have I5 := Aside0.mk (h_.as [(w1.heap.size, (hwC (.slice A0 sB0.length c0) (.slice B0 sF0.length d0) r5), 31), (s.g3, (hwC (.slice s.A sB0.length s.c) (.slice s.B sF0.length s.d) r5), 31), (s.g4, #[.int .i64 0, .string ⟨#[]⟩], 40), (u2.heap.size, (hwC (.slice A2 sB0.length c2) (.slice B2 sF0.length d2) r5), 31), (u2.heap.size + 1, #[.int .i64 0, .string sV], 40), (u3.heap.size, (hwC (.slice A3 sB0.length c3) (.slice B3 sF0.length d3) r5), 31), (u3.heap.size + 1, #[.int .i64 0, .string ⟨#[]⟩], 40), (u4.heap.size, (hwC (.slice A4 sB0.length c4) (.slice B4 sF0.length d4) r5), 31), (u4.heap.size + 1, #[.int .i64 1, .string ⟨#[]⟩], 40), (u5.heap.size, (hwC (.slice A5 sB0.length c5) (.slice B5 sF0.length d5) r5), 31), (u5.heap.size + 1, #[.int .i64 0, .string ⟨#[]⟩], 40)] rfl); clear h_))
    go_upto_region 8 with (first | ((with_reducible refine gate_dst (N := 69) rfl ?_); refine loadRowL_ (ty := 31) _ rfl rfl rfl _ _ _ _ _ rfl (I5.out.blk 0 rfl) Try.underlying31 rfl (by kernel_rfl) ?_) | (go_at_call 10; refine (do_at 5 0 0 ⟨#[]⟩ false 0 false sB0 sF0 0 ⟨#[]⟩ 1 I5.out.dom (I5.out.sure 5 rfl) sB0_n sB0_ok sF0_ok d6B d6F d6V d6S d6E).mono ?_; rintro e u6 ⟨A6, c6, hs6, B6, d6, rfl, hb⟩; have G6 := Aside0.mk (I5.out.call hb); clear hb) | ((with_reducible refine gate_store (t := 31) (p := 18) rfl ?_); refine storeRowSt_ (ty := 31) rfl rfl rfl (hwC (.slice A6 sB0.length c6) (.slice B6 sF0.length d6) r5) (G6.out.alloc2 #[.slice none 0 0, .slice none 0 0, .int .u8 0, .int .u8 0, .int .u8 0, .int .u8 0, .int .u8 0, .int .u8 0, .int .u8 0, .int .u8 0, .int .u8 0, .int .u8 0, .int .u8 0, .int .u8 0, .int .u8 0, .int .u8 0, .int .u8 0, .int .u8 0] 31 #[.int .i64 0, .string ⟨#[]⟩] 40) 11 rfl rfl rfl (by kernel_rfl) rfl (by kernel_rfl) ?_; intro x6 h_; have J6 := Aside0.mk h_; clear h_) | ((with_reducible refine gate_store (t := 40) (p := 19) rfl ?_); refine storeRowSt_ (ty := 40) rfl rfl rfl #[.int .i64 0, .string ⟨#[]⟩] J6.out 12 rfl rfl rfl (by kernel_rfl) rfl (by kernel_rfl) ?_; intro y6 h_; have I6 := Aside0.mk (h_.as [(w1.heap.size, (hwC (.slice A0 sB0.length c0) (.slice B0 sF0.length d0) r5), 31), (s.g3, (hwC (.slice s.A sB0.length s.c) (.slice s.B sF0.length s.d) r5), 31), (s.g4, #[.int .i64 0, .string ⟨#[]⟩], 40), (u2.heap.size, (hwC (.slice A2 sB0.length c2) (.slice B2 sF0.length d2) r5), 31), (u2.heap.size + 1, #[.int .i64 0, .string sV], 40), (u3.heap.size, (hwC (.slice A3 sB0.length c3) (.slice B3 sF0.length d3) r5), 31), (u3.heap.size + 1, #[.int .i64 0, .string ⟨#[]⟩], 40), (u4.heap.size, (hwC (.slice A4 sB0.length c4) (.slice B4 sF0.length d4) r5), 31), (u4.heap.size + 1, #[.int .i64 1, .string ⟨#[]⟩], 40), (u5.heap.size, (hwC (.slice A5 sB0.length c5) (.slice B5 sF0.length d5) r5), 31), (u5.heap.size + 1, #[.int .i64 0, .string ⟨#[]⟩], 40), (u6.heap.size, (hwC (.slice A6 sB0.length c6) (.slice B6 sF0.length d6) r5), 31), (u6.heap.size + 1, #[.int .i64 0, .string ⟨#[]⟩], 40)] rfl); clear h_; have kS : y6.cell? ⟨u2.heap.size + 1, 1, none⟩ = some (.string sV) := I6.out.cell 4 rfl 1 rfl; have k40 : y6.cell? ⟨s.g4, 0, none⟩ = some (.int .i64 0) := I6.out.cell 2 rfl 0 rfl; have k41 : y6.cell? ⟨s.g4, 1, none⟩ = some (.string ⟨#[]⟩) := I6.out.cell 2 rfl 1 rfl; have kv4 : y6.cell? ⟨u4.heap.size + 1, 0, none⟩ = some (.int .i64 1) := I6.out.cell 8 rfl 0 rfl; have kv5 : y6.cell? ⟨u5.heap.size + 1, 0, none⟩ = some (.int .i64 0) := I6.out.cell 10 rfl 0 rfl; have hsz := VZ.out; have hx4 := V4.out))
    go_wp2_with (first | ((with_reducible refine gate_dst (N := 128) rfl ?_); refine loadRowG_ (ty := 31) _ rfl (by rfl) rfl _ _ _ _ _ rfl (I6.out.blk 1 rfl) Try.underlying31 rfl (by kernel_rfl) ?_) | ((with_reducible refine gate_dst (N := 129) rfl ?_); refine loadRowG_ (ty := 31) _ rfl (by rfl) rfl _ _ _ _ _ rfl (I6.out.blk 3 rfl) Try.underlying31 rfl (by kernel_rfl) ?_) | (go_at_call 15; refine (same_at false (I7.out.at 6 rfl) (I7.out.at 5 rfl) same_hx).mono ?_; rintro e z2 ⟨rfl, hb⟩; have I8 := Aside0.mk (I7.out.step hb); clear hb) | (go_at_call 15; refine (same_at true (I6.out.at 5 rfl) (I6.out.at 4 rfl) same_xy).mono ?_; rintro e z1 ⟨rfl, hb⟩; have I7 := Aside0.mk (I6.out.step hb); clear hb) | ((with_reducible refine gate_dst (N := 133) rfl ?_); refine loadRowG_ (ty := 31) _ rfl (by rfl) rfl _ _ _ _ _ rfl (I7.out.blk 0 rfl) Try.underlying31 rfl (by kernel_rfl) ?_) | ((with_reducible refine gate_dst (N := 134) rfl ?_); refine loadRowG_ (ty := 31) _ rfl (by rfl) rfl _ _ _ _ _ rfl (I7.out.blk 1 rfl) Try.underlying31 rfl (by kernel_rfl) ?_) | ((with_reducible refine gate_dst (N := 140) rfl ?_); refine loadMidG_ (ty := 29) _ rfl (by rfl) rfl _ _ (rtA r5) _ rfl (fun j v hv => I8.out.cell 0 rfl (2 + j) (hw_root hv)) Try.underlying29 rfl (by kernel_rfl) ?_))
    go_ret
    exact ⟨rfl, I8.out.bel⟩
  intro REST
  simp only [putAll, Act.put, List.setIfInBounds_toArray, List.set_cons_zero, List.set_cons_succ] at REST
  refine pure_ (i := 3) (N := (some 31)) (v := ?_) (a' := ?_) #[false, false, false, true, false, false, false, false, false, false, false, false, false, false] rfl rfl (by kernel_rfl) (fun _ _ _ h => h) (Or.inl ⟨by rfl, ?_⟩) ?_ ?_
  rotate_left
  · intro w'
    go_simp
    try with_reducible rfl
  rotate_left
  · simp only [Act.put, List.setIfInBounds_toArray, List.set_cons_zero, List.set_cons_succ, i64_w, i32_w]
    rfl
  refine take_ (i := 0) (N := (some 28)) (v := ?_) (a' := ?_) #[true, false, false, true, false, false, false, false, false, false, false, false, false, false] rfl rfl (by kernel_rfl) (fun _ _ _ h => h) (Or.inl ⟨by rfl, ?_⟩) hHeld ?_ ?_
  rotate_left
  · rintro w' s0
    refine load_row (ty := 31) (p := .tmp 1) _ _ _ _ _ ?p1 ?p2 s0 Try.underlying31 ?p4 ?p5; (case p1 => rfl); (case p2 => rfl); (case p4 => rfl); (case p5 => kernel_rfl)
  rotate_left
  · simp only [Act.put, List.setIfInBounds_toArray, List.set_cons_zero, List.set_cons_succ, i64_w, i32_w]
    rfl
  refine three_ (i := 1) (j := 9) (k := 10) (Ni := (some 29)) (Nj := (some 3)) (Nk := (some 4)) #[true, true, false, true, false, false, false, false, false, false, false, false, false, false] #[true, false, false, true, false, false, false, false, false, true, false, false, false, false] #[true, false, false, true, false, false, false, false, false, false, true, false, false, false] rfl rfl rfl rfl rfl rfl (by kernel_rfl) (by decide) (by decide) (by decide) (fun K hK => ?_) (fun K hK => ?_) (fun K hK => ?_)
  ·
    refine goes_ Try.func19 (by kernel_rfl) rfl #[.int .u8 97] (by rfl) rfl rfl ?hargs ((full_any 97 _).mono ?_)
    case hargs => first | rfl | (go_simp; done) | kernel_rfl
    rintro e w3 ⟨rfl, hb⟩
    refine ⟨_, rfl, ?_⟩
    have H3 := Aside0.mk (H2.out.drew.step hb)
    clear hb
    refine hK.out _ _ (H3.out.blk 0 rfl) (fun hHeld => ?_)
    clear hK K
    refine norm_ (a' := ?_) ?_ ?_
    rotate_left
    · show Act.put _ (some 29) _ = _
      simp only [Act.put, List.setIfInBounds_toArray, List.set_cons_zero, List.set_cons_succ, i64_w, i32_w]
      rfl
    refine pure_ (i := 2) (N := (some 30)) (v := ?_) (a' := ?_) #[true, true, true, true, false, false, false, false, false, false, false, false, false, false] rfl rfl (by kernel_rfl) (fun _ _ _ h => h) (Or.inl ⟨by rfl, ?_⟩) ?_ ?_
    rotate_left
    · intro w'
      go_simp
      try with_reducible rfl
    rotate_left
    · simp only [Act.put, List.setIfInBounds_toArray, List.set_cons_zero, List.set_cons_succ, i64_w, i32_w]
      rfl
    refine three_ (i := 4) (j := 9) (k := 10) (Ni := (some 32)) (Nj := (some 3)) (Nk := (some 4)) #[true, true, true, true, true, false, false, false, false, false, false, false, false, false] #[true, true, true, true, false, false, false, false, false, true, false, false, false, false] #[true, true, true, true, false, false, false, false, false, false, true, false, false, false] rfl rfl rfl rfl rfl rfl (by kernel_rfl) (by decide) (by decide) (by decide) (fun K hK => ?_) (fun K hK => ?_) (fun K hK => ?_)
    ·
      refine goes_ Try.func10 (by kernel_rfl) rfl #[.agg (hwC (.slice A0 sB0.length c0) (.slice B0 sF0.length d0) r5), .agg #[.int .i64 4, .int .i64 0, .int .i64 1, .string (fullS 97)], .agg #[.bool true, .int .i64 3, .bool false]] (by rfl) rfl rfl ?hargs ((do_at 4 0 1 (fullS 97) true 3 false sB0 sF1 0 ⟨#[]⟩ 0 H3.out.dom (H3.out.sure 0 rfl) sB0_n sB0_ok sF0_ok d1B d1F d1V d1S d1E).mono ?_)
      case hargs => first | rfl | (go_simp; done) | kernel_rfl
      rintro e w4 ⟨A1, c1, hs1, B1, d1, rfl, hb⟩
      refine ⟨_, rfl, ?_⟩
      have H4 := Aside0.mk (H3.out.call hb)
      clear hb
      refine hK.out _ _ (H4.out.blk 0 rfl) (fun hHeld => ?_)
      clear hK K
      refine norm_ (a' := ?_) ?_ ?_
      rotate_left
      · show Act.put _ (some 32) _ = _
        simp only [Act.put, List.setIfInBounds_toArray, List.set_cons_zero, List.set_cons_succ, i64_w, i32_w]
        rfl
      refine pure_ (i := 5) (N := (some 27)) (v := ?_) (a' := ?_) #[true, true, true, true, true, true, false, false, false, false, false, false, false, false] rfl rfl (by kernel_rfl) (fun _ _ _ h => h) (Or.inl ⟨by rfl, ?_⟩) ?_ ?_
      rotate_left
      · intro w'
        go_simp
        try with_reducible rfl
      rotate_left
      · simp only [Act.put, List.setIfInBounds_toArray, List.set_cons_zero, List.set_cons_succ, i64_w, i32_w]
        rfl
      refine pure_ (i := 6) (N := (some 33)) (v := ?_) (a' := ?_) #[true, true, true, true, true, true, true, false, false, false, false, false, false, false] rfl rfl (by kernel_rfl) (fun _ _ _ h => h) (Or.inl ⟨by rfl, ?_⟩) ?_ ?_
      rotate_left
      · intro w'
        go_simp
        try with_reducible rfl
      rotate_left
      · simp only [Act.put, List.setIfInBounds_toArray, List.set_cons_zero, List.set_cons_succ, i64_w, i32_w]
        rfl
      refine pure_ (i := 7) (N := (some 34)) (v := ?_) (a' := ?_) #[true, true, true, true, true, true, true, true, false, false, false, false, false, false] rfl rfl (by kernel_rfl) (fun _ _ _ h => h) (Or.inl ⟨by rfl, ?_⟩) ?_ ?_
      rotate_left
      · intro w'
        go_simp
        try with_reducible rfl
      rotate_left
      · simp only [Act.put, List.setIfInBounds_toArray, List.set_cons_zero, List.set_cons_succ, i64_w, i32_w]
        rfl
      refine pure_ (i := 8) (N := (some 35)) (v := ?_) (a' := ?_) #[true, true, true, true, true, true, true, true, true, false, false, false, false, false] rfl rfl (by kernel_rfl) (fun _ _ _ h => h) (Or.inl ⟨by rfl, ?_⟩) ?_ ?_
      rotate_left
      · intro w'
        go_simp
        try with_reducible rfl
      rotate_left
      · simp only [Act.put, List.setIfInBounds_toArray, List.set_cons_zero, List.set_cons_succ, i64_w, i32_w]
        rfl
      refine two_ (i := 9) (j := 10) (Ni := (some 3)) (Nj := (some 4)) #[true, true, true, true, true, true, true, true, true, true, false, false, false, false] #[true, true, true, true, true, true, true, true, true, false, true, false, false, false] rfl rfl rfl rfl (by kernel_rfl) (by decide) (by decide) (fun K hK => ?_) (fun K hK => ?_)
      ·
        refine value_ (w1 := ?_) (v := ?_) (by rfl) rfl ?_ ?_
        rotate_left 2
        · go_simp
          constructor
          · rfl
          · rfl
        have H5 := Aside0.mk (H4.out.alloc_ (q := w4.heap.size) (by simp) #[.slice none 0 0, .slice none 0 0, .int .u8 0, .int .u8 0, .int .u8 0, .int .u8 0, .int .u8 0, .int .u8 0, .int .u8 0, .int .u8 0, .int .u8 0, .int .u8 0, .int .u8 0, .int .u8 0, .int .u8 0, .int .u8 0, .int .u8 0, .int .u8 0] 31)
        refine hK.out _ _ (H5.out.blk 0 rfl) (fun hHeld => ?_)
        clear hK K
        refine norm_ (a' := ?_) ?_ ?_
        rotate_left
        · show Act.put _ (some 3) _ = _
          simp only [Act.put, List.setIfInBounds_toArray, List.set_cons_zero, List.set_cons_succ, i64_w, i32_w]
          rfl
        refine one_ (i := 10) (N := (some 4)) #[true, true, true, true, true, true, true, true, true, true, true, false, false, false] rfl rfl (by kernel_rfl) (by decide) (fun K hK => ?_)
        refine value_ (w1 := ?_) (v := ?_) (by rfl) rfl ?_ ?_
        rotate_left 2
        · go_simp
          constructor
          · rfl
          · rfl
        have H6 := Aside0.mk (H5.out.alloc_ (q := w4.heap.size + 1) (by simp) #[.int .i64 0, .string ⟨#[]⟩] 40)
        refine hK.out _ _ (H6.out.blk 0 rfl) (fun hHeld => ?_)
        clear hK K
        refine norm_ (a' := ?_) ?_ ?_
        rotate_left
        · show Act.put _ (some 4) _ = _
          simp only [Act.put, List.setIfInBounds_toArray, List.set_cons_zero, List.set_cons_succ, i64_w, i32_w]
          rfl
        refine one_ (i := 11) (N := none) #[true, true, true, true, true, true, true, true, true, true, true, true, false, false] rfl rfl (by kernel_rfl) (by decide) (fun K hK => ?_)
        refine skip_ (by rfl) rfl (store_row (ty := 31) (p := .tmp 3) (q := .tmp 33) _ _ _ (hwC (.slice A1 sB0.length c1) (.slice B1 sF0.length d1) r5) rfl rfl rfl (H6.out.blk 1 rfl) (by kernel_rfl) rfl (by kernel_rfl)) ?_
        have H7 := Aside0.mk (H6.out.setRow 1 rfl (hwC (.slice A1 sB0.length c1) (.slice B1 sF0.length d1) r5))
        refine hK.out _ _ (H7.out.blk 0 rfl) (fun hHeld => ?_)
        clear hK K
        refine one_ (i := 12) (N := none) #[true, true, true, true, true, true, true, true, true, true, true, true, true, false] rfl rfl (by kernel_rfl) (by decide) (fun K hK => ?_)
        refine skip_ (by rfl) rfl (store_row (ty := 40) (p := .tmp 4) (q := .tmp 34) _ _ _ #[.int .i64 0, .string ⟨#[]⟩] rfl rfl rfl (H7.out.blk 2 rfl) (by kernel_rfl) rfl (by kernel_rfl)) ?_
        have H8 := Aside0.mk (H7.out.setRow 2 rfl #[.int .i64 0, .string ⟨#[]⟩])
        refine hK.out _ _ (H8.out.blk 0 rfl) (fun hHeld => ?_)
        clear hK K
        refine pure_ (i := 13) (N := (some 5)) (v := ?_) (a' := ?_) #[true, true, true, true, true, true, true, true, true, true, true, true, true, true] rfl rfl (by kernel_rfl) (fun _ _ _ h => h) (Or.inl ⟨by rfl, ?_⟩) ?_ ?_
        rotate_left
        · intro w'
          go_simp
          try with_reducible rfl
        rotate_left
        · simp only [Act.put, List.setIfInBounds_toArray, List.set_cons_zero, List.set_cons_succ, i64_w, i32_w]
          rfl
        exact (REST ⟨(w4.heap.size), (w4.heap.size + 1), A1, c1, hs1, B1, d1, _⟩ _ ⟨H8.out.three 0 1 2 rfl rfl rfl (by decide) (by decide) (by decide)⟩)
      ·
        refine value_ (w1 := ?_) (v := ?_) (by rfl) rfl ?_ ?_
        rotate_left 2
        · go_simp
          constructor
          · rfl
          · rfl
        have H5 := Aside0.mk (H4.out.alloc_ (q := w4.heap.size) (by simp) #[.int .i64 0, .string ⟨#[]⟩] 40)
        refine hK.out _ _ (H5.out.blk 0 rfl) (fun hHeld => ?_)
        clear hK K
        refine norm_ (a' := ?_) ?_ ?_
        rotate_left
        · show Act.put _ (some 4) _ = _
          simp only [Act.put, List.setIfInBounds_toArray, List.set_cons_zero, List.set_cons_succ, i64_w, i32_w]
          rfl
        refine one_ (i := 9) (N := (some 3)) #[true, true, true, true, true, true, true, true, true, true, true, false, false, false] rfl rfl (by kernel_rfl) (by decide) (fun K hK => ?_)
        refine value_ (w1 := ?_) (v := ?_) (by rfl) rfl ?_ ?_
        rotate_left 2
        · go_simp
          constructor
          · rfl
          · rfl
        have H6 := Aside0.mk (H5.out.alloc_ (q := w4.heap.size + 1) (by simp) #[.slice none 0 0, .slice none 0 0, .int .u8 0, .int .u8 0, .int .u8 0, .int .u8 0, .int .u8 0, .int .u8 0, .int .u8 0, .int .u8 0, .int .u8 0, .int .u8 0, .int .u8 0, .int .u8 0, .int .u8 0, .int .u8 0, .int .u8 0, .int .u8 0] 31)
        refine hK.out _ _ (H6.out.blk 0 rfl) (fun hHeld => ?_)
        clear hK K
        refine norm_ (a' := ?_) ?_ ?_
        rotate_left
        · show Act.put _ (some 3) _ = _
          simp only [Act.put, List.setIfInBounds_toArray, List.set_cons_zero, List.set_cons_succ, i64_w, i32_w]
          rfl
        refine one_ (i := 11) (N := none) #[true, true, true, true, true, true, true, true, true, true, true, true, false, false] rfl rfl (by kernel_rfl) (by decide) (fun K hK => ?_)
        refine skip_ (by rfl) rfl (store_row (ty := 31) (p := .tmp 3) (q := .tmp 33) _ _ _ (hwC (.slice A1 sB0.length c1) (.slice B1 sF0.length d1) r5) rfl rfl rfl (H6.out.blk 2 rfl) (by kernel_rfl) rfl (by kernel_rfl)) ?_
        have H7 := Aside0.mk (H6.out.setRow 2 rfl (hwC (.slice A1 sB0.length c1) (.slice B1 sF0.length d1) r5))
        refine hK.out _ _ (H7.out.blk 0 rfl) (fun hHeld => ?_)
        clear hK K
        refine one_ (i := 12) (N := none) #[true, true, true, true, true, true, true, true, true, true, true, true, true, false] rfl rfl (by kernel_rfl) (by decide) (fun K hK => ?_)
        refine skip_ (by rfl) rfl (store_row (ty := 40) (p := .tmp 4) (q := .tmp 34) _ _ _ #[.int .i64 0, .string ⟨#[]⟩] rfl rfl rfl (H7.out.blk 1 rfl) (by kernel_rfl) rfl (by kernel_rfl)) ?_
        have H8 := Aside0.mk (H7.out.setRow 1 rfl #[.int .i64 0, .string ⟨#[]⟩])
        refine hK.out _ _ (H8.out.blk 0 rfl) (fun hHeld => ?_)
        clear hK K
        refine pure_ (i := 13) (N := (some 5)) (v := ?_) (a' := ?_) #[true, true, true, true, true, true, true, true, true, true, true, true, true, true] rfl rfl (by kernel_rfl) (fun _ _ _ h => h) (Or.inl ⟨by rfl, ?_⟩) ?_ ?_
        rotate_left
        · intro w'
          go_simp
          try with_reducible rfl
        rotate_left
        · simp only [Act.put, List.setIfInBounds_toArray, List.set_cons_zero, List.set_cons_succ, i64_w, i32_w]
          rfl
        exact (REST ⟨(w4.heap.size + 1), (w4.heap.size), A1, c1, hs1, B1, d1, _⟩ _ ⟨H8.out.three 0 2 1 rfl rfl rfl (by decide) (by decide) (by decide)⟩)
    ·
      refine value_ (w1 := ?_) (v := ?_) (by rfl) rfl ?_ ?_
      rotate_left 2
      · go_simp
        constructor
        · rfl
        · rfl
      have H4 := Aside0.mk (H3.out.alloc_ (q := w3.heap.size) (by simp) #[.slice none 0 0, .slice none 0 0, .int .u8 0, .int .u8 0, .int .u8 0, .int .u8 0, .int .u8 0, .int .u8 0, .int .u8 0, .int .u8 0, .int .u8 0, .int .u8 0, .int .u8 0, .int .u8 0, .int .u8 0, .int .u8 0, .int .u8 0, .int .u8 0] 31)
      refine hK.out _ _ (H4.out.blk 0 rfl) (fun hHeld => ?_)
      clear hK K
      refine norm_ (a' := ?_) ?_ ?_
      rotate_left
      · show Act.put _ (some 3) _ = _
        simp only [Act.put, List.setIfInBounds_toArray, List.set_cons_zero, List.set_cons_succ, i64_w, i32_w]
        rfl
      refine two_ (i := 4) (j := 10) (Ni := (some 32)) (Nj := (some 4)) #[true, true, true, true, true, false, false, false, false, true, false, false, false, false] #[true, true, true, true, false, false, false, false, false, true, true, false, false, false] rfl rfl rfl rfl (by kernel_rfl) (by decide) (by decide) (fun K hK => ?_) (fun K hK => ?_)
      ·
        refine goes_ Try.func10 (by kernel_rfl) rfl #[.agg (hwC (.slice A0 sB0.length c0) (.slice B0 sF0.length d0) r5), .agg #[.int .i64 4, .int .i64 0, .int .i64 1, .string (fullS 97)], .agg #[.bool true, .int .i64 3, .bool false]] (by rfl) rfl rfl ?hargs ((do_at 4 0 1 (fullS 97) true 3 false sB0 sF1 0 ⟨#[]⟩ 0 H4.out.dom (H4.out.sure 0 rfl) sB0_n sB0_ok sF0_ok d1B d1F d1V d1S d1E).mono ?_)
        case hargs => first | rfl | (go_simp; done) | kernel_rfl
        rintro e w5 ⟨A1, c1, hs1, B1, d1, rfl, hb⟩
        refine ⟨_, rfl, ?_⟩
        have H5 := Aside0.mk (H4.out.call hb)
        clear hb
        refine hK.out _ _ (H5.out.blk 0 rfl) (fun hHeld => ?_)
        clear hK K
        refine norm_ (a' := ?_) ?_ ?_
        rotate_left
        · show Act.put _ (some 32) _ = _
          simp only [Act.put, List.setIfInBounds_toArray, List.set_cons_zero, List.set_cons_succ, i64_w, i32_w]
          rfl
        refine pure_ (i := 5) (N := (some 27)) (v := ?_) (a' := ?_) #[true, true, true, true, true, true, false, false, false, true, false, false, false, false] rfl rfl (by kernel_rfl) (fun _ _ _ h => h) (Or.inl ⟨by rfl, ?_⟩) ?_ ?_
        rotate_left
        · intro w'
          go_simp
          try with_reducible rfl
        rotate_left
        · simp only [Act.put, List.setIfInBounds_toArray, List.set_cons_zero, List.set_cons_succ, i64_w, i32_w]
          rfl
        refine pure_ (i := 6) (N := (some 33)) (v := ?_) (a' := ?_) #[true, true, true, true, true, true, true, false, false, true, false, false, false, false] rfl rfl (by kernel_rfl) (fun _ _ _ h => h) (Or.inl ⟨by rfl, ?_⟩) ?_ ?_
        rotate_left
        · intro w'
          go_simp
          try with_reducible rfl
        rotate_left
        · simp only [Act.put, List.setIfInBounds_toArray, List.set_cons_zero, List.set_cons_succ, i64_w, i32_w]
          rfl
        refine pure_ (i := 7) (N := (some 34)) (v := ?_) (a' := ?_) #[true, true, true, true, true, true, true, true, false, true, false, false, false, false] rfl rfl (by kernel_rfl) (fun _ _ _ h => h) (Or.inl ⟨by rfl, ?_⟩) ?_ ?_
        rotate_left
        · intro w'
          go_simp
          try with_reducible rfl
        rotate_left
        · simp only [Act.put, List.setIfInBounds_toArray, List.set_cons_zero, List.set_cons_succ, i64_w, i32_w]
          rfl
        refine pure_ (i := 8) (N := (some 35)) (v := ?_) (a' := ?_) #[true, true, true, true, true, true, true, true, true, true, false, false, false, false] rfl rfl (by kernel_rfl) (fun _ _ _ h => h) (Or.inl ⟨by rfl, ?_⟩) ?_ ?_
        rotate_left
        · intro w'
          go_simp
          try with_reducible rfl
        rotate_left
        · simp only [Act.put, List.setIfInBounds_toArray, List.set_cons_zero, List.set_cons_succ, i64_w, i32_w]
          rfl
        refine one_ (i := 10) (N := (some 4)) #[true, true, true, true, true, true, true, true, true, true, true, false, false, false] rfl rfl (by kernel_rfl) (by decide) (fun K hK => ?_)
        refine value_ (w1 := ?_) (v := ?_) (by rfl) rfl ?_ ?_
        rotate_left 2
        · go_simp
          constructor
          · rfl
          · rfl
        have H6 := Aside0.mk (H5.out.alloc_ (q := w5.heap.size) (by simp) #[.int .i64 0, .string ⟨#[]⟩] 40)
        refine hK.out _ _ (H6.out.blk 0 rfl) (fun hHeld => ?_)
        clear hK K
        refine norm_ (a' := ?_) ?_ ?_
        rotate_left
        · show Act.put _ (some 4) _ = _
          simp only [Act.put, List.setIfInBounds_toArray, List.set_cons_zero, List.set_cons_succ, i64_w, i32_w]
          rfl
        refine one_ (i := 11) (N := none) #[true, true, true, true, true, true, true, true, true, true, true, true, false, false] rfl rfl (by kernel_rfl) (by decide) (fun K hK => ?_)
        refine skip_ (by rfl) rfl (store_row (ty := 31) (p := .tmp 3) (q := .tmp 33) _ _ _ (hwC (.slice A1 sB0.length c1) (.slice B1 sF0.length d1) r5) rfl rfl rfl (H6.out.blk 1 rfl) (by kernel_rfl) rfl (by kernel_rfl)) ?_
        have H7 := Aside0.mk (H6.out.setRow 1 rfl (hwC (.slice A1 sB0.length c1) (.slice B1 sF0.length d1) r5))
        refine hK.out _ _ (H7.out.blk 0 rfl) (fun hHeld => ?_)
        clear hK K
        refine one_ (i := 12) (N := none) #[true, true, true, true, true, true, true, true, true, true, true, true, true, false] rfl rfl (by kernel_rfl) (by decide) (fun K hK => ?_)
        refine skip_ (by rfl) rfl (store_row (ty := 40) (p := .tmp 4) (q := .tmp 34) _ _ _ #[.int .i64 0, .string ⟨#[]⟩] rfl rfl rfl (H7.out.blk 2 rfl) (by kernel_rfl) rfl (by kernel_rfl)) ?_
        have H8 := Aside0.mk (H7.out.setRow 2 rfl #[.int .i64 0, .string ⟨#[]⟩])
        refine hK.out _ _ (H8.out.blk 0 rfl) (fun hHeld => ?_)
        clear hK K
        refine pure_ (i := 13) (N := (some 5)) (v := ?_) (a' := ?_) #[true, true, true, true, true, true, true, true, true, true, true, true, true, true] rfl rfl (by kernel_rfl) (fun _ _ _ h => h) (Or.inl ⟨by rfl, ?_⟩) ?_ ?_
        rotate_left
        · intro w'
          go_simp
          try with_reducible rfl
        rotate_left
        · simp only [Act.put, List.setIfInBounds_toArray, List.set_cons_zero, List.set_cons_succ, i64_w, i32_w]
          rfl
        exact (REST ⟨(w3.heap.size), (w5.heap.size), A1, c1, hs1, B1, d1, _⟩ _ ⟨H8.out.three 0 1 2 rfl rfl rfl (by decide) (by decide) (by decide)⟩)
      ·
        refine value_ (w1 := ?_) (v := ?_) (by rfl) rfl ?_ ?_
        rotate_left 2
        · go_simp
          constructor
          · rfl
          · rfl
        have H5 := Aside0.mk (H4.out.alloc_ (q := w3.heap.size + 1) (by simp) #[.int .i64 0, .string ⟨#[]⟩] 40)
        refine hK.out _ _ (H5.out.blk 0 rfl) (fun hHeld => ?_)
        clear hK K
        refine norm_ (a' := ?_) ?_ ?_
        rotate_left
        · show Act.put _ (some 4) _ = _
          simp only [Act.put, List.setIfInBounds_toArray, List.set_cons_zero, List.set_cons_succ, i64_w, i32_w]
          rfl
        refine one_ (i := 4) (N := (some 32)) #[true, true, true, true, true, false, false, false, false, true, true, false, false, false] rfl rfl (by kernel_rfl) (by decide) (fun K hK => ?_)
        refine goes_ Try.func10 (by kernel_rfl) rfl #[.agg (hwC (.slice A0 sB0.length c0) (.slice B0 sF0.length d0) r5), .agg #[.int .i64 4, .int .i64 0, .int .i64 1, .string (fullS 97)], .agg #[.bool true, .int .i64 3, .bool false]] (by rfl) rfl rfl ?hargs ((do_at 4 0 1 (fullS 97) true 3 false sB0 sF1 0 ⟨#[]⟩ 0 H5.out.dom (H5.out.sure 0 rfl) sB0_n sB0_ok sF0_ok d1B d1F d1V d1S d1E).mono ?_)
        case hargs => first | rfl | (go_simp; done) | kernel_rfl
        rintro e w6 ⟨A1, c1, hs1, B1, d1, rfl, hb⟩
        refine ⟨_, rfl, ?_⟩
        have H6 := Aside0.mk (H5.out.call hb)
        clear hb
        refine hK.out _ _ (H6.out.blk 0 rfl) (fun hHeld => ?_)
        clear hK K
        refine norm_ (a' := ?_) ?_ ?_
        rotate_left
        · show Act.put _ (some 32) _ = _
          simp only [Act.put, List.setIfInBounds_toArray, List.set_cons_zero, List.set_cons_succ, i64_w, i32_w]
          rfl
        refine pure_ (i := 5) (N := (some 27)) (v := ?_) (a' := ?_) #[true, true, true, true, true, true, false, false, false, true, true, false, false, false] rfl rfl (by kernel_rfl) (fun _ _ _ h => h) (Or.inl ⟨by rfl, ?_⟩) ?_ ?_
        rotate_left
        · intro w'
          go_simp
          try with_reducible rfl
        rotate_left
        · simp only [Act.put, List.setIfInBounds_toArray, List.set_cons_zero, List.set_cons_succ, i64_w, i32_w]
          rfl
        refine pure_ (i := 6) (N := (some 33)) (v := ?_) (a' := ?_) #[true, true, true, true, true, true, true, false, false, true, true, false, false, false] rfl rfl (by kernel_rfl) (fun _ _ _ h => h) (Or.inl ⟨by rfl, ?_⟩) ?_ ?_
        rotate_left
        · intro w'
          go_simp
          try with_reducible rfl
        rotate_left
        · simp only [Act.put, List.setIfInBounds_toArray, List.set_cons_zero, List.set_cons_succ, i64_w, i32_w]
          rfl
        refine pure_ (i := 7) (N := (some 34)) (v := ?_) (a' := ?_) #[true, true, true, true, true, true, true, true, false, true, true, false, false, false] rfl rfl (by kernel_rfl) (fun _ _ _ h => h) (Or.inl ⟨by rfl, ?_⟩) ?_ ?_
        rotate_left
        · intro w'
          go_simp
          try with_reducible rfl
        rotate_left
        · simp only [Act.put, List.setIfInBounds_toArray, List.set_cons_zero, List.set_cons_succ, i64_w, i32_w]
          rfl
        refine pure_ (i := 8) (N := (some 35)) (v := ?_) (a' := ?_) #[true, true, true, true, true, true, true, true, true, true, true, false, false, false] rfl rfl (by kernel_rfl) (fun _ _ _ h => h) (Or.inl ⟨by rfl, ?_⟩) ?_ ?_
        rotate_left
        · intro w'
          go_simp
          try with_reducible rfl
        rotate_left
        · simp only [Act.put, List.setIfInBounds_toArray, List.set_cons_zero, List.set_cons_succ, i64_w, i32_w]
          rfl
        refine one_ (i := 11) (N := none) #[true, true, true, true, true, true, true, true, true, true, true, true, false, false] rfl rfl (by kernel_rfl) (by decide) (fun K hK => ?_)
        refine skip_ (by rfl) rfl (store_row (ty := 31) (p := .tmp 3) (q := .tmp 33) _ _ _ (hwC (.slice A1 sB0.length c1) (.slice B1 sF0.length d1) r5) rfl rfl rfl (H6.out.blk 1 rfl) (by kernel_rfl) rfl (by kernel_rfl)) ?_
        have H7 := Aside0.mk (H6.out.setRow 1 rfl (hwC (.slice A1 sB0.length c1) (.slice B1 sF0.length d1) r5))
        refine hK.out _ _ (H7.out.blk 0 rfl) (fun hHeld => ?_)
        clear hK K
        refine one_ (i := 12) (N := none) #[true, true, true, true, true, true, true, true, true, true, true, true, true, false] rfl rfl (by kernel_rfl) (by decide) (fun K hK => ?_)
        refine skip_ (by rfl) rfl (store_row (ty := 40) (p := .tmp 4) (q := .tmp 34) _ _ _ #[.int .i64 0, .string ⟨#[]⟩] rfl rfl rfl (H7.out.blk 2 rfl) (by kernel_rfl) rfl (by kernel_rfl)) ?_
        have H8 := Aside0.mk (H7.out.setRow 2 rfl #[.int .i64 0, .string ⟨#[]⟩])
        refine hK.out _ _ (H8.out.blk 0 rfl) (fun hHeld => ?_)
        clear hK K
        refine pure_ (i := 13) (N := (some 5)) (v := ?_) (a' := ?_) #[true, true, true, true, true, true, true, true, true, true, true, true, true, true] rfl rfl (by kernel_rfl) (fun _ _ _ h => h) (Or.inl ⟨by rfl, ?_⟩) ?_ ?_
        rotate_left
        · intro w'
          go_simp
          try with_reducible rfl
        rotate_left
        · simp only [Act.put, List.setIfInBounds_toArray, List.set_cons_zero, List.set_cons_succ, i64_w, i32_w]
          rfl
        exact (REST ⟨(w3.heap.size), (w3.heap.size + 1), A1, c1, hs1, B1, d1, _⟩ _ ⟨H8.out.three 0 1 2 rfl rfl rfl (by decide) (by decide) (by decide)⟩)
    ·
      refine value_ (w1 := ?_) (v := ?_) (by rfl) rfl ?_ ?_
      rotate_left 2
      · go_simp
        constructor
        · rfl
        · rfl
      have H4 := Aside0.mk (H3.out.alloc_ (q := w3.heap.size) (by simp) #[.int .i64 0, .string ⟨#[]⟩] 40)
      refine hK.out _ _ (H4.out.blk 0 rfl) (fun hHeld => ?_)
      clear hK K
      refine norm_ (a' := ?_) ?_ ?_
      rotate_left
      · show Act.put _ (some 4) _ = _
        simp only [Act.put, List.setIfInBounds_toArray, List.set_cons_zero, List.set_cons_succ, i64_w, i32_w]
        rfl
      refine two_ (i := 4) (j := 9) (Ni := (some 32)) (Nj := (some 3)) #[true, true, true, true, true, false, false, false, false, false, true, false, false, false] #[true, true, true, true, false, false, false, false, false, true, true, false, false, false] rfl rfl rfl rfl (by kernel_rfl) (by decide) (by decide) (fun K hK => ?_) (fun K hK => ?_)
      ·
        refine goes_ Try.func10 (by kernel_rfl) rfl #[.agg (hwC (.slice A0 sB0.length c0) (.slice B0 sF0.length d0) r5), .agg #[.int .i64 4, .int .i64 0, .int .i64 1, .string (fullS 97)], .agg #[.bool true, .int .i64 3, .bool false]] (by rfl) rfl rfl ?hargs ((do_at 4 0 1 (fullS 97) true 3 false sB0 sF1 0 ⟨#[]⟩ 0 H4.out.dom (H4.out.sure 0 rfl) sB0_n sB0_ok sF0_ok d1B d1F d1V d1S d1E).mono ?_)
        case hargs => first | rfl | (go_simp; done) | kernel_rfl
        rintro e w5 ⟨A1, c1, hs1, B1, d1, rfl, hb⟩
        refine ⟨_, rfl, ?_⟩
        have H5 := Aside0.mk (H4.out.call hb)
        clear hb
        refine hK.out _ _ (H5.out.blk 0 rfl) (fun hHeld => ?_)
        clear hK K
        refine norm_ (a' := ?_) ?_ ?_
        rotate_left
        · show Act.put _ (some 32) _ = _
          simp only [Act.put, List.setIfInBounds_toArray, List.set_cons_zero, List.set_cons_succ, i64_w, i32_w]
          rfl
        refine pure_ (i := 5) (N := (some 27)) (v := ?_) (a' := ?_) #[true, true, true, true, true, true, false, false, false, false, true, false, false, false] rfl rfl (by kernel_rfl) (fun _ _ _ h => h) (Or.inl ⟨by rfl, ?_⟩) ?_ ?_
        rotate_left
        · intro w'
          go_simp
          try with_reducible rfl
        rotate_left
        · simp only [Act.put, List.setIfInBounds_toArray, List.set_cons_zero, List.set_cons_succ, i64_w, i32_w]
          rfl
        refine pure_ (i := 6) (N := (some 33)) (v := ?_) (a' := ?_) #[true, true, true, true, true, true, true, false, false, false, true, false, false, false] rfl rfl (by kernel_rfl) (fun _ _ _ h => h) (Or.inl ⟨by rfl, ?_⟩) ?_ ?_
        rotate_left
        · intro w'
          go_simp
          try with_reducible rfl
        rotate_left
        · simp only [Act.put, List.setIfInBounds_toArray, List.set_cons_zero, List.set_cons_succ, i64_w, i32_w]
          rfl
        refine pure_ (i := 7) (N := (some 34)) (v := ?_) (a' := ?_) #[true, true, true, true, true, true, true, true, false, false, true, false, false, false] rfl rfl (by kernel_rfl) (fun _ _ _ h => h) (Or.inl ⟨by rfl, ?_⟩) ?_ ?_
        rotate_left
        · intro w'
          go_simp
          try with_reducible rfl
        rotate_left
        · simp only [Act.put, List.setIfInBounds_toArray, List.set_cons_zero, List.set_cons_succ, i64_w, i32_w]
          rfl
        refine pure_ (i := 8) (N := (some 35)) (v := ?_) (a' := ?_) #[true, true, true, true, true, true, true, true, true, false, true, false, false, false] rfl rfl (by kernel_rfl) (fun _ _ _ h => h) (Or.inl ⟨by rfl, ?_⟩) ?_ ?_
        rotate_left
        · intro w'
          go_simp
          try with_reducible rfl
        rotate_left
        · simp only [Act.put, List.setIfInBounds_toArray, List.set_cons_zero, List.set_cons_succ, i64_w, i32_w]
          rfl
        refine one_ (i := 9) (N := (some 3)) #[true, true, true, true, true, true, true, true, true, true, true, false, false, false] rfl rfl (by kernel_rfl) (by decide) (fun K hK => ?_)
        refine value_ (w1 := ?_) (v := ?_) (by rfl) rfl ?_ ?_
        rotate_left 2
        · go_simp
          constructor
          · rfl
          · rfl
        have H6 := Aside0.mk (H5.out.alloc_ (q := w5.heap.size) (by simp) #[.slice none 0 0, .slice none 0 0, .int .u8 0, .int .u8 0, .int .u8 0, .int .u8 0, .int .u8 0, .int .u8 0, .int .u8 0, .int .u8 0, .int .u8 0, .int .u8 0, .int .u8 0, .int .u8 0, .int .u8 0, .int .u8 0, .int .u8 0, .int .u8 0] 31)
        refine hK.out _ _ (H6.out.blk 0 rfl) (fun hHeld => ?_)
        clear hK K
        refine norm_ (a' := ?_) ?_ ?_
        rotate_left
        · show Act.put _ (some 3) _ = _
          simp only [Act.put, List.setIfInBounds_toArray, List.set_cons_zero, List.set_cons_succ, i64_w, i32_w]
          rfl
        refine one_ (i := 11) (N := none) #[true, true, true, true, true, true, true, true, true, true, true, true, false, false] rfl rfl (by kernel_rfl) (by decide) (fun K hK => ?_)
        refine skip_ (by rfl) rfl (store_row (ty := 31) (p := .tmp 3) (q := .tmp 33) _ _ _ (hwC (.slice A1 sB0.length c1) (.slice B1 sF0.length d1) r5) rfl rfl rfl (H6.out.blk 2 rfl) (by kernel_rfl) rfl (by kernel_rfl)) ?_
        have H7 := Aside0.mk (H6.out.setRow 2 rfl (hwC (.slice A1 sB0.length c1) (.slice B1 sF0.length d1) r5))
        refine hK.out _ _ (H7.out.blk 0 rfl) (fun hHeld => ?_)
        clear hK K
        refine one_ (i := 12) (N := none) #[true, true, true, true, true, true, true, true, true, true, true, true, true, false] rfl rfl (by kernel_rfl) (by decide) (fun K hK => ?_)
        refine skip_ (by rfl) rfl (store_row (ty := 40) (p := .tmp 4) (q := .tmp 34) _ _ _ #[.int .i64 0, .string ⟨#[]⟩] rfl rfl rfl (H7.out.blk 1 rfl) (by kernel_rfl) rfl (by kernel_rfl)) ?_
        have H8 := Aside0.mk (H7.out.setRow 1 rfl #[.int .i64 0, .string ⟨#[]⟩])
        refine hK.out _ _ (H8.out.blk 0 rfl) (fun hHeld => ?_)
        clear hK K
        refine pure_ (i := 13) (N := (some 5)) (v := ?_) (a' := ?_) #[true, true, true, true, true, true, true, true, true, true, true, true, true, true] rfl rfl (by kernel_rfl) (fun _ _ _ h => h) (Or.inl ⟨by rfl, ?_⟩) ?_ ?_
        rotate_left
        · intro w'
          go_simp
          try with_reducible rfl
        rotate_left
        · simp only [Act.put, List.setIfInBounds_toArray, List.set_cons_zero, List.set_cons_succ, i64_w, i32_w]
          rfl
        exact (REST ⟨(w5.heap.size), (w3.heap.size), A1, c1, hs1, B1, d1, _⟩ _ ⟨H8.out.three 0 2 1 rfl rfl rfl (by decide) (by decide) (by decide)⟩)
      ·
        refine value_ (w1 := ?_) (v := ?_) (by rfl) rfl ?_ ?_
        rotate_left 2
        · go_simp
          constructor
          · rfl
          · rfl
        have H5 := Aside0.mk (H4.out.alloc_ (q := w3.heap.size + 1) (by simp) #[.slice none 0 0, .slice none 0 0, .int .u8 0, .int .u8 0, .int .u8 0, .int .u8 0, .int .u8 0, .int .u8 0, .int .u8 0, .int .u8 0, .int .u8 0, .int .u8 0, .int .u8 0, .int .u8 0, .int .u8 0, .int .u8 0, .int .u8 0, .int .u8 0] 31)
        refine hK.out _ _ (H5.out.blk 0 rfl) (fun hHeld => ?_)
        clear hK K
        refine norm_ (a' := ?_) ?_ ?_
        rotate_left
        · show Act.put _ (some 3) _ = _
          simp only [Act.put, List.setIfInBounds_toArray, List.set_cons_zero, List.set_cons_succ, i64_w, i32_w]
          rfl
        refine one_ (i := 4) (N := (some 32)) #[true, true, true, true, true, false, false, false, false, true, true, false, false, false] rfl rfl (by kernel_rfl) (by decide) (fun K hK => ?_)
        refine goes_ Try.func10 (by kernel_rfl) rfl #[.agg (hwC (.slice A0 sB0.length c0) (.slice B0 sF0.length d0) r5), .agg #[.int .i64 4, .int .i64 0, .int .i64 1, .string (fullS 97)], .agg #[.bool true, .int .i64 3, .bool false]] (by rfl) rfl rfl ?hargs ((do_at 4 0 1 (fullS 97) true 3 false sB0 sF1 0 ⟨#[]⟩ 0 H5.out.dom (H5.out.sure 0 rfl) sB0_n sB0_ok sF0_ok d1B d1F d1V d1S d1E).mono ?_)
        case hargs => first | rfl | (go_simp; done) | kernel_rfl
        rintro e w6 ⟨A1, c1, hs1, B1, d1, rfl, hb⟩
        refine ⟨_, rfl, ?_⟩
        have H6 := Aside0.mk (H5.out.call hb)
        clear hb
        refine hK.out _ _ (H6.out.blk 0 rfl) (fun hHeld => ?_)
        clear hK K
        refine norm_ (a' := ?_) ?_ ?_
        rotate_left
        · show Act.put _ (some 32) _ = _
          simp only [Act.put, List.setIfInBounds_toArray, List.set_cons_zero, List.set_cons_succ, i64_w, i32_w]
          rfl
        refine pure_ (i := 5) (N := (some 27)) (v := ?_) (a' := ?_) #[true, true, true, true, true, true, false, false, false, true, true, false, false, false] rfl rfl (by kernel_rfl) (fun _ _ _ h => h) (Or.inl ⟨by rfl, ?_⟩) ?_ ?_
        rotate_left
        · intro w'
          go_simp
          try with_reducible rfl
        rotate_left
        · simp only [Act.put, List.setIfInBounds_toArray, List.set_cons_zero, List.set_cons_succ, i64_w, i32_w]
          rfl
        refine pure_ (i := 6) (N := (some 33)) (v := ?_) (a' := ?_) #[true, true, true, true, true, true, true, false, false, true, true, false, false, false] rfl rfl (by kernel_rfl) (fun _ _ _ h => h) (Or.inl ⟨by rfl, ?_⟩) ?_ ?_
        rotate_left
        · intro w'
          go_simp
          try with_reducible rfl
        rotate_left
        · simp only [Act.put, List.setIfInBounds_toArray, List.set_cons_zero, List.set_cons_succ, i64_w, i32_w]
          rfl
        refine pure_ (i := 7) (N := (some 34)) (v := ?_) (a' := ?_) #[true, true, true, true, true, true, true, true, false, true, true, false, false, false] rfl rfl (by kernel_rfl) (fun _ _ _ h => h) (Or.inl ⟨by rfl, ?_⟩) ?_ ?_
        rotate_left
        · intro w'
          go_simp
          try with_reducible rfl
        rotate_left
        · simp only [Act.put, List.setIfInBounds_toArray, List.set_cons_zero, List.set_cons_succ, i64_w, i32_w]
          rfl
        refine pure_ (i := 8) (N := (some 35)) (v := ?_) (a' := ?_) #[true, true, true, true, true, true, true, true, true, true, true, false, false, false] rfl rfl (by kernel_rfl) (fun _ _ _ h => h) (Or.inl ⟨by rfl, ?_⟩) ?_ ?_
        rotate_left
        · intro w'
          go_simp
          try with_reducible rfl
        rotate_left
        · simp only [Act.put, List.setIfInBounds_toArray, List.set_cons_zero, List.set_cons_succ, i64_w, i32_w]
          rfl
        refine one_ (i := 11) (N := none) #[true, true, true, true, true, true, true, true, true, true, true, true, false, false] rfl rfl (by kernel_rfl) (by decide) (fun K hK => ?_)
        refine skip_ (by rfl) rfl (store_row (ty := 31) (p := .tmp 3) (q := .tmp 33) _ _ _ (hwC (.slice A1 sB0.length c1) (.slice B1 sF0.length d1) r5) rfl rfl rfl (H6.out.blk 2 rfl) (by kernel_rfl) rfl (by kernel_rfl)) ?_
        have H7 := Aside0.mk (H6.out.setRow 2 rfl (hwC (.slice A1 sB0.length c1) (.slice B1 sF0.length d1) r5))
        refine hK.out _ _ (H7.out.blk 0 rfl) (fun hHeld => ?_)
        clear hK K
        refine one_ (i := 12) (N := none) #[true, true, true, true, true, true, true, true, true, true, true, true, true, false] rfl rfl (by kernel_rfl) (by decide) (fun K hK => ?_)
        refine skip_ (by rfl) rfl (store_row (ty := 40) (p := .tmp 4) (q := .tmp 34) _ _ _ #[.int .i64 0, .string ⟨#[]⟩] rfl rfl rfl (H7.out.blk 1 rfl) (by kernel_rfl) rfl (by kernel_rfl)) ?_
        have H8 := Aside0.mk (H7.out.setRow 1 rfl #[.int .i64 0, .string ⟨#[]⟩])
        refine hK.out _ _ (H8.out.blk 0 rfl) (fun hHeld => ?_)
        clear hK K
        refine pure_ (i := 13) (N := (some 5)) (v := ?_) (a' := ?_) #[true, true, true, true, true, true, true, true, true, true, true, true, true, true] rfl rfl (by kernel_rfl) (fun _ _ _ h => h) (Or.inl ⟨by rfl, ?_⟩) ?_ ?_
        rotate_left
        · intro w'
          go_simp
          try with_reducible rfl
        rotate_left
        · simp only [Act.put, List.setIfInBounds_toArray, List.set_cons_zero, List.set_cons_succ, i64_w, i32_w]
          rfl
        exact (REST ⟨(w3.heap.size + 1), (w3.heap.size), A1, c1, hs1, B1, d1, _⟩ _ ⟨H8.out.three 0 2 1 rfl rfl rfl (by decide) (by decide) (by decide)⟩)
  ·
    refine value_ (w1 := ?_) (v := ?_) (by rfl) rfl ?_ ?_
    rotate_left 2
    · go_simp
      constructor
      · rfl
      · rfl
    have H3 := Aside0.mk (H2.out.drew.alloc_ (q := w2.heap.size) (by simp) #[.slice none 0 0, .slice none 0 0, .int .u8 0, .int .u8 0, .int .u8 0, .int .u8 0, .int .u8 0, .int .u8 0, .int .u8 0, .int .u8 0, .int .u8 0, .int .u8 0, .int .u8 0, .int .u8 0, .int .u8 0, .int .u8 0, .int .u8 0, .int .u8 0] 31)
    refine hK.out _ _ (H3.out.blk 0 rfl) (fun hHeld => ?_)
    clear hK K
    refine norm_ (a' := ?_) ?_ ?_
    rotate_left
    · show Act.put _ (some 3) _ = _
      simp only [Act.put, List.setIfInBounds_toArray, List.set_cons_zero, List.set_cons_succ, i64_w, i32_w]
      rfl
    refine two_ (i := 1) (j := 10) (Ni := (some 29)) (Nj := (some 4)) #[true, true, false, true, false, false, false, false, false, true, false, false, false, false] #[true, false, false, true, false, false, false, false, false, true, true, false, false, false] rfl rfl rfl rfl (by kernel_rfl) (by decide) (by decide) (fun K hK => ?_) (fun K hK => ?_)
    ·
      refine goes_ Try.func19 (by kernel_rfl) rfl #[.int .u8 97] (by rfl) rfl rfl ?hargs ((full_any 97 _).mono ?_)
      case hargs => first | rfl | (go_simp; done) | kernel_rfl
      rintro e w4 ⟨rfl, hb⟩
      refine ⟨_, rfl, ?_⟩
      have H4 := Aside0.mk (H3.out.step hb)
      clear hb
      refine hK.out _ _ (H4.out.blk 0 rfl) (fun hHeld => ?_)
      clear hK K
      refine norm_ (a' := ?_) ?_ ?_
      rotate_left
      · show Act.put _ (some 29) _ = _
        simp only [Act.put, List.setIfInBounds_toArray, List.set_cons_zero, List.set_cons_succ, i64_w, i32_w]
        rfl
      refine pure_ (i := 2) (N := (some 30)) (v := ?_) (a' := ?_) #[true, true, true, true, false, false, false, false, false, true, false, false, false, false] rfl rfl (by kernel_rfl) (fun _ _ _ h => h) (Or.inl ⟨by rfl, ?_⟩) ?_ ?_
      rotate_left
      · intro w'
        go_simp
        try with_reducible rfl
      rotate_left
      · simp only [Act.put, List.setIfInBounds_toArray, List.set_cons_zero, List.set_cons_succ, i64_w, i32_w]
        rfl
      refine two_ (i := 4) (j := 10) (Ni := (some 32)) (Nj := (some 4)) #[true, true, true, true, true, false, false, false, false, true, false, false, false, false] #[true, true, true, true, false, false, false, false, false, true, true, false, false, false] rfl rfl rfl rfl (by kernel_rfl) (by decide) (by decide) (fun K hK => ?_) (fun K hK => ?_)
      ·
        refine goes_ Try.func10 (by kernel_rfl) rfl #[.agg (hwC (.slice A0 sB0.length c0) (.slice B0 sF0.length d0) r5), .agg #[.int .i64 4, .int .i64 0, .int .i64 1, .string (fullS 97)], .agg #[.bool true, .int .i64 3, .bool false]] (by rfl) rfl rfl ?hargs ((do_at 4 0 1 (fullS 97) true 3 false sB0 sF1 0 ⟨#[]⟩ 0 H4.out.dom (H4.out.sure 0 rfl) sB0_n sB0_ok sF0_ok d1B d1F d1V d1S d1E).mono ?_)
        case hargs => first | rfl | (go_simp; done) | kernel_rfl
        rintro e w5 ⟨A1, c1, hs1, B1, d1, rfl, hb⟩
        refine ⟨_, rfl, ?_⟩
        have H5 := Aside0.mk (H4.out.call hb)
        clear hb
        refine hK.out _ _ (H5.out.blk 0 rfl) (fun hHeld => ?_)
        clear hK K
        refine norm_ (a' := ?_) ?_ ?_
        rotate_left
        · show Act.put _ (some 32) _ = _
          simp only [Act.put, List.setIfInBounds_toArray, List.set_cons_zero, List.set_cons_succ, i64_w, i32_w]
          rfl
        refine pure_ (i := 5) (N := (some 27)) (v := ?_) (a' := ?_) #[true, true, true, true, true, true, false, false, false, true, false, false, false, false] rfl rfl (by kernel_rfl) (fun _ _ _ h => h) (Or.inl ⟨by rfl, ?_⟩) ?_ ?_
        rotate_left
        · intro w'
          go_simp
          try with_reducible rfl
        rotate_left
        · simp only [Act.put, List.setIfInBounds_toArray, List.set_cons_zero, List.set_cons_succ, i64_w, i32_w]
          rfl
        refine pure_ (i := 6) (N := (some 33)) (v := ?_) (a' := ?_) #[true, true, true, true, true, true, true, false, false, true, false, false, false, false] rfl rfl (by kernel_rfl) (fun _ _ _ h => h) (Or.inl ⟨by rfl, ?_⟩) ?_ ?_
        rotate_left
        · intro w'
          go_simp
          try with_reducible rfl
        rotate_left
        · simp only [Act.put, List.setIfInBounds_toArray, List.set_cons_zero, List.set_cons_succ, i64_w, i32_w]
          rfl
        refine pure_ (i := 7) (N := (some 34)) (v := ?_) (a' := ?_) #[true, true, true, true, true, true, true, true, false, true, false, false, false, false] rfl rfl (by kernel_rfl) (fun _ _ _ h => h) (Or.inl ⟨by rfl, ?_⟩) ?_ ?_
        rotate_left
        · intro w'
          go_simp
          try with_reducible rfl
        rotate_left
        · simp only [Act.put, List.setIfInBounds_toArray, List.set_cons_zero, List.set_cons_succ, i64_w, i32_w]
          rfl
        refine pure_ (i := 8) (N := (some 35)) (v := ?_) (a' := ?_) #[true, true, true, true, true, true, true, true, true, true, false, false, false, false] rfl rfl (by kernel_rfl) (fun _ _ _ h => h) (Or.inl ⟨by rfl, ?_⟩) ?_ ?_
        rotate_left
        · intro w'
          go_simp
          try with_reducible rfl
        rotate_left
        · simp only [Act.put, List.setIfInBounds_toArray, List.set_cons_zero, List.set_cons_succ, i64_w, i32_w]
          rfl
        refine one_ (i := 10) (N := (some 4)) #[true, true, true, true, true, true, true, true, true, true, true, false, false, false] rfl rfl (by kernel_rfl) (by decide) (fun K hK => ?_)
        refine value_ (w1 := ?_) (v := ?_) (by rfl) rfl ?_ ?_
        rotate_left 2
        · go_simp
          constructor
          · rfl
          · rfl
        have H6 := Aside0.mk (H5.out.alloc_ (q := w5.heap.size) (by simp) #[.int .i64 0, .string ⟨#[]⟩] 40)
        refine hK.out _ _ (H6.out.blk 0 rfl) (fun hHeld => ?_)
        clear hK K
        refine norm_ (a' := ?_) ?_ ?_
        rotate_left
        · show Act.put _ (some 4) _ = _
          simp only [Act.put, List.setIfInBounds_toArray, List.set_cons_zero, List.set_cons_succ, i64_w, i32_w]
          rfl
        refine one_ (i := 11) (N := none) #[true, true, true, true, true, true, true, true, true, true, true, true, false, false] rfl rfl (by kernel_rfl) (by decide) (fun K hK => ?_)
        refine skip_ (by rfl) rfl (store_row (ty := 31) (p := .tmp 3) (q := .tmp 33) _ _ _ (hwC (.slice A1 sB0.length c1) (.slice B1 sF0.length d1) r5) rfl rfl rfl (H6.out.blk 1 rfl) (by kernel_rfl) rfl (by kernel_rfl)) ?_
        have H7 := Aside0.mk (H6.out.setRow 1 rfl (hwC (.slice A1 sB0.length c1) (.slice B1 sF0.length d1) r5))
        refine hK.out _ _ (H7.out.blk 0 rfl) (fun hHeld => ?_)
        clear hK K
        refine one_ (i := 12) (N := none) #[true, true, true, true, true, true, true, true, true, true, true, true, true, false] rfl rfl (by kernel_rfl) (by decide) (fun K hK => ?_)
        refine skip_ (by rfl) rfl (store_row (ty := 40) (p := .tmp 4) (q := .tmp 34) _ _ _ #[.int .i64 0, .string ⟨#[]⟩] rfl rfl rfl (H7.out.blk 2 rfl) (by kernel_rfl) rfl (by kernel_rfl)) ?_
        have H8 := Aside0.mk (H7.out.setRow 2 rfl #[.int .i64 0, .string ⟨#[]⟩])
        refine hK.out _ _ (H8.out.blk 0 rfl) (fun hHeld => ?_)
        clear hK K
        refine pure_ (i := 13) (N := (some 5)) (v := ?_) (a' := ?_) #[true, true, true, true, true, true, true, true, true, true, true, true, true, true] rfl rfl (by kernel_rfl) (fun _ _ _ h => h) (Or.inl ⟨by rfl, ?_⟩) ?_ ?_
        rotate_left
        · intro w'
          go_simp
          try with_reducible rfl
        rotate_left
        · simp only [Act.put, List.setIfInBounds_toArray, List.set_cons_zero, List.set_cons_succ, i64_w, i32_w]
          rfl
        exact (REST ⟨(w2.heap.size), (w5.heap.size), A1, c1, hs1, B1, d1, _⟩ _ ⟨H8.out.three 0 1 2 rfl rfl rfl (by decide) (by decide) (by decide)⟩)
      ·
        refine value_ (w1 := ?_) (v := ?_) (by rfl) rfl ?_ ?_
        rotate_left 2
        · go_simp
          constructor
          · rfl
          · rfl
        have H5 := Aside0.mk (H4.out.alloc_ (q := w4.heap.size) (by simp) #[.int .i64 0, .string ⟨#[]⟩] 40)
        refine hK.out _ _ (H5.out.blk 0 rfl) (fun hHeld => ?_)
        clear hK K
        refine norm_ (a' := ?_) ?_ ?_
        rotate_left
        · show Act.put _ (some 4) _ = _
          simp only [Act.put, List.setIfInBounds_toArray, List.set_cons_zero, List.set_cons_succ, i64_w, i32_w]
          rfl
        refine one_ (i := 4) (N := (some 32)) #[true, true, true, true, true, false, false, false, false, true, true, false, false, false] rfl rfl (by kernel_rfl) (by decide) (fun K hK => ?_)
        refine goes_ Try.func10 (by kernel_rfl) rfl #[.agg (hwC (.slice A0 sB0.length c0) (.slice B0 sF0.length d0) r5), .agg #[.int .i64 4, .int .i64 0, .int .i64 1, .string (fullS 97)], .agg #[.bool true, .int .i64 3, .bool false]] (by rfl) rfl rfl ?hargs ((do_at 4 0 1 (fullS 97) true 3 false sB0 sF1 0 ⟨#[]⟩ 0 H5.out.dom (H5.out.sure 0 rfl) sB0_n sB0_ok sF0_ok d1B d1F d1V d1S d1E).mono ?_)
        case hargs => first | rfl | (go_simp; done) | kernel_rfl
        rintro e w6 ⟨A1, c1, hs1, B1, d1, rfl, hb⟩
        refine ⟨_, rfl, ?_⟩
        have H6 := Aside0.mk (H5.out.call hb)
        clear hb
        refine hK.out _ _ (H6.out.blk 0 rfl) (fun hHeld => ?_)
        clear hK K
        refine norm_ (a' := ?_) ?_ ?_
        rotate_left
        · show Act.put _ (some 32) _ = _
          simp only [Act.put, List.setIfInBounds_toArray, List.set_cons_zero, List.set_cons_succ, i64_w, i32_w]
          rfl
        refine pure_ (i := 5) (N := (some 27)) (v := ?_) (a' := ?_) #[true, true, true, true, true, true, false, false, false, true, true, false, false, false] rfl rfl (by kernel_rfl) (fun _ _ _ h => h) (Or.inl ⟨by rfl, ?_⟩) ?_ ?_
        rotate_left
        · intro w'
          go_simp
          try with_reducible rfl
        rotate_left
        · simp only [Act.put, List.setIfInBounds_toArray, List.set_cons_zero, List.set_cons_succ, i64_w, i32_w]
          rfl
        refine pure_ (i := 6) (N := (some 33)) (v := ?_) (a' := ?_) #[true, true, true, true, true, true, true, false, false, true, true, false, false, false] rfl rfl (by kernel_rfl) (fun _ _ _ h => h) (Or.inl ⟨by rfl, ?_⟩) ?_ ?_
        rotate_left
        · intro w'
          go_simp
          try with_reducible rfl
        rotate_left
        · simp only [Act.put, List.setIfInBounds_toArray, List.set_cons_zero, List.set_cons_succ, i64_w, i32_w]
          rfl
        refine pure_ (i := 7) (N := (some 34)) (v := ?_) (a' := ?_) #[true, true, true, true, true, true, true, true, false, true, true, false, false, false] rfl rfl (by kernel_rfl) (fun _ _ _ h => h) (Or.inl ⟨by rfl, ?_⟩) ?_ ?_
        rotate_left
        · intro w'
          go_simp
          try with_reducible rfl
        rotate_left
        · simp only [Act.put, List.setIfInBounds_toArray, List.set_cons_zero, List.set_cons_succ, i64_w, i32_w]
          rfl
        refine pure_ (i := 8) (N := (some 35)) (v := ?_) (a' := ?_) #[true, true, true, true, true, true, true, true, true, true, true, false, false, false] rfl rfl (by kernel_rfl) (fun _ _ _ h => h) (Or.inl ⟨by rfl, ?_⟩) ?_ ?_
        rotate_left
        · intro w'
          go_simp
          try with_reducible rfl
        rotate_left
        · simp only [Act.put, List.setIfInBounds_toArray, List.set_cons_zero, List.set_cons_succ, i64_w, i32_w]
          rfl
        refine one_ (i := 11) (N := none) #[true, true, true, true, true, true, true, true, true, true, true, true, false, false] rfl rfl (by kernel_rfl) (by decide) (fun K hK => ?_)
        refine skip_ (by rfl) rfl (store_row (ty := 31) (p := .tmp 3) (q := .tmp 33) _ _ _ (hwC (.slice A1 sB0.length c1) (.slice B1 sF0.length d1) r5) rfl rfl rfl (H6.out.blk 1 rfl) (by kernel_rfl) rfl (by kernel_rfl)) ?_
        have H7 := Aside0.mk (H6.out.setRow 1 rfl (hwC (.slice A1 sB0.length c1) (.slice B1 sF0.length d1) r5))
        refine hK.out _ _ (H7.out.blk 0 rfl) (fun hHeld => ?_)
        clear hK K
        refine one_ (i := 12) (N := none) #[true, true, true, true, true, true, true, true, true, true, true, true, true, false] rfl rfl (by kernel_rfl) (by decide) (fun K hK => ?_)
        refine skip_ (by rfl) rfl (store_row (ty := 40) (p := .tmp 4) (q := .tmp 34) _ _ _ #[.int .i64 0, .string ⟨#[]⟩] rfl rfl rfl (H7.out.blk 2 rfl) (by kernel_rfl) rfl (by kernel_rfl)) ?_
        have H8 := Aside0.mk (H7.out.setRow 2 rfl #[.int .i64 0, .string ⟨#[]⟩])
        refine hK.out _ _ (H8.out.blk 0 rfl) (fun hHeld => ?_)
        clear hK K
        refine pure_ (i := 13) (N := (some 5)) (v := ?_) (a' := ?_) #[true, true, true, true, true, true, true, true, true, true, true, true, true, true] rfl rfl (by kernel_rfl) (fun _ _ _ h => h) (Or.inl ⟨by rfl, ?_⟩) ?_ ?_
        rotate_left
        · intro w'
          go_simp
          try with_reducible rfl
        rotate_left
        · simp only [Act.put, List.setIfInBounds_toArray, List.set_cons_zero, List.set_cons_succ, i64_w, i32_w]
          rfl
        exact (REST ⟨(w2.heap.size), (w4.heap.size), A1, c1, hs1, B1, d1, _⟩ _ ⟨H8.out.three 0 1 2 rfl rfl rfl (by decide) (by decide) (by decide)⟩)
    ·
      refine value_ (w1 := ?_) (v := ?_) (by rfl) rfl ?_ ?_
      rotate_left 2
      · go_simp
        constructor
        · rfl
        · rfl
      have H4 := Aside0.mk (H3.out.alloc_ (q := w2.heap.size + 1) (by simp) #[.int .i64 0, .string ⟨#[]⟩] 40)
      refine hK.out _ _ (H4.out.blk 0 rfl) (fun hHeld => ?_)
      clear hK K
      refine norm_ (a' := ?_) ?_ ?_
      rotate_left
      · show Act.put _ (some 4) _ = _
        simp only [Act.put, List.setIfInBounds_toArray, List.set_cons_zero, List.set_cons_succ, i64_w, i32_w]
        rfl
      refine one_ (i := 1) (N := (some 29)) #[true, true, false, true, false, false, false, false, false, true, true, false, false, false] rfl rfl (by kernel_rfl) (by decide) (fun K hK => ?_)
      refine goes_ Try.func19 (by kernel_rfl) rfl #[.int .u8 97] (by rfl) rfl rfl ?hargs ((full_any 97 _).mono ?_)
      case hargs => first | rfl | (go_simp; done) | kernel_rfl
      rintro e w5 ⟨rfl, hb⟩
      refine ⟨_, rfl, ?_⟩
      have H5 := Aside0.mk (H4.out.step hb)
      clear hb
      refine hK.out _ _ (H5.out.blk 0 rfl) (fun hHeld => ?_)
      clear hK K
      refine norm_ (a' := ?_) ?_ ?_
      rotate_left
      · show Act.put _ (some 29) _ = _
        simp only [Act.put, List.setIfInBounds_toArray, List.set_cons_zero, List.set_cons_succ, i64_w, i32_w]
        rfl
      refine pure_ (i := 2) (N := (some 30)) (v := ?_) (a' := ?_) #[true, true, true, true, false, false, false, false, false, true, true, false, false, false] rfl rfl (by kernel_rfl) (fun _ _ _ h => h) (Or.inl ⟨by rfl, ?_⟩) ?_ ?_
      rotate_left
      · intro w'
        go_simp
        try with_reducible rfl
      rotate_left
      · simp only [Act.put, List.setIfInBounds_toArray, List.set_cons_zero, List.set_cons_succ, i64_w, i32_w]
        rfl
      refine one_ (i := 4) (N := (some 32)) #[true, true, true, true, true, false, false, false, false, true, true, false, false, false] rfl rfl (by kernel_rfl) (by decide) (fun K hK => ?_)
      refine goes_ Try.func10 (by kernel_rfl) rfl #[.agg (hwC (.slice A0 sB0.length c0) (.slice B0 sF0.length d0) r5), .agg #[.int .i64 4, .int .i64 0, .int .i64 1, .string (fullS 97)], .agg #[.bool true, .int .i64 3, .bool false]] (by rfl) rfl rfl ?hargs ((do_at 4 0 1 (fullS 97) true 3 false sB0 sF1 0 ⟨#[]⟩ 0 H5.out.dom (H5.out.sure 0 rfl) sB0_n sB0_ok sF0_ok d1B d1F d1V d1S d1E).mono ?_)
      case hargs => first | rfl | (go_simp; done) | kernel_rfl
      rintro e w6 ⟨A1, c1, hs1, B1, d1, rfl, hb⟩
      refine ⟨_, rfl, ?_⟩
      have H6 := Aside0.mk (H5.out.call hb)
      clear hb
      refine hK.out _ _ (H6.out.blk 0 rfl) (fun hHeld => ?_)
      clear hK K
      refine norm_ (a' := ?_) ?_ ?_
      rotate_left
      · show Act.put _ (some 32) _ = _
        simp only [Act.put, List.setIfInBounds_toArray, List.set_cons_zero, List.set_cons_succ, i64_w, i32_w]
        rfl
      refine pure_ (i := 5) (N := (some 27)) (v := ?_) (a' := ?_) #[true, true, true, true, true, true, false, false, false, true, true, false, false, false] rfl rfl (by kernel_rfl) (fun _ _ _ h => h) (Or.inl ⟨by rfl, ?_⟩) ?_ ?_
      rotate_left
      · intro w'
        go_simp
        try with_reducible rfl
      rotate_left
      · simp only [Act.put, List.setIfInBounds_toArray, List.set_cons_zero, List.set_cons_succ, i64_w, i32_w]
        rfl
      refine pure_ (i := 6) (N := (some 33)) (v := ?_) (a' := ?_) #[true, true, true, true, true, true, true, false, false, true, true, false, false, false] rfl rfl (by kernel_rfl) (fun _ _ _ h => h) (Or.inl ⟨by rfl, ?_⟩) ?_ ?_
      rotate_left
      · intro w'
        go_simp
        try with_reducible rfl
      rotate_left
      · simp only [Act.put, List.setIfInBounds_toArray, List.set_cons_zero, List.set_cons_succ, i64_w, i32_w]
        rfl
      refine pure_ (i := 7) (N := (some 34)) (v := ?_) (a' := ?_) #[true, true, true, true, true, true, true, true, false, true, true, false, false, false] rfl rfl (by kernel_rfl) (fun _ _ _ h => h) (Or.inl ⟨by rfl, ?_⟩) ?_ ?_
      rotate_left
      · intro w'
        go_simp
        try with_reducible rfl
      rotate_left
      · simp only [Act.put, List.setIfInBounds_toArray, List.set_cons_zero, List.set_cons_succ, i64_w, i32_w]
        rfl
      refine pure_ (i := 8) (N := (some 35)) (v := ?_) (a' := ?_) #[true, true, true, true, true, true, true, true, true, true, true, false, false, false] rfl rfl (by kernel_rfl) (fun _ _ _ h => h) (Or.inl ⟨by rfl, ?_⟩) ?_ ?_
      rotate_left
      · intro w'
        go_simp
        try with_reducible rfl
      rotate_left
      · simp only [Act.put, List.setIfInBounds_toArray, List.set_cons_zero, List.set_cons_succ, i64_w, i32_w]
        rfl
      refine one_ (i := 11) (N := none) #[true, true, true, true, true, true, true, true, true, true, true, true, false, false] rfl rfl (by kernel_rfl) (by decide) (fun K hK => ?_)
      refine skip_ (by rfl) rfl (store_row (ty := 31) (p := .tmp 3) (q := .tmp 33) _ _ _ (hwC (.slice A1 sB0.length c1) (.slice B1 sF0.length d1) r5) rfl rfl rfl (H6.out.blk 1 rfl) (by kernel_rfl) rfl (by kernel_rfl)) ?_
      have H7 := Aside0.mk (H6.out.setRow 1 rfl (hwC (.slice A1 sB0.length c1) (.slice B1 sF0.length d1) r5))
      refine hK.out _ _ (H7.out.blk 0 rfl) (fun hHeld => ?_)
      clear hK K
      refine one_ (i := 12) (N := none) #[true, true, true, true, true, true, true, true, true, true, true, true, true, false] rfl rfl (by kernel_rfl) (by decide) (fun K hK => ?_)
      refine skip_ (by rfl) rfl (store_row (ty := 40) (p := .tmp 4) (q := .tmp 34) _ _ _ #[.int .i64 0, .string ⟨#[]⟩] rfl rfl rfl (H7.out.blk 2 rfl) (by kernel_rfl) rfl (by kernel_rfl)) ?_
      have H8 := Aside0.mk (H7.out.setRow 2 rfl #[.int .i64 0, .string ⟨#[]⟩])
      refine hK.out _ _ (H8.out.blk 0 rfl) (fun hHeld => ?_)
      clear hK K
      refine pure_ (i := 13) (N := (some 5)) (v := ?_) (a' := ?_) #[true, true, true, true, true, true, true, true, true, true, true, true, true, true] rfl rfl (by kernel_rfl) (fun _ _ _ h => h) (Or.inl ⟨by rfl, ?_⟩) ?_ ?_
      rotate_left
      · intro w'
        go_simp
        try with_reducible rfl
      rotate_left
      · simp only [Act.put, List.setIfInBounds_toArray, List.set_cons_zero, List.set_cons_succ, i64_w, i32_w]
        rfl
      exact (REST ⟨(w2.heap.size), (w2.heap.size + 1), A1, c1, hs1, B1, d1, _⟩ _ ⟨H8.out.three 0 1 2 rfl rfl rfl (by decide) (by decide) (by decide)⟩)
  ·
    refine value_ (w1 := ?_) (v := ?_) (by rfl) rfl ?_ ?_
    rotate_left 2
    · go_simp
      constructor
      · rfl
      · rfl
    have H3 := Aside0.mk (H2.out.drew.alloc_ (q := w2.heap.size) (by simp) #[.int .i64 0, .string ⟨#[]⟩] 40)
    refine hK.out _ _ (H3.out.blk 0 rfl) (fun hHeld => ?_)
    clear hK K
    refine norm_ (a' := ?_) ?_ ?_
    rotate_left
    · show Act.put _ (some 4) _ = _
      simp only [Act.put, List.setIfInBounds_toArray, List.set_cons_zero, List.set_cons_succ, i64_w, i32_w]
      rfl
    refine two_ (i := 1) (j := 9) (Ni := (some 29)) (Nj := (some 3)) #[true, true, false, true, false, false, false, false, false, false, true, false, false, false] #[true, false, false, true, false, false, false, false, false, true, true, false, false, false] rfl rfl rfl rfl (by kernel_rfl) (by decide) (by decide) (fun K hK => ?_) (fun K hK => ?_)
    ·
      refine goes_ Try.func19 (by kernel_rfl) rfl #[.int .u8 97] (by rfl) rfl rfl ?hargs ((full_any 97 _).mono ?_)
      case hargs => first | rfl | (go_simp; done) | kernel_rfl
      rintro e w4 ⟨rfl, hb⟩
      refine ⟨_, rfl, ?_⟩
      have H4 := Aside0.mk (H3.out.step hb)
      clear hb
      refine hK.out _ _ (H4.out.blk 0 rfl) (fun hHeld => ?_)
      clear hK K
      refine norm_ (a' := ?_) ?_ ?_
      rotate_left
      · show Act.put _ (some 29) _ = _
        simp only [Act.put, List.setIfInBounds_toArray, List.set_cons_zero, List.set_cons_succ, i64_w, i32_w]
        rfl
      refine pure_ (i := 2) (N := (some 30)) (v := ?_) (a' := ?_) #[true, true, true, true, false, false, false, false, false, false, true, false, false, false] rfl rfl (by kernel_rfl) (fun _ _ _ h => h) (Or.inl ⟨by rfl, ?_⟩) ?_ ?_
      rotate_left
      · intro w'
        go_simp
        try with_reducible rfl
      rotate_left
      · simp only [Act.put, List.setIfInBounds_toArray, List.set_cons_zero, List.set_cons_succ, i64_w, i32_w]
        rfl
      refine two_ (i := 4) (j := 9) (Ni := (some 32)) (Nj := (some 3)) #[true, true, true, true, true, false, false, false, false, false, true, false, false, false] #[true, true, true, true, false, false, false, false, false, true, true, false, false, false] rfl rfl rfl rfl (by kernel_rfl) (by decide) (by decide) (fun K hK => ?_) (fun K hK => ?_)
      ·
        refine goes_ Try.func10 (by kernel_rfl) rfl #[.agg (hwC (.slice A0 sB0.length c0) (.slice B0 sF0.length d0) r5), .agg #[.int .i64 4, .int .i64 0, .int .i64 1, .string (fullS 97)], .agg #[.bool true, .int .i64 3, .bool false]] (by rfl) rfl rfl ?hargs ((do_at 4 0 1 (fullS 97) true 3 false sB0 sF1 0 ⟨#[]⟩ 0 H4.out.dom (H4.out.sure 0 rfl) sB0_n sB0_ok sF0_ok d1B d1F d1V d1S d1E).mono ?_)
        case hargs => first | rfl | (go_simp; done) | kernel_rfl
        rintro e w5 ⟨A1, c1, hs1, B1, d1, rfl, hb⟩
        refine ⟨_, rfl, ?_⟩
        have H5 := Aside0.mk (H4.out.call hb)
        clear hb
        refine hK.out _ _ (H5.out.blk 0 rfl) (fun hHeld => ?_)
        clear hK K
        refine norm_ (a' := ?_) ?_ ?_
        rotate_left
        · show Act.put _ (some 32) _ = _
          simp only [Act.put, List.setIfInBounds_toArray, List.set_cons_zero, List.set_cons_succ, i64_w, i32_w]
          rfl
        refine pure_ (i := 5) (N := (some 27)) (v := ?_) (a' := ?_) #[true, true, true, true, true, true, false, false, false, false, true, false, false, false] rfl rfl (by kernel_rfl) (fun _ _ _ h => h) (Or.inl ⟨by rfl, ?_⟩) ?_ ?_
        rotate_left
        · intro w'
          go_simp
          try with_reducible rfl
        rotate_left
        · simp only [Act.put, List.setIfInBounds_toArray, List.set_cons_zero, List.set_cons_succ, i64_w, i32_w]
          rfl
        refine pure_ (i := 6) (N := (some 33)) (v := ?_) (a' := ?_) #[true, true, true, true, true, true, true, false, false, false, true, false, false, false] rfl rfl (by kernel_rfl) (fun _ _ _ h => h) (Or.inl ⟨by rfl, ?_⟩) ?_ ?_
        rotate_left
        · intro w'
          go_simp
          try with_reducible rfl
        rotate_left
        · simp only [Act.put, List.setIfInBounds_toArray, List.set_cons_zero, List.set_cons_succ, i64_w, i32_w]
          rfl
        refine pure_ (i := 7) (N := (some 34)) (v := ?_) (a' := ?_) #[true, true, true, true, true, true, true, true, false, false, true, false, false, false] rfl rfl (by kernel_rfl) (fun _ _ _ h => h) (Or.inl ⟨by rfl, ?_⟩) ?_ ?_
        rotate_left
        · intro w'
          go_simp
          try with_reducible rfl
        rotate_left
        · simp only [Act.put, List.setIfInBounds_toArray, List.set_cons_zero, List.set_cons_succ, i64_w, i32_w]
          rfl
        refine pure_ (i := 8) (N := (some 35)) (v := ?_) (a' := ?_) #[true, true, true, true, true, true, true, true, true, false, true, false, false, false] rfl rfl (by kernel_rfl) (fun _ _ _ h => h) (Or.inl ⟨by rfl, ?_⟩) ?_ ?_
        rotate_left
        · intro w'
          go_simp
          try with_reducible rfl
        rotate_left
        · simp only [Act.put, List.setIfInBounds_toArray, List.set_cons_zero, List.set_cons_succ, i64_w, i32_w]
          rfl
        refine one_ (i := 9) (N := (some 3)) #[true, true, true, true, true, true, true, true, true, true, true, false, false, false] rfl rfl (by kernel_rfl) (by decide) (fun K hK => ?_)
        refine value_ (w1 := ?_) (v := ?_) (by rfl) rfl ?_ ?_
        rotate_left 2
        · go_simp
          constructor
          · rfl
          · rfl
        have H6 := Aside0.mk (H5.out.alloc_ (q := w5.heap.size) (by simp) #[.slice none 0 0, .slice none 0 0, .int .u8 0, .int .u8 0, .int .u8 0, .int .u8 0, .int .u8 0, .int .u8 0, .int .u8 0, .int .u8 0, .int .u8 0, .int .u8 0, .int .u8 0, .int .u8 0, .int .u8 0, .int .u8 0, .int .u8 0, .int .u8 0] 31)
        refine hK.out _ _ (H6.out.blk 0 rfl) (fun hHeld => ?_)
        clear hK K
        refine norm_ (a' := ?_) ?_ ?_
        rotate_left
        · show Act.put _ (some 3) _ = _
          simp only [Act.put, List.setIfInBounds_toArray, List.set_cons_zero, List.set_cons_succ, i64_w, i32_w]
          rfl
        refine one_ (i := 11) (N := none) #[true, true, true, true, true, true, true, true, true, true, true, true, false, false] rfl rfl (by kernel_rfl) (by decide) (fun K hK => ?_)
        refine skip_ (by rfl) rfl (store_row (ty := 31) (p := .tmp 3) (q := .tmp 33) _ _ _ (hwC (.slice A1 sB0.length c1) (.slice B1 sF0.length d1) r5) rfl rfl rfl (H6.out.blk 2 rfl) (by kernel_rfl) rfl (by kernel_rfl)) ?_
        have H7 := Aside0.mk (H6.out.setRow 2 rfl (hwC (.slice A1 sB0.length c1) (.slice B1 sF0.length d1) r5))
        refine hK.out _ _ (H7.out.blk 0 rfl) (fun hHeld => ?_)
        clear hK K
        refine one_ (i := 12) (N := none) #[true, true, true, true, true, true, true, true, true, true, true, true, true, false] rfl rfl (by kernel_rfl) (by decide) (fun K hK => ?_)
        refine skip_ (by rfl) rfl (store_row (ty := 40) (p := .tmp 4) (q := .tmp 34) _ _ _ #[.int .i64 0, .string ⟨#[]⟩] rfl rfl rfl (H7.out.blk 1 rfl) (by kernel_rfl) rfl (by kernel_rfl)) ?_
        have H8 := Aside0.mk (H7.out.setRow 1 rfl #[.int .i64 0, .string ⟨#[]⟩])
        refine hK.out _ _ (H8.out.blk 0 rfl) (fun hHeld => ?_)
        clear hK K
        refine pure_ (i := 13) (N := (some 5)) (v := ?_) (a' := ?_) #[true, true, true, true, true, true, true, true, true, true, true, true, true, true] rfl rfl (by kernel_rfl) (fun _ _ _ h => h) (Or.inl ⟨by rfl, ?_⟩) ?_ ?_
        rotate_left
        · intro w'
          go_simp
          try with_reducible rfl
        rotate_left
        · simp only [Act.put, List.setIfInBounds_toArray, List.set_cons_zero, List.set_cons_succ, i64_w, i32_w]
          rfl
        exact (REST ⟨(w5.heap.size), (w2.heap.size), A1, c1, hs1, B1, d1, _⟩ _ ⟨H8.out.three 0 2 1 rfl rfl rfl (by decide) (by decide) (by decide)⟩)
      ·
        refine value_ (w1 := ?_) (v := ?_) (by rfl) rfl ?_ ?_
        rotate_left 2
        · go_simp
          constructor
          · rfl
          · rfl
        have H5 := Aside0.mk (H4.out.alloc_ (q := w4.heap.size) (by simp) #[.slice none 0 0, .slice none 0 0, .int .u8 0, .int .u8 0, .int .u8 0, .int .u8 0, .int .u8 0, .int .u8 0, .int .u8 0, .int .u8 0, .int .u8 0, .int .u8 0, .int .u8 0, .int .u8 0, .int .u8 0, .int .u8 0, .int .u8 0, .int .u8 0] 31)
        refine hK.out _ _ (H5.out.blk 0 rfl) (fun hHeld => ?_)
        clear hK K
        refine norm_ (a' := ?_) ?_ ?_
        rotate_left
        · show Act.put _ (some 3) _ = _
          simp only [Act.put, List.setIfInBounds_toArray, List.set_cons_zero, List.set_cons_succ, i64_w, i32_w]
          rfl
        refine one_ (i := 4) (N := (some 32)) #[true, true, true, true, true, false, false, false, false, true, true, false, false, false] rfl rfl (by kernel_rfl) (by decide) (fun K hK => ?_)
        refine goes_ Try.func10 (by kernel_rfl) rfl #[.agg (hwC (.slice A0 sB0.length c0) (.slice B0 sF0.length d0) r5), .agg #[.int .i64 4, .int .i64 0, .int .i64 1, .string (fullS 97)], .agg #[.bool true, .int .i64 3, .bool false]] (by rfl) rfl rfl ?hargs ((do_at 4 0 1 (fullS 97) true 3 false sB0 sF1 0 ⟨#[]⟩ 0 H5.out.dom (H5.out.sure 0 rfl) sB0_n sB0_ok sF0_ok d1B d1F d1V d1S d1E).mono ?_)
        case hargs => first | rfl | (go_simp; done) | kernel_rfl
        rintro e w6 ⟨A1, c1, hs1, B1, d1, rfl, hb⟩
        refine ⟨_, rfl, ?_⟩
        have H6 := Aside0.mk (H5.out.call hb)
        clear hb
        refine hK.out _ _ (H6.out.blk 0 rfl) (fun hHeld => ?_)
        clear hK K
        refine norm_ (a' := ?_) ?_ ?_
        rotate_left
        · show Act.put _ (some 32) _ = _
          simp only [Act.put, List.setIfInBounds_toArray, List.set_cons_zero, List.set_cons_succ, i64_w, i32_w]
          rfl
        refine pure_ (i := 5) (N := (some 27)) (v := ?_) (a' := ?_) #[true, true, true, true, true, true, false, false, false, true, true, false, false, false] rfl rfl (by kernel_rfl) (fun _ _ _ h => h) (Or.inl ⟨by rfl, ?_⟩) ?_ ?_
        rotate_left
        · intro w'
          go_simp
          try with_reducible rfl
        rotate_left
        · simp only [Act.put, List.setIfInBounds_toArray, List.set_cons_zero, List.set_cons_succ, i64_w, i32_w]
          rfl
        refine pure_ (i := 6) (N := (some 33)) (v := ?_) (a' := ?_) #[true, true, true, true, true, true, true, false, false, true, true, false, false, false] rfl rfl (by kernel_rfl) (fun _ _ _ h => h) (Or.inl ⟨by rfl, ?_⟩) ?_ ?_
        rotate_left
        · intro w'
          go_simp
          try with_reducible rfl
        rotate_left
        · simp only [Act.put, List.setIfInBounds_toArray, List.set_cons_zero, List.set_cons_succ, i64_w, i32_w]
          rfl
        refine pure_ (i := 7) (N := (some 34)) (v := ?_) (a' := ?_) #[true, true, true, true, true, true, true, true, false, true, true, false, false, false] rfl rfl (by kernel_rfl) (fun _ _ _ h => h) (Or.inl ⟨by rfl, ?_⟩) ?_ ?_
        rotate_left
        · intro w'
          go_simp
          try with_reducible rfl
        rotate_left
        · simp only [Act.put, List.setIfInBounds_toArray, List.set_cons_zero, List.set_cons_succ, i64_w, i32_w]
          rfl
        refine pure_ (i := 8) (N := (some 35)) (v := ?_) (a' := ?_) #[true, true, true, true, true, true, true, true, true, true, true, false, false, false] rfl rfl (by kernel_rfl) (fun _ _ _ h => h) (Or.inl ⟨by rfl, ?_⟩) ?_ ?_
        rotate_left
        · intro w'
          go_simp
          try with_reducible rfl
        rotate_left
        · simp only [Act.put, List.setIfInBounds_toArray, List.set_cons_zero, List.set_cons_succ, i64_w, i32_w]
          rfl
        refine one_ (i := 11) (N := none) #[true, true, true, true, true, true, true, true, true, true, true, true, false, false] rfl rfl (by kernel_rfl) (by decide) (fun K hK => ?_)
        refine skip_ (by rfl) rfl (store_row (ty := 31) (p := .tmp 3) (q := .tmp 33) _ _ _ (hwC (.slice A1 sB0.length c1) (.slice B1 sF0.length d1) r5) rfl rfl rfl (H6.out.blk 2 rfl) (by kernel_rfl) rfl (by kernel_rfl)) ?_
        have H7 := Aside0.mk (H6.out.setRow 2 rfl (hwC (.slice A1 sB0.length c1) (.slice B1 sF0.length d1) r5))
        refine hK.out _ _ (H7.out.blk 0 rfl) (fun hHeld => ?_)
        clear hK K
        refine one_ (i := 12) (N := none) #[true, true, true, true, true, true, true, true, true, true, true, true, true, false] rfl rfl (by kernel_rfl) (by decide) (fun K hK => ?_)
        refine skip_ (by rfl) rfl (store_row (ty := 40) (p := .tmp 4) (q := .tmp 34) _ _ _ #[.int .i64 0, .string ⟨#[]⟩] rfl rfl rfl (H7.out.blk 1 rfl) (by kernel_rfl) rfl (by kernel_rfl)) ?_
        have H8 := Aside0.mk (H7.out.setRow 1 rfl #[.int .i64 0, .string ⟨#[]⟩])
        refine hK.out _ _ (H8.out.blk 0 rfl) (fun hHeld => ?_)
        clear hK K
        refine pure_ (i := 13) (N := (some 5)) (v := ?_) (a' := ?_) #[true, true, true, true, true, true, true, true, true, true, true, true, true, true] rfl rfl (by kernel_rfl) (fun _ _ _ h => h) (Or.inl ⟨by rfl, ?_⟩) ?_ ?_
        rotate_left
        · intro w'
          go_simp
          try with_reducible rfl
        rotate_left
        · simp only [Act.put, List.setIfInBounds_toArray, List.set_cons_zero, List.set_cons_succ, i64_w, i32_w]
          rfl
        exact (REST ⟨(w4.heap.size), (w2.heap.size), A1, c1, hs1, B1, d1, _⟩ _ ⟨H8.out.three 0 2 1 rfl rfl rfl (by decide) (by decide) (by decide)⟩)
    ·
      refine value_ (w1 := ?_) (v := ?_) (by rfl) rfl ?_ ?_
      rotate_left 2
      · go_simp
        constructor
        · rfl
        · rfl
      have H4 := Aside0.mk (H3.out.alloc_ (q := w2.heap.size + 1) (by simp) #[.slice none 0 0, .slice none 0 0, .int .u8 0, .int .u8 0, .int .u8 0, .int .u8 0, .int .u8 0, .int .u8 0, .int .u8 0, .int .u8 0, .int .u8 0, .int .u8 0, .int .u8 0, .int .u8 0, .int .u8 0, .int .u8 0, .int .u8 0, .int .u8 0] 31)
      refine hK.out _ _ (H4.out.blk 0 rfl) (fun hHeld => ?_)
      clear hK K
      refine norm_ (a' := ?_) ?_ ?_
      rotate_left
      · show Act.put _ (some 3) _ = _
        simp only [Act.put, List.setIfInBounds_toArray, List.set_cons_zero, List.set_cons_succ, i64_w, i32_w]
        rfl
      refine one_ (i := 1) (N := (some 29)) #[true, true, false, true, false, false, false, false, false, true, true, false, false, false] rfl rfl (by kernel_rfl) (by decide) (fun K hK => ?_)
      refine goes_ Try.func19 (by kernel_rfl) rfl #[.int .u8 97] (by rfl) rfl rfl ?hargs ((full_any 97 _).mono ?_)
      case hargs => first | rfl | (go_simp; done) | kernel_rfl
      rintro e w5 ⟨rfl, hb⟩
      refine ⟨_, rfl, ?_⟩
      have H5 := Aside0.mk (H4.out.step hb)
      clear hb
      refine hK.out _ _ (H5.out.blk 0 rfl) (fun hHeld => ?_)
      clear hK K
      refine norm_ (a' := ?_) ?_ ?_
      rotate_left
      · show Act.put _ (some 29) _ = _
        simp only [Act.put, List.setIfInBounds_toArray, List.set_cons_zero, List.set_cons_succ, i64_w, i32_w]
        rfl
      refine pure_ (i := 2) (N := (some 30)) (v := ?_) (a' := ?_) #[true, true, true, true, false, false, false, false, false, true, true, false, false, false] rfl rfl (by kernel_rfl) (fun _ _ _ h => h) (Or.inl ⟨by rfl, ?_⟩) ?_ ?_
      rotate_left
      · intro w'
        go_simp
        try with_reducible rfl
      rotate_left
      · simp only [Act.put, List.setIfInBounds_toArray, List.set_cons_zero, List.set_cons_succ, i64_w, i32_w]
        rfl
      refine one_ (i := 4) (N := (some 32)) #[true, true, true, true, true, false, false, false, false, true, true, false, false, false] rfl rfl (by kernel_rfl) (by decide) (fun K hK => ?_)
      refine goes_ Try.func10 (by kernel_rfl) rfl #[.agg (hwC (.slice A0 sB0.length c0) (.slice B0 sF0.length d0) r5), .agg #[.int .i64 4, .int .i64 0, .int .i64 1, .string (fullS 97)], .agg #[.bool true, .int .i64 3, .bool false]] (by rfl) rfl rfl ?hargs ((do_at 4 0 1 (fullS 97) true 3 false sB0 sF1 0 ⟨#[]⟩ 0 H5.out.dom (H5.out.sure 0 rfl) sB0_n sB0_ok sF0_ok d1B d1F d1V d1S d1E).mono ?_)
      case hargs => first | rfl | (go_simp; done) | kernel_rfl
      rintro e w6 ⟨A1, c1, hs1, B1, d1, rfl, hb⟩
      refine ⟨_, rfl, ?_⟩
      have H6 := Aside0.mk (H5.out.call hb)
      clear hb
      refine hK.out _ _ (H6.out.blk 0 rfl) (fun hHeld => ?_)
      clear hK K
      refine norm_ (a' := ?_) ?_ ?_
      rotate_left
      · show Act.put _ (some 32) _ = _
        simp only [Act.put, List.setIfInBounds_toArray, List.set_cons_zero, List.set_cons_succ, i64_w, i32_w]
        rfl
      refine pure_ (i := 5) (N := (some 27)) (v := ?_) (a' := ?_) #[true, true, true, true, true, true, false, false, false, true, true, false, false, false] rfl rfl (by kernel_rfl) (fun _ _ _ h => h) (Or.inl ⟨by rfl, ?_⟩) ?_ ?_
      rotate_left
      · intro w'
        go_simp
        try with_reducible rfl
      rotate_left
      · simp only [Act.put, List.setIfInBounds_toArray, List.set_cons_zero, List.set_cons_succ, i64_w, i32_w]
        rfl
      refine pure_ (i := 6) (N := (some 33)) (v := ?_) (a' := ?_) #[true, true, true, true, true, true, true, false, false, true, true, false, false, false] rfl rfl (by kernel_rfl) (fun _ _ _ h => h) (Or.inl ⟨by rfl, ?_⟩) ?_ ?_
      rotate_left
      · intro w'
        go_simp
        try with_reducible rfl
      rotate_left
      · simp only [Act.put, List.setIfInBounds_toArray, List.set_cons_zero, List.set_cons_succ, i64_w, i32_w]
        rfl
      refine pure_ (i := 7) (N := (some 34)) (v := ?_) (a' := ?_) #[true, true, true, true, true, true, true, true, false, true, true, false, false, false] rfl rfl (by kernel_rfl) (fun _ _ _ h => h) (Or.inl ⟨by rfl, ?_⟩) ?_ ?_
      rotate_left
      · intro w'
        go_simp
        try with_reducible rfl
      rotate_left
      · simp only [Act.put, List.setIfInBounds_toArray, List.set_cons_zero, List.set_cons_succ, i64_w, i32_w]
        rfl
      refine pure_ (i := 8) (N := (some 35)) (v := ?_) (a' := ?_) #[true, true, true, true, true, true, true, true, true, true, true, false, false, false] rfl rfl (by kernel_rfl) (fun _ _ _ h => h) (Or.inl ⟨by rfl, ?_⟩) ?_ ?_
      rotate_left
      · intro w'
        go_simp
        try with_reducible rfl
      rotate_left
      · simp only [Act.put, List.setIfInBounds_toArray, List.set_cons_zero, List.set_cons_succ, i64_w, i32_w]
        rfl
      refine one_ (i := 11) (N := none) #[true, true, true, true, true, true, true, true, true, true, true, true, false, false] rfl rfl (by kernel_rfl) (by decide) (fun K hK => ?_)
      refine skip_ (by rfl) rfl (store_row (ty := 31) (p := .tmp 3) (q := .tmp 33) _ _ _ (hwC (.slice A1 sB0.length c1) (.slice B1 sF0.length d1) r5) rfl rfl rfl (H6.out.blk 2 rfl) (by kernel_rfl) rfl (by kernel_rfl)) ?_
      have H7 := Aside0.mk (H6.out.setRow 2 rfl (hwC (.slice A1 sB0.length c1) (.slice B1 sF0.length d1) r5))
      refine hK.out _ _ (H7.out.blk 0 rfl) (fun hHeld => ?_)
      clear hK K
      refine one_ (i := 12) (N := none) #[true, true, true, true, true, true, true, true, true, true, true, true, true, false] rfl rfl (by kernel_rfl) (by decide) (fun K hK => ?_)
      refine skip_ (by rfl) rfl (store_row (ty := 40) (p := .tmp 4) (q := .tmp 34) _ _ _ #[.int .i64 0, .string ⟨#[]⟩] rfl rfl rfl (H7.out.blk 1 rfl) (by kernel_rfl) rfl (by kernel_rfl)) ?_
      have H8 := Aside0.mk (H7.out.setRow 1 rfl #[.int .i64 0, .string ⟨#[]⟩])
      refine hK.out _ _ (H8.out.blk 0 rfl) (fun hHeld => ?_)
      clear hK K
      refine pure_ (i := 13) (N := (some 5)) (v := ?_) (a' := ?_) #[true, true, true, true, true, true, true, true, true, true, true, true, true, true] rfl rfl (by kernel_rfl) (fun _ _ _ h => h) (Or.inl ⟨by rfl, ?_⟩) ?_ ?_
      rotate_left
      · intro w'
        go_simp
        try with_reducible rfl
      rotate_left
      · simp only [Act.put, List.setIfInBounds_toArray, List.set_cons_zero, List.set_cons_succ, i64_w, i32_w]
        rfl
      exact (REST ⟨(w2.heap.size + 1), (w2.heap.size), A1, c1, hs1, B1, d1, _⟩ _ ⟨H8.out.three 0 2 1 rfl rfl rfl (by decide) (by decide) (by decide)⟩)
end Go.Proofs.Ytkfhekocbfednaa.Dv
end
