/- Part of the proof of deviceSeparate_holds, deviceAll_holds, deviceMonotonic_holds: what later parts use. -/
import Derived.Test.YtkfhekocbfednaaZu0
import Derived.Test.YtkfhekocbfednaaZu1
import Derived.Test.YtkfhekocbfednaaZu2
import Derived.Test.YtkfhekocbfednaaZu3
import Derived.Test.YtkfhekocbfednaaZu4
import Derived.Test.YtkfhekocbfednaaZu5
import Derived.Test.YtkfhekocbfednaaZu6
import Derived.Test.YtkfhekocbfednaaZu7
import Derived.Test.YtkfhekocbfednaaZu8
import Derived.Test.YtkfhekocbfednaaZu9
import Derived.Test.YtkfhekocbfednaaZu10
import Derived.Test.YtkfhekocbfednaaZu11
import Derived.Test.YtkfhekocbfednaaZu12
import Derived.Test.YtkfhekocbfednaaZu13
import Derived.Test.YtkfhekocbfednaaZu14
import Derived.Test.YtkfhekocbfednaaZu15
import Derived.Test.YtkfhekocbfednaaZu16
import Derived.Test.YtkfhekocbfednaaZu17
import Derived.Test.YtkfhekocbfednaaZu18
import Derived.Test.YtkfhekocbfednaaZu19
import Derived.Test.YtkfhekocbfednaaZu20
import Derived.Test.YtkfhekocbfednaaZu21
import Derived.Test.YtkfhekocbfednaaZu22
import Derived.Test.YtkfhekocbfednaaZu23
import Derived.Test.YtkfhekocbfednaaZu24
import Derived.Test.YtkfhekocbfednaaZu25
import Derived.Test.YtkfhekocbfednaaZu26
import Derived.Test.YtkfhekocbfednaaZu27
import Derived.Test.YtkfhekocbfednaaZu28
import Derived.Test.YtkfhekocbfednaaZu29
import Derived.Test.YtkfhekocbfednaaZu30
import Derived.Test.YtkfhekocbfednaaZu31
import Derived.Test.YtkfhekocbfednaaZu32
import Derived.Test.YtkfhekocbfednaaZu33
import Derived.Test.YtkfhekocbfednaaZu34
import Derived.Laws.StructEq
section
namespace Go.Proofs.Ytkfhekocbfednaa.Dv
set_option linter.unusedVariables false
set_option linter.unusedSimpArgs false
open Go.RowKit Go.Proofs.Ytkfhekocbfednaa Go.Proofs.YtkfhekocbfednaaW.PrintWords Go.Proofs.YtkfhekocbfednaaW.PrintLast Go.Proofs.YtkfhekocbfednaaW.PrintMore
open Go.Proofs.Ytkfhekocbfednaa.Fu Go.Proofs.Ytkfhekocbfednaa.Fl Go.Proofs.Ytkfhekocbfednaa.PDeviceMatches
attribute [local go_sem] eq_rr
theorem wr_back {fl : List ByteArray} {cell : Int} {b : ByteArray} {cut : Int} (h0 : 0 ≤ cell) (h1 : cell < (fl.length : Int)) : (wrL fl cell b cut).set cell.toNat (rdOf ByteArray.empty fl cell) = fl := by
  have hl : cell.toNat < fl.length := by omega
  have hr : rdOf ByteArray.empty fl cell = fl[cell.toNat] := by simp [rdOf, List.getD, hl]
  unfold wrL
  split
  · unfold writeL
    rw [List.set_set, hr, List.set_getElem_self]
  · rw [hr, List.set_getElem_self]
theorem do4_facts {bk : List (List Int)} {fl : List ByteArray} {bank cell : Int} {b : ByteArray} (h : doE bk fl 4 bank cell b = 0) : 0 ≤ cell ∧ cell < (fl.length : Int) := by
  unfold doE at h
  split at h
  · have : errK bk fl 4 bank cell b = wrE fl cell b := by simp [errK]
    rw [this] at h
    unfold wrE at h
    split at h
    · omega
    · omega
  · omega
set_option maxRecDepth 100000 in
set_option maxHeartbeats 64000000 in
theorem separate_4 {A : Option Addr} {n d : Nat} {hs : List Hdr} {bk : List (List Int)} {B : Option Addr} {m c : Nat} {fl : List ByteArray} {w : World} (r : Nat → Int)
    (bank cell : Int) (b : ByteArray) (cut : Bool) (fb : Int) (noise : Bool) (hF : Fu w A n d hs bk) (hL : Fl w B m c fl) {k : Nat} {vb : Bool} (hk : bootchainref07_Valid.f k bk = some vb) (hb : vb = true → Ok3 bk ∧ bk.length ≤ 4) (hq : smallB vb m fl = true) (hz : (b.size : Int) ≤ 300) (h0 : ∀ xs ∈ bk, ∀ c ∈ xs, 0 ≤ c) (hE : doE bk fl 4 bank cell b = 0) :
    Calls Try.prog 4 #[.agg (hwC (.slice A n d) (.slice B m c) r), .agg #[.int .i64 4, .int .i64 bank, .int .i64 cell, .string b], .agg #[.bool cut, .int .i64 fb, .bool noise]] w fun e w' => e = .returned (.bool true) ∧ Below w.heap.size w w' := by
  have H0 := Aside0.mk ((St.enter2 (fun _ h => h) (sureFu hF) (sureFl hL)).alloc3 (hwC (.slice A n d) (.slice B m c) r) 31 #[.int .i64 4, .int .i64 bank, .int .i64 cell, .string b] 33 #[.bool cut, .int .i64 fb, .bool noise] 35)
  have HK := Aside0.mk hk
  have HB := Aside0.mk hb
  have HQ := Aside0.mk hq
  have FT := small_fits hL.C.1 hb hq
  have OKB := Aside0.mk (OkBk_of FT.1 h0)
  have OKF := Aside0.mk (⟨by have := FT.2.2.1; omega, FT.2.2.2⟩ : OkFl fl)
  have hn : n ≤ 1000 := by have := hF.len; have := FT.2.1; omega
  obtain ⟨bk1, hE1⟩ : ∃ y, doBk bk fl 4 bank cell b cut = y := ⟨_, rfl⟩
  obtain ⟨fl1, hE2⟩ : ∃ y, doFl bk fl 4 bank cell b cut fb = y := ⟨_, rfl⟩
  obtain ⟨v1, hE3⟩ : ∃ y, doV bk fl 4 bank cell b cut noise = y := ⟨_, rfl⟩
  obtain ⟨s1, hE4⟩ : ∃ y, doS bk fl 4 bank cell b cut = y := ⟨_, rfl⟩
  have E1 := Aside0.mk hE1
  have E2 := Aside0.mk hE2
  have E3 := Aside0.mk hE3
  have E4 := Aside0.mk hE4
  have E5 := Aside0.mk hE
  have DF := do4_facts hE
  have hlen : fl.length = m := hL.C.1
  have hc0 : 0 ≤ cell := DF.1
  have hc1 : cell < (m : Int) := by have := DF.2; omega
  obtain ⟨ad, rfl, hs0⟩ := Kd.at_string hL.C cell hc0 hc1
  obtain ⟨s0, hs0e⟩ : ∃ y, rdOf ByteArray.empty fl cell = y := ⟨_, rfl⟩
  rw [hs0e] at hs0
  have HS0 := Aside0.mk hs0
  have LN := Aside0.mk (show fl1.length = m by rw [← hE2]; simp [doFl, hE]; rw [wrL_len]; exact hlen)
  have ML := Aside0.mk (show m ≤ 200 by have := FT.2.2.1; omega)
  have SM := Aside0.mk (show sameH r r (fl1.set cell.toNat s0) fl bk1 bk = true by
    have e1 : bk1 = bk := by rw [← hE1]; simp [doBk]
    have e2 : fl1.set cell.toNat s0 = fl := by rw [← hE2, ← hs0e]; simp only [doFl, hE, and_self, if_true]; exact wr_back hc0 DF.2
    rw [e1, e2]; exact sameH_refl r fl bk)
  clear hs0 hs0e DF hlen
  clear hF hL hk hb hE1 hE2 hE3 hE4 hE FT hq h0
  go_enter Try.func4, Try.ntmps4
  go_upto_region 4 with (first | (go_at_call 8; refine (sanity_any _).mono ?_; rintro e w1 ⟨rfl, hb⟩; have H1 := Aside0.mk (H0.out.step hb); clear hb) | ((with_reducible refine gate_dst (N := 13) rfl ?_); refine loadRowL_ (ty := 31) _ rfl rfl rfl _ _ _ _ _ rfl (H1.out.blk 0 rfl) Try.underlying31 rfl (by kernel_rfl) ?_) | (go_at_call 9; refine (small_det (H1.out.at 0 rfl) (H1.out.at 1 rfl) HK.out HB.out).mono ?_; rintro e w2 ⟨rfl, hb⟩; have H2 := Aside0.mk (H1.out.step hb); clear hb; rw [HQ.out]; have kb := H2.out.cell 1 rfl 3 rfl))
  clear kb
  go_upto_region 5 with (first | ((with_reducible refine gate_dst (N := 24) rfl ?_); refine loadRowL_ (ty := 31) _ rfl rfl rfl _ _ _ _ _ rfl (H2.out.blk 0 rfl) Try.underlying31 rfl (by kernel_rfl) ?_) | ((with_reducible refine gate_dst (N := 25) rfl ?_); refine loadRowL_ (ty := 33) _ rfl rfl rfl _ _ _ _ _ rfl (H2.out.blk 1 rfl) Try.underlying33 rfl (by kernel_rfl) ?_) | ((with_reducible refine gate_dst (N := 26) rfl ?_); refine loadRowL_ (ty := 35) _ rfl rfl rfl _ _ _ _ _ rfl (H2.out.blk 2 rfl) Try.underlying35 rfl (by kernel_rfl) ?_) | (go_at_call 10; refine (do_at 4 bank cell b cut fb noise bk1 fl1 v1 s1 0 H2.out.dom ((H2.out.sure 0 rfl).and (H2.out.sure 1 rfl)) hn OKB.out OKF.out E1.out E2.out E3.out E4.out E5.out).mono ?_; rintro e u1 ⟨A1, c1, hs1, B1, d1, rfl, hb⟩; have G1 := Aside0.mk (H2.out.call hb); clear hb) | ((with_reducible refine gate_store (t := 31) (p := 8) rfl ?_); refine storeRowSt_ (ty := 31) rfl rfl rfl (hwC (.slice A1 n c1) (.slice B1 m d1) r) (G1.out.alloc2 #[.slice none 0 0, .slice none 0 0, .int .u8 0, .int .u8 0, .int .u8 0, .int .u8 0, .int .u8 0, .int .u8 0, .int .u8 0, .int .u8 0, .int .u8 0, .int .u8 0, .int .u8 0, .int .u8 0, .int .u8 0, .int .u8 0, .int .u8 0, .int .u8 0] 31 #[.int .i64 0, .string ⟨#[]⟩] 40) 3 rfl rfl rfl (by kernel_rfl) rfl (by kernel_rfl) ?_; intro x1 h_; have J1 := Aside0.mk h_; clear h_) | ((with_reducible refine gate_store (t := 40) (p := 9) rfl ?_); refine storeRowSt_ (ty := 40) rfl rfl rfl #[.int .i64 v1, .string s1] J1.out 4 rfl rfl rfl (by kernel_rfl) rfl (by kernel_rfl) ?_; intro y1 h_; have I3 := Aside0.mk (h_.as [(w.heap.size, (hwC (.slice A n d) (.slice (some ad) m c) r), 31), (w.heap.size + 1, #[.int .i64 4, .int .i64 bank, .int .i64 cell, .string b], 33), (w.heap.size + 1 + 1, #[.bool cut, .int .i64 fb, .bool noise], 35), (u1.heap.size, (hwC (.slice A1 n c1) (.slice B1 m d1) r), 31), (u1.heap.size + 1, #[.int .i64 v1, .string s1], 40)] rfl); clear h_; have ka := I3.out.cell 1 rfl 0 rfl))
  go_wp2_with (first | ((with_reducible refine gate_dst (N := 49) rfl ?_); refine loadRowL_ (ty := 31) _ rfl rfl rfl _ _ _ _ _ rfl (I3.out.blk 3 rfl) Try.underlying31 rfl (by kernel_rfl) ?_) | ((with_reducible refine gate_store (t := 31) (p := 11) rfl ?_); refine storeRowSt_ (ty := 31) rfl rfl rfl (hwC (.slice A1 n c1) (.slice B1 m d1) r) (I3.out.alloc #[.slice none 0 0, .slice none 0 0, .int .u8 0, .int .u8 0, .int .u8 0, .int .u8 0, .int .u8 0, .int .u8 0, .int .u8 0, .int .u8 0, .int .u8 0, .int .u8 0, .int .u8 0, .int .u8 0, .int .u8 0, .int .u8 0, .int .u8 0, .int .u8 0] 31) 5 rfl rfl rfl (by kernel_rfl) rfl (by kernel_rfl) ?_; intro y2 h_; have K1 := Aside0.mk (h_.as [(w.heap.size, (hwC (.slice A n d) (.slice (some ad) m c) r), 31), (w.heap.size + 1, #[.int .i64 4, .int .i64 bank, .int .i64 cell, .string b], 33), (w.heap.size + 1 + 1, #[.bool cut, .int .i64 fb, .bool noise], 35), (u1.heap.size, (hwC (.slice A1 n c1) (.slice B1 m d1) r), 31), (u1.heap.size + 1, #[.int .i64 v1, .string s1], 40), (y1.heap.size, (hwC (.slice A1 n c1) (.slice B1 m d1) r), 31)] rfl); clear h_; have kk := K1.out.cell 1 rfl 0 rfl; have kc := K1.out.cell 1 rfl 2 rfl; have kx : y2.cell? ⟨u1.heap.size, 1, none⟩ = some (.slice B1 m d1) := K1.out.cell 3 rfl 1 rfl; have kh : y2.cell? ⟨w.heap.size, 1, none⟩ = some (.slice (some ad) m c) := K1.out.cell 0 rfl 1 rfl) | ((with_reducible refine gate_dst (N := 79) rfl ?_); refine Kd.R_lit Kd.string y2.heap.size 9 rfl (N := 79) rfl (xs := ([] : List ByteArray)) (inner := []) (ok := fun _ => True) (okp := fun _ => True) ?hr (Reps.none _ _) (fun _ hk => hk) trivial (Below.refl _ _) (Nat.le_refl _) (by simp) ?_; (case hr => first | (go_simp; done) | (go_simp; rfl)); intro v2 w3 ho hb _ _; obtain ⟨A3, c3, rfl⟩ := Kd.R_slice ho; have HO1 := Aside0.mk ho; have HB1 := Aside0.mk hb; have K2 := Aside0.mk (K1.out.step hb); clear kk kc kx kh; have kx : w3.cell? ⟨u1.heap.size, 1, none⟩ = some (.slice B1 m d1) := K2.out.cell 3 rfl 1 rfl; clear ho hb) | (at_builtin; refine Kd.R_append_row Value.string ByteArray.empty (h1 := fun _ => rfl) y2.heap.size rfl (.tmp 79) (.tmp 82) 25 9 (.string ⟨#[]⟩) 16 rfl Try.underlying25 info_str rfl (by decide) _ [] fl1 B1 m d1 (fun _ => True) rfl rfl (fun _ _ => trivial) HO1.out (K2.out.at 0 rfl).2.C HB1.out HB1.out.size (by have := ML.out; simp; omega) ?_; intro v3 w4 ho hb _ _; rw [List.nil_append] at ho; obtain ⟨g, co, rfl, gb, gl, cl, hgc⟩ := Kd.R_form ho (by have := LN.out; omega); obtain ⟨rest, r1, r2, r3, r4, r5⟩ := row_of_R ho; rw [LN.out]; rw [LN.out] at r4 r5; have CO := Aside0.mk r4; have K3 := Aside0.mk ((K1.out.adopt hb r1 r2).as [(w.heap.size, (hwC (.slice A n d) (.slice (some ad) m c) r), 31), (w.heap.size + 1, #[.int .i64 4, .int .i64 bank, .int .i64 cell, .string b], 33), (w.heap.size + 1 + 1, #[.bool cut, .int .i64 fb, .bool noise], 35), (u1.heap.size, (hwC (.slice A1 n c1) (.slice B1 m d1) r), 31), (u1.heap.size + 1, #[.int .i64 v1, .string s1], 40), (y1.heap.size, (hwC (.slice A1 n c1) (.slice B1 m d1) r), 31), (g, rowBlk Value.string fl1 rest, 9)] rfl); clear kx ho hb gb gl hgc cl r1 r2 r3 r4 r5; have ky : w4.cell? ⟨y1.heap.size, 1, none⟩ = some (.slice B1 m d1) := K3.out.cell 5 rfl 1 rfl) | ((with_reducible refine gate_store (t := 25) (p := 85) rfl ?_); refine storeCellSt_ rfl rfl rfl (.slice (some ⟨g, 0, none⟩) m co) K3.out 5 1 rfl rfl rfl ?hr ?_; (case hr => intro w h1 h2; go_simp; try rfl); intro y3 h_; have K4 := Aside0.mk (h_.as [(w.heap.size, (hwC (.slice A n d) (.slice (some ad) m c) r), 31), (w.heap.size + 1, #[.int .i64 4, .int .i64 bank, .int .i64 cell, .string b], 33), (w.heap.size + 1 + 1, #[.bool cut, .int .i64 fb, .bool noise], 35), (u1.heap.size, (hwC (.slice A1 n c1) (.slice B1 m d1) r), 31), (u1.heap.size + 1, #[.int .i64 v1, .string s1], 40), (y1.heap.size, (hwC (.slice A1 n c1) (.slice (some ⟨g, 0, none⟩) m co) r), 31), (g, rowBlk Value.string fl1 rest, 9)] rfl); clear h_ ky))
  have kg := K4.out.drew.cell 6 rfl cell.toNat (v := .string (fl1.getD cell.toNat ByteArray.empty)) (rowBlk_get (enc := Value.string) fl1 rest ByteArray.empty cell.toNat (by have := LN.out; omega))
  have kf := K4.out.drew.free 6 rfl cell.toNat
  refine start_ (n := 14) (S := (fun w' => w'.cell? ⟨y1.heap.size, 1, none⟩ = some (.slice (some ⟨g, 0, none⟩) m co) ∧ w'.cell? ⟨w.heap.size + 1, 2, none⟩ = some (.int .i64 cell) ∧ w'.cell? ⟨w.heap.size, 1, none⟩ = some (.slice (some ad) m c) ∧ w'.cell? (ad.add cell.toNat) = some (.string s0))) (ds := []) #[false, false, false, false, false, false, false, false, false, false, false, false, false, false] (by kernel_rfl) rfl rfl ⟨K4.out.drew.cell 5 rfl 1 rfl, K4.out.drew.cell 1 rfl 2 rfl, K4.out.drew.cell 0 rfl 1 rfl, pw_cell_below K4.out.drew.bel HS0.out⟩ (fun hHeld => ?_)
  refine pure_ (i := 0) (N := (some 86)) (v := ?_) (a' := ?_) #[true, false, false, false, false, false, false, false, false, false, false, false, false, false] rfl rfl (by kernel_rfl) (fun _ _ _ h => h) (Or.inl ⟨by rfl, ?_⟩) ?_ ?_
  rotate_left
  · intro w'
    go_simp
    try with_reducible rfl
  rotate_left
  · simp only [Act.put, List.setIfInBounds_toArray, List.set_cons_zero, List.set_cons_succ, i64_w, i32_w]
    rfl
  refine pure_ (i := 1) (N := (some 87)) (v := ?_) (a' := ?_) #[true, true, false, false, false, false, false, false, false, false, false, false, false, false] rfl rfl (by kernel_rfl) (fun _ _ _ h => h) (Or.inl ⟨by rfl, ?_⟩) ?_ ?_
  rotate_left
  · intro w'
    go_simp
    try with_reducible rfl
  rotate_left
  · simp only [Act.put, List.setIfInBounds_toArray, List.set_cons_zero, List.set_cons_succ, i64_w, i32_w]
    rfl
  refine pure_ (i := 3) (N := (some 89)) (v := ?_) (a' := ?_) #[true, true, false, true, false, false, false, false, false, false, false, false, false, false] rfl rfl (by kernel_rfl) (fun _ _ _ h => h) (Or.inl ⟨by rfl, ?_⟩) ?_ ?_
  rotate_left
  · intro w'
    go_simp
    try with_reducible rfl
  rotate_left
  · simp only [Act.put, List.setIfInBounds_toArray, List.set_cons_zero, List.set_cons_succ, i64_w, i32_w]
    rfl
  refine pure_ (i := 5) (N := (some 91)) (v := ?_) (a' := ?_) #[true, true, false, true, false, true, false, false, false, false, false, false, false, false] rfl rfl (by kernel_rfl) (fun _ _ _ h => h) (Or.inl ⟨by rfl, ?_⟩) ?_ ?_
  rotate_left
  · intro w'
    go_simp
    try with_reducible rfl
  rotate_left
  · simp only [Act.put, List.setIfInBounds_toArray, List.set_cons_zero, List.set_cons_succ, i64_w, i32_w]
    rfl
  refine pure_ (i := 6) (N := (some 92)) (v := ?_) (a' := ?_) #[true, true, false, true, false, true, true, false, false, false, false, false, false, false] rfl rfl (by kernel_rfl) (fun _ _ _ h => h) (Or.inl ⟨by rfl, ?_⟩) ?_ ?_
  rotate_left
  · intro w'
    go_simp
    try with_reducible rfl
  rotate_left
  · simp only [Act.put, List.setIfInBounds_toArray, List.set_cons_zero, List.set_cons_succ, i64_w, i32_w]
    rfl
  refine pure_ (i := 8) (N := (some 94)) (v := ?_) (a' := ?_) #[true, true, false, true, false, true, true, false, true, false, false, false, false, false] rfl rfl (by kernel_rfl) (fun _ _ _ h => h) (Or.inl ⟨by rfl, ?_⟩) ?_ ?_
  rotate_left
  · intro w'
    go_simp
    try with_reducible rfl
  rotate_left
  · simp only [Act.put, List.setIfInBounds_toArray, List.set_cons_zero, List.set_cons_succ, i64_w, i32_w]
    rfl
  refine take_ (i := 2) (N := (some 88)) (v := ?_) (a' := ?_) #[true, true, true, true, false, true, true, false, true, false, false, false, false, false] rfl rfl (by kernel_rfl) (fun _ _ _ h => h) (Or.inl ⟨by rfl, ?_⟩) hHeld ?_ ?_
  rotate_left
  · rintro w' ⟨s0_, s1_, s2_, s3_⟩
    go_simp
    try with_reducible rfl
  rotate_left
  · simp only [Act.put, List.setIfInBounds_toArray, List.set_cons_zero, List.set_cons_succ, i64_w, i32_w]
    rfl
  refine take_ (i := 4) (N := (some 90)) (v := ?_) (a' := ?_) #[true, true, true, true, true, true, true, false, true, false, false, false, false, false] rfl rfl (by kernel_rfl) (fun _ _ _ h => h) (Or.inl ⟨by rfl, ?_⟩) hHeld ?_ ?_
  rotate_left
  · rintro w' ⟨s0_, s1_, s2_, s3_⟩
    go_simp
    try with_reducible rfl
  rotate_left
  · simp only [Act.put, List.setIfInBounds_toArray, List.set_cons_zero, List.set_cons_succ, i64_w, i32_w]
    rfl
  refine take_ (i := 7) (N := (some 93)) (v := ?_) (a' := ?_) #[true, true, true, true, true, true, true, true, true, false, false, false, false, false] rfl rfl (by kernel_rfl) (fun _ _ _ h => h) (Or.inl ⟨by rfl, ?_⟩) hHeld ?_ ?_
  rotate_left
  · rintro w' ⟨s0_, s1_, s2_, s3_⟩
    go_simp
    try with_reducible rfl
  rotate_left
  · simp only [Act.put, List.setIfInBounds_toArray, List.set_cons_zero, List.set_cons_succ, i64_w, i32_w]
    rfl
  refine take_ (i := 9) (N := (some 95)) (v := ?_) (a' := ?_) #[true, true, true, true, true, true, true, true, true, true, false, false, false, false] rfl rfl (by kernel_rfl) (fun _ _ _ h => h) (Or.inl ⟨by rfl, ?_⟩) hHeld ?_ ?_
  rotate_left
  · rintro w' ⟨s0_, s1_, s2_, s3_⟩
    go_simp
    try with_reducible rfl
  rotate_left
  · simp only [Act.put, List.setIfInBounds_toArray, List.set_cons_zero, List.set_cons_succ, i64_w, i32_w]
    rfl
  refine pure_ (i := 10) (N := (some 96)) (v := ?_) (a' := ?_) #[true, true, true, true, true, true, true, true, true, true, true, false, false, false] rfl rfl (by kernel_rfl) (fun _ _ _ h => h) (Or.inl ⟨by rfl, ?_⟩) ?_ ?_
  rotate_left
  · intro w'
    go_simp
    try with_reducible rfl
  rotate_left
  · simp only [Act.put, List.setIfInBounds_toArray, List.set_cons_zero, List.set_cons_succ, i64_w, i32_w]
    rfl
  refine take_ (i := 11) (N := (some 97)) (v := ?_) (a' := ?_) #[true, true, true, true, true, true, true, true, true, true, true, true, false, false] rfl rfl (by kernel_rfl) (fun _ _ _ h => h) (Or.inl ⟨by rfl, ?_⟩) hHeld ?_ ?_
  rotate_left
  · rintro w' ⟨s0_, s1_, s2_, s3_⟩
    go_simp
    try with_reducible rfl
  rotate_left
  · simp only [Act.put, List.setIfInBounds_toArray, List.set_cons_zero, List.set_cons_succ, i64_w, i32_w]
    rfl
  refine pure_ (i := 12) (N := (some 98)) (v := ?_) (a' := ?_) #[true, true, true, true, true, true, true, true, true, true, true, true, true, false] rfl rfl (by kernel_rfl) (fun _ _ _ h => h) (Or.inl ⟨by rfl, ?_⟩) ?_ ?_
  rotate_left
  · intro w'
    go_simp
    try with_reducible rfl
  rotate_left
  · simp only [Act.put, List.setIfInBounds_toArray, List.set_cons_zero, List.set_cons_succ, i64_w, i32_w]
    rfl
  refine one_ (i := 13) (N := none) #[true, true, true, true, true, true, true, true, true, true, true, true, true, true] rfl rfl (by kernel_rfl) (by decide) (fun K hK => ?_)
  refine skip_ (w1 := ?_) (by rfl) rfl ?_ ?_
  rotate_left
  · go_simp
    try rfl
  have K5 := Aside0.mk ((K4.out.drew.set 6 rfl cell.toNat (.string s0)).as [(w.heap.size, (hwC (.slice A n d) (.slice (some ad) m c) r), 31), (w.heap.size + 1, #[.int .i64 4, .int .i64 bank, .int .i64 cell, .string b], 33), (w.heap.size + 1 + 1, #[.bool cut, .int .i64 fb, .bool noise], 35), (u1.heap.size, (hwC (.slice A1 n c1) (.slice B1 m d1) r), 31), (u1.heap.size + 1, #[.int .i64 v1, .string s1], 40), (y1.heap.size, (hwC (.slice A1 n c1) (.slice (some ⟨g, 0, none⟩) m co) r), 31), (g, rowBlk Value.string (fl1.set cell.toNat s0) rest, 9)] (by rw [rowBlk_set (enc := Value.string) fl1 rest cell.toNat s0 (by have := LN.out; omega)]; rfl))
  refine hK.out _ _ ⟨K5.out.cell 5 rfl 1 rfl, K5.out.cell 1 rfl 2 rfl, K5.out.cell 0 rfl 1 rfl, pw_cell_below K5.out.bel HS0.out⟩ (fun hHeld => ?_)
  clear hK K kg kf
  refine done_ (by kernel_rfl) ?_
  have FY := Aside0.mk (C_of_rowBlk (h1 := fun _ => rfl) (K5.out.blk 6 rfl) (by rw [List.length_set, LN.out]; have := ML.out; omega))
  go_wp2_with (first | ((with_reducible refine gate_dst (N := 101) rfl ?_); refine loadRowG_ (ty := 31) _ rfl (by rfl) rfl _ _ _ _ _ rfl (K5.out.blk 5 rfl) Try.underlying31 rfl (by kernel_rfl) ?_) | ((with_reducible refine gate_dst (N := 102) rfl ?_); refine loadRowG_ (ty := 31) _ rfl (by rfl) rfl _ _ _ _ _ rfl (K5.out.blk 0 rfl) Try.underlying31 rfl (by kernel_rfl) ?_) | (go_at_call 15; refine (dsame_q true (K5.out.at 0 rfl).1 ⟨by have := FY.out; rwa [List.length_set, LN.out] at this, CO.out⟩ (K5.out.at 1 rfl) (K5.out.at 2 rfl) SM.out).mono ?_; rintro e z1 ⟨rfl, hb⟩; have K6 := Aside0.mk (K5.out.step hb); clear hb) | ((with_reducible refine gate_dst (N := 107) rfl ?_); refine loadMidG_ (ty := 29) _ rfl (by rfl) rfl _ _ (rtA r) _ rfl (fun j v hv => K6.out.cell 3 rfl (2 + j) (hw_root hv)) Try.underlying29 rfl (by kernel_rfl) ?_) | ((with_reducible refine gate_dst (N := 109) rfl ?_); refine loadMidG_ (ty := 29) _ rfl (by rfl) rfl _ _ (rtA r) _ rfl (fun j v hv => K6.out.cell 0 rfl (2 + j) (hw_root hv)) Try.underlying29 rfl (by kernel_rfl) ?_))
  go_ret
  exact ⟨rfl, K6.out.bel⟩
theorem separate_any {A : Option Addr} {n d : Nat} {hs : List Hdr} {bk : List (List Int)} {B : Option Addr} {m c : Nat} {fl : List ByteArray} {w : World} (r : Nat → Int)
    (kd bank cell : Int) (b : ByteArray) (cut : Bool) (fb : Int) (noise : Bool) (hF : Fu w A n d hs bk) (hL : Fl w B m c fl) (h0 : ∀ xs ∈ bk, ∀ c ∈ xs, 0 ≤ c) :
    Calls Try.prog 4 #[.agg (hwC (.slice A n d) (.slice B m c) r), .agg #[.int .i64 kd, .int .i64 bank, .int .i64 cell, .string b], .agg #[.bool cut, .int .i64 fb, .bool noise]] w fun e w' => e = .returned (.bool true) ∧ Below w.heap.size w w' := by
  obtain ⟨k, vb, hk, hb⟩ := valid_f bk (Fu.bkmax hF) (Fu.rows hF)
  cases hq : smallB vb m fl with
  | false => exact separate0 r kd bank cell b cut fb noise hF hL hk hb hq
  | true =>
    by_cases hz : 300 < (b.size : Int)
    · exact separate1 r kd bank cell b cut fb noise hF hL hk hb hq hz
    · have hz' : (b.size : Int) ≤ 300 := by omega
      by_cases hE : doE bk fl kd bank cell b = 0
      · have hkd : kd = 1 ∨ kd = 2 ∨ kd = 3 ∨ kd = 4 := by
          by_cases h1 : kd = 1 ∨ kd = 2 ∨ kd = 3 ∨ kd = 4
          · exact h1
          · exfalso
            simp [doE, okK, show ¬ (kd = 1 ∨ kd = 2) by omega, show ¬ kd = 3 by omega, show ¬ kd = 4 by omega] at hE
        rcases hkd with rfl | rfl | rfl | rfl
        · exact separate_1 r bank cell b cut fb noise hF hL hk hb hq hz' h0 hE
        · exact separate_2 r bank cell b cut fb noise hF hL hk hb hq hz' h0 hE
        · exact separate_3 r bank cell b cut fb noise hF hL hk hb hq hz' h0 hE
        · exact separate_4 r bank cell b cut fb noise hF hL hk hb hq hz' h0 hE
      · exact separate_err r kd bank cell b cut fb noise hF hL hk hb hq hz' h0 _ rfl (beq_eq_false_iff_ne.2 hE)
end Go.Proofs.Ytkfhekocbfednaa.Dv
end
