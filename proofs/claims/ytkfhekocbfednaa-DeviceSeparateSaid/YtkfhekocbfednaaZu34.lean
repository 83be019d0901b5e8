/- Part of the proof of deviceSeparate_holds, deviceAll_holds, deviceMonotonic_holds: what later parts use. -/
import Derived.Test.YtkfhekocbfednaaZu0
import Derived.Test.YtkfhekocbfednaaZu1
import Derived.Test.YtkfhekocbfednaaZu2
import Derived.Test.YtkfhekocbfednaaZu3
import Derived.Test.YtkfhekocbfednaaZu4
import Derived.Test.YtkfhekocbfednaaZu5
import Derived.Test.YtkfhekocbfednaaZu6
import Derived.Test.YtkfhekocbfednaaZu7
import Derived.Test.YtkfhekocbfednaaZu8
import Derived.Test.YtkfhekocbfednaaZu9
import Derived.Test.YtkfhekocbfednaaZu10
import Derived.Test.YtkfhekocbfednaaZu11
import Derived.Test.YtkfhekocbfednaaZu12
import Derived.Test.YtkfhekocbfednaaZu13
import Derived.Test.YtkfhekocbfednaaZu14
import Derived.Test.YtkfhekocbfednaaZu15
import Derived.Test.YtkfhekocbfednaaZu16
import Derived.Test.YtkfhekocbfednaaZu17
import Derived.Test.YtkfhekocbfednaaZu18
import Derived.Test.YtkfhekocbfednaaZu19
import Derived.Test.YtkfhekocbfednaaZu20
import Derived.Test.YtkfhekocbfednaaZu21
import Derived.Test.YtkfhekocbfednaaZu22
import Derived.Test.YtkfhekocbfednaaZu23
import Derived.Test.YtkfhekocbfednaaZu24
import Derived.Test.YtkfhekocbfednaaZu25
import Derived.Test.YtkfhekocbfednaaZu26
import Derived.Test.YtkfhekocbfednaaZu27
import Derived.Test.YtkfhekocbfednaaZu28
import Derived.Test.YtkfhekocbfednaaZu29
import Derived.Test.YtkfhekocbfednaaZu30
import Derived.Test.YtkfhekocbfednaaZu31
import Derived.Test.YtkfhekocbfednaaZu32
import Derived.Test.YtkfhekocbfednaaZu33
import Derived.Laws.StructEq
section
namespace Go.Proofs.Ytkfhekocbfednaa.Dv
set_option linter.unusedVariables false
set_option linter.unusedSimpArgs false
open Go.RowKit Go.Proofs.Ytkfhekocbfednaa Go.Proofs.YtkfhekocbfednaaW.PrintWords Go.Proofs.YtkfhekocbfednaaW.PrintLast Go.Proofs.YtkfhekocbfednaaW.PrintMore
open Go.Proofs.Ytkfhekocbfednaa.Fu Go.Proofs.Ytkfhekocbfednaa.Fl Go.Proofs.Ytkfhekocbfednaa.PDeviceMatches
theorem eq_rr (r : Nat → Int) (w : World) : (Op.equalIn 10000 29 (.agg (rtA r)) (.agg (rtA r))).run Try.prog w = .ok true w := by rw [eq_root, rootEq_refl]
attribute [local go_sem] eq_rr
set_option maxRecDepth 100000 in
set_option maxHeartbeats 64000000 in
theorem separate0 {A : Option Addr} {n d : Nat} {hs : List Hdr} {bk : List (List Int)} {B : Option Addr} {m c : Nat} {fl : List ByteArray} {w : World} (r : Nat → Int)
    (kd bank cell : Int) (b : ByteArray) (cut : Bool) (fb : Int) (noise : Bool) (hF : Fu w A n d hs bk) (hL : Fl w B m c fl) {k : Nat} {vb : Bool} (hk : bootchainref07_Valid.f k bk = some vb) (hb : vb = true → Ok3 bk ∧ bk.length ≤ 4) (hq : smallB vb m fl = false) :
    Calls Try.prog 4 #[.agg (hwC (.slice A n d) (.slice B m c) r), .agg #[.int .i64 kd, .int .i64 bank, .int .i64 cell, .string b], .agg #[.bool cut, .int .i64 fb, .bool noise]] w fun e w' => e = .returned (.bool true) ∧ Below w.heap.size w w' := by
  have H0 := Aside0.mk ((St.enter2 (fun _ h => h) (sureFu hF) (sureFl hL)).alloc3 (hwC (.slice A n d) (.slice B m c) r) 31 #[.int .i64 kd, .int .i64 bank, .int .i64 cell, .string b] 33 #[.bool cut, .int .i64 fb, .bool noise] 35)
  have HK := Aside0.mk hk
  have HB := Aside0.mk hb
  have HQ := Aside0.mk hq
  clear hq hF hL hk hb
  go_enter Try.func4, Try.ntmps4
  go_wp2_with (first | (go_at_call 8; refine (sanity_any _).mono ?_; rintro e w1 ⟨rfl, hb⟩; have H1 := Aside0.mk (H0.out.step hb); clear hb) | ((with_reducible refine gate_dst (N := 13) rfl ?_); refine loadRowL_ (ty := 31) _ rfl rfl rfl _ _ _ _ _ rfl (H1.out.blk 0 rfl) Try.underlying31 rfl (by kernel_rfl) ?_) | (go_at_call 9; refine (small_det (H1.out.at 0 rfl) (H1.out.at 1 rfl) HK.out HB.out).mono ?_; rintro e w2 ⟨rfl, hb⟩; have H2 := Aside0.mk (H1.out.step hb); clear hb; rw [HQ.out]; have kb := H2.out.cell 1 rfl 3 rfl))
  go_ret
  exact ⟨rfl, H2.out.bel⟩
set_option maxRecDepth 100000 in
set_option maxHeartbeats 64000000 in
theorem separate1 {A : Option Addr} {n d : Nat} {hs : List Hdr} {bk : List (List Int)} {B : Option Addr} {m c : Nat} {fl : List ByteArray} {w : World} (r : Nat → Int)
    (kd bank cell : Int) (b : ByteArray) (cut : Bool) (fb : Int) (noise : Bool) (hF : Fu w A n d hs bk) (hL : Fl w B m c fl) {k : Nat} {vb : Bool} (hk : bootchainref07_Valid.f k bk = some vb) (hb : vb = true → Ok3 bk ∧ bk.length ≤ 4) (hq : smallB vb m fl = true) (hz : 300 < (b.size : Int)) :
    Calls Try.prog 4 #[.agg (hwC (.slice A n d) (.slice B m c) r), .agg #[.int .i64 kd, .int .i64 bank, .int .i64 cell, .string b], .agg #[.bool cut, .int .i64 fb, .bool noise]] w fun e w' => e = .returned (.bool true) ∧ Below w.heap.size w w' := by
  have H0 := Aside0.mk ((St.enter2 (fun _ h => h) (sureFu hF) (sureFl hL)).alloc3 (hwC (.slice A n d) (.slice B m c) r) 31 #[.int .i64 kd, .int .i64 bank, .int .i64 cell, .string b] 33 #[.bool cut, .int .i64 fb, .bool noise] 35)
  have HK := Aside0.mk hk
  have HB := Aside0.mk hb
  have HQ := Aside0.mk hq
  clear hq hF hL hk hb
  go_enter Try.func4, Try.ntmps4
  go_wp2_with (first | (go_at_call 8; refine (sanity_any _).mono ?_; rintro e w1 ⟨rfl, hb⟩; have H1 := Aside0.mk (H0.out.step hb); clear hb) | ((with_reducible refine gate_dst (N := 13) rfl ?_); refine loadRowL_ (ty := 31) _ rfl rfl rfl _ _ _ _ _ rfl (H1.out.blk 0 rfl) Try.underlying31 rfl (by kernel_rfl) ?_) | (go_at_call 9; refine (small_det (H1.out.at 0 rfl) (H1.out.at 1 rfl) HK.out HB.out).mono ?_; rintro e w2 ⟨rfl, hb⟩; have H2 := Aside0.mk (H1.out.step hb); clear hb; rw [HQ.out]; have kb := H2.out.cell 1 rfl 3 rfl))
  go_ret
  exact ⟨rfl, H2.out.bel⟩
set_option maxRecDepth 100000 in
set_option maxHeartbeats 64000000 in
theorem separate_err {A : Option Addr} {n d : Nat} {hs : List Hdr} {bk : List (List Int)} {B : Option Addr} {m c : Nat} {fl : List ByteArray} {w : World} (r : Nat → Int)
    (kd bank cell : Int) (b : ByteArray) (cut : Bool) (fb : Int) (noise : Bool) (hF : Fu w A n d hs bk) (hL : Fl w B m c fl) {k : Nat} {vb : Bool} (hk : bootchainref07_Valid.f k bk = some vb) (hb : vb = true → Ok3 bk ∧ bk.length ≤ 4) (hq : smallB vb m fl = true) (hz : (b.size : Int) ≤ 300) (h0 : ∀ xs ∈ bk, ∀ c ∈ xs, 0 ≤ c) (q : Int) (hE : doE bk fl kd bank cell b = q) (h1 : (q == 0) = false) :
    Calls Try.prog 4 #[.agg (hwC (.slice A n d) (.slice B m c) r), .agg #[.int .i64 kd, .int .i64 bank, .int .i64 cell, .string b], .agg #[.bool cut, .int .i64 fb, .bool noise]] w fun e w' => e = .returned (.bool true) ∧ Below w.heap.size w w' := by
  have H0 := Aside0.mk ((St.enter2 (fun _ h => h) (sureFu hF) (sureFl hL)).alloc3 (hwC (.slice A n d) (.slice B m c) r) 31 #[.int .i64 kd, .int .i64 bank, .int .i64 cell, .string b] 33 #[.bool cut, .int .i64 fb, .bool noise] 35)
  have HK := Aside0.mk hk
  have HB := Aside0.mk hb
  have HQ := Aside0.mk hq
  have FT := small_fits hL.C.1 hb hq
  have OKB := Aside0.mk (OkBk_of FT.1 h0)
  have OKF := Aside0.mk (⟨by have := FT.2.2.1; omega, FT.2.2.2⟩ : OkFl fl)
  have hn : n ≤ 1000 := by have := hF.len; have := FT.2.1; omega
  obtain ⟨bk1, hE1⟩ : ∃ y, doBk bk fl kd bank cell b cut = y := ⟨_, rfl⟩
  obtain ⟨fl1, hE2⟩ : ∃ y, doFl bk fl kd bank cell b cut fb = y := ⟨_, rfl⟩
  obtain ⟨v1, hE3⟩ : ∃ y, doV bk fl kd bank cell b cut noise = y := ⟨_, rfl⟩
  obtain ⟨s1, hE4⟩ : ∃ y, doS bk fl kd bank cell b cut = y := ⟨_, rfl⟩
  have E1 := Aside0.mk hE1
  have E2 := Aside0.mk hE2
  have E3 := Aside0.mk hE3
  have E4 := Aside0.mk hE4
  have E5 := Aside0.mk hE
  have h1b : (q != 0) = true := by simp [bne, h1]
  have h1c : ¬ q = 0 := beq_eq_false_iff_ne.1 h1
  have SM := Aside0.mk (show sameH r r fl1 fl bk1 bk = true by
    have e1 : bk1 = bk := by rw [← hE1]; simp [doBk, hE, show ¬ q = 0 from beq_eq_false_iff_ne.1 h1]
    have e2 : fl1 = fl := by rw [← hE2]; simp [doFl, hE, show ¬ q = 0 from beq_eq_false_iff_ne.1 h1]
    rw [e1, e2]; exact sameH_refl r fl bk)
  clear hF hL hk hb hE1 hE2 hE3 hE4 hE FT hq h0
  go_enter Try.func4, Try.ntmps4
  go_upto_region 4 with (first | (go_at_call 8; refine (sanity_any _).mono ?_; rintro e w1 ⟨rfl, hb⟩; have H1 := Aside0.mk (H0.out.step hb); clear hb) | ((with_reducible refine gate_dst (N := 13) rfl ?_); refine loadRowL_ (ty := 31) _ rfl rfl rfl _ _ _ _ _ rfl (H1.out.blk 0 rfl) Try.underlying31 rfl (by kernel_rfl) ?_) | (go_at_call 9; refine (small_det (H1.out.at 0 rfl) (H1.out.at 1 rfl) HK.out HB.out).mono ?_; rintro e w2 ⟨rfl, hb⟩; have H2 := Aside0.mk (H1.out.step hb); clear hb; rw [HQ.out]; have kb := H2.out.cell 1 rfl 3 rfl))
  clear kb
  go_upto_region 5 with (first | ((with_reducible refine gate_dst (N := 24) rfl ?_); refine loadRowL_ (ty := 31) _ rfl rfl rfl _ _ _ _ _ rfl (H2.out.blk 0 rfl) Try.underlying31 rfl (by kernel_rfl) ?_) | ((with_reducible refine gate_dst (N := 25) rfl ?_); refine loadRowL_ (ty := 33) _ rfl rfl rfl _ _ _ _ _ rfl (H2.out.blk 1 rfl) Try.underlying33 rfl (by kernel_rfl) ?_) | ((with_reducible refine gate_dst (N := 26) rfl ?_); refine loadRowL_ (ty := 35) _ rfl rfl rfl _ _ _ _ _ rfl (H2.out.blk 2 rfl) Try.underlying35 rfl (by kernel_rfl) ?_) | (go_at_call 10; refine (do_at kd bank cell b cut fb noise bk1 fl1 v1 s1 q H2.out.dom ((H2.out.sure 0 rfl).and (H2.out.sure 1 rfl)) hn OKB.out OKF.out E1.out E2.out E3.out E4.out E5.out).mono ?_; rintro e u1 ⟨A1, c1, hs1, B1, d1, rfl, hb⟩; have G1 := Aside0.mk (H2.out.call hb); clear hb) | ((with_reducible refine gate_store (t := 31) (p := 8) rfl ?_); refine storeRowSt_ (ty := 31) rfl rfl rfl (hwC (.slice A1 n c1) (.slice B1 m d1) r) (G1.out.alloc2 #[.slice none 0 0, .slice none 0 0, .int .u8 0, .int .u8 0, .int .u8 0, .int .u8 0, .int .u8 0, .int .u8 0, .int .u8 0, .int .u8 0, .int .u8 0, .int .u8 0, .int .u8 0, .int .u8 0, .int .u8 0, .int .u8 0, .int .u8 0, .int .u8 0] 31 #[.int .i64 0, .string ⟨#[]⟩] 40) 3 rfl rfl rfl (by kernel_rfl) rfl (by kernel_rfl) ?_; intro x1 h_; have J1 := Aside0.mk h_; clear h_) | ((with_reducible refine gate_store (t := 40) (p := 9) rfl ?_); refine storeRowSt_ (ty := 40) rfl rfl rfl #[.int .i64 v1, .string s1] J1.out 4 rfl rfl rfl (by kernel_rfl) rfl (by kernel_rfl) ?_; intro y1 h_; have I3 := Aside0.mk (h_.as [(w.heap.size, (hwC (.slice A n d) (.slice B m c) r), 31), (w.heap.size + 1, #[.int .i64 kd, .int .i64 bank, .int .i64 cell, .string b], 33), (w.heap.size + 1 + 1, #[.bool cut, .int .i64 fb, .bool noise], 35), (u1.heap.size, (hwC (.slice A1 n c1) (.slice B1 m d1) r), 31), (u1.heap.size + 1, #[.int .i64 v1, .string s1], 40)] rfl); clear h_; have ka := I3.out.cell 1 rfl 0 rfl))
  go_wp2_with (first | ((with_reducible refine gate_dst (N := 45) rfl ?_); refine loadRowG_ (ty := 31) _ rfl (by rfl) rfl _ _ _ _ _ rfl (I3.out.blk 3 rfl) Try.underlying31 rfl (by kernel_rfl) ?_) | ((with_reducible refine gate_dst (N := 46) rfl ?_); refine loadRowG_ (ty := 31) _ rfl (by rfl) rfl _ _ _ _ _ rfl (I3.out.blk 0 rfl) Try.underlying31 rfl (by kernel_rfl) ?_) | (go_at_call 15; refine (dsame_q true (I3.out.at 0 rfl).1 (I3.out.at 0 rfl).2 (I3.out.at 1 rfl) (I3.out.at 2 rfl) SM.out).mono ?_; rintro e z1 ⟨rfl, hb⟩; have I4 := Aside0.mk (I3.out.step hb); clear hb))
  go_ret
  exact ⟨rfl, I4.out.bel⟩
set_option maxRecDepth 100000 in
set_option maxHeartbeats 64000000 in
theorem separate_1 {A : Option Addr} {n d : Nat} {hs : List Hdr} {bk : List (List Int)} {B : Option Addr} {m c : Nat} {fl : List ByteArray} {w : World} (r : Nat → Int)
    (bank cell : Int) (b : ByteArray) (cut : Bool) (fb : Int) (noise : Bool) (hF : Fu w A n d hs bk) (hL : Fl w B m c fl) {k : Nat} {vb : Bool} (hk : bootchainref07_Valid.f k bk = some vb) (hb : vb = true → Ok3 bk ∧ bk.length ≤ 4) (hq : smallB vb m fl = true) (hz : (b.size : Int) ≤ 300) (h0 : ∀ xs ∈ bk, ∀ c ∈ xs, 0 ≤ c) (hE : doE bk fl 1 bank cell b = 0) :
    Calls Try.prog 4 #[.agg (hwC (.slice A n d) (.slice B m c) r), .agg #[.int .i64 1, .int .i64 bank, .int .i64 cell, .string b], .agg #[.bool cut, .int .i64 fb, .bool noise]] w fun e w' => e = .returned (.bool true) ∧ Below w.heap.size w w' := by
  have H0 := Aside0.mk ((St.enter2 (fun _ h => h) (sureFu hF) (sureFl hL)).alloc3 (hwC (.slice A n d) (.slice B m c) r) 31 #[.int .i64 1, .int .i64 bank, .int .i64 cell, .string b] 33 #[.bool cut, .int .i64 fb, .bool noise] 35)
  have HK := Aside0.mk hk
  have HB := Aside0.mk hb
  have HQ := Aside0.mk hq
  have FT := small_fits hL.C.1 hb hq
  have OKB := Aside0.mk (OkBk_of FT.1 h0)
  have OKF := Aside0.mk (⟨by have := FT.2.2.1; omega, FT.2.2.2⟩ : OkFl fl)
  have hn : n ≤ 1000 := by have := hF.len; have := FT.2.1; omega
  obtain ⟨bk1, hE1⟩ : ∃ y, doBk bk fl 1 bank cell b cut = y := ⟨_, rfl⟩
  obtain ⟨fl1, hE2⟩ : ∃ y, doFl bk fl 1 bank cell b cut fb = y := ⟨_, rfl⟩
  obtain ⟨v1, hE3⟩ : ∃ y, doV bk fl 1 bank cell b cut noise = y := ⟨_, rfl⟩
  obtain ⟨s1, hE4⟩ : ∃ y, doS bk fl 1 bank cell b cut = y := ⟨_, rfl⟩
  have E1 := Aside0.mk hE1
  have E2 := Aside0.mk hE2
  have E3 := Aside0.mk hE3
  have E4 := Aside0.mk hE4
  have E5 := Aside0.mk hE
  have SM := Aside0.mk (show sameH r r fl1 fl bk1 bk = true by
    have e1 : bk1 = bk := by rw [← hE1]; simp [doBk]
    have e2 : fl1 = fl := by rw [← hE2]; simp [doFl]
    rw [e1, e2]; exact sameH_refl r fl bk)
  clear hF hL hk hb hE1 hE2 hE3 hE4 hE FT hq h0
  go_enter Try.func4, Try.ntmps4
  go_upto_region 4 with (first | (go_at_call 8; refine (sanity_any _).mono ?_; rintro e w1 ⟨rfl, hb⟩; have H1 := Aside0.mk (H0.out.step hb); clear hb) | ((with_reducible refine gate_dst (N := 13) rfl ?_); refine loadRowL_ (ty := 31) _ rfl rfl rfl _ _ _ _ _ rfl (H1.out.blk 0 rfl) Try.underlying31 rfl (by kernel_rfl) ?_) | (go_at_call 9; refine (small_det (H1.out.at 0 rfl) (H1.out.at 1 rfl) HK.out HB.out).mono ?_; rintro e w2 ⟨rfl, hb⟩; have H2 := Aside0.mk (H1.out.step hb); clear hb; rw [HQ.out]; have kb := H2.out.cell 1 rfl 3 rfl))
  clear kb
  go_upto_region 5 with (first | ((with_reducible refine gate_dst (N := 24) rfl ?_); refine loadRowL_ (ty := 31) _ rfl rfl rfl _ _ _ _ _ rfl (H2.out.blk 0 rfl) Try.underlying31 rfl (by kernel_rfl) ?_) | ((with_reducible refine gate_dst (N := 25) rfl ?_); refine loadRowL_ (ty := 33) _ rfl rfl rfl _ _ _ _ _ rfl (H2.out.blk 1 rfl) Try.underlying33 rfl (by kernel_rfl) ?_) | ((with_reducible refine gate_dst (N := 26) rfl ?_); refine loadRowL_ (ty := 35) _ rfl rfl rfl _ _ _ _ _ rfl (H2.out.blk 2 rfl) Try.underlying35 rfl (by kernel_rfl) ?_) | (go_at_call 10; refine (do_at 1 bank cell b cut fb noise bk1 fl1 v1 s1 0 H2.out.dom ((H2.out.sure 0 rfl).and (H2.out.sure 1 rfl)) hn OKB.out OKF.out E1.out E2.out E3.out E4.out E5.out).mono ?_; rintro e u1 ⟨A1, c1, hs1, B1, d1, rfl, hb⟩; have G1 := Aside0.mk (H2.out.call hb); clear hb) | ((with_reducible refine gate_store (t := 31) (p := 8) rfl ?_); refine storeRowSt_ (ty := 31) rfl rfl rfl (hwC (.slice A1 n c1) (.slice B1 m d1) r) (G1.out.alloc2 #[.slice none 0 0, .slice none 0 0, .int .u8 0, .int .u8 0, .int .u8 0, .int .u8 0, .int .u8 0, .int .u8 0, .int .u8 0, .int .u8 0, .int .u8 0, .int .u8 0, .int .u8 0, .int .u8 0, .int .u8 0, .int .u8 0, .int .u8 0, .int .u8 0] 31 #[.int .i64 0, .string ⟨#[]⟩] 40) 3 rfl rfl rfl (by kernel_rfl) rfl (by kernel_rfl) ?_; intro x1 h_; have J1 := Aside0.mk h_; clear h_) | ((with_reducible refine gate_store (t := 40) (p := 9) rfl ?_); refine storeRowSt_ (ty := 40) rfl rfl rfl #[.int .i64 v1, .string s1] J1.out 4 rfl rfl rfl (by kernel_rfl) rfl (by kernel_rfl) ?_; intro y1 h_; have I3 := Aside0.mk (h_.as [(w.heap.size, (hwC (.slice A n d) (.slice B m c) r), 31), (w.heap.size + 1, #[.int .i64 1, .int .i64 bank, .int .i64 cell, .string b], 33), (w.heap.size + 1 + 1, #[.bool cut, .int .i64 fb, .bool noise], 35), (u1.heap.size, (hwC (.slice A1 n c1) (.slice B1 m d1) r), 31), (u1.heap.size + 1, #[.int .i64 v1, .string s1], 40)] rfl); clear h_; have ka := I3.out.cell 1 rfl 0 rfl))
  go_wp2_with (first | ((with_reducible refine gate_dst (N := 45) rfl ?_); refine loadRowG_ (ty := 31) _ rfl (by rfl) rfl _ _ _ _ _ rfl (I3.out.blk 3 rfl) Try.underlying31 rfl (by kernel_rfl) ?_) | ((with_reducible refine gate_dst (N := 46) rfl ?_); refine loadRowG_ (ty := 31) _ rfl (by rfl) rfl _ _ _ _ _ rfl (I3.out.blk 0 rfl) Try.underlying31 rfl (by kernel_rfl) ?_) | (go_at_call 15; refine (dsame_q true (I3.out.at 0 rfl).1 (I3.out.at 0 rfl).2 (I3.out.at 1 rfl) (I3.out.at 2 rfl) SM.out).mono ?_; rintro e z1 ⟨rfl, hb⟩; have I4 := Aside0.mk (I3.out.step hb); clear hb))
  go_ret
  exact ⟨rfl, I4.out.bel⟩
set_option maxRecDepth 100000 in
set_option maxHeartbeats 64000000 in
theorem separate_3 {A : Option Addr} {n d : Nat} {hs : List Hdr} {bk : List (List Int)} {B : Option Addr} {m c : Nat} {fl : List ByteArray} {w : World} (r : Nat → Int)
    (bank cell : Int) (b : ByteArray) (cut : Bool) (fb : Int) (noise : Bool) (hF : Fu w A n d hs bk) (hL : Fl w B m c fl) {k : Nat} {vb : Bool} (hk : bootchainref07_Valid.f k bk = some vb) (hb : vb = true → Ok3 bk ∧ bk.length ≤ 4) (hq : smallB vb m fl = true) (hz : (b.size : Int) ≤ 300) (h0 : ∀ xs ∈ bk, ∀ c ∈ xs, 0 ≤ c) (hE : doE bk fl 3 bank cell b = 0) :
    Calls Try.prog 4 #[.agg (hwC (.slice A n d) (.slice B m c) r), .agg #[.int .i64 3, .int .i64 bank, .int .i64 cell, .string b], .agg #[.bool cut, .int .i64 fb, .bool noise]] w fun e w' => e = .returned (.bool true) ∧ Below w.heap.size w w' := by
  have H0 := Aside0.mk ((St.enter2 (fun _ h => h) (sureFu hF) (sureFl hL)).alloc3 (hwC (.slice A n d) (.slice B m c) r) 31 #[.int .i64 3, .int .i64 bank, .int .i64 cell, .string b] 33 #[.bool cut, .int .i64 fb, .bool noise] 35)
  have HK := Aside0.mk hk
  have HB := Aside0.mk hb
  have HQ := Aside0.mk hq
  have FT := small_fits hL.C.1 hb hq
  have OKB := Aside0.mk (OkBk_of FT.1 h0)
  have OKF := Aside0.mk (⟨by have := FT.2.2.1; omega, FT.2.2.2⟩ : OkFl fl)
  have hn : n ≤ 1000 := by have := hF.len; have := FT.2.1; omega
  obtain ⟨bk1, hE1⟩ : ∃ y, doBk bk fl 3 bank cell b cut = y := ⟨_, rfl⟩
  obtain ⟨fl1, hE2⟩ : ∃ y, doFl bk fl 3 bank cell b cut fb = y := ⟨_, rfl⟩
  obtain ⟨v1, hE3⟩ : ∃ y, doV bk fl 3 bank cell b cut noise = y := ⟨_, rfl⟩
  obtain ⟨s1, hE4⟩ : ∃ y, doS bk fl 3 bank cell b cut = y := ⟨_, rfl⟩
  have E1 := Aside0.mk hE1
  have E2 := Aside0.mk hE2
  have E3 := Aside0.mk hE3
  have E4 := Aside0.mk hE4
  have E5 := Aside0.mk hE
  have SM := Aside0.mk (show sameH r r fl1 fl bk1 bk = true by
    have e1 : bk1 = bk := by rw [← hE1]; simp [doBk]
    have e2 : fl1 = fl := by rw [← hE2]; simp [doFl]
    rw [e1, e2]; exact sameH_refl r fl bk)
  clear hF hL hk hb hE1 hE2 hE3 hE4 hE FT hq h0
  go_enter Try.func4, Try.ntmps4
  go_upto_region 4 with (first | (go_at_call 8; refine (sanity_any _).mono ?_; rintro e w1 ⟨rfl, hb⟩; have H1 := Aside0.mk (H0.out.step hb); clear hb) | ((with_reducible refine gate_dst (N := 13) rfl ?_); refine loadRowL_ (ty := 31) _ rfl rfl rfl _ _ _ _ _ rfl (H1.out.blk 0 rfl) Try.underlying31 rfl (by kernel_rfl) ?_) | (go_at_call 9; refine (small_det (H1.out.at 0 rfl) (H1.out.at 1 rfl) HK.out HB.out).mono ?_; rintro e w2 ⟨rfl, hb⟩; have H2 := Aside0.mk (H1.out.step hb); clear hb; rw [HQ.out]; have kb := H2.out.cell 1 rfl 3 rfl))
  clear kb
  go_upto_region 5 with (first | ((with_reducible refine gate_dst (N := 24) rfl ?_); refine loadRowL_ (ty := 31) _ rfl rfl rfl _ _ _ _ _ rfl (H2.out.blk 0 rfl) Try.underlying31 rfl (by kernel_rfl) ?_) | ((with_reducible refine gate_dst (N := 25) rfl ?_); refine loadRowL_ (ty := 33) _ rfl rfl rfl _ _ _ _ _ rfl (H2.out.blk 1 rfl) Try.underlying33 rfl (by kernel_rfl) ?_) | ((with_reducible refine gate_dst (N := 26) rfl ?_); refine loadRowL_ (ty := 35) _ rfl rfl rfl _ _ _ _ _ rfl (H2.out.blk 2 rfl) Try.underlying35 rfl (by kernel_rfl) ?_) | (go_at_call 10; refine (do_at 3 bank cell b cut fb noise bk1 fl1 v1 s1 0 H2.out.dom ((H2.out.sure 0 rfl).and (H2.out.sure 1 rfl)) hn OKB.out OKF.out E1.out E2.out E3.out E4.out E5.out).mono ?_; rintro e u1 ⟨A1, c1, hs1, B1, d1, rfl, hb⟩; have G1 := Aside0.mk (H2.out.call hb); clear hb) | ((with_reducible refine gate_store (t := 31) (p := 8) rfl ?_); refine storeRowSt_ (ty := 31) rfl rfl rfl (hwC (.slice A1 n c1) (.slice B1 m d1) r) (G1.out.alloc2 #[.slice none 0 0, .slice none 0 0, .int .u8 0, .int .u8 0, .int .u8 0, .int .u8 0, .int .u8 0, .int .u8 0, .int .u8 0, .int .u8 0, .int .u8 0, .int .u8 0, .int .u8 0, .int .u8 0, .int .u8 0, .int .u8 0, .int .u8 0, .int .u8 0] 31 #[.int .i64 0, .string ⟨#[]⟩] 40) 3 rfl rfl rfl (by kernel_rfl) rfl (by kernel_rfl) ?_; intro x1 h_; have J1 := Aside0.mk h_; clear h_) | ((with_reducible refine gate_store (t := 40) (p := 9) rfl ?_); refine storeRowSt_ (ty := 40) rfl rfl rfl #[.int .i64 v1, .string s1] J1.out 4 rfl rfl rfl (by kernel_rfl) rfl (by kernel_rfl) ?_; intro y1 h_; have I3 := Aside0.mk (h_.as [(w.heap.size, (hwC (.slice A n d) (.slice B m c) r), 31), (w.heap.size + 1, #[.int .i64 3, .int .i64 bank, .int .i64 cell, .string b], 33), (w.heap.size + 1 + 1, #[.bool cut, .int .i64 fb, .bool noise], 35), (u1.heap.size, (hwC (.slice A1 n c1) (.slice B1 m d1) r), 31), (u1.heap.size + 1, #[.int .i64 v1, .string s1], 40)] rfl); clear h_; have ka := I3.out.cell 1 rfl 0 rfl))
  go_wp2_with (first | ((with_reducible refine gate_dst (N := 45) rfl ?_); refine loadRowG_ (ty := 31) _ rfl (by rfl) rfl _ _ _ _ _ rfl (I3.out.blk 3 rfl) Try.underlying31 rfl (by kernel_rfl) ?_) | ((with_reducible refine gate_dst (N := 46) rfl ?_); refine loadRowG_ (ty := 31) _ rfl (by rfl) rfl _ _ _ _ _ rfl (I3.out.blk 0 rfl) Try.underlying31 rfl (by kernel_rfl) ?_) | (go_at_call 15; refine (dsame_q true (I3.out.at 0 rfl).1 (I3.out.at 0 rfl).2 (I3.out.at 1 rfl) (I3.out.at 2 rfl) SM.out).mono ?_; rintro e z1 ⟨rfl, hb⟩; have I4 := Aside0.mk (I3.out.step hb); clear hb))
  go_ret
  exact ⟨rfl, I4.out.bel⟩
set_option maxRecDepth 100000 in
set_option maxHeartbeats 64000000 in
theorem separate_2 {A : Option Addr} {n d : Nat} {hs : List Hdr} {bk : List (List Int)} {B : Option Addr} {m c : Nat} {fl : List ByteArray} {w : World} (r : Nat → Int)
    (bank cell : Int) (b : ByteArray) (cut : Bool) (fb : Int) (noise : Bool) (hF : Fu w A n d hs bk) (hL : Fl w B m c fl) {k : Nat} {vb : Bool} (hk : bootchainref07_Valid.f k bk = some vb) (hb : vb = true → Ok3 bk ∧ bk.length ≤ 4) (hq : smallB vb m fl = true) (hz : (b.size : Int) ≤ 300) (h0 : ∀ xs ∈ bk, ∀ c ∈ xs, 0 ≤ c) (hE : doE bk fl 2 bank cell b = 0) :
    Calls Try.prog 4 #[.agg (hwC (.slice A n d) (.slice B m c) r), .agg #[.int .i64 2, .int .i64 bank, .int .i64 cell, .string b], .agg #[.bool cut, .int .i64 fb, .bool noise]] w fun e w' => e = .returned (.bool true) ∧ Below w.heap.size w w' := by
  have H0 := Aside0.mk ((St.enter2 (fun _ h => h) (sureFu hF) (sureFl hL)).alloc3 (hwC (.slice A n d) (.slice B m c) r) 31 #[.int .i64 2, .int .i64 bank, .int .i64 cell, .string b] 33 #[.bool cut, .int .i64 fb, .bool noise] 35)
  have HK := Aside0.mk hk
  have HB := Aside0.mk hb
  have HQ := Aside0.mk hq
  have FT := small_fits hL.C.1 hb hq
  have OKB := Aside0.mk (OkBk_of FT.1 h0)
  have OKF := Aside0.mk (⟨by have := FT.2.2.1; omega, FT.2.2.2⟩ : OkFl fl)
  have hn : n ≤ 1000 := by have := hF.len; have := FT.2.1; omega
  obtain ⟨bk1, hE1⟩ : ∃ y, doBk bk fl 2 bank cell b cut = y := ⟨_, rfl⟩
  obtain ⟨fl1, hE2⟩ : ∃ y, doFl bk fl 2 bank cell b cut fb = y := ⟨_, rfl⟩
  obtain ⟨v1, hE3⟩ : ∃ y, doV bk fl 2 bank cell b cut noise = y := ⟨_, rfl⟩
  obtain ⟨s1, hE4⟩ : ∃ y, doS bk fl 2 bank cell b cut = y := ⟨_, rfl⟩
  have E1 := Aside0.mk hE1
  have E2 := Aside0.mk hE2
  have E3 := Aside0.mk hE3
  have E4 := Aside0.mk hE4
  have E5 := Aside0.mk hE
  have SM := Aside0.mk (show sameH r r fl1 fl bk bk = true by
    have e2 : fl1 = fl := by rw [← hE2]; simp [doFl]
    rw [e2]; exact sameH_refl r fl bk)
  clear hF hL hk hb hE1 hE2 hE3 hE4 hE FT hq h0
  go_enter Try.func4, Try.ntmps4
  go_upto_region 4 with (first | (go_at_call 8; refine (sanity_any _).mono ?_; rintro e w1 ⟨rfl, hb⟩; have H1 := Aside0.mk (H0.out.step hb); clear hb) | ((with_reducible refine gate_dst (N := 13) rfl ?_); refine loadRowL_ (ty := 31) _ rfl rfl rfl _ _ _ _ _ rfl (H1.out.blk 0 rfl) Try.underlying31 rfl (by kernel_rfl) ?_) | (go_at_call 9; refine (small_det (H1.out.at 0 rfl) (H1.out.at 1 rfl) HK.out HB.out).mono ?_; rintro e w2 ⟨rfl, hb⟩; have H2 := Aside0.mk (H1.out.step hb); clear hb; rw [HQ.out]; have kb := H2.out.cell 1 rfl 3 rfl))
  clear kb
  go_upto_region 5 with (first | ((with_reducible refine gate_dst (N := 24) rfl ?_); refine loadRowL_ (ty := 31) _ rfl rfl rfl _ _ _ _ _ rfl (H2.out.blk 0 rfl) Try.underlying31 rfl (by kernel_rfl) ?_) | ((with_reducible refine gate_dst (N := 25) rfl ?_); refine loadRowL_ (ty := 33) _ rfl rfl rfl _ _ _ _ _ rfl (H2.out.blk 1 rfl) Try.underlying33 rfl (by kernel_rfl) ?_) | ((with_reducible refine gate_dst (N := 26) rfl ?_); refine loadRowL_ (ty := 35) _ rfl rfl rfl _ _ _ _ _ rfl (H2.out.blk 2 rfl) Try.underlying35 rfl (by kernel_rfl) ?_) | (go_at_call 10; refine (do_at 2 bank cell b cut fb noise bk1 fl1 v1 s1 0 H2.out.dom ((H2.out.sure 0 rfl).and (H2.out.sure 1 rfl)) hn OKB.out OKF.out E1.out E2.out E3.out E4.out E5.out).mono ?_; rintro e u1 ⟨A1, c1, hs1, B1, d1, rfl, hb⟩; have G1 := Aside0.mk (H2.out.call hb); clear hb) | ((with_reducible refine gate_store (t := 31) (p := 8) rfl ?_); refine storeRowSt_ (ty := 31) rfl rfl rfl (hwC (.slice A1 n c1) (.slice B1 m d1) r) (G1.out.alloc2 #[.slice none 0 0, .slice none 0 0, .int .u8 0, .int .u8 0, .int .u8 0, .int .u8 0, .int .u8 0, .int .u8 0, .int .u8 0, .int .u8 0, .int .u8 0, .int .u8 0, .int .u8 0, .int .u8 0, .int .u8 0, .int .u8 0, .int .u8 0, .int .u8 0] 31 #[.int .i64 0, .string ⟨#[]⟩] 40) 3 rfl rfl rfl (by kernel_rfl) rfl (by kernel_rfl) ?_; intro x1 h_; have J1 := Aside0.mk h_; clear h_) | ((with_reducible refine gate_store (t := 40) (p := 9) rfl ?_); refine storeRowSt_ (ty := 40) rfl rfl rfl #[.int .i64 v1, .string s1] J1.out 4 rfl rfl rfl (by kernel_rfl) rfl (by kernel_rfl) ?_; intro y1 h_; have I3 := Aside0.mk (h_.as [(w.heap.size, (hwC (.slice A n d) (.slice B m c) r), 31), (w.heap.size + 1, #[.int .i64 2, .int .i64 bank, .int .i64 cell, .string b], 33), (w.heap.size + 1 + 1, #[.bool cut, .int .i64 fb, .bool noise], 35), (u1.heap.size, (hwC (.slice A1 n c1) (.slice B1 m d1) r), 31), (u1.heap.size + 1, #[.int .i64 v1, .string s1], 40)] rfl); clear h_; have ka := I3.out.cell 1 rfl 0 rfl))
  go_wp2_with (first | ((with_reducible refine gate_dst (N := 49) rfl ?_); refine loadRowL_ (ty := 31) _ rfl rfl rfl _ _ _ _ _ rfl (I3.out.blk 3 rfl) Try.underlying31 rfl (by kernel_rfl) ?_) | ((with_reducible refine gate_store (t := 31) (p := 11) rfl ?_); refine storeRowSt_ (ty := 31) rfl rfl rfl (hwC (.slice A1 n c1) (.slice B1 m d1) r) (I3.out.alloc #[.slice none 0 0, .slice none 0 0, .int .u8 0, .int .u8 0, .int .u8 0, .int .u8 0, .int .u8 0, .int .u8 0, .int .u8 0, .int .u8 0, .int .u8 0, .int .u8 0, .int .u8 0, .int .u8 0, .int .u8 0, .int .u8 0, .int .u8 0, .int .u8 0] 31) 5 rfl rfl rfl (by kernel_rfl) rfl (by kernel_rfl) ?_; intro y2 h_; have K1 := Aside0.mk (h_.as [(w.heap.size, (hwC (.slice A n d) (.slice B m c) r), 31), (w.heap.size + 1, #[.int .i64 2, .int .i64 bank, .int .i64 cell, .string b], 33), (w.heap.size + 1 + 1, #[.bool cut, .int .i64 fb, .bool noise], 35), (u1.heap.size, (hwC (.slice A1 n c1) (.slice B1 m d1) r), 31), (u1.heap.size + 1, #[.int .i64 v1, .string s1], 40), (y1.heap.size, (hwC (.slice A1 n c1) (.slice B1 m d1) r), 31)] rfl); clear h_; have kk := K1.out.cell 1 rfl 0 rfl; have kh : y2.cell? ⟨w.heap.size, 0, none⟩ = some (.slice A n d) := K1.out.cell 0 rfl 0 rfl) | ((with_reducible refine gate_store (t := 24) (p := 55) rfl ?_); refine storeCellSt_ rfl rfl rfl (.slice A n d) K1.out 5 0 rfl rfl rfl ?hr ?_; (case hr => intro w h1 h2; go_simp; try rfl); intro y3 h_; have K2 := Aside0.mk (h_.as [(w.heap.size, (hwC (.slice A n d) (.slice B m c) r), 31), (w.heap.size + 1, #[.int .i64 2, .int .i64 bank, .int .i64 cell, .string b], 33), (w.heap.size + 1 + 1, #[.bool cut, .int .i64 fb, .bool noise], 35), (u1.heap.size, (hwC (.slice A1 n c1) (.slice B1 m d1) r), 31), (u1.heap.size + 1, #[.int .i64 v1, .string s1], 40), (y1.heap.size, (hwC (.slice A n d) (.slice B1 m d1) r), 31)] rfl); clear h_ kk kh) | ((with_reducible refine gate_dst (N := 101) rfl ?_); refine loadRowG_ (ty := 31) _ rfl (by rfl) rfl _ _ _ _ _ rfl (K2.out.blk 5 rfl) Try.underlying31 rfl (by kernel_rfl) ?_) | ((with_reducible refine gate_dst (N := 102) rfl ?_); refine loadRowG_ (ty := 31) _ rfl (by rfl) rfl _ _ _ _ _ rfl (K2.out.blk 0 rfl) Try.underlying31 rfl (by kernel_rfl) ?_) | (go_at_call 15; refine (dsame_q true (K2.out.at 1 rfl) (K2.out.at 0 rfl).2 (K2.out.at 1 rfl) (K2.out.at 2 rfl) SM.out).mono ?_; rintro e z1 ⟨rfl, hb⟩; have K3 := Aside0.mk (K2.out.step hb); clear hb) | ((with_reducible refine gate_dst (N := 107) rfl ?_); refine loadMidG_ (ty := 29) _ rfl (by rfl) rfl _ _ (rtA r) _ rfl (fun j v hv => K3.out.cell 3 rfl (2 + j) (hw_root hv)) Try.underlying29 rfl (by kernel_rfl) ?_) | ((with_reducible refine gate_dst (N := 109) rfl ?_); refine loadMidG_ (ty := 29) _ rfl (by rfl) rfl _ _ (rtA r) _ rfl (fun j v hv => K3.out.cell 0 rfl (2 + j) (hw_root hv)) Try.underlying29 rfl (by kernel_rfl) ?_))
  go_ret
  exact ⟨rfl, K3.out.bel⟩
end Go.Proofs.Ytkfhekocbfednaa.Dv
end
