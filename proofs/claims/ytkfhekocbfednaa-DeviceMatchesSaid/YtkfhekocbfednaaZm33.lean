/- Part 33 of the proof of deviceMatches_holds: what its later parts use. -/
import Derived.Test.YtkfhekocbfednaaZm0
import Derived.Test.YtkfhekocbfednaaZm1
import Derived.Test.YtkfhekocbfednaaZm2
import Derived.Test.YtkfhekocbfednaaZm3
import Derived.Test.YtkfhekocbfednaaZm4
import Derived.Test.YtkfhekocbfednaaZm5
import Derived.Test.YtkfhekocbfednaaZm6
import Derived.Test.YtkfhekocbfednaaZm7
import Derived.Test.YtkfhekocbfednaaZm8
import Derived.Test.YtkfhekocbfednaaZm9
import Derived.Test.YtkfhekocbfednaaZm10
import Derived.Test.YtkfhekocbfednaaZm11
import Derived.Test.YtkfhekocbfednaaZm12
import Derived.Test.YtkfhekocbfednaaZm13
import Derived.Test.YtkfhekocbfednaaZm14
import Derived.Test.YtkfhekocbfednaaZm15
import Derived.Test.YtkfhekocbfednaaZm16
import Derived.Test.YtkfhekocbfednaaZm17
import Derived.Test.YtkfhekocbfednaaZm18
import Derived.Test.YtkfhekocbfednaaZm19
import Derived.Test.YtkfhekocbfednaaZm20
import Derived.Test.YtkfhekocbfednaaZm21
import Derived.Test.YtkfhekocbfednaaZm22
import Derived.Test.YtkfhekocbfednaaZm23
import Derived.Test.YtkfhekocbfednaaZm24
import Derived.Test.YtkfhekocbfednaaZm25
import Derived.Test.YtkfhekocbfednaaZm26
import Derived.Test.YtkfhekocbfednaaZm27
import Derived.Test.YtkfhekocbfednaaZm28
import Derived.Test.YtkfhekocbfednaaZm29
import Derived.Test.YtkfhekocbfednaaZm30
import Derived.Test.YtkfhekocbfednaaZm31
import Derived.Test.YtkfhekocbfednaaZm32
import Derived.Laws.StructEq
section
namespace Go.Proofs.Ytkfhekocbfednaa.Dv
set_option linter.unusedVariables false
set_option linter.unusedSimpArgs false
open Go.RowKit Go.Proofs.Ytkfhekocbfednaa Go.Proofs.YtkfhekocbfednaaW.PrintWords Go.Proofs.YtkfhekocbfednaaW.PrintLast Go.Proofs.YtkfhekocbfednaaW.PrintMore
open Go.Proofs.Ytkfhekocbfednaa.Fu Go.Proofs.Ytkfhekocbfednaa.Fl Go.Proofs.Ytkfhekocbfednaa.PDeviceMatches
attribute [local go_sem] max2_max min2_min max_two min_two
theorem rdo_at {A : Option Addr} {n d : Nat} {hs : List Hdr} {bk : List (List Int)} {B : Option Addr} {m c : Nat} {fl : List ByteArray} {w : World} {S : Nat → Prop} {r : Nat → Int} (kd bank cell : Int) (b : ByteArray) (cut : Bool) (fb : Int) (noise : Bool) (bk' : List (List Int)) (fl' : List ByteArray) (v : Int) (s : ByteArray) (q : Int)
    (hd : ∀ k, S k → k < w.heap.size) (hF : Sure S w (fun w => Fu w A n d hs bk)) (hL : Sure S w (fun w => Fl w B m c fl)) (hn : n ≤ 1000) (hb : OkBk bk) (hf : OkFl fl)
    (e1 : doBk bk fl kd bank cell b cut = bk') (e2 : doFl bk fl kd bank cell b cut fb = fl') (e3 : doV bk fl kd bank cell b cut noise = v) (e4 : doS bk fl kd bank cell b cut = s) (e5 : doE bk fl kd bank cell b = q) :
    Calls Try.prog 11 #[.agg (hwC (.slice A n d) (.slice B m c) r), .agg #[.int .i64 kd, .int .i64 bank, .int .i64 cell, .string b], .agg #[.bool cut, .int .i64 fb, .bool noise]] w (DoRes S n m r bk' fl' v s q w) := by
  subst e1 e2 e3 e4 e5
  exact rdo_any kd bank cell b cut fb noise hd hF hL hn hb hf
def nwR (l : List Int) (r : Nat → Int) : Nat → Int := if newBe l = 0 then r else fun _ => 0
def nwB (l : List Int) : List (List Int) := if newBe l = 0 then newBk l else []
def nwF (l : List Int) : List ByteArray := if newBe l = 0 then newL 128 else []
theorem dnew_u {S : Nat → Prop} {A : Option Addr} {n c : Nat} {l : List Int} {w : World} (r r' : Nat → Int) (bk : List (List Int)) (fl : List ByteArray) (q : Int) (hd : ∀ k, S k → k < w.heap.size) (hr : Kd.C (Kd.int .i64) w A n l) (e1 : nwR l r = r') (e2 : nwB l = bk) (e3 : nwF l = fl) (e4 : newBe l = q) :
    Calls Try.prog 12 #[.agg (rtA r), .slice A n c] w (NewRes S r' bk fl q w) := by
  subst e1 e2 e3
  unfold nwR nwB nwF
  by_cases h : newBe l = 0
  · rw [if_pos h, if_pos h, if_pos h, ← e4, h]; exact dnew_all S r hd hr h
  · rw [if_neg h, if_neg h, if_neg h]; exact dnew_err S r hd hr q (beq_eq_false_iff_ne.2 (e4 ▸ h)) e4
theorem rdnew_u {S : Nat → Prop} {A : Option Addr} {n c : Nat} {l : List Int} {w : World} (r r' : Nat → Int) (bk : List (List Int)) (fl : List ByteArray) (q : Int) (hd : ∀ k, S k → k < w.heap.size) (hr : Kd.C (Kd.int .i64) w A n l) (e1 : nwR l r = r') (e2 : nwB l = bk) (e3 : nwF l = fl) (e4 : newBe l = q) :
    Calls Try.prog 13 #[.agg (rtA r), .slice A n c] w (NewRes S r' bk fl q w) := by
  subst e1 e2 e3
  unfold nwR nwB nwF
  by_cases h : newBe l = 0
  · rw [if_pos h, if_pos h, if_pos h, ← e4, h]; exact rdnew_all S r hd hr h
  · rw [if_neg h, if_neg h, if_neg h]; exact rdnew_err S r hd hr q (beq_eq_false_iff_ne.2 (e4 ▸ h)) e4
theorem rootEq_refl (r : Nat → Int) : rootEq r r = true := by simp [rootEq]
theorem sameH_refl (r : Nat → Int) (fl : List ByteArray) (bk : List (List Int)) : sameH r r fl fl bk bk = true := by
  unfold sameH sameB
  rw [rootEq_refl, decide_eq_true rfl, decide_eq_true rfl]; rfl
section
variable {A : Option Addr} {n d : Nat} {hs : List Hdr} {bk : List (List Int)} {B : Option Addr} {m c : Nat} {fl : List ByteArray} {A' : Option Addr} {n' d' : Nat} {gs : List Hdr} {cl : List (List Int)} {B' : Option Addr} {m' c' : Nat} {gl : List ByteArray} {w : World} {r s : Nat → Int}
theorem dsame_q (q : Bool) (h1 : Fu w A n d hs bk) (h2 : Fl w B m c fl) (h3 : Fu w A' n' d' gs cl) (h4 : Fl w B' m' c' gl) (e : sameH r s fl gl bk cl = q) :
    Calls Try.prog 15 #[.agg (hwC (.slice A n d) (.slice B m c) r), .agg (hwC (.slice A' n' d') (.slice B' m' c') s)] w fun e w' => e = .returned (.bool q) ∧ Below w.heap.size w w' := by rw [← e]; exact dsame_any h1 h2 h3 h4
theorem rsame_q (q : Bool) (h1 : Fu w A n d hs bk) (h2 : Fl w B m c fl) (h3 : Fu w A' n' d' gs cl) (h4 : Fl w B' m' c' gl) (e : sameH r s fl gl bk cl = q) :
    Calls Try.prog 14 #[.agg (hwC (.slice A n d) (.slice B m c) r), .agg (hwC (.slice A' n' d') (.slice B' m' c') s)] w fun e w' => e = .returned (.bool q) ∧ Below w.heap.size w w' := by rw [← e]; exact rsame_any h1 h2 h3 h4
end
set_option maxRecDepth 100000 in
set_option maxHeartbeats 64000000 in
theorem matches0 (SAN : ∀ w, Calls Try.prog 8 #[] w fun e w' => e = .returned (.bool true) ∧ Below w.heap.size w w') {A : Option Addr} {n d : Nat} {hs : List Hdr} {bk : List (List Int)} {B : Option Addr} {m c : Nat} {fl : List ByteArray} {w : World} (r : Nat → Int)
    (kd bank cell : Int) (b : ByteArray) (cut : Bool) (fb : Int) (noise : Bool) {C : Option Addr} {nb cb : Nat} {bits : List Int} (hF : Fu w A n d hs bk) (hL : Fl w B m c fl) (hC : Kd.C (Kd.int .i64) w C nb bits) {k : Nat} {vb : Bool} (hk : bootchainref07_Valid.f k bk = some vb) (hb : vb = true → Ok3 bk ∧ bk.length ≤ 4) (hq : smallB vb m fl = false) :
    Calls Try.prog 3 #[.agg (hwC (.slice A n d) (.slice B m c) r), .agg #[.int .i64 kd, .int .i64 bank, .int .i64 cell, .string b], .agg #[.bool cut, .int .i64 fb, .bool noise], .slice C nb cb] w fun e w' => e = .returned (.bool true) ∧ Below w.heap.size w w' := by
  have H0 := Aside0.mk ((St.enter3 (fun _ h => h) (sureFu hF) (sureFl hL) (sureInts hC)).alloc3 (hwC (.slice A n d) (.slice B m c) r) 31 #[.int .i64 kd, .int .i64 bank, .int .i64 cell, .string b] 33 #[.bool cut, .int .i64 fb, .bool noise] 35)
  have SN := Aside0.mk SAN
  have HK := Aside0.mk hk
  have HB := Aside0.mk hb
  have HQ := Aside0.mk hq
  clear hq
  clear hF hL hC hk hb SAN
  go_enter Try.func3, Try.ntmps3
  go_wp2_with (first | (go_at_call 8; refine (SN.out _).mono ?_; rintro e w1 ⟨rfl, hb⟩; have H1 := Aside0.mk (H0.out.step hb); clear hb) | ((with_reducible refine gate_dst (N := 21) rfl ?_); refine loadRowL_ (ty := 31) _ rfl rfl rfl _ _ _ _ _ rfl (H1.out.blk 0 rfl) Try.underlying31 rfl (by kernel_rfl) ?_) | (go_at_call 9; refine (small_det (H1.out.at 0 rfl) (H1.out.at 1 rfl) HK.out HB.out).mono ?_; rintro e w2 ⟨rfl, hb⟩; have H2 := Aside0.mk (H1.out.step hb); clear hb; rw [HQ.out]; have kb := H2.out.cell 1 rfl 3 rfl))
  go_ret
  exact ⟨rfl, H2.out.bel⟩
set_option maxRecDepth 100000 in
set_option maxHeartbeats 64000000 in
theorem matches1 (SAN : ∀ w, Calls Try.prog 8 #[] w fun e w' => e = .returned (.bool true) ∧ Below w.heap.size w w') {A : Option Addr} {n d : Nat} {hs : List Hdr} {bk : List (List Int)} {B : Option Addr} {m c : Nat} {fl : List ByteArray} {w : World} (r : Nat → Int)
    (kd bank cell : Int) (b : ByteArray) (cut : Bool) (fb : Int) (noise : Bool) {C : Option Addr} {nb cb : Nat} {bits : List Int} (hF : Fu w A n d hs bk) (hL : Fl w B m c fl) (hC : Kd.C (Kd.int .i64) w C nb bits) {k : Nat} {vb : Bool} (hk : bootchainref07_Valid.f k bk = some vb) (hb : vb = true → Ok3 bk ∧ bk.length ≤ 4) (hq : smallB vb m fl = true) (hz : 300 < (b.size : Int)) :
    Calls Try.prog 3 #[.agg (hwC (.slice A n d) (.slice B m c) r), .agg #[.int .i64 kd, .int .i64 bank, .int .i64 cell, .string b], .agg #[.bool cut, .int .i64 fb, .bool noise], .slice C nb cb] w fun e w' => e = .returned (.bool true) ∧ Below w.heap.size w w' := by
  have H0 := Aside0.mk ((St.enter3 (fun _ h => h) (sureFu hF) (sureFl hL) (sureInts hC)).alloc3 (hwC (.slice A n d) (.slice B m c) r) 31 #[.int .i64 kd, .int .i64 bank, .int .i64 cell, .string b] 33 #[.bool cut, .int .i64 fb, .bool noise] 35)
  have SN := Aside0.mk SAN
  have HK := Aside0.mk hk
  have HB := Aside0.mk hb
  have HQ := Aside0.mk hq
  clear hq
  clear hF hL hC hk hb SAN
  go_enter Try.func3, Try.ntmps3
  go_wp2_with (first | (go_at_call 8; refine (SN.out _).mono ?_; rintro e w1 ⟨rfl, hb⟩; have H1 := Aside0.mk (H0.out.step hb); clear hb) | ((with_reducible refine gate_dst (N := 21) rfl ?_); refine loadRowL_ (ty := 31) _ rfl rfl rfl _ _ _ _ _ rfl (H1.out.blk 0 rfl) Try.underlying31 rfl (by kernel_rfl) ?_) | (go_at_call 9; refine (small_det (H1.out.at 0 rfl) (H1.out.at 1 rfl) HK.out HB.out).mono ?_; rintro e w2 ⟨rfl, hb⟩; have H2 := Aside0.mk (H1.out.step hb); clear hb; rw [HQ.out]; have kb := H2.out.cell 1 rfl 3 rfl))
  go_ret
  exact ⟨rfl, H2.out.bel⟩
set_option maxRecDepth 100000 in
set_option maxHeartbeats 64000000 in
theorem matches2 (SAN : ∀ w, Calls Try.prog 8 #[] w fun e w' => e = .returned (.bool true) ∧ Below w.heap.size w w') {A : Option Addr} {n d : Nat} {hs : List Hdr} {bk : List (List Int)} {B : Option Addr} {m c : Nat} {fl : List ByteArray} {w : World} (r : Nat → Int)
    (kd bank cell : Int) (b : ByteArray) (cut : Bool) (fb : Int) (noise : Bool) {C : Option Addr} {nb cb : Nat} {bits : List Int} (hF : Fu w A n d hs bk) (hL : Fl w B m c fl) (hC : Kd.C (Kd.int .i64) w C nb bits) {k : Nat} {vb : Bool} (hk : bootchainref07_Valid.f k bk = some vb) (hb : vb = true → Ok3 bk ∧ bk.length ≤ 4) (hq : smallB vb m fl = true) (hz : (b.size : Int) ≤ 300) (hy : 6 < (nb : Int)) :
    Calls Try.prog 3 #[.agg (hwC (.slice A n d) (.slice B m c) r), .agg #[.int .i64 kd, .int .i64 bank, .int .i64 cell, .string b], .agg #[.bool cut, .int .i64 fb, .bool noise], .slice C nb cb] w fun e w' => e = .returned (.bool true) ∧ Below w.heap.size w w' := by
  have H0 := Aside0.mk ((St.enter3 (fun _ h => h) (sureFu hF) (sureFl hL) (sureInts hC)).alloc3 (hwC (.slice A n d) (.slice B m c) r) 31 #[.int .i64 kd, .int .i64 bank, .int .i64 cell, .string b] 33 #[.bool cut, .int .i64 fb, .bool noise] 35)
  have SN := Aside0.mk SAN
  have HK := Aside0.mk hk
  have HB := Aside0.mk hb
  have HQ := Aside0.mk hq
  clear hq
  clear hF hL hC hk hb SAN
  go_enter Try.func3, Try.ntmps3
  go_wp2_with (first | (go_at_call 8; refine (SN.out _).mono ?_; rintro e w1 ⟨rfl, hb⟩; have H1 := Aside0.mk (H0.out.step hb); clear hb) | ((with_reducible refine gate_dst (N := 21) rfl ?_); refine loadRowL_ (ty := 31) _ rfl rfl rfl _ _ _ _ _ rfl (H1.out.blk 0 rfl) Try.underlying31 rfl (by kernel_rfl) ?_) | (go_at_call 9; refine (small_det (H1.out.at 0 rfl) (H1.out.at 1 rfl) HK.out HB.out).mono ?_; rintro e w2 ⟨rfl, hb⟩; have H2 := Aside0.mk (H1.out.step hb); clear hb; rw [HQ.out]; have kb := H2.out.cell 1 rfl 3 rfl))
  go_ret
  exact ⟨rfl, H2.out.bel⟩
set_option maxRecDepth 100000 in
set_option maxHeartbeats 64000000 in
theorem matches3 (SAN : ∀ w, Calls Try.prog 8 #[] w fun e w' => e = .returned (.bool true) ∧ Below w.heap.size w w') {A : Option Addr} {n d : Nat} {hs : List Hdr} {bk : List (List Int)} {B : Option Addr} {m c : Nat} {fl : List ByteArray} {w : World} (r : Nat → Int)
    (kd bank cell : Int) (b : ByteArray) (cut : Bool) (fb : Int) (noise : Bool) {C : Option Addr} {nb cb : Nat} {bits : List Int} (hF : Fu w A n d hs bk) (hL : Fl w B m c fl) (hC : Kd.C (Kd.int .i64) w C nb bits) {k : Nat} {vb : Bool} (hk : bootchainref07_Valid.f k bk = some vb) (hb : vb = true → Ok3 bk ∧ bk.length ≤ 4) (hq : smallB vb m fl = true) (hz : (b.size : Int) ≤ 300) (hy : (nb : Int) ≤ 6) (h0 : ∀ xs ∈ bk, ∀ c ∈ xs, 0 ≤ c) :
    Calls Try.prog 3 #[.agg (hwC (.slice A n d) (.slice B m c) r), .agg #[.int .i64 kd, .int .i64 bank, .int .i64 cell, .string b], .agg #[.bool cut, .int .i64 fb, .bool noise], .slice C nb cb] w fun e w' => e = .returned (.bool true) ∧ Below w.heap.size w w' := by
  have H0 := Aside0.mk ((St.enter3 (fun _ h => h) (sureFu hF) (sureFl hL) (sureInts hC)).alloc3 (hwC (.slice A n d) (.slice B m c) r) 31 #[.int .i64 kd, .int .i64 bank, .int .i64 cell, .string b] 33 #[.bool cut, .int .i64 fb, .bool noise] 35)
  have SN := Aside0.mk SAN
  have HK := Aside0.mk hk
  have HB := Aside0.mk hb
  have HQ := Aside0.mk hq
  have FT := small_fits hL.C.1 hb hq
  have OKB := Aside0.mk (OkBk_of FT.1 h0)
  have OKF := Aside0.mk (⟨by have := FT.2.2.1; omega, FT.2.2.2⟩ : OkFl fl)
  have hn : n ≤ 1000 := by have := hF.len; have := FT.2.1; omega
  obtain ⟨bk1, hE1⟩ : ∃ y, doBk bk fl kd bank cell b cut = y := ⟨_, rfl⟩
  obtain ⟨fl1, hE2⟩ : ∃ y, doFl bk fl kd bank cell b cut fb = y := ⟨_, rfl⟩
  obtain ⟨v1, hE3⟩ : ∃ y, doV bk fl kd bank cell b cut noise = y := ⟨_, rfl⟩
  obtain ⟨s1, hE4⟩ : ∃ y, doS bk fl kd bank cell b cut = y := ⟨_, rfl⟩
  obtain ⟨q1, hE5⟩ : ∃ y, doE bk fl kd bank cell b = y := ⟨_, rfl⟩
  obtain ⟨rN, hN1⟩ : ∃ y, nwR bits r = y := ⟨_, rfl⟩
  obtain ⟨bN, hN2⟩ : ∃ y, nwB bits = y := ⟨_, rfl⟩
  obtain ⟨fN, hN3⟩ : ∃ y, nwF bits = y := ⟨_, rfl⟩
  obtain ⟨qN, hN4⟩ : ∃ y, newBe bits = y := ⟨_, rfl⟩
  obtain ⟨qS, hQS⟩ : ∃ y, sameH r r fl fl1 bk bk1 = y := ⟨_, rfl⟩
  have E1 := Aside0.mk hE1
  have E2 := Aside0.mk hE2
  have E3 := Aside0.mk hE3
  have E4 := Aside0.mk hE4
  have E5 := Aside0.mk hE5
  have N1 := Aside0.mk hN1
  have N2 := Aside0.mk hN2
  have N3 := Aside0.mk hN3
  have N4 := Aside0.mk hN4
  have QS := Aside0.mk hQS
  clear hF hL hC hk hb SAN hE1 hE2 hE3 hE4 hE5 hN1 hN2 hN3 hN4 hQS FT hq h0
  go_enter Try.func3, Try.ntmps3
  go_upto_region 4 with (first | (go_at_call 8; refine (SN.out _).mono ?_; rintro e w1 ⟨rfl, hb⟩; have H1 := Aside0.mk (H0.out.step hb); clear hb) | ((with_reducible refine gate_dst (N := 21) rfl ?_); refine loadRowL_ (ty := 31) _ rfl rfl rfl _ _ _ _ _ rfl (H1.out.blk 0 rfl) Try.underlying31 rfl (by kernel_rfl) ?_) | (go_at_call 9; refine (small_det (H1.out.at 0 rfl) (H1.out.at 1 rfl) HK.out HB.out).mono ?_; rintro e w2 ⟨rfl, hb⟩; have H2 := Aside0.mk (H1.out.step hb); clear hb; rw [HQ.out]; have kb := H2.out.cell 1 rfl 3 rfl))
  clear kb
  go_upto_region 5 with (first | ((with_reducible refine gate_dst (N := 37) rfl ?_); refine loadRowL_ (ty := 31) _ rfl rfl rfl _ _ _ _ _ rfl (H2.out.blk 0 rfl) Try.underlying31 rfl (by kernel_rfl) ?_) | ((with_reducible refine gate_dst (N := 38) rfl ?_); refine loadRowL_ (ty := 33) _ rfl rfl rfl _ _ _ _ _ rfl (H2.out.blk 1 rfl) Try.underlying33 rfl (by kernel_rfl) ?_) | ((with_reducible refine gate_dst (N := 39) rfl ?_); refine loadRowL_ (ty := 35) _ rfl rfl rfl _ _ _ _ _ rfl (H2.out.blk 2 rfl) Try.underlying35 rfl (by kernel_rfl) ?_) | (go_at_call 10; refine (do_at kd bank cell b cut fb noise bk1 fl1 v1 s1 q1 H2.out.dom ((H2.out.sure 0 rfl).and (H2.out.sure 1 rfl)) hn OKB.out OKF.out E1.out E2.out E3.out E4.out E5.out).mono ?_; rintro e u1 ⟨A1, c1, hs1, B1, d1, rfl, hb⟩; have G1 := Aside0.mk (H2.out.call hb); clear hb) | ((with_reducible refine gate_store (t := 31) (p := 10) rfl ?_); refine storeRowSt_ (ty := 31) rfl rfl rfl (hwC (.slice A1 n c1) (.slice B1 m d1) r) (G1.out.alloc2 #[.slice none 0 0, .slice none 0 0, .int .u8 0, .int .u8 0, .int .u8 0, .int .u8 0, .int .u8 0, .int .u8 0, .int .u8 0, .int .u8 0, .int .u8 0, .int .u8 0, .int .u8 0, .int .u8 0, .int .u8 0, .int .u8 0, .int .u8 0, .int .u8 0] 31 #[.int .i64 0, .string ⟨#[]⟩] 40) 3 rfl rfl rfl (by kernel_rfl) rfl (by kernel_rfl) ?_; intro x1 h_; have J1 := Aside0.mk h_; clear h_) | ((with_reducible refine gate_store (t := 40) (p := 11) rfl ?_); refine storeRowSt_ (ty := 40) rfl rfl rfl #[.int .i64 v1, .string s1] J1.out 4 rfl rfl rfl (by kernel_rfl) rfl (by kernel_rfl) ?_; intro y1 h_; have H3 := Aside0.mk (h_.as [(w.heap.size, (hwC (.slice A n d) (.slice B m c) r), 31), (w.heap.size + 1, #[.int .i64 kd, .int .i64 bank, .int .i64 cell, .string b], 33), (w.heap.size + 1 + 1, #[.bool cut, .int .i64 fb, .bool noise], 35), (u1.heap.size, (hwC (.slice A1 n c1) (.slice B1 m d1) r), 31), (u1.heap.size + 1, #[.int .i64 v1, .string s1], 40)] rfl); clear h_))
  go_upto_region 6 with (first | ((with_reducible refine gate_dst (N := 45) rfl ?_); refine loadRowL_ (ty := 31) _ rfl rfl rfl _ _ _ _ _ rfl (H3.out.blk 0 rfl) Try.underlying31 rfl (by kernel_rfl) ?_) | ((with_reducible refine gate_dst (N := 46) rfl ?_); refine loadRowL_ (ty := 33) _ rfl rfl rfl _ _ _ _ _ rfl (H3.out.blk 1 rfl) Try.underlying33 rfl (by kernel_rfl) ?_) | ((with_reducible refine gate_dst (N := 47) rfl ?_); refine loadRowL_ (ty := 35) _ rfl rfl rfl _ _ _ _ _ rfl (H3.out.blk 2 rfl) Try.underlying35 rfl (by kernel_rfl) ?_) | (go_at_call 11; refine (rdo_at kd bank cell b cut fb noise bk1 fl1 v1 s1 q1 H3.out.dom (H3.out.sure 1 rfl) (H3.out.sure 2 rfl) hn OKB.out OKF.out E1.out E2.out E3.out E4.out E5.out).mono ?_; rintro e u2 ⟨A2, c2, hs2, B2, d2, rfl, hb⟩; have G2 := Aside0.mk (H3.out.call hb); clear hb) | ((with_reducible refine gate_store (t := 31) (p := 13) rfl ?_); refine storeRowSt_ (ty := 31) rfl rfl rfl (hwC (.slice A2 n c2) (.slice B2 m d2) r) (G2.out.alloc2 #[.slice none 0 0, .slice none 0 0, .int .u8 0, .int .u8 0, .int .u8 0, .int .u8 0, .int .u8 0, .int .u8 0, .int .u8 0, .int .u8 0, .int .u8 0, .int .u8 0, .int .u8 0, .int .u8 0, .int .u8 0, .int .u8 0, .int .u8 0, .int .u8 0] 31 #[.int .i64 0, .string ⟨#[]⟩] 40) 5 rfl rfl rfl (by kernel_rfl) rfl (by kernel_rfl) ?_; intro x2 h_; have J2 := Aside0.mk h_; clear h_) | ((with_reducible refine gate_store (t := 40) (p := 14) rfl ?_); refine storeRowSt_ (ty := 40) rfl rfl rfl #[.int .i64 v1, .string s1] J2.out 6 rfl rfl rfl (by kernel_rfl) rfl (by kernel_rfl) ?_; intro y2 h_; have H4 := Aside0.mk (h_.as [(w.heap.size, (hwC (.slice A n d) (.slice B m c) r), 31), (w.heap.size + 1, #[.int .i64 kd, .int .i64 bank, .int .i64 cell, .string b], 33), (w.heap.size + 1 + 1, #[.bool cut, .int .i64 fb, .bool noise], 35), (u1.heap.size, (hwC (.slice A1 n c1) (.slice B1 m d1) r), 31), (u1.heap.size + 1, #[.int .i64 v1, .string s1], 40), (u2.heap.size, (hwC (.slice A2 n c2) (.slice B2 m d2) r), 31), (u2.heap.size + 1, #[.int .i64 v1, .string s1], 40)] rfl); clear h_))
  go_upto_region 7 with (first | ((with_reducible refine gate_dst (N := 54) rfl ?_); refine loadMidL_ (ty := 29) _ rfl rfl rfl _ _ (rtA r) _ rfl (fun j v hv => H4.out.cell 0 rfl (2 + j) (hw_root hv)) Try.underlying29 rfl (by kernel_rfl) ?_) | (go_at_call 12; refine (dnew_u r rN bN fN qN H4.out.dom (H4.out.at 4 rfl) N1.out N2.out N3.out N4.out).mono ?_; rintro e u3 ⟨A3, c3, hs3, B3, d3, rfl, hb⟩; have G3 := Aside0.mk (H4.out.call hb); clear hb) | ((with_reducible refine gate_store (t := 31) (p := 16) rfl ?_); refine storeRowSt_ (ty := 31) rfl rfl rfl (hwC (.slice A3 bN.length c3) (.slice B3 fN.length d3) rN) (G3.out.alloc #[.slice none 0 0, .slice none 0 0, .int .u8 0, .int .u8 0, .int .u8 0, .int .u8 0, .int .u8 0, .int .u8 0, .int .u8 0, .int .u8 0, .int .u8 0, .int .u8 0, .int .u8 0, .int .u8 0, .int .u8 0, .int .u8 0, .int .u8 0, .int .u8 0] 31) 7 rfl rfl rfl (by kernel_rfl) rfl (by kernel_rfl) ?_; intro x3 h_; have H5 := Aside0.mk (h_.as [(w.heap.size, (hwC (.slice A n d) (.slice B m c) r), 31), (w.heap.size + 1, #[.int .i64 kd, .int .i64 bank, .int .i64 cell, .string b], 33), (w.heap.size + 1 + 1, #[.bool cut, .int .i64 fb, .bool noise], 35), (u1.heap.size, (hwC (.slice A1 n c1) (.slice B1 m d1) r), 31), (u1.heap.size + 1, #[.int .i64 v1, .string s1], 40), (u2.heap.size, (hwC (.slice A2 n c2) (.slice B2 m d2) r), 31), (u2.heap.size + 1, #[.int .i64 v1, .string s1], 40), (u3.heap.size, (hwC (.slice A3 bN.length c3) (.slice B3 fN.length d3) rN), 31)] rfl); clear h_))
  go_upto_region 8 with (first | ((with_reducible refine gate_dst (N := 61) rfl ?_); refine loadMidL_ (ty := 29) _ rfl rfl rfl _ _ (rtA r) _ rfl (fun j v hv => H5.out.cell 0 rfl (2 + j) (hw_root hv)) Try.underlying29 rfl (by kernel_rfl) ?_) | (go_at_call 13; refine (rdnew_u r rN bN fN qN H5.out.dom (H5.out.at 5 rfl) N1.out N2.out N3.out N4.out).mono ?_; rintro e u4 ⟨A4, c4, hs4, B4, d4, rfl, hb⟩; have G4 := Aside0.mk (H5.out.call hb); clear hb) | ((with_reducible refine gate_store (t := 31) (p := 18) rfl ?_); refine storeRowSt_ (ty := 31) rfl rfl rfl (hwC (.slice A4 bN.length c4) (.slice B4 fN.length d4) rN) (G4.out.alloc #[.slice none 0 0, .slice none 0 0, .int .u8 0, .int .u8 0, .int .u8 0, .int .u8 0, .int .u8 0, .int .u8 0, .int .u8 0, .int .u8 0, .int .u8 0, .int .u8 0, .int .u8 0, .int .u8 0, .int .u8 0, .int .u8 0, .int .u8 0, .int .u8 0] 31) 8 rfl rfl rfl (by kernel_rfl) rfl (by kernel_rfl) ?_; intro x4 h_; have H6 := Aside0.mk (h_.as [(w.heap.size, (hwC (.slice A n d) (.slice B m c) r), 31), (w.heap.size + 1, #[.int .i64 kd, .int .i64 bank, .int .i64 cell, .string b], 33), (w.heap.size + 1 + 1, #[.bool cut, .int .i64 fb, .bool noise], 35), (u1.heap.size, (hwC (.slice A1 n c1) (.slice B1 m d1) r), 31), (u1.heap.size + 1, #[.int .i64 v1, .string s1], 40), (u2.heap.size, (hwC (.slice A2 n c2) (.slice B2 m d2) r), 31), (u2.heap.size + 1, #[.int .i64 v1, .string s1], 40), (u3.heap.size, (hwC (.slice A3 bN.length c3) (.slice B3 fN.length d3) rN), 31), (u4.heap.size, (hwC (.slice A4 bN.length c4) (.slice B4 fN.length d4) rN), 31)] rfl); clear h_))
  refine start_ (n := 36) (S := (fun w' => w'.heap[u1.heap.size]? = some (.cells (hwC (.slice A1 n c1) (.slice B1 m d1) r) 31) ∧ w'.heap[(u1.heap.size + 1)]? = some (.cells #[.int .i64 v1, .string s1] 40) ∧ w'.heap[u2.heap.size]? = some (.cells (hwC (.slice A2 n c2) (.slice B2 m d2) r) 31) ∧ w'.heap[(u2.heap.size + 1)]? = some (.cells #[.int .i64 v1, .string s1] 40) ∧ w'.heap[w.heap.size]? = some (.cells (hwC (.slice A n d) (.slice B m c) r) 31) ∧ w'.heap[u3.heap.size]? = some (.cells (hwC (.slice A3 bN.length c3) (.slice B3 fN.length d3) rN) 31) ∧ w'.heap[u4.heap.size]? = some (.cells (hwC (.slice A4 bN.length c4) (.slice B4 fN.length d4) rN) 31))) (ds := []) #[false, false, false, false, false, false, false, false, false, false, false, false, false, false, false, false, false, false, false, false, false, false, false, false, false, false, false, false, false, false, false, false, false, false, false, false] (by kernel_rfl) rfl rfl ⟨H6.out.drew.blk 3 rfl, H6.out.drew.blk 4 rfl, H6.out.drew.blk 5 rfl, H6.out.drew.blk 6 rfl, H6.out.drew.blk 0 rfl, H6.out.drew.blk 7 rfl, H6.out.drew.blk 8 rfl⟩ (fun hHeld => ?_)
  refine pure_ (i := 0) (N := (some 66)) (v := ?_) (a' := ?_) #[true, false, false, false, false, false, false, false, false, false, false, false, false, false, false, false, false, false, false, false, false, false, false, false, false, false, false, false, false, false, false, false, false, false, false, false] rfl rfl (by kernel_rfl) (fun _ _ _ h => h) (Or.inl ⟨by rfl, ?_⟩) ?_ ?_
  rotate_left
  · intro w'
    go_simp
    try with_reducible rfl
  rotate_left
  · simp only [Act.put, List.setIfInBounds_toArray, List.set_cons_zero, List.set_cons_succ, i64_w, i32_w]
    rfl
  refine pure_ (i := 1) (N := (some 67)) (v := ?_) (a' := ?_) #[true, true, false, false, false, false, false, false, false, false, false, false, false, false, false, false, false, false, false, false, false, false, false, false, false, false, false, false, false, false, false, false, false, false, false, false] rfl rfl (by kernel_rfl) (fun _ _ _ h => h) (Or.inl ⟨by rfl, ?_⟩) ?_ ?_
  rotate_left
  · intro w'
    go_simp
    try with_reducible rfl
  rotate_left
  · simp only [Act.put, List.setIfInBounds_toArray, List.set_cons_zero, List.set_cons_succ, i64_w, i32_w]
    rfl
  refine take_ (i := 2) (N := (some 68)) (v := ?_) (a' := ?_) #[true, true, true, false, false, false, false, false, false, false, false, false, false, false, false, false, false, false, false, false, false, false, false, false, false, false, false, false, false, false, false, false, false, false, false, false] rfl rfl (by kernel_rfl) (fun _ _ _ h => h) (Or.inl ⟨by rfl, ?_⟩) hHeld ?_ ?_
  rotate_left
  · rintro w' ⟨s0, s1, s2, s3, s4, s5, s6⟩
    refine load_row (ty := 31) (p := .tmp 10) _ _ _ _ _ ?p1 ?p2 s0 Try.underlying31 ?p4 ?p5; (case p1 => rfl); (case p2 => rfl); (case p4 => rfl); (case p5 => kernel_rfl)
  rotate_left
  · simp only [Act.put, List.setIfInBounds_toArray, List.set_cons_zero, List.set_cons_succ, i64_w, i32_w]
    rfl
  refine take_ (i := 3) (N := (some 69)) (v := ?_) (a' := ?_) #[true, true, true, true, false, false, false, false, false, false, false, false, false, false, false, false, false, false, false, false, false, false, false, false, false, false, false, false, false, false, false, false, false, false, false, false] rfl rfl (by kernel_rfl) (fun _ _ _ h => h) (Or.inl ⟨by rfl, ?_⟩) hHeld ?_ ?_
  rotate_left
  · rintro w' ⟨s0, s1, s2, s3, s4, s5, s6⟩
    refine load_row (ty := 31) (p := .tmp 13) _ _ _ _ _ ?p1 ?p2 s2 Try.underlying31 ?p4 ?p5; (case p1 => rfl); (case p2 => rfl); (case p4 => rfl); (case p5 => kernel_rfl)
  rotate_left
  · simp only [Act.put, List.setIfInBounds_toArray, List.set_cons_zero, List.set_cons_succ, i64_w, i32_w]
    rfl
  refine one_ (i := 4) (N := (some 70)) #[true, true, true, true, true, false, false, false, false, false, false, false, false, false, false, false, false, false, false, false, false, false, false, false, false, false, false, false, false, false, false, false, false, false, false, false] rfl rfl (by kernel_rfl) (by decide) (fun K hK => ?_)
  refine goes_ Try.func14 (by kernel_rfl) rfl #[.agg (hwC (.slice A1 n c1) (.slice B1 m d1) r), .agg (hwC (.slice A2 n c2) (.slice B2 m d2) r)] (by rfl) rfl rfl ?hargs ((rsame_q true (H6.out.drew.at 3 rfl).1 (H6.out.drew.at 3 rfl).2 (H6.out.drew.at 2 rfl).1 (H6.out.drew.at 2 rfl).2 (sameH_refl r fl1 bk1)).mono ?_)
  case hargs => first | rfl | (go_simp; done) | kernel_rfl
  rintro e z1 ⟨rfl, hb⟩
  refine ⟨_, rfl, ?_⟩
  have H7 := Aside0.mk (H6.out.drew.step hb)
  clear hb
  refine hK.out _ _ ⟨H7.out.blk 3 rfl, H7.out.blk 4 rfl, H7.out.blk 5 rfl, H7.out.blk 6 rfl, H7.out.blk 0 rfl, H7.out.blk 7 rfl, H7.out.blk 8 rfl⟩ (fun hHeld => ?_)
  clear hK K
  refine norm_ (a' := ?_) ?_ ?_
  rotate_left
  · show Act.put _ (some 70) _ = _
    simp only [Act.put, List.setIfInBounds_toArray, List.set_cons_zero, List.set_cons_succ, i64_w, i32_w]
    rfl
  refine pure_ (i := 5) (N := (some 71)) (v := ?_) (a' := ?_) #[true, true, true, true, true, true, false, false, false, false, false, false, false, false, false, false, false, false, false, false, false, false, false, false, false, false, false, false, false, false, false, false, false, false, false, false] rfl rfl (by kernel_rfl) (fun _ _ _ h => h) (Or.inl ⟨by rfl, ?_⟩) ?_ ?_
  rotate_left
  · intro w'
    go_simp
    try with_reducible rfl
  rotate_left
  · simp only [Act.put, List.setIfInBounds_toArray, List.set_cons_zero, List.set_cons_succ, i64_w, i32_w]
    rfl
  refine pure_ (i := 6) (N := (some 72)) (v := ?_) (a' := ?_) #[true, true, true, true, true, true, true, false, false, false, false, false, false, false, false, false, false, false, false, false, false, false, false, false, false, false, false, false, false, false, false, false, false, false, false, false] rfl rfl (by kernel_rfl) (fun _ _ _ h => h) (Or.inl ⟨by rfl, ?_⟩) ?_ ?_
  rotate_left
  · intro w'
    go_simp
    try with_reducible rfl
  rotate_left
  · simp only [Act.put, List.setIfInBounds_toArray, List.set_cons_zero, List.set_cons_succ, i64_w, i32_w]
    rfl
  refine take_ (i := 7) (N := (some 73)) (v := ?_) (a' := ?_) #[true, true, true, true, true, true, true, true, false, false, false, false, false, false, false, false, false, false, false, false, false, false, false, false, false, false, false, false, false, false, false, false, false, false, false, false] rfl rfl (by kernel_rfl) (fun _ _ _ h => h) (Or.inl ⟨by rfl, ?_⟩) hHeld ?_ ?_
  rotate_left
  · rintro w' ⟨s0, s1, s2, s3, s4, s5, s6⟩
    refine load_row (ty := 40) (p := .tmp 11) _ _ _ _ _ ?p1 ?p2 s1 Try.underlying40 ?p4 ?p5; (case p1 => rfl); (case p2 => rfl); (case p4 => rfl); (case p5 => kernel_rfl)
  rotate_left
  · simp only [Act.put, List.setIfInBounds_toArray, List.set_cons_zero, List.set_cons_succ, i64_w, i32_w]
    rfl
  refine take_ (i := 8) (N := (some 74)) (v := ?_) (a' := ?_) #[true, true, true, true, true, true, true, true, true, false, false, false, false, false, false, false, false, false, false, false, false, false, false, false, false, false, false, false, false, false, false, false, false, false, false, false] rfl rfl (by kernel_rfl) (fun _ _ _ h => h) (Or.inl ⟨by rfl, ?_⟩) hHeld ?_ ?_
  rotate_left
  · rintro w' ⟨s0, s1, s2, s3, s4, s5, s6⟩
    refine load_row (ty := 40) (p := .tmp 14) _ _ _ _ _ ?p1 ?p2 s3 Try.underlying40 ?p4 ?p5; (case p1 => rfl); (case p2 => rfl); (case p4 => rfl); (case p5 => kernel_rfl)
  rotate_left
  · simp only [Act.put, List.setIfInBounds_toArray, List.set_cons_zero, List.set_cons_succ, i64_w, i32_w]
    rfl
  refine pure_ (i := 9) (N := (some 75)) (v := ?_) (a' := ?_) #[true, true, true, true, true, true, true, true, true, true, false, false, false, false, false, false, false, false, false, false, false, false, false, false, false, false, false, false, false, false, false, false, false, false, false, false] rfl rfl (by kernel_rfl) (fun _ _ _ h => h) (Or.inl ⟨by rfl, ?_⟩) ?_ ?_
  rotate_left
  · intro w'
    go_simp
    try with_reducible rfl
  rotate_left
  · simp only [Act.put, List.setIfInBounds_toArray, List.set_cons_zero, List.set_cons_succ, i64_w, i32_w]
    rfl
  refine pure_ (i := 10) (N := (some 76)) (v := ?_) (a' := ?_) #[true, true, true, true, true, true, true, true, true, true, true, false, false, false, false, false, false, false, false, false, false, false, false, false, false, false, false, false, false, false, false, false, false, false, false, false] rfl rfl (by kernel_rfl) (fun _ _ _ h => h) (Or.inl ⟨by rfl, ?_⟩) ?_ ?_
  rotate_left
  · intro w'
    go_simp
    try with_reducible rfl
  rotate_left
  · simp only [Act.put, List.setIfInBounds_toArray, List.set_cons_zero, List.set_cons_succ, i64_w, i32_w]
    rfl
  refine pure_ (i := 11) (N := (some 77)) (v := ?_) (a' := ?_) #[true, true, true, true, true, true, true, true, true, true, true, true, false, false, false, false, false, false, false, false, false, false, false, false, false, false, false, false, false, false, false, false, false, false, false, false] rfl rfl (by kernel_rfl) (fun _ _ _ h => h) (Or.inl ⟨by rfl, ?_⟩) ?_ ?_
  rotate_left
  · intro w'
    go_simp
    try with_reducible rfl
  rotate_left
  · simp only [Act.put, List.setIfInBounds_toArray, List.set_cons_zero, List.set_cons_succ, i64_w, i32_w]
    rfl
  refine pure_ (i := 12) (N := (some 78)) (v := ?_) (a' := ?_) #[true, true, true, true, true, true, true, true, true, true, true, true, true, false, false, false, false, false, false, false, false, false, false, false, false, false, false, false, false, false, false, false, false, false, false, false] rfl rfl (by kernel_rfl) (fun _ _ _ h => h) (Or.inl ⟨by rfl, ?_⟩) ?_ ?_
  rotate_left
  · intro w'
    go_simp
    try with_reducible rfl
  rotate_left
  · simp only [Act.put, List.setIfInBounds_toArray, List.set_cons_zero, List.set_cons_succ, i64_w, i32_w]
    rfl
  refine pure_ (i := 13) (N := (some 79)) (v := ?_) (a' := ?_) #[true, true, true, true, true, true, true, true, true, true, true, true, true, true, false, false, false, false, false, false, false, false, false, false, false, false, false, false, false, false, false, false, false, false, false, false] rfl rfl (by kernel_rfl) (fun _ _ _ h => h) (Or.inl ⟨by rfl, ?_⟩) ?_ ?_
  rotate_left
  · intro w'
    go_simp
    try with_reducible rfl
  rotate_left
  · simp only [Act.put, List.setIfInBounds_toArray, List.set_cons_zero, List.set_cons_succ, i64_w, i32_w]
    rfl
  refine pure_ (i := 14) (N := (some 80)) (v := ?_) (a' := ?_) #[true, true, true, true, true, true, true, true, true, true, true, true, true, true, true, false, false, false, false, false, false, false, false, false, false, false, false, false, false, false, false, false, false, false, false, false] rfl rfl (by kernel_rfl) (fun _ _ _ h => h) (Or.inl ⟨by rfl, ?_⟩) ?_ ?_
  rotate_left
  · intro w'
    go_simp
    try with_reducible rfl
  rotate_left
  · simp only [Act.put, List.setIfInBounds_toArray, List.set_cons_zero, List.set_cons_succ, i64_w, i32_w]
    rfl
  refine pure_ (i := 15) (N := (some 81)) (v := ?_) (a' := ?_) #[true, true, true, true, true, true, true, true, true, true, true, true, true, true, true, true, false, false, false, false, false, false, false, false, false, false, false, false, false, false, false, false, false, false, false, false] rfl rfl (by kernel_rfl) (fun _ _ _ h => h) (Or.inl ⟨by rfl, ?_⟩) ?_ ?_
  rotate_left
  · intro w'
    go_simp
    try with_reducible rfl
  rotate_left
  · simp only [Act.put, List.setIfInBounds_toArray, List.set_cons_zero, List.set_cons_succ, i64_w, i32_w]
    rfl
  refine pure_ (i := 16) (N := (some 82)) (v := ?_) (a' := ?_) #[true, true, true, true, true, true, true, true, true, true, true, true, true, true, true, true, true, false, false, false, false, false, false, false, false, false, false, false, false, false, false, false, false, false, false, false] rfl rfl (by kernel_rfl) (fun _ _ _ h => h) (Or.inl ⟨by rfl, ?_⟩) ?_ ?_
  rotate_left
  · intro w'
    go_simp
    try with_reducible rfl
  rotate_left
  · simp only [Act.put, List.setIfInBounds_toArray, List.set_cons_zero, List.set_cons_succ, i64_w, i32_w]
    rfl
  refine take_ (i := 17) (N := (some 83)) (v := ?_) (a' := ?_) #[true, true, true, true, true, true, true, true, true, true, true, true, true, true, true, true, true, true, false, false, false, false, false, false, false, false, false, false, false, false, false, false, false, false, false, false] rfl rfl (by kernel_rfl) (fun _ _ _ h => h) (Or.inl ⟨by rfl, ?_⟩) hHeld ?_ ?_
  rotate_left
  · rintro w' ⟨s0, s1, s2, s3, s4, s5, s6⟩
    refine load_row (ty := 31) (p := .tmp 4) _ _ _ _ _ ?p1 ?p2 s4 Try.underlying31 ?p4 ?p5; (case p1 => rfl); (case p2 => rfl); (case p4 => rfl); (case p5 => kernel_rfl)
  rotate_left
  · simp only [Act.put, List.setIfInBounds_toArray, List.set_cons_zero, List.set_cons_succ, i64_w, i32_w]
    rfl
  refine take_ (i := 18) (N := (some 84)) (v := ?_) (a' := ?_) #[true, true, true, true, true, true, true, true, true, true, true, true, true, true, true, true, true, true, true, false, false, false, false, false, false, false, false, false, false, false, false, false, false, false, false, false] rfl rfl (by kernel_rfl) (fun _ _ _ h => h) (Or.inl ⟨by rfl, ?_⟩) hHeld ?_ ?_
  rotate_left
  · rintro w' ⟨s0, s1, s2, s3, s4, s5, s6⟩
    refine load_row (ty := 31) (p := .tmp 10) _ _ _ _ _ ?p1 ?p2 s0 Try.underlying31 ?p4 ?p5; (case p1 => rfl); (case p2 => rfl); (case p4 => rfl); (case p5 => kernel_rfl)
  rotate_left
  · simp only [Act.put, List.setIfInBounds_toArray, List.set_cons_zero, List.set_cons_succ, i64_w, i32_w]
    rfl
  refine take_ (i := 20) (N := (some 86)) (v := ?_) (a' := ?_) #[true, true, true, true, true, true, true, true, true, true, true, true, true, true, true, true, true, true, true, false, true, false, false, false, false, false, false, false, false, false, false, false, false, false, false, false] rfl rfl (by kernel_rfl) (fun _ _ _ h => h) (Or.inl ⟨by rfl, ?_⟩) hHeld ?_ ?_
  rotate_left
  · rintro w' ⟨s0, s1, s2, s3, s4, s5, s6⟩
    refine load_row (ty := 31) (p := .tmp 4) _ _ _ _ _ ?p1 ?p2 s4 Try.underlying31 ?p4 ?p5; (case p1 => rfl); (case p2 => rfl); (case p4 => rfl); (case p5 => kernel_rfl)
  rotate_left
  · simp only [Act.put, List.setIfInBounds_toArray, List.set_cons_zero, List.set_cons_succ, i64_w, i32_w]
    rfl
  refine take_ (i := 21) (N := (some 87)) (v := ?_) (a' := ?_) #[true, true, true, true, true, true, true, true, true, true, true, true, true, true, true, true, true, true, true, false, true, true, false, false, false, false, false, false, false, false, false, false, false, false, false, false] rfl rfl (by kernel_rfl) (fun _ _ _ h => h) (Or.inl ⟨by rfl, ?_⟩) hHeld ?_ ?_
  rotate_left
  · rintro w' ⟨s0, s1, s2, s3, s4, s5, s6⟩
    refine load_row (ty := 31) (p := .tmp 10) _ _ _ _ _ ?p1 ?p2 s0 Try.underlying31 ?p4 ?p5; (case p1 => rfl); (case p2 => rfl); (case p4 => rfl); (case p5 => kernel_rfl)
  rotate_left
  · simp only [Act.put, List.setIfInBounds_toArray, List.set_cons_zero, List.set_cons_succ, i64_w, i32_w]
    rfl
  refine one_ (i := 19) (N := (some 85)) #[true, true, true, true, true, true, true, true, true, true, true, true, true, true, true, true, true, true, true, true, true, true, false, false, false, false, false, false, false, false, false, false, false, false, false, false] rfl rfl (by kernel_rfl) (by decide) (fun K hK => ?_)
  refine goes_ Try.func15 (by kernel_rfl) rfl #[.agg (hwC (.slice A n d) (.slice B m c) r), .agg (hwC (.slice A1 n c1) (.slice B1 m d1) r)] (by rfl) rfl rfl ?hargs ((dsame_q qS (H7.out.at 4 rfl) (H7.out.at 5 rfl) (H7.out.at 3 rfl).1 (H7.out.at 3 rfl).2 QS.out).mono ?_)
  case hargs => first | rfl | (go_simp; done) | kernel_rfl
  rintro e z2 ⟨rfl, hb⟩
  refine ⟨_, rfl, ?_⟩
  have H8 := Aside0.mk (H7.out.step hb)
  clear hb
  refine hK.out _ _ ⟨H8.out.blk 3 rfl, H8.out.blk 4 rfl, H8.out.blk 5 rfl, H8.out.blk 6 rfl, H8.out.blk 0 rfl, H8.out.blk 7 rfl, H8.out.blk 8 rfl⟩ (fun hHeld => ?_)
  clear hK K
  refine norm_ (a' := ?_) ?_ ?_
  rotate_left
  · show Act.put _ (some 85) _ = _
    simp only [Act.put, List.setIfInBounds_toArray, List.set_cons_zero, List.set_cons_succ, i64_w, i32_w]
    rfl
  refine one_ (i := 22) (N := (some 88)) #[true, true, true, true, true, true, true, true, true, true, true, true, true, true, true, true, true, true, true, true, true, true, true, false, false, false, false, false, false, false, false, false, false, false, false, false] rfl rfl (by kernel_rfl) (by decide) (fun K hK => ?_)
  refine goes_ Try.func14 (by kernel_rfl) rfl #[.agg (hwC (.slice A n d) (.slice B m c) r), .agg (hwC (.slice A1 n c1) (.slice B1 m d1) r)] (by rfl) rfl rfl ?hargs ((rsame_q qS (H8.out.at 4 rfl) (H8.out.at 5 rfl) (H8.out.at 3 rfl).1 (H8.out.at 3 rfl).2 QS.out).mono ?_)
  case hargs => first | rfl | (go_simp; done) | kernel_rfl
  rintro e z3 ⟨rfl, hb⟩
  refine ⟨_, rfl, ?_⟩
  have H9 := Aside0.mk (H8.out.step hb)
  clear hb
  refine hK.out _ _ ⟨H9.out.blk 3 rfl, H9.out.blk 4 rfl, H9.out.blk 5 rfl, H9.out.blk 6 rfl, H9.out.blk 0 rfl, H9.out.blk 7 rfl, H9.out.blk 8 rfl⟩ (fun hHeld => ?_)
  clear hK K
  refine norm_ (a' := ?_) ?_ ?_
  rotate_left
  · show Act.put _ (some 88) _ = _
    simp only [Act.put, List.setIfInBounds_toArray, List.set_cons_zero, List.set_cons_succ, i64_w, i32_w]
    rfl
  refine pure_ (i := 23) (N := (some 89)) (v := ?_) (a' := ?_) #[true, true, true, true, true, true, true, true, true, true, true, true, true, true, true, true, true, true, true, true, true, true, true, true, false, false, false, false, false, false, false, false, false, false, false, false] rfl rfl (by kernel_rfl) (fun _ _ _ h => h) (Or.inl ⟨by rfl, ?_⟩) ?_ ?_
  rotate_left
  · intro w'
    go_simp
    try with_reducible rfl
  rotate_left
  · simp only [Act.put, List.setIfInBounds_toArray, List.set_cons_zero, List.set_cons_succ, i64_w, i32_w]
    rfl
  refine pure_ (i := 24) (N := (some 90)) (v := ?_) (a' := ?_) #[true, true, true, true, true, true, true, true, true, true, true, true, true, true, true, true, true, true, true, true, true, true, true, true, true, false, false, false, false, false, false, false, false, false, false, false] rfl rfl (by kernel_rfl) (fun _ _ _ h => h) (Or.inl ⟨by rfl, ?_⟩) ?_ ?_
  rotate_left
  · intro w'
    go_simp
    try with_reducible rfl
  rotate_left
  · simp only [Act.put, List.setIfInBounds_toArray, List.set_cons_zero, List.set_cons_succ, i64_w, i32_w]
    rfl
  refine pure_ (i := 25) (N := (some 91)) (v := ?_) (a' := ?_) #[true, true, true, true, true, true, true, true, true, true, true, true, true, true, true, true, true, true, true, true, true, true, true, true, true, true, false, false, false, false, false, false, false, false, false, false] rfl rfl (by kernel_rfl) (fun _ _ _ h => h) (Or.inl ⟨by rfl, ?_⟩) ?_ ?_
  rotate_left
  · intro w'
    go_simp
    try with_reducible rfl
  rotate_left
  · simp only [Act.put, List.setIfInBounds_toArray, List.set_cons_zero, List.set_cons_succ, i64_w, i32_w]
    rfl
  refine take_ (i := 26) (N := (some 92)) (v := ?_) (a' := ?_) #[true, true, true, true, true, true, true, true, true, true, true, true, true, true, true, true, true, true, true, true, true, true, true, true, true, true, true, false, false, false, false, false, false, false, false, false] rfl rfl (by kernel_rfl) (fun _ _ _ h => h) (Or.inl ⟨by rfl, ?_⟩) hHeld ?_ ?_
  rotate_left
  · rintro w' ⟨s0, s1, s2, s3, s4, s5, s6⟩
    refine load_row (ty := 31) (p := .tmp 16) _ _ _ _ _ ?p1 ?p2 s5 Try.underlying31 ?p4 ?p5; (case p1 => rfl); (case p2 => rfl); (case p4 => rfl); (case p5 => kernel_rfl)
  rotate_left
  · simp only [Act.put, List.setIfInBounds_toArray, List.set_cons_zero, List.set_cons_succ, i64_w, i32_w]
    rfl
  refine take_ (i := 27) (N := (some 93)) (v := ?_) (a' := ?_) #[true, true, true, true, true, true, true, true, true, true, true, true, true, true, true, true, true, true, true, true, true, true, true, true, true, true, true, true, false, false, false, false, false, false, false, false] rfl rfl (by kernel_rfl) (fun _ _ _ h => h) (Or.inl ⟨by rfl, ?_⟩) hHeld ?_ ?_
  rotate_left
  · rintro w' ⟨s0, s1, s2, s3, s4, s5, s6⟩
    refine load_row (ty := 31) (p := .tmp 18) _ _ _ _ _ ?p1 ?p2 s6 Try.underlying31 ?p4 ?p5; (case p1 => rfl); (case p2 => rfl); (case p4 => rfl); (case p5 => kernel_rfl)
  rotate_left
  · simp only [Act.put, List.setIfInBounds_toArray, List.set_cons_zero, List.set_cons_succ, i64_w, i32_w]
    rfl
  refine one_ (i := 28) (N := (some 94)) #[true, true, true, true, true, true, true, true, true, true, true, true, true, true, true, true, true, true, true, true, true, true, true, true, true, true, true, true, true, false, false, false, false, false, false, false] rfl rfl (by kernel_rfl) (by decide) (fun K hK => ?_)
  refine goes_ Try.func14 (by kernel_rfl) rfl #[.agg (hwC (.slice A3 bN.length c3) (.slice B3 fN.length d3) rN), .agg (hwC (.slice A4 bN.length c4) (.slice B4 fN.length d4) rN)] (by rfl) rfl rfl ?hargs ((rsame_q true (H9.out.at 1 rfl).1 (H9.out.at 1 rfl).2 (H9.out.at 0 rfl).1 (H9.out.at 0 rfl).2 (sameH_refl rN fN bN)).mono ?_)
  case hargs => first | rfl | (go_simp; done) | kernel_rfl
  rintro e z4 ⟨rfl, hb⟩
  refine ⟨_, rfl, ?_⟩
  have H10 := Aside0.mk (H9.out.step hb)
  clear hb
  refine hK.out _ _ ⟨H10.out.blk 3 rfl, H10.out.blk 4 rfl, H10.out.blk 5 rfl, H10.out.blk 6 rfl, H10.out.blk 0 rfl, H10.out.blk 7 rfl, H10.out.blk 8 rfl⟩ (fun hHeld => ?_)
  clear hK K
  refine norm_ (a' := ?_) ?_ ?_
  rotate_left
  · show Act.put _ (some 94) _ = _
    simp only [Act.put, List.setIfInBounds_toArray, List.set_cons_zero, List.set_cons_succ, i64_w, i32_w]
    rfl
  refine pure_ (i := 29) (N := (some 95)) (v := ?_) (a' := ?_) #[true, true, true, true, true, true, true, true, true, true, true, true, true, true, true, true, true, true, true, true, true, true, true, true, true, true, true, true, true, true, false, false, false, false, false, false] rfl rfl (by kernel_rfl) (fun _ _ _ h => h) (Or.inl ⟨by rfl, ?_⟩) ?_ ?_
  rotate_left
  · intro w'
    go_simp
    try with_reducible rfl
  rotate_left
  · simp only [Act.put, List.setIfInBounds_toArray, List.set_cons_zero, List.set_cons_succ, i64_w, i32_w]
    rfl
  refine pure_ (i := 30) (N := (some 96)) (v := ?_) (a' := ?_) #[true, true, true, true, true, true, true, true, true, true, true, true, true, true, true, true, true, true, true, true, true, true, true, true, true, true, true, true, true, true, true, false, false, false, false, false] rfl rfl (by kernel_rfl) (fun _ _ _ h => h) (Or.inl ⟨by rfl, ?_⟩) ?_ ?_
  rotate_left
  · intro w'
    go_simp
    try with_reducible rfl
  rotate_left
  · simp only [Act.put, List.setIfInBounds_toArray, List.set_cons_zero, List.set_cons_succ, i64_w, i32_w]
    rfl
  refine pure_ (i := 31) (N := (some 97)) (v := ?_) (a' := ?_) #[true, true, true, true, true, true, true, true, true, true, true, true, true, true, true, true, true, true, true, true, true, true, true, true, true, true, true, true, true, true, true, true, false, false, false, false] rfl rfl (by kernel_rfl) (fun _ _ _ h => h) (Or.inl ⟨by rfl, ?_⟩) ?_ ?_
  rotate_left
  · intro w'
    go_simp
    try with_reducible rfl
  rotate_left
  · simp only [Act.put, List.setIfInBounds_toArray, List.set_cons_zero, List.set_cons_succ, i64_w, i32_w]
    rfl
  refine pure_ (i := 32) (N := (some 98)) (v := ?_) (a' := ?_) #[true, true, true, true, true, true, true, true, true, true, true, true, true, true, true, true, true, true, true, true, true, true, true, true, true, true, true, true, true, true, true, true, true, false, false, false] rfl rfl (by kernel_rfl) (fun _ _ _ h => h) (Or.inl ⟨by rfl, ?_⟩) ?_ ?_
  rotate_left
  · intro w'
    go_simp
    try with_reducible rfl
  rotate_left
  · simp only [Act.put, List.setIfInBounds_toArray, List.set_cons_zero, List.set_cons_succ, i64_w, i32_w]
    rfl
  refine pure_ (i := 33) (N := (some 99)) (v := ?_) (a' := ?_) #[true, true, true, true, true, true, true, true, true, true, true, true, true, true, true, true, true, true, true, true, true, true, true, true, true, true, true, true, true, true, true, true, true, true, false, false] rfl rfl (by kernel_rfl) (fun _ _ _ h => h) (Or.inl ⟨by rfl, ?_⟩) ?_ ?_
  rotate_left
  · intro w'
    go_simp
    try with_reducible rfl
  rotate_left
  · simp only [Act.put, List.setIfInBounds_toArray, List.set_cons_zero, List.set_cons_succ, i64_w, i32_w]
    rfl
  refine pure_ (i := 34) (N := (some 100)) (v := ?_) (a' := ?_) #[true, true, true, true, true, true, true, true, true, true, true, true, true, true, true, true, true, true, true, true, true, true, true, true, true, true, true, true, true, true, true, true, true, true, true, false] rfl rfl (by kernel_rfl) (fun _ _ _ h => h) (Or.inl ⟨by rfl, ?_⟩) ?_ ?_
  rotate_left
  · intro w'
    go_simp
    try with_reducible rfl
  rotate_left
  · simp only [Act.put, List.setIfInBounds_toArray, List.set_cons_zero, List.set_cons_succ, i64_w, i32_w]
    rfl
  refine pure_ (i := 35) (N := (some 8)) (v := ?_) (a' := ?_) #[true, true, true, true, true, true, true, true, true, true, true, true, true, true, true, true, true, true, true, true, true, true, true, true, true, true, true, true, true, true, true, true, true, true, true, true] rfl rfl (by kernel_rfl) (fun _ _ _ h => h) (Or.inl ⟨by rfl, ?_⟩) ?_ ?_
  rotate_left
  · intro w'
    go_simp
    try with_reducible rfl
  rotate_left
  · simp only [Act.put, List.setIfInBounds_toArray, List.set_cons_zero, List.set_cons_succ, i64_w, i32_w]
    rfl
  refine done_ (by kernel_rfl) ?_
  go_wp2
  go_ret
  exact ⟨rfl, H10.out.bel⟩
end Go.Proofs.Ytkfhekocbfednaa.Dv
namespace Go.Proofs.Ytkfhekocbfednaa.Dv
set_option linter.unusedVariables false
set_option linter.unusedSimpArgs false
open Go.RowKit Go.Proofs.Ytkfhekocbfednaa Go.Proofs.YtkfhekocbfednaaW.PrintWords
open Go.Proofs.Ytkfhekocbfednaa.Fu Go.Proofs.Ytkfhekocbfednaa.Fl
theorem matches_any {A : Option Addr} {n d : Nat} {hs : List Hdr} {bk : List (List Int)} {B : Option Addr} {m c : Nat} {fl : List ByteArray} {w : World} (r : Nat → Int)
    (kd bank cell : Int) (b : ByteArray) (cut : Bool) (fb : Int) (noise : Bool) {C : Option Addr} {nb cb : Nat} {bits : List Int} (hF : Fu w A n d hs bk) (hL : Fl w B m c fl) (h0 : ∀ xs ∈ bk, ∀ c ∈ xs, 0 ≤ c) (hC : Kd.C (Kd.int .i64) w C nb bits) :
    Calls Try.prog 3 #[.agg (hwC (.slice A n d) (.slice B m c) r), .agg #[.int .i64 kd, .int .i64 bank, .int .i64 cell, .string b], .agg #[.bool cut, .int .i64 fb, .bool noise], .slice C nb cb] w fun e w' => e = .returned (.bool true) ∧ Below w.heap.size w w' := by
  obtain ⟨k, vb, hk, hb⟩ := valid_f bk (Fu.bkmax hF) (Fu.rows hF)
  cases hq : smallB vb m fl with
  | false => exact matches0 sanity_any r kd bank cell b cut fb noise hF hL hC hk hb hq
  | true =>
    by_cases hz : 300 < (b.size : Int)
    · exact matches1 sanity_any r kd bank cell b cut fb noise hF hL hC hk hb hq hz
    · by_cases hy : 6 < (nb : Int)
      · exact matches2 sanity_any r kd bank cell b cut fb noise hF hL hC hk hb hq (by omega) hy
      · exact matches3 sanity_any r kd bank cell b cut fb noise hF hL hC hk hb hq (by omega) (by omega) h0
end Go.Proofs.Ytkfhekocbfednaa.Dv
end
