/- Part of the proof of deviceSeparate_holds, deviceAll_holds, deviceMonotonic_holds: what later parts use. -/
import Derived.Test.YtkfhekocbfednaaZu0
import Derived.Test.YtkfhekocbfednaaZu1
import Derived.Test.YtkfhekocbfednaaZu2
import Derived.Test.YtkfhekocbfednaaZu3
import Derived.Test.YtkfhekocbfednaaZu4
import Derived.Test.YtkfhekocbfednaaZu5
import Derived.Test.YtkfhekocbfednaaZu6
import Derived.Test.YtkfhekocbfednaaZu7
import Derived.Test.YtkfhekocbfednaaZu8
import Derived.Test.YtkfhekocbfednaaZu9
import Derived.Test.YtkfhekocbfednaaZu10
import Derived.Test.YtkfhekocbfednaaZu11
import Derived.Test.YtkfhekocbfednaaZu12
import Derived.Test.YtkfhekocbfednaaZu13
import Derived.Test.YtkfhekocbfednaaZu14
import Derived.Test.YtkfhekocbfednaaZu15
import Derived.Test.YtkfhekocbfednaaZu16
import Derived.Test.YtkfhekocbfednaaZu17
import Derived.Test.YtkfhekocbfednaaZu18
import Derived.Test.YtkfhekocbfednaaZu19
import Derived.Test.YtkfhekocbfednaaZu20
import Derived.Test.YtkfhekocbfednaaZu21
import Derived.Test.YtkfhekocbfednaaZu22
import Derived.Test.YtkfhekocbfednaaZu23
import Derived.Test.YtkfhekocbfednaaZu24
import Derived.Test.YtkfhekocbfednaaZu25
import Derived.Test.YtkfhekocbfednaaZu26
import Derived.Test.YtkfhekocbfednaaZu27
import Derived.Test.YtkfhekocbfednaaZu28
import Derived.Test.YtkfhekocbfednaaZu29
import Derived.Test.YtkfhekocbfednaaZu30
import Derived.Test.YtkfhekocbfednaaZu31
import Derived.Test.YtkfhekocbfednaaZu32
import Derived.Test.YtkfhekocbfednaaZu33
import Derived.Test.YtkfhekocbfednaaZu37
import Derived.Test.YtkfhekocbfednaaZu38
import Derived.Test.YtkfhekocbfednaaZu40
import Derived.Test.YtkfhekocbfednaaZu41
import Derived.Test.YtkfhekocbfednaaZu42
import Derived.Test.YtkfhekocbfednaaZu43
import Derived.Test.YtkfhekocbfednaaZu44
import Derived.Test.YtkfhekocbfednaaZu45
import Derived.Laws.StructEq
section
namespace Go.Proofs.Ytkfhekocbfednaa.Dv
set_option linter.unusedVariables false
set_option linter.unusedSimpArgs false
open Go.RowKit Go.Proofs.Ytkfhekocbfednaa Go.Proofs.YtkfhekocbfednaaW.PrintWords Go.Proofs.YtkfhekocbfednaaW.PrintLast Go.Proofs.YtkfhekocbfednaaW.PrintMore
open Go.Proofs.Ytkfhekocbfednaa.Fu Go.Proofs.Ytkfhekocbfednaa.Fl Go.Proofs.Ytkfhekocbfednaa.PDeviceMatches
theorem least_at {A : Option Addr} {n d : Nat} {hs : List Hdr} {bk : List (List Int)} {w : World} (b : Nat) (q : Int) (h : Fu w A n d hs bk) (h1 : b < n) (hlen : (rowOf bk b).length ≤ 1000) (hq : leastL (rowOf bk b) = q) :
    Calls Try.prog 20 #[.agg #[.slice A n d], .int .i64 b] w fun e w' => e = .returned (.int .i64 q) ∧ Below w.heap.size w w' := hq ▸ least_any b h (by omega) (by omega) hlen
set_option maxRecDepth 100000 in
set_option maxHeartbeats 64000000 in
theorem mono0 {A : Option Addr} {n d : Nat} {hs : List Hdr} {bk : List (List Int)} {B : Option Addr} {m c : Nat} {fl : List ByteArray} {w : World} (r : Nat → Int) {C : Option Addr} {cc : Nat} {l : List Acc} {C' : Option Addr} {cc' : Nat} {f : List Flt} {nl nf : Nat}
    (hF : Fu w A n d hs bk) (hL : Fl w B m c fl) (hl : RowsOf accV 4 w C l) (hf : RowsOf fltV 3 w C' f) (hnl : l.length = nl) (hnf : f.length = nf) {k : Nat} {vb : Bool} (hk : bootchainref07_Valid.f k bk = some vb) (hb : vb = true → Ok3 bk ∧ bk.length ≤ 4) (hq : smallB vb m fl = false) :
    Calls Try.prog 7 #[.agg (hwC (.slice A n d) (.slice B m c) r), .slice C nl cc, .slice C' nf cc'] w fun e w' => e = .returned (.bool true) ∧ Below w.heap.size w w' := by
  have H0 := Aside0.mk ((St.enter2 (fun _ h => h) (sureFu hF) (sureFl hL)).alloc (hwC (.slice A n d) (.slice B m c) r) 31)
  have HK := Aside0.mk hk
  have HB := Aside0.mk hb
  have HQ := Aside0.mk hq
  clear hq hF hL hk hb hl hf
  go_enter Try.func7, Try.ntmps7
  go_wp2_with (first | (go_at_call 8; refine (sanity_any _).mono ?_; rintro e w1 ⟨rfl, hb⟩; have H1 := Aside0.mk (H0.out.step hb); clear hb) | ((with_reducible refine gate_dst (N := 16) rfl ?_); refine loadRowL_ (ty := 31) _ rfl rfl rfl _ _ _ _ _ rfl (H1.out.blk 0 rfl) Try.underlying31 rfl (by kernel_rfl) ?_) | (go_at_call 9; refine (small_det (H1.out.at 0 rfl) (H1.out.at 1 rfl) HK.out HB.out).mono ?_; rintro e w2 ⟨rfl, hb⟩; have H2 := Aside0.mk (H1.out.step hb); clear hb; rw [HQ.out]))
  go_ret
  exact ⟨rfl, H2.out.bel⟩
set_option maxRecDepth 100000 in
set_option maxHeartbeats 64000000 in
theorem mono1 {A : Option Addr} {n d : Nat} {hs : List Hdr} {bk : List (List Int)} {B : Option Addr} {m c : Nat} {fl : List ByteArray} {w : World} (r : Nat → Int) {C : Option Addr} {cc : Nat} {l : List Acc} {C' : Option Addr} {cc' : Nat} {f : List Flt} {nl nf : Nat}
    (hF : Fu w A n d hs bk) (hL : Fl w B m c fl) (hl : RowsOf accV 4 w C l) (hf : RowsOf fltV 3 w C' f) (hnl : l.length = nl) (hnf : f.length = nf) {k : Nat} {vb : Bool} (hk : bootchainref07_Valid.f k bk = some vb) (hb : vb = true → Ok3 bk ∧ bk.length ≤ 4) (hq : smallB vb m fl = true) (hz : 60 < (nl : Int)) :
    Calls Try.prog 7 #[.agg (hwC (.slice A n d) (.slice B m c) r), .slice C nl cc, .slice C' nf cc'] w fun e w' => e = .returned (.bool true) ∧ Below w.heap.size w w' := by
  have H0 := Aside0.mk ((St.enter2 (fun _ h => h) (sureFu hF) (sureFl hL)).alloc (hwC (.slice A n d) (.slice B m c) r) 31)
  have HK := Aside0.mk hk
  have HB := Aside0.mk hb
  have HQ := Aside0.mk hq
  clear hq hF hL hk hb hl hf
  go_enter Try.func7, Try.ntmps7
  go_wp2_with (first | (go_at_call 8; refine (sanity_any _).mono ?_; rintro e w1 ⟨rfl, hb⟩; have H1 := Aside0.mk (H0.out.step hb); clear hb) | ((with_reducible refine gate_dst (N := 16) rfl ?_); refine loadRowL_ (ty := 31) _ rfl rfl rfl _ _ _ _ _ rfl (H1.out.blk 0 rfl) Try.underlying31 rfl (by kernel_rfl) ?_) | (go_at_call 9; refine (small_det (H1.out.at 0 rfl) (H1.out.at 1 rfl) HK.out HB.out).mono ?_; rintro e w2 ⟨rfl, hb⟩; have H2 := Aside0.mk (H1.out.step hb); clear hb; rw [HQ.out]))
  go_ret
  exact ⟨rfl, H2.out.bel⟩
set_option maxRecDepth 100000 in
set_option maxHeartbeats 64000000 in
theorem mono2 {A : Option Addr} {n d : Nat} {hs : List Hdr} {bk : List (List Int)} {B : Option Addr} {m c : Nat} {fl : List ByteArray} {w : World} (r : Nat → Int) {C : Option Addr} {cc : Nat} {l : List Acc} {C' : Option Addr} {cc' : Nat} {f : List Flt} {nl nf : Nat}
    (hF : Fu w A n d hs bk) (hL : Fl w B m c fl) (hl : RowsOf accV 4 w C l) (hf : RowsOf fltV 3 w C' f) (hnl : l.length = nl) (hnf : f.length = nf) {k : Nat} {vb : Bool} (hk : bootchainref07_Valid.f k bk = some vb) (hb : vb = true → Ok3 bk ∧ bk.length ≤ 4) (hq : smallB vb m fl = true) (hz : (nl : Int) ≤ 60) (hy : 60 < (nf : Int)) :
    Calls Try.prog 7 #[.agg (hwC (.slice A n d) (.slice B m c) r), .slice C nl cc, .slice C' nf cc'] w fun e w' => e = .returned (.bool true) ∧ Below w.heap.size w w' := by
  have H0 := Aside0.mk ((St.enter2 (fun _ h => h) (sureFu hF) (sureFl hL)).alloc (hwC (.slice A n d) (.slice B m c) r) 31)
  have HK := Aside0.mk hk
  have HB := Aside0.mk hb
  have HQ := Aside0.mk hq
  clear hq hF hL hk hb hl hf
  go_enter Try.func7, Try.ntmps7
  go_wp2_with (first | (go_at_call 8; refine (sanity_any _).mono ?_; rintro e w1 ⟨rfl, hb⟩; have H1 := Aside0.mk (H0.out.step hb); clear hb) | ((with_reducible refine gate_dst (N := 16) rfl ?_); refine loadRowL_ (ty := 31) _ rfl rfl rfl _ _ _ _ _ rfl (H1.out.blk 0 rfl) Try.underlying31 rfl (by kernel_rfl) ?_) | (go_at_call 9; refine (small_det (H1.out.at 0 rfl) (H1.out.at 1 rfl) HK.out HB.out).mono ?_; rintro e w2 ⟨rfl, hb⟩; have H2 := Aside0.mk (H1.out.step hb); clear hb; rw [HQ.out]))
  go_ret
  exact ⟨rfl, H2.out.bel⟩
set_option maxRecDepth 100000 in
set_option maxHeartbeats 64000000 in
theorem mono3 {A : Option Addr} {n d : Nat} {hs : List Hdr} {bk : List (List Int)} {B : Option Addr} {m c : Nat} {fl : List ByteArray} {w : World} (r : Nat → Int) {C : Option Addr} {cc : Nat} {l : List Acc} {C' : Option Addr} {cc' : Nat} {f : List Flt} {nl nf : Nat}
    (hF : Fu w A n d hs bk) (hL : Fl w B m c fl) (hl : RowsOf accV 4 w C l) (hf : RowsOf fltV 3 w C' f) (hnl : l.length = nl) (hnf : f.length = nf) {k : Nat} {vb : Bool} (hk : bootchainref07_Valid.f k bk = some vb) (hb : vb = true → Ok3 bk ∧ bk.length ≤ 4) (hq : smallB vb m fl = true) (hz : (nl : Int) ≤ 60) (hy : (nf : Int) ≤ 60) (h0 : ∀ xs ∈ bk, ∀ c ∈ xs, 0 ≤ c) :
    Calls Try.prog 7 #[.agg (hwC (.slice A n d) (.slice B m c) r), .slice C nl cc, .slice C' nf cc'] w fun e w' => e = .returned (.bool true) ∧ Below w.heap.size w w' := by
  have H0 := Aside0.mk ((St.enter2 (fun _ h => h) (sureFu hF) (sureFl hL)).alloc (hwC (.slice A n d) (.slice B m c) r) 31)
  have HK := Aside0.mk hk
  have HB := Aside0.mk hb
  have HQ := Aside0.mk hq
  have FT := small_fits hL.C.1 hb hq
  have OKB := Aside0.mk (OkBk_of FT.1 h0)
  have OKF := Aside0.mk (⟨by have := FT.2.2.1; omega, FT.2.2.2⟩ : OkFl fl)
  have hn : n ≤ 1000 := by have := hF.len; have := FT.2.1; omega
  have UP0 := up_all f l 0 bk fl [] OKB.out
  obtain ⟨⟨bk1, fl1, out1, q1⟩, hR⟩ : ∃ y, allR f l 0 bk fl [] = y := ⟨_, rfl⟩
  rw [hR] at UP0
  have UP := Aside0.mk UP0
  obtain ⟨no, hno⟩ : ∃ y, out1.length = y := ⟨_, rfl⟩
  have RR := Aside0.mk hR
  have NO := Aside0.mk hno
  have NL := Aside0.mk hnl
  have NF := Aside0.mk hnf
  have LL := Aside0.mk (show l.length ≤ 1000 by omega)
  have HL := Aside0.mk (fun W hb => hl.below hb : ∀ W, Below w.heap.size w W → RowsOf accV 4 W C l)
  have HFT := Aside0.mk (fun W hb => hf.below hb : ∀ W, Below w.heap.size w W → RowsOf fltV 3 W C' f)
  have sureFuX := Aside0.mk (fun W hb => (sureFu hF).below (fun _ h => h) hb : ∀ W, Below w.heap.size w W → Sure (fun k => k < w.heap.size) W (fun w => Fu w A n d hs bk))
  have sureFlX := Aside0.mk (fun W hb => (sureFl hL).below (fun _ h => h) hb : ∀ W, Below w.heap.size w W → Sure (fun k => k < w.heap.size) W (fun w => Fl w B m c fl))
  have HLEN := Aside0.mk hF.len
  clear hF hL hk hb FT hq h0 hl hf hR hno hnl hnf UP0
  go_enter Try.func7, Try.ntmps7
  go_upto_region 4 with (first | (go_at_call 8; refine (sanity_any _).mono ?_; rintro e w1 ⟨rfl, hb⟩; have H1 := Aside0.mk (H0.out.step hb); clear hb) | ((with_reducible refine gate_dst (N := 16) rfl ?_); refine loadRowL_ (ty := 31) _ rfl rfl rfl _ _ _ _ _ rfl (H1.out.blk 0 rfl) Try.underlying31 rfl (by kernel_rfl) ?_) | (go_at_call 9; refine (small_det (H1.out.at 0 rfl) (H1.out.at 1 rfl) HK.out HB.out).mono ?_; rintro e w2 ⟨rfl, hb⟩; have H2 := Aside0.mk (H1.out.step hb); clear hb; rw [HQ.out]))
  go_upto_region 5 with (first | ((with_reducible refine gate_dst (N := 31) rfl ?_); refine loadRowL_ (ty := 31) _ rfl rfl rfl _ _ _ _ _ rfl (H2.out.blk 0 rfl) Try.underlying31 rfl (by kernel_rfl) ?_) | (go_at_call 16; refine (dall_at r (S0 := fun k => k < w.heap.size) (fun k hk => Nat.lt_of_lt_of_le hk H2.out.bel.size) (((sureFuX.out _ H2.out.bel)).and (sureFlX.out _ H2.out.bel)) (HL.out _ H2.out.bel) (HFT.out _ H2.out.bel) hn OKB.out OKF.out LL.out NL.out NF.out RR.out NO.out).mono ?_; rintro e u1 ⟨A1, c1, hs1, B1, d1, C1, cc1, rfl, hb⟩; have G1 := Aside0.mk (H2.out.call hb); clear hb) | ((with_reducible refine gate_store (t := 31) (p := 8) rfl ?_); refine storeRowSt_ (ty := 31) rfl rfl rfl (hwC (.slice A1 n c1) (.slice B1 m d1) r) (G1.out.alloc #[.slice none 0 0, .slice none 0 0, .int .u8 0, .int .u8 0, .int .u8 0, .int .u8 0, .int .u8 0, .int .u8 0, .int .u8 0, .int .u8 0, .int .u8 0, .int .u8 0, .int .u8 0, .int .u8 0, .int .u8 0, .int .u8 0, .int .u8 0, .int .u8 0] 31) 1 rfl rfl rfl (by kernel_rfl) rfl (by kernel_rfl) ?_; intro x1 h_; have H3 := Aside0.mk (h_.as [(w.heap.size, (hwC (.slice A n d) (.slice B m c) r), 31), (u1.heap.size, (hwC (.slice A1 n c1) (.slice B1 m d1) r), 31)] rfl); clear h_; have k1 : x1.cell? ⟨u1.heap.size, 0, none⟩ = some (.slice A1 n c1) := H3.out.cell 1 rfl 0 rfl; have k0 : x1.cell? ⟨w.heap.size, 0, none⟩ = some (.slice A n d) := H3.out.cell 0 rfl 0 rfl))
  go_wp2
  clear k0 k1
  go_loopw [11] (fun i wr => ∃ k : Nat, k ≤ n ∧ i = .int .i64 k ∧ Aside0 (St w (fun k => k < w.heap.size ∨ w2.heap.size ≤ k ∧ k < u1.heap.size) [fun w => (Fu w A1 n c1 hs1 bk1 ∧ Fl w B1 m d1 fl1) ∧ RowsOf rrV 2 w C1 out1, fun w => Fu w A n d hs bk, fun w => Fl w B m c fl] [(w.heap.size, (hwC (.slice A n d) (.slice B m c) r), 31), (u1.heap.size, (hwC (.slice A1 n c1) (.slice B1 m d1) r), 31)] wr)) (fun i _ => n - (intOf i).toNat)
  case atStart => exact ⟨0, by omega, rfl, H3⟩
  case round =>
    clear H3
    obtain ⟨k, hk, rfl, H3⟩ := hrel
    have k0 : wr.cell? ⟨w.heap.size, 0, none⟩ = some (.slice A n d) := H3.out.cell 0 rfl 0 rfl
    by_cases hlt : k < n
    · obtain ⟨ad, D, e, rfl, _, hx, hle, hC⟩ := (H3.out.at 1 rfl).at (k : Int) (by omega) (by omega)
      obtain ⟨ad1, D1, e1, rfl, _, hx1, hle1, hC1⟩ := (H3.out.at 0 rfl).1.1.at (k : Int) (by omega) (by omega)
      have UR := UP.out.2 k
      have O1 := OKB.out.row k
      obtain ⟨xs, hxs⟩ : ∃ xs, rowOf bk k = xs := ⟨_, rfl⟩
      obtain ⟨ys, hys⟩ : ∃ ys, rowOf bk1 k = ys := ⟨_, rfl⟩
      rw [show bk.getD k [] = xs by rw [← hxs]; simp [rowOf], show bk1.getD k [] = ys by rw [← hys]; simp [rowOf]] at UR
      obtain ⟨mm, hmm⟩ : ∃ y, xs.length = y := ⟨_, rfl⟩
      have hmy : ys.length = mm := UR.1.trans hmm
      obtain ⟨lx, hlx⟩ : ∃ y, leastL xs = y := ⟨_, rfl⟩
      obtain ⟨ly, hly⟩ : ∃ y, leastL ys = y := ⟨_, rfl⟩
      have hll : lx ≤ ly := by rw [← hlx, ← hly]; exact up_least UR
      have LX := Aside0.mk (show leastL (rowOf bk k) = lx by rw [hxs]; exact hlx)
      have LY := Aside0.mk (show leastL (rowOf bk1 k) = ly by rw [hys]; exact hly)
      rw [hxs, hmm] at O1
      rw [Int.toNat_natCast, hxs, hmm] at hx
      rw [Int.toNat_natCast, hys, hmy] at hx1
      rw [hxs, hmm] at hle hC
      rw [hys, hmy] at hle1 hC1
      have LN := Aside0.mk (show (rowOf bk k).length ≤ 1000 by rw [hxs, hmm]; omega)
      have LN1 := Aside0.mk (show (rowOf bk1 k).length ≤ 1000 by rw [hys, hmy]; omega)
      have HX := Aside0.mk (fun W hb => pw_cell_below hb hx : ∀ W, Below wr.heap.size wr W → W.cell? (ad.add k) = some (.slice D mm e))
      have HX1 := Aside0.mk (fun W hb => pw_cell_below hb hx1 : ∀ W, Below wr.heap.size wr W → W.cell? (ad1.add k) = some (.slice D1 mm e1))
      have HC := Aside0.mk (fun W hb => Kd.C_below hC hb : ∀ W, Below wr.heap.size wr W → Kd.C (Kd.int .u8) W D mm xs)
      have HC1 := Aside0.mk (fun W hb => Kd.C_below hC1 hb : ∀ W, Below wr.heap.size wr W → Kd.C (Kd.int .u8) W D1 mm ys)
      have U := Aside0.mk UR
      have B0 := Aside0.mk (Below.refl wr.heap.size wr)
      clear hx hx1 hC hC1 hxs hys hmm hmy hlx hly UR
      obtain ⟨wz, rfl⟩ : ∃ wz : World, wz = wr := ⟨_, rfl⟩
      go_wp2
      clear k0
      refine start_ (n := 26) (S := (fun w' => w'.cell? ⟨w.heap.size, 0, none⟩ = some (.slice (some ad) n d) ∧ w'.cell? ⟨u1.heap.size, 0, none⟩ = some (.slice (some ad1) n c1) ∧ w'.cell? (ad.add k) = some (.slice D mm e) ∧ w'.cell? (ad1.add k) = some (.slice D1 mm e1))) (ds := []) #[false, false, false, false, false, false, false, false, false, false, false, false, false, false, false, false, false, false, false, false, false, false, false, false, false, false] (by kernel_rfl) rfl rfl ⟨H3.out.drew.cell 0 rfl 0 rfl, H3.out.drew.cell 1 rfl 0 rfl, HX.out _ (below_drew B0.out), HX1.out _ (below_drew B0.out)⟩ (fun hHeld => ?_)
      refine pure_ (i := 0) (N := (some 55)) (v := ?_) (a' := ?_) #[true, false, false, false, false, false, false, false, false, false, false, false, false, false, false, false, false, false, false, false, false, false, false, false, false, false] rfl rfl (by kernel_rfl) (fun _ _ _ h => h) (Or.inl ⟨by rfl, ?_⟩) ?_ ?_
      rotate_left
      · intro w'
        go_simp
        try with_reducible rfl
      rotate_left
      · simp only [Act.put, List.setIfInBounds_toArray, List.set_cons_zero, List.set_cons_succ, i64_w, i32_w]
        rfl
      refine pure_ (i := 1) (N := (some 56)) (v := ?_) (a' := ?_) #[true, true, false, false, false, false, false, false, false, false, false, false, false, false, false, false, false, false, false, false, false, false, false, false, false, false] rfl rfl (by kernel_rfl) (fun _ _ _ h => h) (Or.inl ⟨by rfl, ?_⟩) ?_ ?_
      rotate_left
      · intro w'
        go_simp
        try with_reducible rfl
      rotate_left
      · simp only [Act.put, List.setIfInBounds_toArray, List.set_cons_zero, List.set_cons_succ, i64_w, i32_w]
        rfl
      refine pure_ (i := 3) (N := (some 58)) (v := ?_) (a' := ?_) #[true, true, false, true, false, false, false, false, false, false, false, false, false, false, false, false, false, false, false, false, false, false, false, false, false, false] rfl rfl (by kernel_rfl) (fun _ _ _ h => h) (Or.inl ⟨by rfl, ?_⟩) ?_ ?_
      rotate_left
      · intro w'
        go_simp
        try with_reducible rfl
      rotate_left
      · simp only [Act.put, List.setIfInBounds_toArray, List.set_cons_zero, List.set_cons_succ, i64_w, i32_w]
        rfl
      refine pure_ (i := 7) (N := (some 62)) (v := ?_) (a' := ?_) #[true, true, false, true, false, false, false, true, false, false, false, false, false, false, false, false, false, false, false, false, false, false, false, false, false, false] rfl rfl (by kernel_rfl) (fun _ _ _ h => h) (Or.inl ⟨by rfl, ?_⟩) ?_ ?_
      rotate_left
      · intro w'
        go_simp
        try with_reducible rfl
      rotate_left
      · simp only [Act.put, List.setIfInBounds_toArray, List.set_cons_zero, List.set_cons_succ, i64_w, i32_w]
        rfl
      refine pure_ (i := 8) (N := (some 63)) (v := ?_) (a' := ?_) #[true, true, false, true, false, false, false, true, true, false, false, false, false, false, false, false, false, false, false, false, false, false, false, false, false, false] rfl rfl (by kernel_rfl) (fun _ _ _ h => h) (Or.inl ⟨by rfl, ?_⟩) ?_ ?_
      rotate_left
      · intro w'
        go_simp
        try with_reducible rfl
      rotate_left
      · simp only [Act.put, List.setIfInBounds_toArray, List.set_cons_zero, List.set_cons_succ, i64_w, i32_w]
        rfl
      refine pure_ (i := 10) (N := (some 65)) (v := ?_) (a' := ?_) #[true, true, false, true, false, false, false, true, true, false, true, false, false, false, false, false, false, false, false, false, false, false, false, false, false, false] rfl rfl (by kernel_rfl) (fun _ _ _ h => h) (Or.inl ⟨by rfl, ?_⟩) ?_ ?_
      rotate_left
      · intro w'
        go_simp
        try with_reducible rfl
      rotate_left
      · simp only [Act.put, List.setIfInBounds_toArray, List.set_cons_zero, List.set_cons_succ, i64_w, i32_w]
        rfl
      refine take_ (i := 2) (N := (some 57)) (v := ?_) (a' := ?_) #[true, true, true, true, false, false, false, true, true, false, true, false, false, false, false, false, false, false, false, false, false, false, false, false, false, false] rfl rfl (by kernel_rfl) (fun _ _ _ h => h) (Or.inl ⟨by rfl, ?_⟩) hHeld ?_ ?_
      rotate_left
      · rintro w' ⟨s0, s1, s2, s3⟩
        go_simp
        try with_reducible rfl
      rotate_left
      · simp only [Act.put, List.setIfInBounds_toArray, List.set_cons_zero, List.set_cons_succ, i64_w, i32_w]
        rfl
      refine pure_ (i := 4) (N := (some 59)) (v := ?_) (a' := ?_) #[true, true, true, true, true, false, false, true, true, false, true, false, false, false, false, false, false, false, false, false, false, false, false, false, false, false] rfl rfl (by kernel_rfl) (fun _ _ _ h => h) (Or.inl ⟨by rfl, ?_⟩) ?_ ?_
      rotate_left
      · intro w'
        go_simp
        try with_reducible rfl
      rotate_left
      · simp only [Act.put, List.setIfInBounds_toArray, List.set_cons_zero, List.set_cons_succ, i64_w, i32_w]
        rfl
      refine take_ (i := 5) (N := (some 60)) (v := ?_) (a' := ?_) #[true, true, true, true, true, true, false, true, true, false, true, false, false, false, false, false, false, false, false, false, false, false, false, false, false, false] rfl rfl (by kernel_rfl) (fun _ _ _ h => h) (Or.inl ⟨by rfl, ?_⟩) hHeld ?_ ?_
      rotate_left
      · rintro w' ⟨s0, s1, s2, s3⟩
        go_simp
        try with_reducible rfl
      rotate_left
      · simp only [Act.put, List.setIfInBounds_toArray, List.set_cons_zero, List.set_cons_succ, i64_w, i32_w]
        rfl
      refine pure_ (i := 6) (N := (some 61)) (v := ?_) (a' := ?_) #[true, true, true, true, true, true, true, true, true, false, true, false, false, false, false, false, false, false, false, false, false, false, false, false, false, false] rfl rfl (by kernel_rfl) (fun _ _ _ h => h) (Or.inl ⟨by rfl, ?_⟩) ?_ ?_
      rotate_left
      · intro w'
        go_simp
        try with_reducible rfl
      rotate_left
      · simp only [Act.put, List.setIfInBounds_toArray, List.set_cons_zero, List.set_cons_succ, i64_w, i32_w]
        rfl
      refine take_ (i := 9) (N := (some 64)) (v := ?_) (a' := ?_) #[true, true, true, true, true, true, true, true, true, true, true, false, false, false, false, false, false, false, false, false, false, false, false, false, false, false] rfl rfl (by kernel_rfl) (fun _ _ _ h => h) (Or.inl ⟨by rfl, ?_⟩) hHeld ?_ ?_
      rotate_left
      · rintro w' ⟨s0, s1, s2, s3⟩
        go_simp
        try with_reducible rfl
      rotate_left
      · simp only [Act.put, List.setIfInBounds_toArray, List.set_cons_zero, List.set_cons_succ, i64_w, i32_w]
        rfl
      refine pure_ (i := 11) (N := (some 66)) (v := ?_) (a' := ?_) #[true, true, true, true, true, true, true, true, true, true, true, true, false, false, false, false, false, false, false, false, false, false, false, false, false, false] rfl rfl (by kernel_rfl) (fun _ _ _ h => h) (Or.inl ⟨by rfl, ?_⟩) ?_ ?_
      rotate_left
      · intro w'
        go_simp
        try with_reducible rfl
      rotate_left
      · simp only [Act.put, List.setIfInBounds_toArray, List.set_cons_zero, List.set_cons_succ, i64_w, i32_w]
        rfl
      refine take_ (i := 12) (N := (some 67)) (v := ?_) (a' := ?_) #[true, true, true, true, true, true, true, true, true, true, true, true, true, false, false, false, false, false, false, false, false, false, false, false, false, false] rfl rfl (by kernel_rfl) (fun _ _ _ h => h) (Or.inl ⟨by rfl, ?_⟩) hHeld ?_ ?_
      rotate_left
      · rintro w' ⟨s0, s1, s2, s3⟩
        go_simp
        try with_reducible rfl
      rotate_left
      · simp only [Act.put, List.setIfInBounds_toArray, List.set_cons_zero, List.set_cons_succ, i64_w, i32_w]
        rfl
      refine pure_ (i := 13) (N := (some 68)) (v := ?_) (a' := ?_) #[true, true, true, true, true, true, true, true, true, true, true, true, true, true, false, false, false, false, false, false, false, false, false, false, false, false] rfl rfl (by kernel_rfl) (fun _ _ _ h => h) (Or.inl ⟨by rfl, ?_⟩) ?_ ?_
      rotate_left
      · intro w'
        go_simp
        try with_reducible rfl
      rotate_left
      · simp only [Act.put, List.setIfInBounds_toArray, List.set_cons_zero, List.set_cons_succ, i64_w, i32_w]
        rfl
      refine pure_ (i := 14) (N := (some 69)) (v := ?_) (a' := ?_) #[true, true, true, true, true, true, true, true, true, true, true, true, true, true, true, false, false, false, false, false, false, false, false, false, false, false] rfl rfl (by kernel_rfl) (fun _ _ _ h => h) (Or.inl ⟨by rfl, ?_⟩) ?_ ?_
      rotate_left
      · intro w'
        go_simp
        try with_reducible rfl
      rotate_left
      · simp only [Act.put, List.setIfInBounds_toArray, List.set_cons_zero, List.set_cons_succ, i64_w, i32_w]
        rfl
      refine pure_ (i := 15) (N := (some 70)) (v := ?_) (a' := ?_) #[true, true, true, true, true, true, true, true, true, true, true, true, true, true, true, true, false, false, false, false, false, false, false, false, false, false] rfl rfl (by kernel_rfl) (fun _ _ _ h => h) (Or.inl ⟨by rfl, ?_⟩) ?_ ?_
      rotate_left
      · intro w'
        go_simp
        try with_reducible rfl
      rotate_left
      · simp only [Act.put, List.setIfInBounds_toArray, List.set_cons_zero, List.set_cons_succ, i64_w, i32_w]
        rfl
      refine pure_ (i := 16) (N := (some 71)) (v := ?_) (a' := ?_) #[true, true, true, true, true, true, true, true, true, true, true, true, true, true, true, true, true, false, false, false, false, false, false, false, false, false] rfl rfl (by kernel_rfl) (fun _ _ _ h => h) (Or.inl ⟨by rfl, ?_⟩) ?_ ?_
      rotate_left
      · intro w'
        go_simp
        try with_reducible rfl
      rotate_left
      · simp only [Act.put, List.setIfInBounds_toArray, List.set_cons_zero, List.set_cons_succ, i64_w, i32_w]
        rfl
      refine pure_ (i := 18) (N := (some 73)) (v := ?_) (a' := ?_) #[true, true, true, true, true, true, true, true, true, true, true, true, true, true, true, true, true, false, true, false, false, false, false, false, false, false] rfl rfl (by kernel_rfl) (fun _ _ _ h => h) (Or.inl ⟨by rfl, ?_⟩) ?_ ?_
      rotate_left
      · intro w'
        go_simp
        try with_reducible rfl
      rotate_left
      · simp only [Act.put, List.setIfInBounds_toArray, List.set_cons_zero, List.set_cons_succ, i64_w, i32_w]
        rfl
      refine pure_ (i := 20) (N := (some 75)) (v := ?_) (a' := ?_) #[true, true, true, true, true, true, true, true, true, true, true, true, true, true, true, true, true, false, true, false, true, false, false, false, false, false] rfl rfl (by kernel_rfl) (fun _ _ _ h => h) (Or.inl ⟨by rfl, ?_⟩) ?_ ?_
      rotate_left
      · intro w'
        go_simp
        try with_reducible rfl
      rotate_left
      · simp only [Act.put, List.setIfInBounds_toArray, List.set_cons_zero, List.set_cons_succ, i64_w, i32_w]
        rfl
      refine pure_ (i := 22) (N := (some 77)) (v := ?_) (a' := ?_) #[true, true, true, true, true, true, true, true, true, true, true, true, true, true, true, true, true, false, true, false, true, false, true, false, false, false] rfl rfl (by kernel_rfl) (fun _ _ _ h => h) (Or.inl ⟨by rfl, ?_⟩) ?_ ?_
      rotate_left
      · intro w'
        go_simp
        try with_reducible rfl
      rotate_left
      · simp only [Act.put, List.setIfInBounds_toArray, List.set_cons_zero, List.set_cons_succ, i64_w, i32_w]
        rfl
      refine take_ (i := 17) (N := (some 72)) (v := ?_) (a' := ?_) #[true, true, true, true, true, true, true, true, true, true, true, true, true, true, true, true, true, true, true, false, true, false, true, false, false, false] rfl rfl (by kernel_rfl) (fun _ _ _ h => h) (Or.inl ⟨by rfl, ?_⟩) hHeld ?_ ?_
      rotate_left
      · rintro w' ⟨s0, s1, s2, s3⟩
        go_simp
        try with_reducible rfl
      rotate_left
      · simp only [Act.put, List.setIfInBounds_toArray, List.set_cons_zero, List.set_cons_succ, i64_w, i32_w]
        rfl
      refine take_ (i := 21) (N := (some 76)) (v := ?_) (a' := ?_) #[true, true, true, true, true, true, true, true, true, true, true, true, true, true, true, true, true, true, true, false, true, true, true, false, false, false] rfl rfl (by kernel_rfl) (fun _ _ _ h => h) (Or.inl ⟨by rfl, ?_⟩) hHeld ?_ ?_
      rotate_left
      · rintro w' ⟨s0, s1, s2, s3⟩
        go_simp
        try with_reducible rfl
      rotate_left
      · simp only [Act.put, List.setIfInBounds_toArray, List.set_cons_zero, List.set_cons_succ, i64_w, i32_w]
        rfl
      refine one_ (i := 19) (N := (some 74)) #[true, true, true, true, true, true, true, true, true, true, true, true, true, true, true, true, true, true, true, true, true, true, true, false, false, false] rfl rfl (by kernel_rfl) (by decide) (fun K hK => ?_)
      refine goes_ Try.func20 (by kernel_rfl) rfl #[.agg #[.slice (some ad1) n c1], .int .i64 k] (by rfl) rfl rfl ?hargs ((least_at k ly (H3.out.drew.at 0 rfl).1.1 (by omega) LN1.out LY.out).mono ?_)
      case hargs => first | rfl | (go_simp; done) | kernel_rfl
      rintro e w5 ⟨rfl, hb⟩
      refine ⟨_, rfl, ?_⟩
      have H5 := Aside0.mk (H3.out.drew.step hb)
      have B5 := Aside0.mk (below_more (below_drew B0.out) hb)
      clear hb
      refine hK.out _ _ ⟨H5.out.cell 0 rfl 0 rfl, H5.out.cell 1 rfl 0 rfl, HX.out _ B5.out, HX1.out _ B5.out⟩ (fun hHeld => ?_)
      clear hK K
      refine norm_ (a' := ?_) ?_ ?_
      rotate_left
      · show Act.put _ (some 74) _ = _
        simp only [Act.put, List.setIfInBounds_toArray, List.set_cons_zero, List.set_cons_succ, i64_w, i32_w]
        rfl
      refine one_ (i := 23) (N := (some 78)) #[true, true, true, true, true, true, true, true, true, true, true, true, true, true, true, true, true, true, true, true, true, true, true, true, false, false] rfl rfl (by kernel_rfl) (by decide) (fun K hK => ?_)
      refine goes_ Try.func20 (by kernel_rfl) rfl #[.agg #[.slice (some ad) n d], .int .i64 k] (by rfl) rfl rfl ?hargs ((least_at k lx (H5.out.at 1 rfl) (by omega) LN.out LX.out).mono ?_)
      case hargs => first | rfl | (go_simp; done) | kernel_rfl
      rintro e w6 ⟨rfl, hb⟩
      refine ⟨_, rfl, ?_⟩
      have H6 := Aside0.mk (H5.out.step hb)
      have B6 := Aside0.mk (below_more B5.out hb)
      clear hb
      refine hK.out _ _ ⟨H6.out.cell 0 rfl 0 rfl, H6.out.cell 1 rfl 0 rfl, HX.out _ B6.out, HX1.out _ B6.out⟩ (fun hHeld => ?_)
      clear hK K
      refine norm_ (a' := ?_) ?_ ?_
      rotate_left
      · show Act.put _ (some 78) _ = _
        simp only [Act.put, List.setIfInBounds_toArray, List.set_cons_zero, List.set_cons_succ, i64_w, i32_w]
        rfl
      refine pure_ (i := 24) (N := (some 79)) (v := ?_) (a' := ?_) #[true, true, true, true, true, true, true, true, true, true, true, true, true, true, true, true, true, true, true, true, true, true, true, true, true, false] rfl rfl (by kernel_rfl) (fun _ _ _ h => h) (Or.inl ⟨by rfl, ?_⟩) ?_ ?_
      rotate_left
      · intro w'
        go_simp
        try with_reducible rfl
      rotate_left
      · simp only [Act.put, List.setIfInBounds_toArray, List.set_cons_zero, List.set_cons_succ, i64_w, i32_w]
        rfl
      refine pure_ (i := 25) (N := (some 80)) (v := ?_) (a' := ?_) #[true, true, true, true, true, true, true, true, true, true, true, true, true, true, true, true, true, true, true, true, true, true, true, true, true, true] rfl rfl (by kernel_rfl) (fun _ _ _ h => h) (Or.inl ⟨by rfl, ?_⟩) ?_ ?_
      rotate_left
      · intro w'
        go_simp
        try with_reducible rfl
      rotate_left
      · simp only [Act.put, List.setIfInBounds_toArray, List.set_cons_zero, List.set_cons_succ, i64_w, i32_w]
        rfl
      refine done_ (by kernel_rfl) ?_
      have c0 : w6.cell? ⟨w.heap.size, 0, none⟩ = some (.slice (some ad) n d) := H6.out.cell 0 rfl 0 rfl
      have c1_ : w6.cell? ⟨u1.heap.size, 0, none⟩ = some (.slice (some ad1) n c1) := H6.out.cell 1 rfl 0 rfl
      have c2 := HX.out _ B6.out
      have c3 := HX1.out _ B6.out
      go_wp2
      go_loop [12] (fun i => ∃ t : Nat, t ≤ mm ∧ i = .int .i64 t) (fun i => mm - (intOf i).toNat)
      case atStart => exact ⟨0, by omega, rfl⟩
      case round =>
        obtain ⟨t, ht, rfl⟩ := hrel
        by_cases htl : t < mm
        · obtain ⟨bd, rfl, hy⟩ := Kd.at_int (HC.out _ B6.out) (t : Int) (by omega) (by omega)
          obtain ⟨bd1, rfl, hy1⟩ := Kd.at_int (HC1.out _ B6.out) (t : Int) (by omega) (by omega)
          have UT := U.out.2 t
          rw [Int.toNat_natCast] at hy hy1
          obtain ⟨x, hx⟩ : ∃ x, rd xs t = x := ⟨_, rfl⟩
          obtain ⟨y, hyy⟩ : ∃ y, rd ys t = y := ⟨_, rfl⟩
          rw [hx] at hy
          rw [hyy] at hy1
          have UT2 : Up x y := by rw [← hx, ← hyy]; simpa [rd] using UT
          clear UT hx hyy
          rcases UT2 with rfl | ⟨u1_, u2_, u3_⟩
          · go_wp2
            go_round
            case rel => first | exact ⟨t + 1, by omega, by go_num⟩ | ((repeat apply Exists.intro); exact ⟨⟨t + 1, by omega, by go_num⟩, rfl⟩)
            case measure => simp [intOf]; omega
          · have e1_ : (x == y) = false := beq_eq_false_iff_ne.2 (by omega)
            have e2_ : (x != y) = true := bne_iff_ne.2 (by omega)
            go_wp2
            go_round
            case rel => first | exact ⟨t + 1, by omega, by go_num⟩ | ((repeat apply Exists.intro); exact ⟨⟨t + 1, by omega, by go_num⟩, rfl⟩)
            case measure => simp [intOf]; omega
        · obtain rfl : t = mm := by omega
          go_wp2
          go_roundw
          case rel => first | exact ⟨k + 1, by omega, by go_num, H6⟩ | ((repeat apply Exists.intro); exact ⟨⟨k + 1, by omega, by go_num, H6⟩, rfl⟩)
          case measure => simp [intOf]; omega
    · obtain rfl : k = n := by omega
      go_wp2
      go_ret
      exact ⟨rfl, H3.out.bel⟩
theorem mono_any {A : Option Addr} {n d : Nat} {hs : List Hdr} {bk : List (List Int)} {B : Option Addr} {m c : Nat} {fl : List ByteArray} {w : World} (r : Nat → Int) {C : Option Addr} {cc : Nat} {l : List Acc} {C' : Option Addr} {cc' : Nat} {f : List Flt}
    (hF : Fu w A n d hs bk) (hL : Fl w B m c fl) (hl : RowsOf accV 4 w C l) (hf : RowsOf fltV 3 w C' f) (h0 : ∀ xs ∈ bk, ∀ c ∈ xs, 0 ≤ c) :
    Calls Try.prog 7 #[.agg (hwC (.slice A n d) (.slice B m c) r), .slice C l.length cc, .slice C' f.length cc'] w fun e w' => e = .returned (.bool true) ∧ Below w.heap.size w w' := by
  obtain ⟨k, vb, hk, hb⟩ := valid_f bk (Fu.bkmax hF) (Fu.rows hF)
  cases hq : smallB vb m fl with
  | false => exact mono0 r hF hL hl hf rfl rfl hk hb hq
  | true =>
    by_cases hz : 60 < (l.length : Int)
    · exact mono1 r hF hL hl hf rfl rfl hk hb hq hz
    · by_cases hy : 60 < (f.length : Int)
      · exact mono2 r hF hL hl hf rfl rfl hk hb hq (by omega) hy
      · exact mono3 r hF hL hl hf rfl rfl hk hb hq (by omega) (by omega) h0
end Go.Proofs.Ytkfhekocbfednaa.Dv
end
