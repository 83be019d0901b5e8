/- Part of the proof of deviceTorn_holds: what later parts use. -/
import Derived.Test.YtkfhekocbfednaaZt0
import Derived.Test.YtkfhekocbfednaaZt1
import Derived.Test.YtkfhekocbfednaaZt2
import Derived.Test.YtkfhekocbfednaaZt3
import Derived.Test.YtkfhekocbfednaaZt4
import Derived.Test.YtkfhekocbfednaaZt5
import Derived.Test.YtkfhekocbfednaaZt6
import Derived.Test.YtkfhekocbfednaaZt7
import Derived.Test.YtkfhekocbfednaaZt8
import Derived.Test.YtkfhekocbfednaaZt9
import Derived.Test.YtkfhekocbfednaaZt10
import Derived.Test.YtkfhekocbfednaaZt11
import Derived.Test.YtkfhekocbfednaaZt12
import Derived.Test.YtkfhekocbfednaaZt13
import Derived.Test.YtkfhekocbfednaaZt14
import Derived.Test.YtkfhekocbfednaaZt15
import Derived.Test.YtkfhekocbfednaaZt16
import Derived.Test.YtkfhekocbfednaaZt17
import Derived.Test.YtkfhekocbfednaaZt18
import Derived.Test.YtkfhekocbfednaaZt19
import Derived.Test.YtkfhekocbfednaaZt20
import Derived.Test.YtkfhekocbfednaaZt21
import Derived.Test.YtkfhekocbfednaaZt22
import Derived.Test.YtkfhekocbfednaaZt23
import Derived.Laws.StructEq
section
namespace Go.Proofs.Ytkfhekocbfednaa.Dv
set_option linter.unusedVariables false
set_option linter.unusedSimpArgs false
open Go.RowKit Go.Proofs.Ytkfhekocbfednaa
open Go.Proofs.Ytkfhekocbfednaa.Fu Go.Proofs.Ytkfhekocbfednaa.Fl
def okK (kd bank : Int) (b : ByteArray) : Bool := if kd = 1 ∨ kd = 2 then noBytes b else if kd = 3 then noBytes b && decide (bank = 0) else if kd = 4 then decide (bank = 0) else false
def errK (bk : List (List Int)) (fl : List ByteArray) (kd bank cell : Int) (b : ByteArray) : Int := if kd = 1 ∨ kd = 2 then frE bk bank cell else if kd = 3 then rdE fl cell else wrE fl cell b
def doE (bk : List (List Int)) (fl : List ByteArray) (kd bank cell : Int) (b : ByteArray) : Int := if okK kd bank b then errK bk fl kd bank cell b else 1
def doBk (bk : List (List Int)) (fl : List ByteArray) (kd bank cell : Int) (b : ByteArray) (cut : Bool) : List (List Int) := if kd = 2 ∧ doE bk fl kd bank cell b = 0 then fpL bk bank cell cut else bk
def doFl (bk : List (List Int)) (fl : List ByteArray) (kd bank cell : Int) (b : ByteArray) (cut : Bool) (fb : Int) : List ByteArray := if kd = 4 ∧ doE bk fl kd bank cell b = 0 then wrL fl cell b (cutV cut fb) else fl
def doV (bk : List (List Int)) (fl : List ByteArray) (kd bank cell : Int) (b : ByteArray) (cut noise : Bool) : Int := if kd = 1 ∧ doE bk fl kd bank cell b = 0 ∧ cut = false then frV bk bank cell noise else 0
def doS (bk : List (List Int)) (fl : List ByteArray) (kd bank cell : Int) (b : ByteArray) (cut : Bool) : ByteArray := if kd = 3 ∧ doE bk fl kd bank cell b = 0 ∧ cut = false then rdS fl cell else ⟨#[]⟩
section
variable {A : Option Addr} {n d : Nat} {hs : List Hdr} {bk : List (List Int)} {B : Option Addr} {m c : Nat} {fl : List ByteArray} {w : World} {S : Nat → Prop} {r : Nat → Int}
abbrev DoPost (S : Nat → Prop) (n m : Nat) (r : Nat → Int) (bk : List (List Int)) (fl : List ByteArray) (kd bank cell : Int) (b : ByteArray) (cut : Bool) (fb : Int) (noise : Bool) (w : World) (e : Ending) (w' : World) : Prop :=
  DoRes S n m r (doBk bk fl kd bank cell b cut) (doFl bk fl kd bank cell b cut fb) (doV bk fl kd bank cell b cut noise) (doS bk fl kd bank cell b cut) (doE bk fl kd bank cell b) w e w'
theorem bad_post {kd bank cell : Int} {b : ByteArray} {cut : Bool} {fb : Int} {noise : Bool} {e : Ending} {w' : World} (h : okK kd bank b = false) (h' : DoRes S n m r bk fl 0 ⟨#[]⟩ 1 w e w') : DoPost S n m r bk fl kd bank cell b cut fb noise w e w' := by
  have hE : doE bk fl kd bank cell b = 1 := by simp [doE, h]
  simpa [DoPost, doBk, doFl, doV, doS, hE] using h'
theorem err_post {kd bank cell : Int} {b : ByteArray} {cut : Bool} {fb : Int} {noise : Bool} {e : Ending} {w' : World} (q : Int) (h : okK kd bank b = true) (hq : errK bk fl kd bank cell b = q) (h0 : ¬ q = 0) (h' : DoRes S n m r bk fl 0 ⟨#[]⟩ q w e w') : DoPost S n m r bk fl kd bank cell b cut fb noise w e w' := by
  have hE : doE bk fl kd bank cell b = q := by simp [doE, h, hq]
  simpa [DoPost, doBk, doFl, doV, doS, hE, h0] using h'
theorem do_any (kd bank cell : Int) (b : ByteArray) (cut : Bool) (fb : Int) (noise : Bool) (hd : ∀ k, S k → k < w.heap.size) (hF : Sure S w (fun w => Fu w A n d hs bk)) (hL : Sure S w (fun w => Fl w B m c fl)) (hn : n ≤ 1000) (hb : OkBk bk) (hf : OkFl fl) :
    Calls Try.prog 10 #[.agg (hwC (.slice A n d) (.slice B m c) r), .agg #[.int .i64 kd, .int .i64 bank, .int .i64 cell, .string b], .agg #[.bool cut, .int .i64 fb, .bool noise]] w (DoPost S n m r bk fl kd bank cell b cut fb noise w) := by
  by_cases k0 : kd < 1
  · exact (do_low kd bank cell b cut fb noise hd hF hL k0).mono fun e w' h => bad_post (by simp [okK, show ¬ (kd = 1 ∨ kd = 2) by omega, show ¬ kd = 3 by omega, show ¬ kd = 4 by omega]) h
  by_cases k5 : 5 ≤ kd
  · exact (do_high kd bank cell b cut fb noise hd hF hL k5).mono fun e w' h => bad_post (by simp [okK, show ¬ (kd = 1 ∨ kd = 2) by omega, show ¬ kd = 3 by omega, show ¬ kd = 4 by omega]) h
  obtain rfl | rfl | rfl | rfl : kd = 1 ∨ kd = 2 ∨ kd = 3 ∨ kd = 4 := by omega
  · cases hv : noBytes b with
    | false => exact (do_inv1 bank cell b cut fb noise hd hF hL hv).mono fun e w' h => bad_post (by simp [okK, hv]) h
    | true =>
      have ho : okK 1 bank b = true := by simp [okK, hv]
      have hr : errK bk fl 1 bank cell b = frE bk bank cell := by simp [errK]
      by_cases hq : frE bk bank cell = 0
      · have hE : doE bk fl 1 bank cell b = 0 := by simp [doE, ho, hr, hq]
        cases cut with
        | true => exact (do_cut1 bank cell b fb noise hd hF hL hv hq).mono fun e w' h => by simpa [DoPost, doBk, doFl, doV, doS, hE] using h
        | false => exact (do_all1 bank cell b fb noise hd hF hL hv hq).mono fun e w' h => by simpa [DoPost, doBk, doFl, doV, doS, hE] using h
      · exact (do_err1 bank cell b cut fb noise hd hF hL _ hv rfl (beq_eq_false_iff_ne.2 hq)).mono fun e w' h => err_post _ ho hr hq h
  · cases hv : noBytes b with
    | false => exact (do_inv2 bank cell b cut fb noise hd hF hL hv).mono fun e w' h => bad_post (by simp [okK, hv]) h
    | true =>
      have ho : okK 2 bank b = true := by simp [okK, hv]
      have hr : errK bk fl 2 bank cell b = frE bk bank cell := by simp [errK]
      by_cases hq : frE bk bank cell = 0
      · have hE : doE bk fl 2 bank cell b = 0 := by simp [doE, ho, hr, hq]
        cases cut with
        | true => exact (do_cut2 bank cell b fb noise hd hF hL hn hb hv hq).mono fun e w' h => by simpa [DoPost, doBk, doFl, doV, doS, hE] using h
        | false => exact (do_all2 bank cell b fb noise hd hF hL hn hb hv hq).mono fun e w' h => by simpa [DoPost, doBk, doFl, doV, doS, hE] using h
      · exact (do_err2 bank cell b cut fb noise hd hF hL hn hb _ hv rfl (beq_eq_false_iff_ne.2 hq)).mono fun e w' h => err_post _ ho hr hq h
  · cases hv : (noBytes b && decide (bank = 0)) with
    | false => exact (do_inv3 bank cell b cut fb noise hd hF hL hv).mono fun e w' h => bad_post (by simp [okK, hv]) h
    | true =>
      have ho : okK 3 bank b = true := by simp [okK, hv]
      have hr : errK bk fl 3 bank cell b = rdE fl cell := by simp [errK]
      by_cases hq : rdE fl cell = 0
      · have hE : doE bk fl 3 bank cell b = 0 := by simp [doE, ho, hr, hq]
        cases cut with
        | true => exact (do_cut3 bank cell b fb noise hd hF hL hv hq).mono fun e w' h => by simpa [DoPost, doBk, doFl, doV, doS, hE] using h
        | false => exact (do_all3 bank cell b fb noise hd hF hL hv hq).mono fun e w' h => by simpa [DoPost, doBk, doFl, doV, doS, hE] using h
      · exact (do_err3 bank cell b cut fb noise hd hF hL _ hv rfl (beq_eq_false_iff_ne.2 hq)).mono fun e w' h => err_post _ ho hr hq h
  · cases hv : decide (bank = 0) with
    | false => exact (do_inv4 bank cell b cut fb noise hd hF hL hv).mono fun e w' h => bad_post (by simpa [okK] using hv) h
    | true =>
      have ho : okK 4 bank b = true := by simpa [okK] using hv
      have hr : errK bk fl 4 bank cell b = wrE fl cell b := by simp [errK]
      by_cases hq : wrE fl cell b = 0
      · have hE : doE bk fl 4 bank cell b = 0 := by simp [doE, ho, hr, hq]
        cases cut with
        | true => exact (do_cut4 bank cell b fb noise hd hF hL hf hv hq).mono fun e w' h => by simpa [DoPost, doBk, doFl, doV, doS, hE] using h
        | false => exact (do_all4 bank cell b fb noise hd hF hL hf hv hq).mono fun e w' h => by simpa [DoPost, doBk, doFl, doV, doS, hE] using h
      · exact (do_err4 bank cell b cut fb noise hd hF hL hf _ hv rfl (beq_eq_false_iff_ne.2 hq)).mono fun e w' h => err_post _ ho hr hq h
end
end Go.Proofs.Ytkfhekocbfednaa.Dv
namespace Go.Proofs.Ytkfhekocbfednaa.Dv
set_option linter.unusedVariables false
set_option linter.unusedSimpArgs false
open Go.RowKit Go.Proofs.Ytkfhekocbfednaa Go.Proofs.YtkfhekocbfednaaW.PrintWords Go.Proofs.YtkfhekocbfednaaW.PrintLast Go.Proofs.YtkfhekocbfednaaW.PrintMore
open Go.Proofs.Ytkfhekocbfednaa.Fu Go.Proofs.Ytkfhekocbfednaa.Fl
attribute [local go_sem] max2_max min2_min max_two min_two
def NewRes (S : Nat → Prop) (r : Nat → Int) (bk : List (List Int)) (fl : List ByteArray) (code : Int) (w : World) (e : Ending) (w' : World) : Prop :=
  ∃ A c hs B d, e = .returned (.tuple #[.agg (hwC (.slice A bk.length c) (.slice B fl.length d) r), .int .i64 code]) ∧ Back S w w' (fun w => Fu w A bk.length c hs bk ∧ Fl w B fl.length d fl)
theorem fnew_at (S : Nat → Prop) {A : Option Addr} {n c : Nat} {l : List Int} {w : World} {bk : List (List Int)} {q : Int} (hr : Kd.C (Kd.int .i64) w A n l) (h1 : newBk l = bk) (h2 : newBe l = q) :
    Calls Try.prog 27 #[.slice A n c] w (FuseRes S bk bk.length q w) := by rw [← h1, ← h2]; exact Fu.new_any S hr
theorem lnew_at (S : Nat → Prop) (w : World) : Calls Try.prog 28 #[.int .i64 128] w (FlS S (newL 128) (newL 128).length 0 w) := by
  have := Fl.new_any S 128 w
  rwa [show newE 128 = 0 from by decide] at this
theorem lnew_st {w0 w : World} {S : Nat → Prop} {ds : List (World → Prop)} {os : List Blk} (_ : St w0 S ds os w) : Calls Try.prog 28 #[.int .i64 128] w (FlS S (newL 128) (newL 128).length 0 w) := lnew_at S w
set_option maxRecDepth 100000 in
set_option maxHeartbeats 16000000 in
theorem dnew_all (S : Nat → Prop) {A : Option Addr} {n c : Nat} {l : List Int} {w : World} (r : Nat → Int) (hd : ∀ k, S k → k < w.heap.size) (hr : Kd.C (Kd.int .i64) w A n l) (hE : newBe l = 0) :
    Calls Try.prog 12 #[.agg #[.int .u8 (r 0), .int .u8 (r 1), .int .u8 (r 2), .int .u8 (r 3), .int .u8 (r 4), .int .u8 (r 5), .int .u8 (r 6), .int .u8 (r 7), .int .u8 (r 8), .int .u8 (r 9), .int .u8 (r 10), .int .u8 (r 11), .int .u8 (r 12), .int .u8 (r 13), .int .u8 (r 14), .int .u8 (r 15)], .slice A n c] w (NewRes S r (newBk l) (newL 128) 0 w) := by
  have H0 := Aside0.mk ((St.enter (S := S) (ds := []) hd (fun p hp => by cases hp)).alloc2 #[.int .u8 (r 0), .int .u8 (r 1), .int .u8 (r 2), .int .u8 (r 3), .int .u8 (r 4), .int .u8 (r 5), .int .u8 (r 6), .int .u8 (r 7), .int .u8 (r 8), .int .u8 (r 9), .int .u8 (r 10), .int .u8 (r 11), .int .u8 (r 12), .int .u8 (r 13), .int .u8 (r 14), .int .u8 (r 15)] 29 #[.slice none 0 0, .slice none 0 0, .int .u8 0, .int .u8 0, .int .u8 0, .int .u8 0, .int .u8 0, .int .u8 0, .int .u8 0, .int .u8 0, .int .u8 0, .int .u8 0, .int .u8 0, .int .u8 0, .int .u8 0, .int .u8 0, .int .u8 0, .int .u8 0] 31)
  have HR := Aside0.mk (fun W hb => Kd.C_below hr hb : ∀ W, Below w.heap.size w W → Kd.C (Kd.int .i64) W A n l)
  obtain ⟨bk, hbk⟩ : ∃ bk, newBk l = bk := ⟨_, rfl⟩
  have EB := Aside0.mk hbk
  have EQ := Aside0.mk hE
  clear hr hbk hE
  go_enter Try.func12, Try.ntmps12
  go_wp2_with (first | (go_at_call 27; refine (fnew_at S (HR.out _ H0.out.bel) EB.out EQ.out).mono ?_; rintro e w1 ⟨A1, c1, hs1, rfl, hb⟩; have H1 := Aside0.mk (H0.out.call hb); clear hb) | ((with_reducible refine gate_store (t := 24) (p := 6) rfl ?_); refine storeRowSt_ (ty := 24) rfl rfl rfl #[.slice A1 bk.length c1] (H1.out.alloc #[.slice none 0 0] 24) 2 rfl rfl rfl (by kernel_rfl) rfl (by kernel_rfl) ?_; intro w2 h_; have H2 := Aside0.mk h_; clear h_) | (go_at_call 28; refine (lnew_st H2.out).mono ?_; rintro e w3 ⟨B1, d1, rfl, hb⟩; have H3 := Aside0.mk (H2.out.call hb); clear hb) | ((with_reducible refine gate_store (t := 27) (p := 8) rfl ?_); refine storeRowSt_ (ty := 27) rfl rfl rfl #[.slice B1 (newL 128).length d1] (H3.out.alloc #[.slice none 0 0] 27) 3 rfl rfl rfl (by kernel_rfl) rfl (by kernel_rfl) ?_; intro w4 h_; have H4 := Aside0.mk h_; clear h_; have k2 := H4.out.cell 2 rfl 0 rfl; have k3 := H4.out.cell 3 rfl 0 rfl) | (refine loadRowL_ (ty := 29) _ rfl rfl rfl _ _ _ _ _ rfl (H4.out.blk 0 rfl) Try.underlying29 rfl (by kernel_rfl) ?_) | ((with_reducible refine gate_store (t := 31) (p := 4) rfl ?_); refine storeRowSt_ (ty := 31) rfl rfl rfl (hwC (.slice A1 bk.length c1) (.slice B1 (newL 128).length d1) r) H4.out 1 rfl rfl rfl (by kernel_rfl) rfl (by kernel_rfl) ?_; intro w5 h_; have H5 := Aside0.mk h_; clear h_))
  refine bodyPost_ret (results_ct rfl _ _ (w.heap.size + 1) 31 (hwC (.slice A1 bk.length c1) (.slice B1 (newL 128).length d1) r) (0, 0) _ rfl (H5.out.blk 1 rfl) Try.underlying31 rfl (by kernel_rfl)) rfl ?_
  obtain rfl := EB.out
  exact ⟨A1, c1, hs1, B1, d1, rfl, H5.out.done ((H5.out.sureNew 1 rfl).and (H5.out.sureNew 0 rfl)) (fun k hk => hk.elim (fun hk => hk.imp id (fun h => Nat.le_trans H0.out.bel.size h.1)) (fun h => .inr (Nat.le_trans H2.out.bel.size h.1)))⟩
end Go.Proofs.Ytkfhekocbfednaa.Dv
end
