/- Part of the proof of deviceTorn_holds: what later parts use. -/
import Derived.Test.YtkfhekocbfednaaZt0
import Derived.Test.YtkfhekocbfednaaZt1
import Derived.Test.YtkfhekocbfednaaZt2
import Derived.Test.YtkfhekocbfednaaZt3
import Derived.Test.YtkfhekocbfednaaZt4
import Derived.Test.YtkfhekocbfednaaZt5
import Derived.Test.YtkfhekocbfednaaZt6
import Derived.Test.YtkfhekocbfednaaZt7
import Derived.Test.YtkfhekocbfednaaZt8
import Derived.Test.YtkfhekocbfednaaZt9
import Derived.Test.YtkfhekocbfednaaZt10
import Derived.Test.YtkfhekocbfednaaZt11
import Derived.Test.YtkfhekocbfednaaZt12
import Derived.Test.YtkfhekocbfednaaZt13
import Derived.Test.YtkfhekocbfednaaZt14
import Derived.Test.YtkfhekocbfednaaZt15
import Derived.Test.YtkfhekocbfednaaZt16
import Derived.Test.YtkfhekocbfednaaZt17
import Derived.Test.YtkfhekocbfednaaZt18
import Derived.Test.YtkfhekocbfednaaZt19
import Derived.Test.YtkfhekocbfednaaZt20
import Derived.Test.YtkfhekocbfednaaZt21
import Derived.Test.YtkfhekocbfednaaZt22
import Derived.Test.YtkfhekocbfednaaZt23
import Derived.Test.YtkfhekocbfednaaZt24
import Derived.Test.YtkfhekocbfednaaZt25
import Derived.Test.YtkfhekocbfednaaZt26
import Derived.Test.YtkfhekocbfednaaZt27
import Derived.Test.YtkfhekocbfednaaZt28
import Derived.Test.YtkfhekocbfednaaZt29
import Derived.Test.YtkfhekocbfednaaZt30
import Derived.Test.YtkfhekocbfednaaZt31
import Derived.Test.YtkfhekocbfednaaZt32
import Derived.Test.YtkfhekocbfednaaZt33
import Derived.Laws.StructEq
section
namespace Go.Proofs.Ytkfhekocbfednaa.Dv
set_option linter.unusedVariables false
set_option linter.unusedSimpArgs false
open Go.RowKit Go.Proofs.Ytkfhekocbfednaa Go.Proofs.YtkfhekocbfednaaW.PrintWords Go.Proofs.YtkfhekocbfednaaW.PrintLast Go.Proofs.YtkfhekocbfednaaW.PrintMore
open Go.Proofs.Ytkfhekocbfednaa.Fu Go.Proofs.Ytkfhekocbfednaa.Fl Go.Proofs.Ytkfhekocbfednaa.PDeviceMatches
attribute [local go_sem] max2_max min2_min max_two min_two
theorem conv_el {P : Program} {oi : Oper} {a : Act} {w : World} {src dst e : TypeId} {p : Operand} {A : Option Addr} {n c : Nat} {xs : List Int} {s : ByteArray} (hop : oi.op = .convert src dst p) (hp : a.eval p = .slice A n c) (hs : P.underlying src = some (.slice e)) (he : P.underlying e = some (.int .u8)) (hd : P.underlying dst = some .string)
    (h : (Kd.int .u8).C w A n xs) (hx : strOfNums xs = s) : (execOp a.eval oi).run P w = .ok (.value (.string s)) w := by
  unfold execOp
  simp [hop, hp, Kd.C_string hs he hd h, hx]
theorem full_at {zs : ByteArray} (h : fullS 0 = zs) (w : World) : Calls Try.prog 19 #[.int .u8 0] w fun e w' => e = .returned (.string zs) ∧ Below w.heap.size w w' := h ▸ full_any 0 w
theorem nums_size (xs : List Int) : (strOfNums xs).size = xs.length := by
  unfold strOfNums
  rw [Lib.size_eq]
  show (List.map _ _).length = _
  rw [List.length_map]
theorem wr_ok {bk : List (List Int)} {fl : List ByteArray} {k : Int} {b : ByteArray} (h0 : 0 ≤ k) (h1 : k < (fl.length : Int)) (hb : b.size = 256) : doE bk fl 4 0 k b = 0 := by
  have : errK bk fl 4 0 k b = wrE fl k b := by simp [errK]
  simp [doE, okK, this, wrE, hb]
  omega
theorem newL_len : (newL 128).length = 128 := by simp [newL]
theorem torn_all {was is : ByteArray} (hw : was.size = 256) (hi : is.size = 256) {k : Int} (h0 : 0 ≤ k) (h1 : k < 128) (bk : List (List Int)) (cut : Bool) (fb : Int) (noise : Bool) :
    allR [(false, 0, false), (cut, fb, noise)] [(4, 0, k, was), (4, 0, k, is)] 0 bk (newL 128) [] = (bk, (newL 128).set k.toNat (mergeB is was (cutV cut fb)), if cut = true then [(0, ⟨#[]⟩)] else [(0, ⟨#[]⟩), (0, ⟨#[]⟩)], 0) := by
  have e1 : doE bk (newL 128) 4 0 k was = 0 := wr_ok h0 (by rw [newL_len]; omega) hw
  have hm : mergeB was (rdOf ByteArray.empty (newL 128) k) (-1) = was := by simp [mergeB]
  have l1 : doFl bk (newL 128) 4 0 k was false 0 = (newL 128).set k.toNat was := by
    simp [doFl, e1, wrL, h0, newL_len, h1, hw, writeL, cutV, hm]
  have e2 : doE bk ((newL 128).set k.toNat was) 4 0 k is = 0 := wr_ok h0 (by rw [List.length_set, newL_len]; omega) hi
  have hr : rdOf ByteArray.empty ((newL 128).set k.toNat was) k = was := by
    have : k.toNat < 128 := by omega
    simp [rdOf, List.getD, newL_len, this]
  have l2 : doFl bk ((newL 128).set k.toNat was) 4 0 k is cut fb = (newL 128).set k.toNat (mergeB is was (cutV cut fb)) := by
    simp [doFl, e2, wrL, h0, newL_len, h1, hi, writeL, hr]
  have b1 : ∀ fl x c, doBk bk fl 4 0 k x c = bk := fun fl x c => by simp [doBk]
  have v1 : ∀ fl x c n, doV bk fl 4 0 k x c n = 0 := fun fl x c n => by simp [doV]
  have s1 : ∀ fl x c, doS bk fl 4 0 k x c = ⟨#[]⟩ := fun fl x c => by simp [doS]
  have f0 : ftAt [(false, 0, false), (cut, fb, noise)] 0 = (false, 0, false) := rfl
  have f1 : ftAt [(false, 0, false), (cut, fb, noise)] (0 + 1) = (cut, fb, noise) := rfl
  simp only [allR, f0, f1, e1, e2, l1, l2, b1, v1, s1, if_true, List.nil_append]
  cases cut <;> simp
theorem torn_eq {was is : ByteArray} (hw : was.size = 256) (hi : is.size = 256) {q : Int} (h0 : 0 ≤ q) (h1 : q ≤ 256) : mergeB is was q = is.extract 0 q.toNat ++ was.extract q.toNat 256 := by
  unfold mergeB
  rw [if_neg (by omega)]
  split
  · have : q.toNat = 256 := by omega
    rw [this]
    have x1 : is.extract 0 256 = is := by rw [← hi]; exact ByteArray.extract_zero_size
    have x2 : was.extract 256 256 = ByteArray.empty := by apply ByteArray.ext; apply Array.ext'; simp
    rw [x1, x2, ByteArray.append_empty]
  · rw [hw, show min q.toNat 256 = q.toNat by omega]
theorem torn_whole {was is : ByteArray} (hw : was.size = 256) (hi : is.size = 256) : mergeB is was (-1) = is.extract 0 256 ++ was.extract 256 256 := by
  have h := torn_eq hw hi (q := 256) (by omega) (by omega)
  rw [show (256 : Int).toNat = 256 from rfl] at h
  rw [← h]
  unfold mergeB
  rw [if_pos (by omega), if_neg (by omega), if_pos (by omega)]
theorem set_rd {mm : ByteArray} {kk : Int} (h0 : 0 ≤ kk) (h1 : kk < 128) : rdOf ByteArray.empty ((newL 128).set kk.toNat mm) kk = mm := by
  have : kk.toNat < 128 := by omega
  simp [rdOf, List.getD, newL_len, this]
theorem bk1_eq : newBk [1] = [[0, 0, 0]] := by decide
theorem bk1_ok : OkBk (newBk [1]) := by
  rw [bk1_eq]
  intro xs hx
  obtain rfl := List.mem_singleton.1 hx
  refine ⟨by decide, fun c hc => ?_⟩
  simp only [List.mem_cons, List.not_mem_nil, or_false, or_self] at hc
  omega
theorem new1 {w : World} {A : Option Addr} {n c : Nat} {S : Nat → Prop} (hd : ∀ k, S k → k < w.heap.size) (hr : Kd.C (Kd.int .i64) w A n [1]) :
    Calls Try.prog 12 #[.agg #[.int .u8 0, .int .u8 0, .int .u8 0, .int .u8 0, .int .u8 0, .int .u8 0, .int .u8 0, .int .u8 0, .int .u8 0, .int .u8 0, .int .u8 0, .int .u8 0, .int .u8 0, .int .u8 0, .int .u8 0, .int .u8 0], .slice A n c] w fun e w' => ∃ A c hs B d, e = .returned (.tuple #[.agg (hwC (.slice A 1 c) (.slice B 128 d) (fun _ => 0)), .int .i64 0]) ∧ Back S w w' (fun w => Fu w A 1 c hs (newBk [1]) ∧ Fl w B 128 d (newL 128)) :=
  (dnew_all S (fun _ => 0) hd hr (by decide)).mono fun e w' h => by
    obtain ⟨A, c, hs, B, d, h1, h2⟩ := h
    rw [newL_len, show (newBk [1]).length = 1 by rw [bk1_eq]; rfl] at h1
    rw [newL_len, show (newBk [1]).length = 1 by rw [bk1_eq]; rfl] at h2
    exact ⟨A, c, hs, B, d, h1, h2⟩
theorem two_rows {α : Type} {enc : α → Array Value} {sz : Nat} {w : World} {g : Nat} {t : TypeId} {a b : α} {cs : Array Value} (h : w.heap[g]? = some (.cells cs t (0, 0))) (ha : (enc a).size = sz) (hb : (enc b).size = sz) (hc : cs = enc a ++ enc b) : RowsOf enc sz w (some ⟨g, 0, none⟩) [a, b] := by
  refine ⟨by simp, fun _ => ⟨_, rfl, fun j p hj i u hu => ?_⟩⟩
  have hi : i < (enc p).size := (Array.getElem?_eq_some_iff.1 hu).1
  rw [Addr.add_mid, Addr.add_mid, blk_cell h, hc]
  match j, hj with
  | 0, hj =>
    obtain rfl : a = p := by simpa using hj
    rw [Array.getElem?_append_left (by omega)]
    simpa using hu
  | 1, hj =>
    obtain rfl : b = p := by simpa using hj
    rw [Array.getElem?_append_right (by omega)]
    simpa [ha] using hu
  | j + 2, hj => simp at hj
set_option maxRecDepth 100000 in
set_option maxHeartbeats 64000000 in
theorem torn0 {A : Option Addr} {n c : Nat} {xs : List Int} {A2 : Option Addr} {n2 c2 : Nat} {ys : List Int} {w : World} (sec : Int) (cut : Bool) (fb : Int) (noise : Bool)
    (hC : Kd.C (Kd.int .u8) w A n xs) (hC2 : Kd.C (Kd.int .u8) w A2 n2 ys) (hs0 : 0 ≤ sec) (hs1 : sec ≤ 255) (hz : 256 < (n : Int)) :
    Calls Try.prog 6 #[.slice A n c, .slice A2 n2 c2, .int .u8 sec, .agg #[.bool cut, .int .i64 fb, .bool noise]] w fun e w' => e = .returned (.bool true) ∧ Below w.heap.size w w' := by
  have H0 := Aside0.mk ((St.enter (S := fun k => k < w.heap.size) (ds := []) (fun _ h => h) (fun p hp => by cases hp)).alloc #[.bool cut, .int .i64 fb, .bool noise] 35)
  have hn := hC.2.1
  have hn2 := hC2.2.1
  clear hC hC2
  go_enter Try.func6, Try.ntmps6
  go_wp2_with (first | (go_at_call 8; refine (sanity_any _).mono ?_; rintro e w1 ⟨rfl, hb⟩; have H1 := Aside0.mk (H0.out.step hb); clear hb))
  go_ret
  exact ⟨rfl, H1.out.bel⟩
set_option maxRecDepth 100000 in
set_option maxHeartbeats 64000000 in
theorem torn1 {A : Option Addr} {n c : Nat} {xs : List Int} {A2 : Option Addr} {n2 c2 : Nat} {ys : List Int} {w : World} (sec : Int) (cut : Bool) (fb : Int) (noise : Bool)
    (hC : Kd.C (Kd.int .u8) w A n xs) (hC2 : Kd.C (Kd.int .u8) w A2 n2 ys) (hs0 : 0 ≤ sec) (hs1 : sec ≤ 255) (hz : (n : Int) ≤ 256) (hy : 256 < (n2 : Int)) :
    Calls Try.prog 6 #[.slice A n c, .slice A2 n2 c2, .int .u8 sec, .agg #[.bool cut, .int .i64 fb, .bool noise]] w fun e w' => e = .returned (.bool true) ∧ Below w.heap.size w w' := by
  have H0 := Aside0.mk ((St.enter (S := fun k => k < w.heap.size) (ds := []) (fun _ h => h) (fun p hp => by cases hp)).alloc #[.bool cut, .int .i64 fb, .bool noise] 35)
  have hn := hC.2.1
  have hn2 := hC2.2.1
  clear hC hC2
  go_enter Try.func6, Try.ntmps6
  go_wp2_with (first | (go_at_call 8; refine (sanity_any _).mono ?_; rintro e w1 ⟨rfl, hb⟩; have H1 := Aside0.mk (H0.out.step hb); clear hb))
  go_ret
  exact ⟨rfl, H1.out.bel⟩
set_option maxRecDepth 100000 in
set_option maxHeartbeats 64000000 in
theorem torn2 {A : Option Addr} {n c : Nat} {xs : List Int} {A2 : Option Addr} {n2 c2 : Nat} {ys : List Int} {w : World} (sec : Int) (cut : Bool) (fb : Int) (noise : Bool)
    (hC : Kd.C (Kd.int .u8) w A n xs) (hC2 : Kd.C (Kd.int .u8) w A2 n2 ys) (hs0 : 0 ≤ sec) (hs1 : sec ≤ 255) (hz : (n : Int) ≤ 256) (hy : (n2 : Int) ≤ 256) :
    Calls Try.prog 6 #[.slice A n c, .slice A2 n2 c2, .int .u8 sec, .agg #[.bool cut, .int .i64 fb, .bool noise]] w fun e w' => e = .returned (.bool true) ∧ Below w.heap.size w w' := by
  have H0 := Aside0.mk ((St.enter (S := fun k => k < w.heap.size) (ds := []) (fun _ h => h) (fun p hp => by cases hp)).alloc #[.bool cut, .int .i64 fb, .bool noise] 35)
  have hn := hC.2.1
  have hn2 := hC2.2.1
  have HC := Aside0.mk (fun W hb => Kd.C_below hC hb : ∀ W, Below w.heap.size w W → Kd.C (Kd.int .u8) W A n xs)
  have HC2 := Aside0.mk (fun W hb => Kd.C_below hC2 hb : ∀ W, Below w.heap.size w W → Kd.C (Kd.int .u8) W A2 n2 ys)
  obtain ⟨sx, hsx⟩ : ∃ y, strOfNums xs = y := ⟨_, rfl⟩
  obtain ⟨sy, hsy⟩ : ∃ y, strOfNums ys = y := ⟨_, rfl⟩
  obtain ⟨zs, hzs⟩ : ∃ y, fullS 0 = y := ⟨_, rfl⟩
  have zx : sx.size = n := by rw [← hsx, nums_size]; exact hC.1
  have zy : sy.size = n2 := by rw [← hsy, nums_size]; exact hC2.1
  have zz : zs.size = 256 := by rw [← hzs]; exact full_size 0
  have SX := Aside0.mk hsx
  have SY := Aside0.mk hsy
  have ZS := Aside0.mk hzs
  have hcat1 : (9223372036854775807 < n + (256 - n)) = False := by simp; omega
  have hcat2 : (9223372036854775807 < n2 + (256 - n2)) = False := by simp; omega
  clear hC hC2 hsx hsy hzs
  go_enter Try.func6, Try.ntmps6
  go_wp2_with (first | (go_at_call 8; refine (sanity_any _).mono ?_; rintro e w1 ⟨rfl, hb⟩; have H1 := Aside0.mk (H0.out.step hb); clear hb))
  refine start_ (n := 8) (S := (fun w' => Kd.C (Kd.int .u8) w' A n xs)) (ds := []) #[false, false, false, false, false, false, false, false] (by kernel_rfl) rfl rfl (HC.out _ H1.out.drew.bel) (fun hHeld => ?_)
  refine pure_ (i := 0) (N := (some 30)) (v := ?_) (a' := ?_) #[true, false, false, false, false, false, false, false] rfl rfl (by kernel_rfl) (fun _ _ _ h => h) (Or.inl ⟨by rfl, ?_⟩) ?_ ?_
  rotate_left
  · intro w'
    go_simp
    try with_reducible rfl
  rotate_left
  · simp only [Act.put, List.setIfInBounds_toArray, List.set_cons_zero, List.set_cons_succ, i64_w, i32_w]
    rfl
  refine pure_ (i := 3) (N := (some 33)) (v := ?_) (a' := ?_) #[true, false, false, true, false, false, false, false] rfl rfl (by kernel_rfl) (fun _ _ _ h => h) (Or.inl ⟨by rfl, ?_⟩) ?_ ?_
  rotate_left
  · intro w'
    go_simp
    try with_reducible rfl
  rotate_left
  · simp only [Act.put, List.setIfInBounds_toArray, List.set_cons_zero, List.set_cons_succ, i64_w, i32_w]
    rfl
  refine pure_ (i := 4) (N := (some 34)) (v := ?_) (a' := ?_) #[true, false, false, true, true, false, false, false] rfl rfl (by kernel_rfl) (fun _ _ _ h => h) (Or.inl ⟨by rfl, ?_⟩) ?_ ?_
  rotate_left
  · intro w'
    go_simp
    try with_reducible rfl
  rotate_left
  · simp only [Act.put, List.setIfInBounds_toArray, List.set_cons_zero, List.set_cons_succ, i64_w, i32_w]
    rfl
  refine take_ (i := 1) (N := (some 31)) (v := ?_) (a' := ?_) #[true, true, false, true, true, false, false, false] rfl rfl (by kernel_rfl) (fun _ _ _ h => h) (Or.inl ⟨by rfl, ?_⟩) hHeld ?_ ?_
  rotate_left
  · rintro w' s0
    refine conv_el (e := 5) (p := .tmp 30) (A := A) (n := n) (c := c) ?p1 ?p2 Try.underlying56 Try.underlying5 Try.underlying9 s0 SX.out; (case p1 => rfl); (case p2 => rfl)
  rotate_left
  · simp only [Act.put, List.setIfInBounds_toArray, List.set_cons_zero, List.set_cons_succ, i64_w, i32_w]
    rfl
  refine one_ (i := 2) (N := (some 32)) #[true, true, true, true, true, false, false, false] rfl rfl (by kernel_rfl) (by decide) (fun K hK => ?_)
  refine goes_ Try.func19 (by kernel_rfl) rfl #[.int .u8 0] (by rfl) rfl rfl ?hargs ((full_at ZS.out _).mono ?_)
  case hargs => first | rfl | (go_simp; done) | kernel_rfl
  rintro e w2 ⟨rfl, hb⟩
  refine ⟨_, rfl, ?_⟩
  have H2 := Aside0.mk (H1.out.drew.step hb)
  clear hb
  refine hK.out _ _ (HC.out _ H2.out.bel) (fun hHeld => ?_)
  clear hK K
  refine norm_ (a' := ?_) ?_ ?_
  rotate_left
  · show Act.put _ (some 32) _ = _
    simp only [Act.put, List.setIfInBounds_toArray, List.set_cons_zero, List.set_cons_succ, i64_w, i32_w]
    rfl
  refine pure_ (i := 5) (N := (some 35)) (v := ?_) (a' := ?_) #[true, true, true, true, true, true, false, false] rfl rfl (by kernel_rfl) (fun _ _ _ h => h) (Or.inl ⟨by rfl, ?_⟩) ?_ ?_
  rotate_left
  · intro w'
    go_simp
    try with_reducible rfl
  rotate_left
  · simp only [Act.put, List.setIfInBounds_toArray, List.set_cons_zero, List.set_cons_succ, i64_w, i32_w]
    rfl
  refine pure_ (i := 6) (N := (some 36)) (v := ?_) (a' := ?_) #[true, true, true, true, true, true, true, false] rfl rfl (by kernel_rfl) (fun _ _ _ h => h) (Or.inl ⟨by rfl, ?_⟩) ?_ ?_
  rotate_left
  · intro w'
    go_simp
    try with_reducible rfl
  rotate_left
  · simp only [Act.put, List.setIfInBounds_toArray, List.set_cons_zero, List.set_cons_succ, i64_w, i32_w]
    rfl
  refine pure_ (i := 7) (N := (some 10)) (v := ?_) (a' := ?_) #[true, true, true, true, true, true, true, true] rfl rfl (by kernel_rfl) (fun _ _ _ h => h) (Or.inl ⟨by rfl, ?_⟩) ?_ ?_
  rotate_left
  · intro w'
    go_simp
    try with_reducible rfl
  rotate_left
  · simp only [Act.put, List.setIfInBounds_toArray, List.set_cons_zero, List.set_cons_succ, i64_w, i32_w]
    rfl
  refine done_ (by kernel_rfl) ?_
  go_wp2
  refine start_ (n := 8) (S := (fun w' => Kd.C (Kd.int .u8) w' A2 n2 ys)) (ds := []) #[false, false, false, false, false, false, false, false] (by kernel_rfl) rfl rfl (HC2.out _ H2.out.drew.bel) (fun hHeld => ?_)
  refine pure_ (i := 0) (N := (some 37)) (v := ?_) (a' := ?_) #[true, false, false, false, false, false, false, false] rfl rfl (by kernel_rfl) (fun _ _ _ h => h) (Or.inl ⟨by rfl, ?_⟩) ?_ ?_
  rotate_left
  · intro w'
    go_simp
    try with_reducible rfl
  rotate_left
  · simp only [Act.put, List.setIfInBounds_toArray, List.set_cons_zero, List.set_cons_succ, i64_w, i32_w]
    rfl
  refine pure_ (i := 3) (N := (some 40)) (v := ?_) (a' := ?_) #[true, false, false, true, false, false, false, false] rfl rfl (by kernel_rfl) (fun _ _ _ h => h) (Or.inl ⟨by rfl, ?_⟩) ?_ ?_
  rotate_left
  · intro w'
    go_simp
    try with_reducible rfl
  rotate_left
  · simp only [Act.put, List.setIfInBounds_toArray, List.set_cons_zero, List.set_cons_succ, i64_w, i32_w]
    rfl
  refine pure_ (i := 4) (N := (some 41)) (v := ?_) (a' := ?_) #[true, false, false, true, true, false, false, false] rfl rfl (by kernel_rfl) (fun _ _ _ h => h) (Or.inl ⟨by rfl, ?_⟩) ?_ ?_
  rotate_left
  · intro w'
    go_simp
    try with_reducible rfl
  rotate_left
  · simp only [Act.put, List.setIfInBounds_toArray, List.set_cons_zero, List.set_cons_succ, i64_w, i32_w]
    rfl
  refine take_ (i := 1) (N := (some 38)) (v := ?_) (a' := ?_) #[true, true, false, true, true, false, false, false] rfl rfl (by kernel_rfl) (fun _ _ _ h => h) (Or.inl ⟨by rfl, ?_⟩) hHeld ?_ ?_
  rotate_left
  · rintro w' s0
    refine conv_el (e := 5) (p := .tmp 37) (A := A2) (n := n2) (c := c2) ?p1 ?p2 Try.underlying56 Try.underlying5 Try.underlying9 s0 SY.out; (case p1 => rfl); (case p2 => rfl)
  rotate_left
  · simp only [Act.put, List.setIfInBounds_toArray, List.set_cons_zero, List.set_cons_succ, i64_w, i32_w]
    rfl
  refine one_ (i := 2) (N := (some 39)) #[true, true, true, true, true, false, false, false] rfl rfl (by kernel_rfl) (by decide) (fun K hK => ?_)
  refine goes_ Try.func19 (by kernel_rfl) rfl #[.int .u8 0] (by rfl) rfl rfl ?hargs ((full_at ZS.out _).mono ?_)
  case hargs => first | rfl | (go_simp; done) | kernel_rfl
  rintro e w3 ⟨rfl, hb⟩
  refine ⟨_, rfl, ?_⟩
  have H3 := Aside0.mk (H2.out.drew.step hb)
  clear hb
  refine hK.out _ _ (HC2.out _ H3.out.bel) (fun hHeld => ?_)
  clear hK K
  refine norm_ (a' := ?_) ?_ ?_
  rotate_left
  · show Act.put _ (some 39) _ = _
    simp only [Act.put, List.setIfInBounds_toArray, List.set_cons_zero, List.set_cons_succ, i64_w, i32_w]
    rfl
  refine pure_ (i := 5) (N := (some 42)) (v := ?_) (a' := ?_) #[true, true, true, true, true, true, false, false] rfl rfl (by kernel_rfl) (fun _ _ _ h => h) (Or.inl ⟨by rfl, ?_⟩) ?_ ?_
  rotate_left
  · intro w'
    go_simp
    try with_reducible rfl
  rotate_left
  · simp only [Act.put, List.setIfInBounds_toArray, List.set_cons_zero, List.set_cons_succ, i64_w, i32_w]
    rfl
  refine pure_ (i := 6) (N := (some 43)) (v := ?_) (a' := ?_) #[true, true, true, true, true, true, true, false] rfl rfl (by kernel_rfl) (fun _ _ _ h => h) (Or.inl ⟨by rfl, ?_⟩) ?_ ?_
  rotate_left
  · intro w'
    go_simp
    try with_reducible rfl
  rotate_left
  · simp only [Act.put, List.setIfInBounds_toArray, List.set_cons_zero, List.set_cons_succ, i64_w, i32_w]
    rfl
  refine pure_ (i := 7) (N := (some 11)) (v := ?_) (a' := ?_) #[true, true, true, true, true, true, true, true] rfl rfl (by kernel_rfl) (fun _ _ _ h => h) (Or.inl ⟨by rfl, ?_⟩) ?_ ?_
  rotate_left
  · intro w'
    go_simp
    try with_reducible rfl
  rotate_left
  · simp only [Act.put, List.setIfInBounds_toArray, List.set_cons_zero, List.set_cons_succ, i64_w, i32_w]
    rfl
  refine done_ (by kernel_rfl) ?_
  obtain ⟨was, hwas⟩ : ∃ y, sx ++ zs.extract n 256 = y := ⟨_, rfl⟩
  obtain ⟨is, his⟩ : ∃ y, sy ++ zs.extract n2 256 = y := ⟨_, rfl⟩
  rw [hwas, his]
  have zw : was.size = 256 := by rw [← hwas, ByteArray.size_append, ByteArray.size_extract, zx, zz]; omega
  have zi : is.size = 256 := by rw [← his, ByteArray.size_append, ByteArray.size_extract, zy, zz]; omega
  clear hwas his zx zy zz hcat1 hcat2 SX SY ZS HC HC2
  have hr0 : 0 ≤ sec % 128 := by omega
  have hr1 : sec % 128 < 128 := by omega
  go_upto_region 7 with fail
  obtain ⟨kk, hkk⟩ : ∃ y, sec % 128 = y := ⟨_, rfl⟩
  rw [hkk]
  rw [hkk] at hr0 hr1
  clear hkk
  have H4 := Aside0.mk (H3.out.other (.cells #[.int .i64 1] 3))
  have CR := Aside0.mk (show Kd.C (Kd.int .i64) (w3.alloc (.cells #[.int .i64 1] 3)) (some ⟨w3.heap.size, 0, none⟩) 1 [1] from C_of_rowBlk (xs := [1]) (rest := []) (heap_alloc_new w3 _) (by decide))
  go_upto_region 8 with (first | (go_at_call 12; refine (new1 (H4.out).dom CR.out).mono ?_; rintro e u1 ⟨A0, c0, hs0_, B0, d0, rfl, hb⟩; have H5 := Aside0.mk (H4.out.call hb); clear hb) | ((with_reducible refine gate_store (t := 31) (p := 13) rfl ?_); refine storeRowSt_ (ty := 31) rfl rfl rfl (hwC (.slice A0 1 c0) (.slice B0 128 d0) (fun _ => 0)) (H5.out.alloc #[.slice none 0 0, .slice none 0 0, .int .u8 0, .int .u8 0, .int .u8 0, .int .u8 0, .int .u8 0, .int .u8 0, .int .u8 0, .int .u8 0, .int .u8 0, .int .u8 0, .int .u8 0, .int .u8 0, .int .u8 0, .int .u8 0, .int .u8 0, .int .u8 0] 31) 1 rfl rfl rfl (by kernel_rfl) rfl (by kernel_rfl) ?_; intro y1 h_; have H6 := Aside0.mk (h_.as [(w.heap.size, #[.bool cut, .int .i64 fb, .bool noise], 35), (u1.heap.size, (hwC (.slice A0 1 c0) (.slice B0 128 d0) (fun _ => 0)), 31)] rfl); clear h_; have H7 := Aside0.mk (H6.out.alloc2 #[.int .i64 4, .int .i64 0, .int .i64 kk, .string was, .int .i64 4, .int .i64 0, .int .i64 kk, .string is] 33 #[.bool false, .int .i64 0, .bool false, .bool cut, .int .i64 fb, .bool noise] 35)))
  obtain ⟨out1, ho1⟩ : ∃ y, (if cut = true then [(0, ⟨#[]⟩)] else [(0, ⟨#[]⟩), (0, ⟨#[]⟩)] : List RR) = y := ⟨_, rfl⟩
  obtain ⟨no, hno⟩ : ∃ y, out1.length = y := ⟨_, rfl⟩
  obtain ⟨mm, hmm⟩ : ∃ y, mergeB is was (cutV cut fb) = y := ⟨_, rfl⟩
  have RR := Aside0.mk (torn_all zw zi hr0 hr1 (newBk [1]) cut fb noise)
  rw [ho1, hmm] at RR
  have NO := Aside0.mk hno
  have RA := Aside0.mk (two_rows (enc := accV) (sz := 4) (a := ((4, 0, kk, was) : Acc)) (b := ((4, 0, kk, is) : Acc)) (H7.out.blk 2 rfl) rfl rfl (by simp [accV]))
  have RF := Aside0.mk (two_rows (enc := fltV) (sz := 3) (a := ((false, 0, false) : Flt)) (b := ((cut, fb, noise) : Flt)) (H7.out.blk 3 rfl) rfl rfl (by simp [fltV]))
  have LL := Aside0.mk (show [((4, 0, kk, was) : Acc), (4, 0, kk, is)].length ≤ 1000 by simp)
  go_upto_region 9 with (first | ((with_reducible refine gate_dst (N := 54) rfl ?_); refine loadRowL_ (ty := 31) _ rfl rfl rfl _ _ _ _ _ rfl (H6.out.blk 1 rfl) Try.underlying31 rfl (by kernel_rfl) ?_) | ((with_reducible refine gate_dst (N := 63) rfl ?_); refine loadRowL_ (ty := 35) _ rfl rfl rfl _ _ _ _ _ rfl ((H6.out.alloc #[.int .i64 4, .int .i64 0, .int .i64 kk, .string was, .int .i64 4, .int .i64 0, .int .i64 kk, .string is] 33).blk 0 rfl) Try.underlying35 rfl (by kernel_rfl) ?_) | (go_at_call 16; refine (dall_at (fun _ => 0) H7.out.dom (H7.out.sure 0 rfl) RA.out RF.out (by decide) bk1_ok sF0_ok LL.out rfl rfl RR.out NO.out).mono ?_; rintro e u2 ⟨A1, c1, hs1_, B1, d1, C1, cc1, rfl, hb⟩; have G1 := Aside0.mk (H7.out.call hb); clear hb) | ((with_reducible refine gate_store (t := 31) (p := 15) rfl ?_); refine storeRowSt_ (ty := 31) rfl rfl rfl (hwC (.slice A1 1 c1) (.slice B1 128 d1) (fun _ => 0)) (G1.out.alloc #[.slice none 0 0, .slice none 0 0, .int .u8 0, .int .u8 0, .int .u8 0, .int .u8 0, .int .u8 0, .int .u8 0, .int .u8 0, .int .u8 0, .int .u8 0, .int .u8 0, .int .u8 0, .int .u8 0, .int .u8 0, .int .u8 0, .int .u8 0, .int .u8 0] 31) 4 rfl rfl rfl (by kernel_rfl) rfl (by kernel_rfl) ?_; intro y2 h_; have H8 := Aside0.mk (h_.as [(w.heap.size, #[.bool cut, .int .i64 fb, .bool noise], 35), (u1.heap.size, (hwC (.slice A0 1 c0) (.slice B0 128 d0) (fun _ => 0)), 31), (y1.heap.size, #[.int .i64 4, .int .i64 0, .int .i64 kk, .string was, .int .i64 4, .int .i64 0, .int .i64 kk, .string is], 33), (y1.heap.size + 1, #[.bool false, .int .i64 0, .bool false, .bool cut, .int .i64 fb, .bool noise], 35), (u2.heap.size, (hwC (.slice A1 1 c1) (.slice B1 128 d1) (fun _ => 0)), 31)] rfl); clear h_; have kx : y2.cell? ⟨u2.heap.size, 1, none⟩ = some (.slice B1 128 d1) := H8.out.cell 4 rfl 1 rfl; have kf0 : y2.cell? ⟨w.heap.size, 0, none⟩ = some (.bool cut) := H8.out.cell 0 rfl 0 rfl; have kf1 : y2.cell? ⟨w.heap.size, 1, none⟩ = some (.int .i64 fb) := H8.out.cell 0 rfl 1 rfl))
  obtain ⟨ad, rfl, hs_⟩ := Kd.at_string (H8.out.at 0 rfl).1.2.C kk hr0 hr1
  have hrd : rdOf ByteArray.empty ((newL 128).set kk.toNat mm) kk = mm := set_rd hr0 hr1
  rw [hrd] at hs_
  clear hrd
  cases cut with
  | true =>
    obtain rfl : out1 = [(0, ⟨#[]⟩)] := by rw [← ho1]; rfl
    obtain rfl : no = 1 := by rw [← hno]; rfl
    obtain ⟨q, hq⟩ : ∃ y, min (max fb 0) 256 = y := ⟨_, rfl⟩
    have hq0 : 0 ≤ q := by omega
    have hq1 : q ≤ 256 := by omega
    have hm2 : mm = is.extract 0 q.toNat ++ was.extract q.toNat 256 := by rw [← hmm, ← torn_eq zw zi hq0 hq1, ← hq]; rfl
    have hc1 : (9223372036854775807 < q.toNat + (256 - q.toNat)) = False := by simp; omega
    rw [hm2] at hs_
    have HS := Aside0.mk hs_
    clear hs_ hmm hm2 ho1 hno
    go_upto_region 16 with fail
    clear kx kf0 kf1 hq
    refine start_ (n := 24) (S := (fun w' => w'.cell? ⟨u2.heap.size, 1, none⟩ = some (.slice (some ad) 128 d1) ∧ w'.cell? (ad.add kk.toNat) = some (.string (is.extract 0 q.toNat ++ was.extract q.toNat 256)))) (ds := []) #[false, false, false, false, false, false, false, false, false, false, false, false, false, false, false, false, false, false, false, false, false, false, false, false] (by kernel_rfl) rfl rfl ⟨H8.out.drew.cell 4 rfl 1 rfl, HS.out⟩ (fun hHeld => ?_)
    refine pure_ (i := 0) (N := (some 88)) (v := ?_) (a' := ?_) #[true, false, false, false, false, false, false, false, false, false, false, false, false, false, false, false, false, false, false, false, false, false, false, false] rfl rfl (by kernel_rfl) (fun _ _ _ h => h) (Or.inl ⟨by rfl, ?_⟩) ?_ ?_
    rotate_left
    · intro w'
      go_simp
      try with_reducible rfl
    rotate_left
    · simp only [Act.put, List.setIfInBounds_toArray, List.set_cons_zero, List.set_cons_succ, i64_w, i32_w]
      rfl
    refine pure_ (i := 1) (N := (some 89)) (v := ?_) (a' := ?_) #[true, true, false, false, false, false, false, false, false, false, false, false, false, false, false, false, false, false, false, false, false, false, false, false] rfl rfl (by kernel_rfl) (fun _ _ _ h => h) (Or.inl ⟨by rfl, ?_⟩) ?_ ?_
    rotate_left
    · intro w'
      go_simp
      try with_reducible rfl
    rotate_left
    · simp only [Act.put, List.setIfInBounds_toArray, List.set_cons_zero, List.set_cons_succ, i64_w, i32_w]
      rfl
    refine pure_ (i := 2) (N := (some 90)) (v := ?_) (a' := ?_) #[true, true, true, false, false, false, false, false, false, false, false, false, false, false, false, false, false, false, false, false, false, false, false, false] rfl rfl (by kernel_rfl) (fun _ _ _ h => h) (Or.inl ⟨by rfl, ?_⟩) ?_ ?_
    rotate_left
    · intro w'
      go_simp
      try with_reducible rfl
    rotate_left
    · simp only [Act.put, List.setIfInBounds_toArray, List.set_cons_zero, List.set_cons_succ, i64_w, i32_w]
      rfl
    refine pure_ (i := 3) (N := (some 91)) (v := ?_) (a' := ?_) #[true, true, true, true, false, false, false, false, false, false, false, false, false, false, false, false, false, false, false, false, false, false, false, false] rfl rfl (by kernel_rfl) (fun _ _ _ h => h) (Or.inl ⟨by rfl, ?_⟩) ?_ ?_
    rotate_left
    · intro w'
      go_simp
      try with_reducible rfl
    rotate_left
    · simp only [Act.put, List.setIfInBounds_toArray, List.set_cons_zero, List.set_cons_succ, i64_w, i32_w]
      rfl
    refine pure_ (i := 5) (N := (some 93)) (v := ?_) (a' := ?_) #[true, true, true, true, false, true, false, false, false, false, false, false, false, false, false, false, false, false, false, false, false, false, false, false] rfl rfl (by kernel_rfl) (fun _ _ _ h => h) (Or.inl ⟨by rfl, ?_⟩) ?_ ?_
    rotate_left
    · intro w'
      go_simp
      try with_reducible rfl
    rotate_left
    · simp only [Act.put, List.setIfInBounds_toArray, List.set_cons_zero, List.set_cons_succ, i64_w, i32_w]
      rfl
    refine pure_ (i := 8) (N := (some 96)) (v := ?_) (a' := ?_) #[true, true, true, true, false, true, false, false, true, false, false, false, false, false, false, false, false, false, false, false, false, false, false, false] rfl rfl (by kernel_rfl) (fun _ _ _ h => h) (Or.inl ⟨by rfl, ?_⟩) ?_ ?_
    rotate_left
    · intro w'
      go_simp
      try with_reducible rfl
    rotate_left
    · simp only [Act.put, List.setIfInBounds_toArray, List.set_cons_zero, List.set_cons_succ, i64_w, i32_w]
      rfl
    refine pure_ (i := 9) (N := (some 97)) (v := ?_) (a' := ?_) #[true, true, true, true, false, true, false, false, true, true, false, false, false, false, false, false, false, false, false, false, false, false, false, false] rfl rfl (by kernel_rfl) (fun _ _ _ h => h) (Or.inl ⟨by rfl, ?_⟩) ?_ ?_
    rotate_left
    · intro w'
      go_simp
      try with_reducible rfl
    rotate_left
    · simp only [Act.put, List.setIfInBounds_toArray, List.set_cons_zero, List.set_cons_succ, i64_w, i32_w]
      rfl
    refine pure_ (i := 10) (N := (some 98)) (v := ?_) (a' := ?_) #[true, true, true, true, false, true, false, false, true, true, true, false, false, false, false, false, false, false, false, false, false, false, false, false] rfl rfl (by kernel_rfl) (fun _ _ _ h => h) (Or.inl ⟨by rfl, ?_⟩) ?_ ?_
    rotate_left
    · intro w'
      go_simp
      try with_reducible rfl
    rotate_left
    · simp only [Act.put, List.setIfInBounds_toArray, List.set_cons_zero, List.set_cons_succ, i64_w, i32_w]
      rfl
    refine pure_ (i := 11) (N := (some 99)) (v := ?_) (a' := ?_) #[true, true, true, true, false, true, false, false, true, true, true, true, false, false, false, false, false, false, false, false, false, false, false, false] rfl rfl (by kernel_rfl) (fun _ _ _ h => h) (Or.inl ⟨by rfl, ?_⟩) ?_ ?_
    rotate_left
    · intro w'
      go_simp
      try with_reducible rfl
    rotate_left
    · simp only [Act.put, List.setIfInBounds_toArray, List.set_cons_zero, List.set_cons_succ, i64_w, i32_w]
      rfl
    refine pure_ (i := 12) (N := (some 100)) (v := ?_) (a' := ?_) #[true, true, true, true, false, true, false, false, true, true, true, true, true, false, false, false, false, false, false, false, false, false, false, false] rfl rfl (by kernel_rfl) (fun _ _ _ h => h) (Or.inl ⟨by rfl, ?_⟩) ?_ ?_
    rotate_left
    · intro w'
      go_simp
      try with_reducible rfl
    rotate_left
    · simp only [Act.put, List.setIfInBounds_toArray, List.set_cons_zero, List.set_cons_succ, i64_w, i32_w]
      rfl
    refine pure_ (i := 13) (N := (some 101)) (v := ?_) (a' := ?_) #[true, true, true, true, false, true, false, false, true, true, true, true, true, true, false, false, false, false, false, false, false, false, false, false] rfl rfl (by kernel_rfl) (fun _ _ _ h => h) (Or.inl ⟨by rfl, ?_⟩) ?_ ?_
    rotate_left
    · intro w'
      go_simp
      try with_reducible rfl
    rotate_left
    · simp only [Act.put, List.setIfInBounds_toArray, List.set_cons_zero, List.set_cons_succ, i64_w, i32_w]
      rfl
    refine pure_ (i := 14) (N := (some 102)) (v := ?_) (a' := ?_) #[true, true, true, true, false, true, false, false, true, true, true, true, true, true, true, false, false, false, false, false, false, false, false, false] rfl rfl (by kernel_rfl) (fun _ _ _ h => h) (Or.inl ⟨by rfl, ?_⟩) ?_ ?_
    rotate_left
    · intro w'
      go_simp
      try with_reducible rfl
    rotate_left
    · simp only [Act.put, List.setIfInBounds_toArray, List.set_cons_zero, List.set_cons_succ, i64_w, i32_w]
      rfl
    refine take_ (i := 4) (N := (some 92)) (v := ?_) (a' := ?_) #[true, true, true, true, true, true, false, false, true, true, true, true, true, true, true, false, false, false, false, false, false, false, false, false] rfl rfl (by kernel_rfl) (fun _ _ _ h => h) (Or.inl ⟨by rfl, ?_⟩) hHeld ?_ ?_
    rotate_left
    · rintro w' ⟨s0, s1⟩
      go_simp
      try with_reducible rfl
    rotate_left
    · simp only [Act.put, List.setIfInBounds_toArray, List.set_cons_zero, List.set_cons_succ, i64_w, i32_w]
      rfl
    refine pure_ (i := 6) (N := (some 94)) (v := ?_) (a' := ?_) #[true, true, true, true, true, true, true, false, true, true, true, true, true, true, true, false, false, false, false, false, false, false, false, false] rfl rfl (by kernel_rfl) (fun _ _ _ h => h) (Or.inl ⟨by rfl, ?_⟩) ?_ ?_
    rotate_left
    · intro w'
      go_simp
      try with_reducible rfl
    rotate_left
    · simp only [Act.put, List.setIfInBounds_toArray, List.set_cons_zero, List.set_cons_succ, i64_w, i32_w]
      rfl
    refine take_ (i := 7) (N := (some 95)) (v := ?_) (a' := ?_) #[true, true, true, true, true, true, true, true, true, true, true, true, true, true, true, false, false, false, false, false, false, false, false, false] rfl rfl (by kernel_rfl) (fun _ _ _ h => h) (Or.inl ⟨by rfl, ?_⟩) hHeld ?_ ?_
    rotate_left
    · rintro w' ⟨s0, s1⟩
      go_simp
      try with_reducible rfl
    rotate_left
    · simp only [Act.put, List.setIfInBounds_toArray, List.set_cons_zero, List.set_cons_succ, i64_w, i32_w]
      rfl
    refine pure_ (i := 15) (N := (some 103)) (v := ?_) (a' := ?_) #[true, true, true, true, true, true, true, true, true, true, true, true, true, true, true, true, false, false, false, false, false, false, false, false] rfl rfl (by kernel_rfl) (fun _ _ _ h => h) (Or.inl ⟨by rfl, ?_⟩) ?_ ?_
    rotate_left
    · intro w'
      go_simp
      try with_reducible rfl
    rotate_left
    · simp only [Act.put, List.setIfInBounds_toArray, List.set_cons_zero, List.set_cons_succ, i64_w, i32_w]
      rfl
    refine pure_ (i := 16) (N := (some 104)) (v := ?_) (a' := ?_) #[true, true, true, true, true, true, true, true, true, true, true, true, true, true, true, true, true, false, false, false, false, false, false, false] rfl rfl (by kernel_rfl) (fun _ _ _ h => h) (Or.inl ⟨by rfl, ?_⟩) ?_ ?_
    rotate_left
    · intro w'
      go_simp
      try with_reducible rfl
    rotate_left
    · simp only [Act.put, List.setIfInBounds_toArray, List.set_cons_zero, List.set_cons_succ, i64_w, i32_w]
      rfl
    refine pure_ (i := 17) (N := (some 105)) (v := ?_) (a' := ?_) #[true, true, true, true, true, true, true, true, true, true, true, true, true, true, true, true, true, true, false, false, false, false, false, false] rfl rfl (by kernel_rfl) (fun _ _ _ h => h) (Or.inl ⟨by rfl, ?_⟩) ?_ ?_
    rotate_left
    · intro w'
      go_simp
      try with_reducible rfl
    rotate_left
    · simp only [Act.put, List.setIfInBounds_toArray, List.set_cons_zero, List.set_cons_succ, i64_w, i32_w]
      rfl
    refine pure_ (i := 18) (N := (some 106)) (v := ?_) (a' := ?_) #[true, true, true, true, true, true, true, true, true, true, true, true, true, true, true, true, true, true, true, false, false, false, false, false] rfl rfl (by kernel_rfl) (fun _ _ _ h => h) (Or.inl ⟨by rfl, ?_⟩) ?_ ?_
    rotate_left
    · intro w'
      go_simp
      try with_reducible rfl
    rotate_left
    · simp only [Act.put, List.setIfInBounds_toArray, List.set_cons_zero, List.set_cons_succ, i64_w, i32_w]
      rfl
    refine pure_ (i := 19) (N := (some 107)) (v := ?_) (a' := ?_) #[true, true, true, true, true, true, true, true, true, true, true, true, true, true, true, true, true, true, true, true, false, false, false, false] rfl rfl (by kernel_rfl) (fun _ _ _ h => h) (Or.inl ⟨by rfl, ?_⟩) ?_ ?_
    rotate_left
    · intro w'
      go_simp
      try with_reducible rfl
    rotate_left
    · simp only [Act.put, List.setIfInBounds_toArray, List.set_cons_zero, List.set_cons_succ, i64_w, i32_w]
      rfl
    refine pure_ (i := 20) (N := (some 108)) (v := ?_) (a' := ?_) #[true, true, true, true, true, true, true, true, true, true, true, true, true, true, true, true, true, true, true, true, true, false, false, false] rfl rfl (by kernel_rfl) (fun _ _ _ h => h) (Or.inl ⟨by rfl, ?_⟩) ?_ ?_
    rotate_left
    · intro w'
      go_simp
      try with_reducible rfl
    rotate_left
    · simp only [Act.put, List.setIfInBounds_toArray, List.set_cons_zero, List.set_cons_succ, i64_w, i32_w]
      rfl
    refine pure_ (i := 21) (N := (some 109)) (v := ?_) (a' := ?_) #[true, true, true, true, true, true, true, true, true, true, true, true, true, true, true, true, true, true, true, true, true, true, false, false] rfl rfl (by kernel_rfl) (fun _ _ _ h => h) (Or.inl ⟨by rfl, ?_⟩) ?_ ?_
    rotate_left
    · intro w'
      go_simp
      try with_reducible rfl
    rotate_left
    · simp only [Act.put, List.setIfInBounds_toArray, List.set_cons_zero, List.set_cons_succ, i64_w, i32_w]
      rfl
    refine pure_ (i := 22) (N := (some 110)) (v := ?_) (a' := ?_) #[true, true, true, true, true, true, true, true, true, true, true, true, true, true, true, true, true, true, true, true, true, true, true, false] rfl rfl (by kernel_rfl) (fun _ _ _ h => h) (Or.inl ⟨by rfl, ?_⟩) ?_ ?_
    rotate_left
    · intro w'
      go_simp
      try with_reducible rfl
    rotate_left
    · simp only [Act.put, List.setIfInBounds_toArray, List.set_cons_zero, List.set_cons_succ, i64_w, i32_w]
      rfl
    refine pure_ (i := 23) (N := (some 8)) (v := ?_) (a' := ?_) #[true, true, true, true, true, true, true, true, true, true, true, true, true, true, true, true, true, true, true, true, true, true, true, true] rfl rfl (by kernel_rfl) (fun _ _ _ h => h) (Or.inl ⟨by rfl, ?_⟩) ?_ ?_
    rotate_left
    · intro w'
      go_simp
      try with_reducible rfl
    rotate_left
    · simp only [Act.put, List.setIfInBounds_toArray, List.set_cons_zero, List.set_cons_succ, i64_w, i32_w]
      rfl
    refine done_ (by kernel_rfl) ?_
    go_wp2
    go_ret
    exact ⟨rfl, H8.out.drew.bel⟩
  | false =>
    obtain rfl : out1 = [(0, ⟨#[]⟩), (0, ⟨#[]⟩)] := by rw [← ho1]; rfl
    obtain rfl : no = 2 := by rw [← hno]; rfl
    have hm2 : mm = is.extract 0 256 ++ was.extract 256 256 := by rw [← hmm, ← torn_whole zw zi]; rfl
    rw [hm2] at hs_
    have HS := Aside0.mk hs_
    clear hs_ hmm hm2 ho1 hno
    go_upto_region 16 with fail
    clear kx kf0 kf1
    refine start_ (n := 24) (S := (fun w' => w'.cell? ⟨u2.heap.size, 1, none⟩ = some (.slice (some ad) 128 d1) ∧ w'.cell? (ad.add kk.toNat) = some (.string (is.extract 0 256 ++ was.extract 256 256)))) (ds := []) #[false, false, false, false, false, false, false, false, false, false, false, false, false, false, false, false, false, false, false, false, false, false, false, false] (by kernel_rfl) rfl rfl ⟨H8.out.drew.cell 4 rfl 1 rfl, HS.out⟩ (fun hHeld => ?_)
    refine pure_ (i := 0) (N := (some 88)) (v := ?_) (a' := ?_) #[true, false, false, false, false, false, false, false, false, false, false, false, false, false, false, false, false, false, false, false, false, false, false, false] rfl rfl (by kernel_rfl) (fun _ _ _ h => h) (Or.inl ⟨by rfl, ?_⟩) ?_ ?_
    rotate_left
    · intro w'
      go_simp
      try with_reducible rfl
    rotate_left
    · simp only [Act.put, List.setIfInBounds_toArray, List.set_cons_zero, List.set_cons_succ, i64_w, i32_w]
      rfl
    refine pure_ (i := 1) (N := (some 89)) (v := ?_) (a' := ?_) #[true, true, false, false, false, false, false, false, false, false, false, false, false, false, false, false, false, false, false, false, false, false, false, false] rfl rfl (by kernel_rfl) (fun _ _ _ h => h) (Or.inl ⟨by rfl, ?_⟩) ?_ ?_
    rotate_left
    · intro w'
      go_simp
      try with_reducible rfl
    rotate_left
    · simp only [Act.put, List.setIfInBounds_toArray, List.set_cons_zero, List.set_cons_succ, i64_w, i32_w]
      rfl
    refine pure_ (i := 2) (N := (some 90)) (v := ?_) (a' := ?_) #[true, true, true, false, false, false, false, false, false, false, false, false, false, false, false, false, false, false, false, false, false, false, false, false] rfl rfl (by kernel_rfl) (fun _ _ _ h => h) (Or.inl ⟨by rfl, ?_⟩) ?_ ?_
    rotate_left
    · intro w'
      go_simp
      try with_reducible rfl
    rotate_left
    · simp only [Act.put, List.setIfInBounds_toArray, List.set_cons_zero, List.set_cons_succ, i64_w, i32_w]
      rfl
    refine pure_ (i := 3) (N := (some 91)) (v := ?_) (a' := ?_) #[true, true, true, true, false, false, false, false, false, false, false, false, false, false, false, false, false, false, false, false, false, false, false, false] rfl rfl (by kernel_rfl) (fun _ _ _ h => h) (Or.inl ⟨by rfl, ?_⟩) ?_ ?_
    rotate_left
    · intro w'
      go_simp
      try with_reducible rfl
    rotate_left
    · simp only [Act.put, List.setIfInBounds_toArray, List.set_cons_zero, List.set_cons_succ, i64_w, i32_w]
      rfl
    refine pure_ (i := 5) (N := (some 93)) (v := ?_) (a' := ?_) #[true, true, true, true, false, true, false, false, false, false, false, false, false, false, false, false, false, false, false, false, false, false, false, false] rfl rfl (by kernel_rfl) (fun _ _ _ h => h) (Or.inl ⟨by rfl, ?_⟩) ?_ ?_
    rotate_left
    · intro w'
      go_simp
      try with_reducible rfl
    rotate_left
    · simp only [Act.put, List.setIfInBounds_toArray, List.set_cons_zero, List.set_cons_succ, i64_w, i32_w]
      rfl
    refine pure_ (i := 8) (N := (some 96)) (v := ?_) (a' := ?_) #[true, true, true, true, false, true, false, false, true, false, false, false, false, false, false, false, false, false, false, false, false, false, false, false] rfl rfl (by kernel_rfl) (fun _ _ _ h => h) (Or.inl ⟨by rfl, ?_⟩) ?_ ?_
    rotate_left
    · intro w'
      go_simp
      try with_reducible rfl
    rotate_left
    · simp only [Act.put, List.setIfInBounds_toArray, List.set_cons_zero, List.set_cons_succ, i64_w, i32_w]
      rfl
    refine pure_ (i := 9) (N := (some 97)) (v := ?_) (a' := ?_) #[true, true, true, true, false, true, false, false, true, true, false, false, false, false, false, false, false, false, false, false, false, false, false, false] rfl rfl (by kernel_rfl) (fun _ _ _ h => h) (Or.inl ⟨by rfl, ?_⟩) ?_ ?_
    rotate_left
    · intro w'
      go_simp
      try with_reducible rfl
    rotate_left
    · simp only [Act.put, List.setIfInBounds_toArray, List.set_cons_zero, List.set_cons_succ, i64_w, i32_w]
      rfl
    refine pure_ (i := 10) (N := (some 98)) (v := ?_) (a' := ?_) #[true, true, true, true, false, true, false, false, true, true, true, false, false, false, false, false, false, false, false, false, false, false, false, false] rfl rfl (by kernel_rfl) (fun _ _ _ h => h) (Or.inl ⟨by rfl, ?_⟩) ?_ ?_
    rotate_left
    · intro w'
      go_simp
      try with_reducible rfl
    rotate_left
    · simp only [Act.put, List.setIfInBounds_toArray, List.set_cons_zero, List.set_cons_succ, i64_w, i32_w]
      rfl
    refine pure_ (i := 11) (N := (some 99)) (v := ?_) (a' := ?_) #[true, true, true, true, false, true, false, false, true, true, true, true, false, false, false, false, false, false, false, false, false, false, false, false] rfl rfl (by kernel_rfl) (fun _ _ _ h => h) (Or.inl ⟨by rfl, ?_⟩) ?_ ?_
    rotate_left
    · intro w'
      go_simp
      try with_reducible rfl
    rotate_left
    · simp only [Act.put, List.setIfInBounds_toArray, List.set_cons_zero, List.set_cons_succ, i64_w, i32_w]
      rfl
    refine pure_ (i := 12) (N := (some 100)) (v := ?_) (a' := ?_) #[true, true, true, true, false, true, false, false, true, true, true, true, true, false, false, false, false, false, false, false, false, false, false, false] rfl rfl (by kernel_rfl) (fun _ _ _ h => h) (Or.inl ⟨by rfl, ?_⟩) ?_ ?_
    rotate_left
    · intro w'
      go_simp
      try with_reducible rfl
    rotate_left
    · simp only [Act.put, List.setIfInBounds_toArray, List.set_cons_zero, List.set_cons_succ, i64_w, i32_w]
      rfl
    refine pure_ (i := 13) (N := (some 101)) (v := ?_) (a' := ?_) #[true, true, true, true, false, true, false, false, true, true, true, true, true, true, false, false, false, false, false, false, false, false, false, false] rfl rfl (by kernel_rfl) (fun _ _ _ h => h) (Or.inl ⟨by rfl, ?_⟩) ?_ ?_
    rotate_left
    · intro w'
      go_simp
      try with_reducible rfl
    rotate_left
    · simp only [Act.put, List.setIfInBounds_toArray, List.set_cons_zero, List.set_cons_succ, i64_w, i32_w]
      rfl
    refine pure_ (i := 14) (N := (some 102)) (v := ?_) (a' := ?_) #[true, true, true, true, false, true, false, false, true, true, true, true, true, true, true, false, false, false, false, false, false, false, false, false] rfl rfl (by kernel_rfl) (fun _ _ _ h => h) (Or.inl ⟨by rfl, ?_⟩) ?_ ?_
    rotate_left
    · intro w'
      go_simp
      try with_reducible rfl
    rotate_left
    · simp only [Act.put, List.setIfInBounds_toArray, List.set_cons_zero, List.set_cons_succ, i64_w, i32_w]
      rfl
    refine take_ (i := 4) (N := (some 92)) (v := ?_) (a' := ?_) #[true, true, true, true, true, true, false, false, true, true, true, true, true, true, true, false, false, false, false, false, false, false, false, false] rfl rfl (by kernel_rfl) (fun _ _ _ h => h) (Or.inl ⟨by rfl, ?_⟩) hHeld ?_ ?_
    rotate_left
    · rintro w' ⟨s0, s1⟩
      go_simp
      try with_reducible rfl
    rotate_left
    · simp only [Act.put, List.setIfInBounds_toArray, List.set_cons_zero, List.set_cons_succ, i64_w, i32_w]
      rfl
    refine pure_ (i := 6) (N := (some 94)) (v := ?_) (a' := ?_) #[true, true, true, true, true, true, true, false, true, true, true, true, true, true, true, false, false, false, false, false, false, false, false, false] rfl rfl (by kernel_rfl) (fun _ _ _ h => h) (Or.inl ⟨by rfl, ?_⟩) ?_ ?_
    rotate_left
    · intro w'
      go_simp
      try with_reducible rfl
    rotate_left
    · simp only [Act.put, List.setIfInBounds_toArray, List.set_cons_zero, List.set_cons_succ, i64_w, i32_w]
      rfl
    refine take_ (i := 7) (N := (some 95)) (v := ?_) (a' := ?_) #[true, true, true, true, true, true, true, true, true, true, true, true, true, true, true, false, false, false, false, false, false, false, false, false] rfl rfl (by kernel_rfl) (fun _ _ _ h => h) (Or.inl ⟨by rfl, ?_⟩) hHeld ?_ ?_
    rotate_left
    · rintro w' ⟨s0, s1⟩
      go_simp
      try with_reducible rfl
    rotate_left
    · simp only [Act.put, List.setIfInBounds_toArray, List.set_cons_zero, List.set_cons_succ, i64_w, i32_w]
      rfl
    refine pure_ (i := 15) (N := (some 103)) (v := ?_) (a' := ?_) #[true, true, true, true, true, true, true, true, true, true, true, true, true, true, true, true, false, false, false, false, false, false, false, false] rfl rfl (by kernel_rfl) (fun _ _ _ h => h) (Or.inl ⟨by rfl, ?_⟩) ?_ ?_
    rotate_left
    · intro w'
      go_simp
      try with_reducible rfl
    rotate_left
    · simp only [Act.put, List.setIfInBounds_toArray, List.set_cons_zero, List.set_cons_succ, i64_w, i32_w]
      rfl
    refine pure_ (i := 16) (N := (some 104)) (v := ?_) (a' := ?_) #[true, true, true, true, true, true, true, true, true, true, true, true, true, true, true, true, true, false, false, false, false, false, false, false] rfl rfl (by kernel_rfl) (fun _ _ _ h => h) (Or.inl ⟨by rfl, ?_⟩) ?_ ?_
    rotate_left
    · intro w'
      go_simp
      try with_reducible rfl
    rotate_left
    · simp only [Act.put, List.setIfInBounds_toArray, List.set_cons_zero, List.set_cons_succ, i64_w, i32_w]
      rfl
    refine pure_ (i := 17) (N := (some 105)) (v := ?_) (a' := ?_) #[true, true, true, true, true, true, true, true, true, true, true, true, true, true, true, true, true, true, false, false, false, false, false, false] rfl rfl (by kernel_rfl) (fun _ _ _ h => h) (Or.inl ⟨by rfl, ?_⟩) ?_ ?_
    rotate_left
    · intro w'
      go_simp
      try with_reducible rfl
    rotate_left
    · simp only [Act.put, List.setIfInBounds_toArray, List.set_cons_zero, List.set_cons_succ, i64_w, i32_w]
      rfl
    refine pure_ (i := 18) (N := (some 106)) (v := ?_) (a' := ?_) #[true, true, true, true, true, true, true, true, true, true, true, true, true, true, true, true, true, true, true, false, false, false, false, false] rfl rfl (by kernel_rfl) (fun _ _ _ h => h) (Or.inl ⟨by rfl, ?_⟩) ?_ ?_
    rotate_left
    · intro w'
      go_simp
      try with_reducible rfl
    rotate_left
    · simp only [Act.put, List.setIfInBounds_toArray, List.set_cons_zero, List.set_cons_succ, i64_w, i32_w]
      rfl
    refine pure_ (i := 19) (N := (some 107)) (v := ?_) (a' := ?_) #[true, true, true, true, true, true, true, true, true, true, true, true, true, true, true, true, true, true, true, true, false, false, false, false] rfl rfl (by kernel_rfl) (fun _ _ _ h => h) (Or.inl ⟨by rfl, ?_⟩) ?_ ?_
    rotate_left
    · intro w'
      go_simp
      try with_reducible rfl
    rotate_left
    · simp only [Act.put, List.setIfInBounds_toArray, List.set_cons_zero, List.set_cons_succ, i64_w, i32_w]
      rfl
    refine pure_ (i := 20) (N := (some 108)) (v := ?_) (a' := ?_) #[true, true, true, true, true, true, true, true, true, true, true, true, true, true, true, true, true, true, true, true, true, false, false, false] rfl rfl (by kernel_rfl) (fun _ _ _ h => h) (Or.inl ⟨by rfl, ?_⟩) ?_ ?_
    rotate_left
    · intro w'
      go_simp
      try with_reducible rfl
    rotate_left
    · simp only [Act.put, List.setIfInBounds_toArray, List.set_cons_zero, List.set_cons_succ, i64_w, i32_w]
      rfl
    refine pure_ (i := 21) (N := (some 109)) (v := ?_) (a' := ?_) #[true, true, true, true, true, true, true, true, true, true, true, true, true, true, true, true, true, true, true, true, true, true, false, false] rfl rfl (by kernel_rfl) (fun _ _ _ h => h) (Or.inl ⟨by rfl, ?_⟩) ?_ ?_
    rotate_left
    · intro w'
      go_simp
      try with_reducible rfl
    rotate_left
    · simp only [Act.put, List.setIfInBounds_toArray, List.set_cons_zero, List.set_cons_succ, i64_w, i32_w]
      rfl
    refine pure_ (i := 22) (N := (some 110)) (v := ?_) (a' := ?_) #[true, true, true, true, true, true, true, true, true, true, true, true, true, true, true, true, true, true, true, true, true, true, true, false] rfl rfl (by kernel_rfl) (fun _ _ _ h => h) (Or.inl ⟨by rfl, ?_⟩) ?_ ?_
    rotate_left
    · intro w'
      go_simp
      try with_reducible rfl
    rotate_left
    · simp only [Act.put, List.setIfInBounds_toArray, List.set_cons_zero, List.set_cons_succ, i64_w, i32_w]
      rfl
    refine pure_ (i := 23) (N := (some 8)) (v := ?_) (a' := ?_) #[true, true, true, true, true, true, true, true, true, true, true, true, true, true, true, true, true, true, true, true, true, true, true, true] rfl rfl (by kernel_rfl) (fun _ _ _ h => h) (Or.inl ⟨by rfl, ?_⟩) ?_ ?_
    rotate_left
    · intro w'
      go_simp
      try with_reducible rfl
    rotate_left
    · simp only [Act.put, List.setIfInBounds_toArray, List.set_cons_zero, List.set_cons_succ, i64_w, i32_w]
      rfl
    refine done_ (by kernel_rfl) ?_
    go_wp2
    go_ret
    exact ⟨rfl, H8.out.drew.bel⟩
theorem torn_any {A : Option Addr} {c : Nat} {xs : List Int} {A2 : Option Addr} {c2 : Nat} {ys : List Int} {w : World} {sec : Int} (hC : Kd.C (Kd.int .u8) w A xs.length xs) (_hw : ∀ n ∈ xs, (Lit.int .u8 n).wf = true) (hC2 : Kd.C (Kd.int .u8) w A2 ys.length ys) (_hw2 : ∀ n ∈ ys, (Lit.int .u8 n).wf = true)
    (hs : (Lit.int .u8 sec).wf = true) (cut : Bool) (fb : Int) (noise : Bool) :
    Calls Try.prog 6 #[.slice A xs.length c, .slice A2 ys.length c2, .int .u8 sec, .agg #[.bool cut, .int .i64 fb, .bool noise]] w fun e w' => e = .returned (.bool true) ∧ Below w.heap.size w w' := by
  have h : 0 ≤ sec ∧ sec ≤ 255 := by
    simp [Lit.wf, IntKind.min, IntKind.max, IntKind.signed, IntKind.bits] at hs
    omega
  by_cases hz : 256 < (xs.length : Int)
  · exact torn0 sec cut fb noise hC hC2 h.1 h.2 hz
  · by_cases hy : 256 < (ys.length : Int)
    · exact torn1 sec cut fb noise hC hC2 h.1 h.2 (by omega) hy
    · exact torn2 sec cut fb noise hC hC2 h.1 h.2 (by omega) (by omega)
end Go.Proofs.Ytkfhekocbfednaa.Dv
end
