/- Part of the proof of deviceSeparate_holds, deviceAll_holds, deviceMonotonic_holds: what later parts use. -/
import Derived.Test.YtkfhekocbfednaaZu0
import Derived.Test.YtkfhekocbfednaaZu1
import Derived.Test.YtkfhekocbfednaaZu2
import Derived.Test.YtkfhekocbfednaaZu3
import Derived.Test.YtkfhekocbfednaaZu4
import Derived.Test.YtkfhekocbfednaaZu5
import Derived.Test.YtkfhekocbfednaaZu6
import Derived.Test.YtkfhekocbfednaaZu7
import Derived.Test.YtkfhekocbfednaaZu8
import Derived.Test.YtkfhekocbfednaaZu9
import Derived.Test.YtkfhekocbfednaaZu10
import Derived.Test.YtkfhekocbfednaaZu11
import Derived.Test.YtkfhekocbfednaaZu12
import Derived.Test.YtkfhekocbfednaaZu13
import Derived.Test.YtkfhekocbfednaaZu14
import Derived.Test.YtkfhekocbfednaaZu15
import Derived.Test.YtkfhekocbfednaaZu16
import Derived.Test.YtkfhekocbfednaaZu17
import Derived.Test.YtkfhekocbfednaaZu18
import Derived.Test.YtkfhekocbfednaaZu19
import Derived.Test.YtkfhekocbfednaaZu20
import Derived.Test.YtkfhekocbfednaaZu21
import Derived.Test.YtkfhekocbfednaaZu22
import Derived.Test.YtkfhekocbfednaaZu23
import Derived.Test.YtkfhekocbfednaaZu24
import Derived.Test.YtkfhekocbfednaaZu25
import Derived.Test.YtkfhekocbfednaaZu26
import Derived.Test.YtkfhekocbfednaaZu27
import Derived.Test.YtkfhekocbfednaaZu28
import Derived.Test.YtkfhekocbfednaaZu29
import Derived.Test.YtkfhekocbfednaaZu30
import Derived.Test.YtkfhekocbfednaaZu31
import Derived.Test.YtkfhekocbfednaaZu32
import Derived.Test.YtkfhekocbfednaaZu33
import Derived.Test.YtkfhekocbfednaaZu37
import Derived.Test.YtkfhekocbfednaaZu38
import Derived.Test.YtkfhekocbfednaaZu40
import Derived.Test.YtkfhekocbfednaaZu41
import Derived.Test.YtkfhekocbfednaaZu42
import Derived.Laws.StructEq
section
namespace Go.Proofs.Ytkfhekocbfednaa.Dv
set_option linter.unusedVariables false
set_option linter.unusedSimpArgs false
open Go.RowKit Go.Proofs.Ytkfhekocbfednaa Go.Proofs.YtkfhekocbfednaaW.PrintWords Go.Proofs.YtkfhekocbfednaaW.PrintLast Go.Proofs.YtkfhekocbfednaaW.PrintMore
open Go.Proofs.Ytkfhekocbfednaa.Fu Go.Proofs.Ytkfhekocbfednaa.Fl
set_option maxRecDepth 100000 in
set_option maxHeartbeats 16000000 in
theorem results_same {C C' : Option Addr} {l : List RR} {n cc cc' : Nat} {w : World} (h1 : RowsOf rrV 2 w C l) (h2 : RowsOf rrV 2 w C' l) (hn : l.length = n) :
    Calls Try.prog 18 #[.slice C n cc, .slice C' n cc'] w fun e w' => e = .returned (.bool true) ∧ Below w.heap.size w w' := by
  subst hn
  have hmax := h1.1
  have L1 := Aside0.mk (fun W hb => h1.below hb : ∀ W, Below w.heap.size w W → RowsOf rrV 2 W C l)
  have L2 := Aside0.mk (fun W hb => h2.below hb : ∀ W, Below w.heap.size w W → RowsOf rrV 2 W C' l)
  clear h1 h2
  go_enter Try.func18, Try.ntmps18
  go_wp2
  go_loopw [5] (fun i wr => ∃ k : Nat, k ≤ l.length ∧ i = .int .i64 k ∧ Aside0 (Below w.heap.size w wr)) (fun i _ => l.length - (intOf i).toNat)
  case atStart => exact ⟨0, by omega, rfl, ⟨Below.refl _ _⟩⟩
  case round =>
    obtain ⟨k, hk, rfl, HB⟩ := hrel
    by_cases hlt : k < l.length
    · obtain ⟨⟨x, y⟩, ha⟩ : ∃ a, l[k]? = some a := ⟨_, List.getElem?_eq_getElem hlt⟩
      obtain ⟨ad, rfl, -⟩ := (L1.out _ HB.out).at k ha
      obtain ⟨ad', rfl, -⟩ := (L2.out _ HB.out).at k ha
      have H1 := Aside0.mk (fun W hb => by obtain ⟨_, e, h⟩ := (L1.out W hb).at k ha; cases e; exact h : ∀ W, Below w.heap.size w W → ∀ j v, (#[.int .i64 x, .string y] : Array Value)[j]? = some v → W.cell? ((ad.add (k * 2)).add j) = some v)
      have H2 := Aside0.mk (fun W hb => by obtain ⟨_, e, h⟩ := (L2.out W hb).at k ha; cases e; exact h : ∀ W, Below w.heap.size w W → ∀ j v, (#[.int .i64 x, .string y] : Array Value)[j]? = some v → W.cell? ((ad'.add (k * 2)).add j) = some v)
      clear ha
      go_wp2
      refine start_ (n := 9) (S := (fun w' => (∀ j v, (#[.int .i64 x, .string y] : Array Value)[j]? = some v → w'.cell? ((ad.add (k * 2)).add j) = some v) ∧ (∀ j v, (#[.int .i64 x, .string y] : Array Value)[j]? = some v → w'.cell? ((ad'.add (k * 2)).add j) = some v))) (ds := []) #[false, false, false, false, false, false, false, false, false] (by kernel_rfl) rfl rfl ⟨H1.out _ (below_drew HB.out), H2.out _ (below_drew HB.out)⟩ (fun hHeld => ?_)
      refine pure_ (i := 0) (N := (some 17)) (v := ?_) (a' := ?_) #[true, false, false, false, false, false, false, false, false] rfl rfl (by kernel_rfl) (fun _ _ _ h => h) (Or.inl ⟨by rfl, ?_⟩) ?_ ?_
      rotate_left
      · intro w'
        go_simp
        try with_reducible rfl
      rotate_left
      · simp only [Act.put, List.setIfInBounds_toArray, List.set_cons_zero, List.set_cons_succ, i64_w, i32_w]
        rfl
      refine pure_ (i := 1) (N := (some 18)) (v := ?_) (a' := ?_) #[true, true, false, false, false, false, false, false, false] rfl rfl (by kernel_rfl) (fun _ _ _ h => h) (Or.inl ⟨by rfl, ?_⟩) ?_ ?_
      rotate_left
      · intro w'
        go_simp
        try with_reducible rfl
      rotate_left
      · simp only [Act.put, List.setIfInBounds_toArray, List.set_cons_zero, List.set_cons_succ, i64_w, i32_w]
        rfl
      refine pure_ (i := 2) (N := (some 19)) (v := ?_) (a' := ?_) #[true, true, true, false, false, false, false, false, false] rfl rfl (by kernel_rfl) (fun _ _ _ h => h) (Or.inl ⟨by rfl, ?_⟩) ?_ ?_
      rotate_left
      · intro w'
        go_simp
        try with_reducible rfl
      rotate_left
      · simp only [Act.put, List.setIfInBounds_toArray, List.set_cons_zero, List.set_cons_succ, i64_w, i32_w]
        rfl
      refine pure_ (i := 4) (N := (some 21)) (v := ?_) (a' := ?_) #[true, true, true, false, true, false, false, false, false] rfl rfl (by kernel_rfl) (fun _ _ _ h => h) (Or.inl ⟨by rfl, ?_⟩) ?_ ?_
      rotate_left
      · intro w'
        go_simp
        try with_reducible rfl
      rotate_left
      · simp only [Act.put, List.setIfInBounds_toArray, List.set_cons_zero, List.set_cons_succ, i64_w, i32_w]
        rfl
      refine pure_ (i := 5) (N := (some 22)) (v := ?_) (a' := ?_) #[true, true, true, false, true, true, false, false, false] rfl rfl (by kernel_rfl) (fun _ _ _ h => h) (Or.inl ⟨by rfl, ?_⟩) ?_ ?_
      rotate_left
      · intro w'
        go_simp
        try with_reducible rfl
      rotate_left
      · simp only [Act.put, List.setIfInBounds_toArray, List.set_cons_zero, List.set_cons_succ, i64_w, i32_w]
        rfl
      refine pure_ (i := 6) (N := (some 23)) (v := ?_) (a' := ?_) #[true, true, true, false, true, true, true, false, false] rfl rfl (by kernel_rfl) (fun _ _ _ h => h) (Or.inl ⟨by rfl, ?_⟩) ?_ ?_
      rotate_left
      · intro w'
        go_simp
        try with_reducible rfl
      rotate_left
      · simp only [Act.put, List.setIfInBounds_toArray, List.set_cons_zero, List.set_cons_succ, i64_w, i32_w]
        rfl
      refine take_ (i := 3) (N := (some 20)) (v := ?_) (a' := ?_) #[true, true, true, true, true, true, true, false, false] rfl rfl (by kernel_rfl) (fun _ _ _ h => h) (Or.inl ⟨by rfl, ?_⟩) hHeld ?_ ?_
      rotate_left
      · rintro w' ⟨s0, s1⟩
        refine load_el (ty := 40) (p := .tmp 19) (ad.add (k * 2)) #[.int .i64 x, .string y] _ ?p1 ?p2 s0 Try.underlying40 ?p4 ?p5; (case p1 => rfl); (case p2 => rfl); (case p4 => rfl); (case p5 => kernel_rfl)
      rotate_left
      · simp only [Act.put, List.setIfInBounds_toArray, List.set_cons_zero, List.set_cons_succ, i64_w, i32_w]
        rfl
      refine take_ (i := 7) (N := (some 24)) (v := ?_) (a' := ?_) #[true, true, true, true, true, true, true, true, false] rfl rfl (by kernel_rfl) (fun _ _ _ h => h) (Or.inl ⟨by rfl, ?_⟩) hHeld ?_ ?_
      rotate_left
      · rintro w' ⟨s0, s1⟩
        refine load_el (ty := 40) (p := .tmp 23) (ad'.add (k * 2)) #[.int .i64 x, .string y] _ ?p1 ?p2 s1 Try.underlying40 ?p4 ?p5; (case p1 => rfl); (case p2 => rfl); (case p4 => rfl); (case p5 => kernel_rfl)
      rotate_left
      · simp only [Act.put, List.setIfInBounds_toArray, List.set_cons_zero, List.set_cons_succ, i64_w, i32_w]
        rfl
      refine pure_ (i := 8) (N := (some 25)) (v := ?_) (a' := ?_) #[true, true, true, true, true, true, true, true, true] rfl rfl (by kernel_rfl) (fun _ _ _ h => h) (Or.inl ⟨by rfl, ?_⟩) ?_ ?_
      rotate_left
      · intro w'
        go_simp
        try with_reducible rfl
      rotate_left
      · simp only [Act.put, List.setIfInBounds_toArray, List.set_cons_zero, List.set_cons_succ, i64_w, i32_w]
        rfl
      refine done_ (by kernel_rfl) ?_
      have HB1 := Aside0.mk (below_drew HB.out)
      go_wp2
      go_roundw
      case rel => exact ⟨k + 1, by omega, by go_num, HB1⟩
      case measure => simp [intOf]; omega
    · obtain rfl : k = l.length := by omega
      go_wp2
      go_ret
      exact ⟨rfl, HB.out⟩
theorem dall_at {A : Option Addr} {n c : Nat} {hs : List Hdr} {bk : List (List Int)} {B : Option Addr} {m d : Nat} {fl : List ByteArray} {w : World} {S0 : Nat → Prop} (r : Nat → Int) {C : Option Addr} {cc : Nat} {l : List Acc} {C' : Option Addr} {cc' : Nat} {f : List Flt} {nl nf : Nat}
    (hd : ∀ k, S0 k → k < w.heap.size) (hF : Sure S0 w (fun w => Fu w A n c hs bk ∧ Fl w B m d fl)) (hl : RowsOf accV 4 w C l) (hf : RowsOf fltV 3 w C' f) (hn : n ≤ 1000) (hbk : OkBk bk) (hfl : OkFl fl) (hlen : l.length ≤ 1000) (hnl : l.length = nl) (hnf : f.length = nf)
    {bk1 : List (List Int)} {fl1 : List ByteArray} {out1 : List RR} {q1 : Int} (hR : allR f l 0 bk fl [] = (bk1, fl1, out1, q1)) {no : Nat} (ho : out1.length = no) :
    Calls Try.prog 16 #[.agg (hwC (.slice A n c) (.slice B m d) r), .slice C nl cc, .slice C' nf cc'] w fun e w' => ∃ A c hs B d C cc, e = .returned (.tuple #[.agg (hwC (.slice A n c) (.slice B m d) r), .slice C no cc, .int .i64 q1]) ∧ Back S0 w w' (fun w => (Fu w A n c hs bk1 ∧ Fl w B m d fl1) ∧ RowsOf rrV 2 w C out1) := by
  subst ho
  exact dall_any r hd hF hl hf hn hbk hfl hlen hnl hnf hR
theorem rall_at {A : Option Addr} {n c : Nat} {hs : List Hdr} {bk : List (List Int)} {B : Option Addr} {m d : Nat} {fl : List ByteArray} {w : World} {S0 : Nat → Prop} (r : Nat → Int) {C : Option Addr} {cc : Nat} {l : List Acc} {C' : Option Addr} {cc' : Nat} {f : List Flt} {nl nf : Nat}
    (hd : ∀ k, S0 k → k < w.heap.size) (hF : Sure S0 w (fun w => Fu w A n c hs bk ∧ Fl w B m d fl)) (hl : RowsOf accV 4 w C l) (hf : RowsOf fltV 3 w C' f) (hn : n ≤ 1000) (hbk : OkBk bk) (hfl : OkFl fl) (hlen : l.length ≤ 1000) (hnl : l.length = nl) (hnf : f.length = nf)
    {bk1 : List (List Int)} {fl1 : List ByteArray} {out1 : List RR} {q1 : Int} (hR : allR f l 0 bk fl [] = (bk1, fl1, out1, q1)) {no : Nat} (ho : out1.length = no) :
    Calls Try.prog 17 #[.agg (hwC (.slice A n c) (.slice B m d) r), .slice C nl cc, .slice C' nf cc'] w fun e w' => ∃ A c hs B d C cc, e = .returned (.tuple #[.agg (hwC (.slice A n c) (.slice B m d) r), .slice C no cc, .int .i64 q1]) ∧ Back S0 w w' (fun w => (Fu w A n c hs bk1 ∧ Fl w B m d fl1) ∧ RowsOf rrV 2 w C out1) := by
  subst ho
  exact rall_any r hd hF hl hf hn hbk hfl hlen hnl hnf hR
open Go.Proofs.Ytkfhekocbfednaa.PDeviceMatches
set_option maxRecDepth 100000 in
set_option maxHeartbeats 64000000 in
theorem all0 {A : Option Addr} {n d : Nat} {hs : List Hdr} {bk : List (List Int)} {B : Option Addr} {m c : Nat} {fl : List ByteArray} {w : World} (r : Nat → Int) {C : Option Addr} {cc : Nat} {l : List Acc} {C' : Option Addr} {cc' : Nat} {f : List Flt} {nl nf : Nat}
    (hF : Fu w A n d hs bk) (hL : Fl w B m c fl) (hl : RowsOf accV 4 w C l) (hf : RowsOf fltV 3 w C' f) (hnl : l.length = nl) (hnf : f.length = nf) {k : Nat} {vb : Bool} (hk : bootchainref07_Valid.f k bk = some vb) (hb : vb = true → Ok3 bk ∧ bk.length ≤ 4) (hq : smallB vb m fl = false) :
    Calls Try.prog 5 #[.agg (hwC (.slice A n d) (.slice B m c) r), .slice C nl cc, .slice C' nf cc'] w fun e w' => e = .returned (.bool true) ∧ Below w.heap.size w w' := by
  have H0 := Aside0.mk ((St.enter2 (fun _ h => h) (sureFu hF) (sureFl hL)).alloc (hwC (.slice A n d) (.slice B m c) r) 31)
  have HK := Aside0.mk hk
  have HB := Aside0.mk hb
  have HQ := Aside0.mk hq
  clear hq hF hL hk hb hl hf
  go_enter Try.func5, Try.ntmps5
  go_wp2_with (first | (go_at_call 8; refine (sanity_any _).mono ?_; rintro e w1 ⟨rfl, hb⟩; have H1 := Aside0.mk (H0.out.step hb); clear hb) | ((with_reducible refine gate_dst (N := 15) rfl ?_); refine loadRowL_ (ty := 31) _ rfl rfl rfl _ _ _ _ _ rfl (H1.out.blk 0 rfl) Try.underlying31 rfl (by kernel_rfl) ?_) | (go_at_call 9; refine (small_det (H1.out.at 0 rfl) (H1.out.at 1 rfl) HK.out HB.out).mono ?_; rintro e w2 ⟨rfl, hb⟩; have H2 := Aside0.mk (H1.out.step hb); clear hb; rw [HQ.out]))
  go_ret
  exact ⟨rfl, H2.out.bel⟩
set_option maxRecDepth 100000 in
set_option maxHeartbeats 64000000 in
theorem all1 {A : Option Addr} {n d : Nat} {hs : List Hdr} {bk : List (List Int)} {B : Option Addr} {m c : Nat} {fl : List ByteArray} {w : World} (r : Nat → Int) {C : Option Addr} {cc : Nat} {l : List Acc} {C' : Option Addr} {cc' : Nat} {f : List Flt} {nl nf : Nat}
    (hF : Fu w A n d hs bk) (hL : Fl w B m c fl) (hl : RowsOf accV 4 w C l) (hf : RowsOf fltV 3 w C' f) (hnl : l.length = nl) (hnf : f.length = nf) {k : Nat} {vb : Bool} (hk : bootchainref07_Valid.f k bk = some vb) (hb : vb = true → Ok3 bk ∧ bk.length ≤ 4) (hq : smallB vb m fl = true) (hz : 60 < (nl : Int)) :
    Calls Try.prog 5 #[.agg (hwC (.slice A n d) (.slice B m c) r), .slice C nl cc, .slice C' nf cc'] w fun e w' => e = .returned (.bool true) ∧ Below w.heap.size w w' := by
  have H0 := Aside0.mk ((St.enter2 (fun _ h => h) (sureFu hF) (sureFl hL)).alloc (hwC (.slice A n d) (.slice B m c) r) 31)
  have HK := Aside0.mk hk
  have HB := Aside0.mk hb
  have HQ := Aside0.mk hq
  clear hq hF hL hk hb hl hf
  go_enter Try.func5, Try.ntmps5
  go_wp2_with (first | (go_at_call 8; refine (sanity_any _).mono ?_; rintro e w1 ⟨rfl, hb⟩; have H1 := Aside0.mk (H0.out.step hb); clear hb) | ((with_reducible refine gate_dst (N := 15) rfl ?_); refine loadRowL_ (ty := 31) _ rfl rfl rfl _ _ _ _ _ rfl (H1.out.blk 0 rfl) Try.underlying31 rfl (by kernel_rfl) ?_) | (go_at_call 9; refine (small_det (H1.out.at 0 rfl) (H1.out.at 1 rfl) HK.out HB.out).mono ?_; rintro e w2 ⟨rfl, hb⟩; have H2 := Aside0.mk (H1.out.step hb); clear hb; rw [HQ.out]))
  go_ret
  exact ⟨rfl, H2.out.bel⟩
set_option maxRecDepth 100000 in
set_option maxHeartbeats 64000000 in
theorem all2 {A : Option Addr} {n d : Nat} {hs : List Hdr} {bk : List (List Int)} {B : Option Addr} {m c : Nat} {fl : List ByteArray} {w : World} (r : Nat → Int) {C : Option Addr} {cc : Nat} {l : List Acc} {C' : Option Addr} {cc' : Nat} {f : List Flt} {nl nf : Nat}
    (hF : Fu w A n d hs bk) (hL : Fl w B m c fl) (hl : RowsOf accV 4 w C l) (hf : RowsOf fltV 3 w C' f) (hnl : l.length = nl) (hnf : f.length = nf) {k : Nat} {vb : Bool} (hk : bootchainref07_Valid.f k bk = some vb) (hb : vb = true → Ok3 bk ∧ bk.length ≤ 4) (hq : smallB vb m fl = true) (hz : (nl : Int) ≤ 60) (hy : 60 < (nf : Int)) :
    Calls Try.prog 5 #[.agg (hwC (.slice A n d) (.slice B m c) r), .slice C nl cc, .slice C' nf cc'] w fun e w' => e = .returned (.bool true) ∧ Below w.heap.size w w' := by
  have H0 := Aside0.mk ((St.enter2 (fun _ h => h) (sureFu hF) (sureFl hL)).alloc (hwC (.slice A n d) (.slice B m c) r) 31)
  have HK := Aside0.mk hk
  have HB := Aside0.mk hb
  have HQ := Aside0.mk hq
  clear hq hF hL hk hb hl hf
  go_enter Try.func5, Try.ntmps5
  go_wp2_with (first | (go_at_call 8; refine (sanity_any _).mono ?_; rintro e w1 ⟨rfl, hb⟩; have H1 := Aside0.mk (H0.out.step hb); clear hb) | ((with_reducible refine gate_dst (N := 15) rfl ?_); refine loadRowL_ (ty := 31) _ rfl rfl rfl _ _ _ _ _ rfl (H1.out.blk 0 rfl) Try.underlying31 rfl (by kernel_rfl) ?_) | (go_at_call 9; refine (small_det (H1.out.at 0 rfl) (H1.out.at 1 rfl) HK.out HB.out).mono ?_; rintro e w2 ⟨rfl, hb⟩; have H2 := Aside0.mk (H1.out.step hb); clear hb; rw [HQ.out]))
  go_ret
  exact ⟨rfl, H2.out.bel⟩
set_option maxRecDepth 100000 in
set_option maxHeartbeats 64000000 in
theorem all3 {A : Option Addr} {n d : Nat} {hs : List Hdr} {bk : List (List Int)} {B : Option Addr} {m c : Nat} {fl : List ByteArray} {w : World} (r : Nat → Int) {C : Option Addr} {cc : Nat} {l : List Acc} {C' : Option Addr} {cc' : Nat} {f : List Flt} {nl nf : Nat}
    (hF : Fu w A n d hs bk) (hL : Fl w B m c fl) (hl : RowsOf accV 4 w C l) (hf : RowsOf fltV 3 w C' f) (hnl : l.length = nl) (hnf : f.length = nf) {k : Nat} {vb : Bool} (hk : bootchainref07_Valid.f k bk = some vb) (hb : vb = true → Ok3 bk ∧ bk.length ≤ 4) (hq : smallB vb m fl = true) (hz : (nl : Int) ≤ 60) (hy : (nf : Int) ≤ 60) (h0 : ∀ xs ∈ bk, ∀ c ∈ xs, 0 ≤ c) :
    Calls Try.prog 5 #[.agg (hwC (.slice A n d) (.slice B m c) r), .slice C nl cc, .slice C' nf cc'] w fun e w' => e = .returned (.bool true) ∧ Below w.heap.size w w' := by
  have H0 := Aside0.mk ((St.enter2 (fun _ h => h) (sureFu hF) (sureFl hL)).alloc (hwC (.slice A n d) (.slice B m c) r) 31)
  have HK := Aside0.mk hk
  have HB := Aside0.mk hb
  have HQ := Aside0.mk hq
  have FT := small_fits hL.C.1 hb hq
  have OKB := Aside0.mk (OkBk_of FT.1 h0)
  have OKF := Aside0.mk (⟨by have := FT.2.2.1; omega, FT.2.2.2⟩ : OkFl fl)
  have hn : n ≤ 1000 := by have := hF.len; have := FT.2.1; omega
  obtain ⟨⟨bk1, fl1, out1, q1⟩, hR⟩ : ∃ y, allR f l 0 bk fl [] = y := ⟨_, rfl⟩
  obtain ⟨no, hno⟩ : ∃ y, out1.length = y := ⟨_, rfl⟩
  have RR := Aside0.mk hR
  have NO := Aside0.mk hno
  have NL := Aside0.mk hnl
  have NF := Aside0.mk hnf
  have LL := Aside0.mk (show l.length ≤ 1000 by omega)
  have HL := Aside0.mk (fun W hb => hl.below hb : ∀ W, Below w.heap.size w W → RowsOf accV 4 W C l)
  have HFT := Aside0.mk (fun W hb => hf.below hb : ∀ W, Below w.heap.size w W → RowsOf fltV 3 W C' f)
  have SM := Aside0.mk (sameH_refl r fl1 bk1)
  have sureFuX := Aside0.mk (fun W hb => (sureFu hF).below (fun _ h => h) hb : ∀ W, Below w.heap.size w W → Sure (fun k => k < w.heap.size) W (fun w => Fu w A n d hs bk))
  have sureFlX := Aside0.mk (fun W hb => (sureFl hL).below (fun _ h => h) hb : ∀ W, Below w.heap.size w W → Sure (fun k => k < w.heap.size) W (fun w => Fl w B m c fl))
  clear hF hL hk hb FT hq h0 hl hf hR hno hnl hnf
  go_enter Try.func5, Try.ntmps5
  go_upto_region 4 with (first | (go_at_call 8; refine (sanity_any _).mono ?_; rintro e w1 ⟨rfl, hb⟩; have H1 := Aside0.mk (H0.out.step hb); clear hb) | ((with_reducible refine gate_dst (N := 15) rfl ?_); refine loadRowL_ (ty := 31) _ rfl rfl rfl _ _ _ _ _ rfl (H1.out.blk 0 rfl) Try.underlying31 rfl (by kernel_rfl) ?_) | (go_at_call 9; refine (small_det (H1.out.at 0 rfl) (H1.out.at 1 rfl) HK.out HB.out).mono ?_; rintro e w2 ⟨rfl, hb⟩; have H2 := Aside0.mk (H1.out.step hb); clear hb; rw [HQ.out]))
  go_upto_region 5 with (first | ((with_reducible refine gate_dst (N := 30) rfl ?_); refine loadRowL_ (ty := 31) _ rfl rfl rfl _ _ _ _ _ rfl (H2.out.blk 0 rfl) Try.underlying31 rfl (by kernel_rfl) ?_) | (go_at_call 16; refine (dall_at r (S0 := fun k => k < w.heap.size) (fun k hk => Nat.lt_of_lt_of_le hk H2.out.bel.size) (((sureFuX.out _ H2.out.bel)).and (sureFlX.out _ H2.out.bel)) (HL.out _ H2.out.bel) (HFT.out _ H2.out.bel) hn OKB.out OKF.out LL.out NL.out NF.out RR.out NO.out).mono ?_; rintro e u1 ⟨A1, c1, hs1, B1, d1, C1, cc1, rfl, hb⟩; have G1 := Aside0.mk (H2.out.call (hb.mono (fun _ hk => hk))); clear hb) | ((with_reducible refine gate_store (t := 31) (p := 8) rfl ?_); refine storeRowSt_ (ty := 31) rfl rfl rfl (hwC (.slice A1 n c1) (.slice B1 m d1) r) (G1.out.alloc #[.slice none 0 0, .slice none 0 0, .int .u8 0, .int .u8 0, .int .u8 0, .int .u8 0, .int .u8 0, .int .u8 0, .int .u8 0, .int .u8 0, .int .u8 0, .int .u8 0, .int .u8 0, .int .u8 0, .int .u8 0, .int .u8 0, .int .u8 0, .int .u8 0] 31) 1 rfl rfl rfl (by kernel_rfl) rfl (by kernel_rfl) ?_; intro x1 h_; have H3 := Aside0.mk (h_.as [(w.heap.size, (hwC (.slice A n d) (.slice B m c) r), 31), (u1.heap.size, (hwC (.slice A1 n c1) (.slice B1 m d1) r), 31)] rfl); clear h_))
  go_upto_region 6 with (first | ((with_reducible refine gate_dst (N := 38) rfl ?_); refine loadRowL_ (ty := 31) _ rfl rfl rfl _ _ _ _ _ rfl (H3.out.blk 0 rfl) Try.underlying31 rfl (by kernel_rfl) ?_) | (go_at_call 17; refine (rall_at r (S0 := fun k => k < w.heap.size) (fun k hk => Nat.lt_of_lt_of_le hk H3.out.bel.size) (((sureFuX.out _ H3.out.bel)).and (sureFlX.out _ H3.out.bel)) (HL.out _ H3.out.bel) (HFT.out _ H3.out.bel) hn OKB.out OKF.out LL.out NL.out NF.out RR.out NO.out).mono ?_; rintro e u2 ⟨A2, c2, hs2, B2, d2, C2, cc2, rfl, hb⟩; have G2 := Aside0.mk (H3.out.call (hb.mono (fun _ hk => .inl hk))); clear hb) | ((with_reducible refine gate_store (t := 31) (p := 11) rfl ?_); refine storeRowSt_ (ty := 31) rfl rfl rfl (hwC (.slice A2 n c2) (.slice B2 m d2) r) (G2.out.alloc #[.slice none 0 0, .slice none 0 0, .int .u8 0, .int .u8 0, .int .u8 0, .int .u8 0, .int .u8 0, .int .u8 0, .int .u8 0, .int .u8 0, .int .u8 0, .int .u8 0, .int .u8 0, .int .u8 0, .int .u8 0, .int .u8 0, .int .u8 0, .int .u8 0] 31) 2 rfl rfl rfl (by kernel_rfl) rfl (by kernel_rfl) ?_; intro x2 h_; have H4 := Aside0.mk (h_.as [(w.heap.size, (hwC (.slice A n d) (.slice B m c) r), 31), (u1.heap.size, (hwC (.slice A1 n c1) (.slice B1 m d1) r), 31), (u2.heap.size, (hwC (.slice A2 n c2) (.slice B2 m d2) r), 31)] rfl); clear h_))
  go_wp2_with (first | ((with_reducible refine gate_dst (N := 47) rfl ?_); refine loadRowG_ (ty := 31) _ rfl (by rfl) rfl _ _ _ _ _ rfl (H4.out.blk 1 rfl) Try.underlying31 rfl (by kernel_rfl) ?_) | ((with_reducible refine gate_dst (N := 48) rfl ?_); refine loadRowG_ (ty := 31) _ rfl (by rfl) rfl _ _ _ _ _ rfl (H4.out.blk 2 rfl) Try.underlying31 rfl (by kernel_rfl) ?_) | (go_at_call 14; refine (rsame_q true (H4.out.at 1 rfl).1.1 (H4.out.at 1 rfl).1.2 (H4.out.at 0 rfl).1.1 (H4.out.at 0 rfl).1.2 SM.out).mono ?_; rintro e z1 ⟨rfl, hb⟩; have H5 := Aside0.mk (H4.out.step hb); clear hb) | (go_at_call 18; refine (results_same (H5.out.at 1 rfl).2 (H5.out.at 0 rfl).2 NO.out).mono ?_; rintro e z2 ⟨rfl, hb⟩; have H6 := Aside0.mk (H5.out.step hb); clear hb))
  go_ret
  exact ⟨rfl, H6.out.bel⟩
theorem all_any {A : Option Addr} {n d : Nat} {hs : List Hdr} {bk : List (List Int)} {B : Option Addr} {m c : Nat} {fl : List ByteArray} {w : World} (r : Nat → Int) {C : Option Addr} {cc : Nat} {l : List Acc} {C' : Option Addr} {cc' : Nat} {f : List Flt}
    (hF : Fu w A n d hs bk) (hL : Fl w B m c fl) (hl : RowsOf accV 4 w C l) (hf : RowsOf fltV 3 w C' f) (h0 : ∀ xs ∈ bk, ∀ c ∈ xs, 0 ≤ c) :
    Calls Try.prog 5 #[.agg (hwC (.slice A n d) (.slice B m c) r), .slice C l.length cc, .slice C' f.length cc'] w fun e w' => e = .returned (.bool true) ∧ Below w.heap.size w w' := by
  obtain ⟨k, vb, hk, hb⟩ := valid_f bk (Fu.bkmax hF) (Fu.rows hF)
  cases hq : smallB vb m fl with
  | false => exact all0 r hF hL hl hf rfl rfl hk hb hq
  | true =>
    by_cases hz : 60 < (l.length : Int)
    · exact all1 r hF hL hl hf rfl rfl hk hb hq hz
    · by_cases hy : 60 < (f.length : Int)
      · exact all2 r hF hL hl hf rfl rfl hk hb hq (by omega) hy
      · exact all3 r hF hL hl hf rfl rfl hk hb hq (by omega) (by omega) h0
end Go.Proofs.Ytkfhekocbfednaa.Dv
end
