/- Part of the proof of deviceSeparate_holds, deviceAll_holds, deviceMonotonic_holds: what later parts use. -/
import Derived.Test.YtkfhekocbfednaaZu0
import Derived.Test.YtkfhekocbfednaaZu1
import Derived.Test.YtkfhekocbfednaaZu2
import Derived.Test.YtkfhekocbfednaaZu3
import Derived.Test.YtkfhekocbfednaaZu4
import Derived.Test.YtkfhekocbfednaaZu5
import Derived.Test.YtkfhekocbfednaaZu6
import Derived.Test.YtkfhekocbfednaaZu7
import Derived.Test.YtkfhekocbfednaaZu8
import Derived.Test.YtkfhekocbfednaaZu9
import Derived.Test.YtkfhekocbfednaaZu10
import Derived.Test.YtkfhekocbfednaaZu11
import Derived.Test.YtkfhekocbfednaaZu12
import Derived.Test.YtkfhekocbfednaaZu13
import Derived.Test.YtkfhekocbfednaaZu14
import Derived.Test.YtkfhekocbfednaaZu15
import Derived.Test.YtkfhekocbfednaaZu16
import Derived.Laws.StructEq
section
namespace Go.Proofs.Ytkfhekocbfednaa.Fu
set_option linter.unusedVariables false
set_option linter.unusedSimpArgs false
open Go.RowKit Go.Proofs.Ytkfhekocbfednaa Go.Proofs.YtkfhekocbfednaaW.PrintWords Go.Proofs.YtkfhekocbfednaaW.PrintLast Go.Proofs.YtkfhekocbfednaaW.PrintMore
structure Own2 (w : World) (base : Nat) (hs : List Hdr) (bk : List (List Int)) : Prop where
  len : hs.length = bk.length
  row : ∀ (i : Nat) (t : Hdr), hs[i]? = some t → ∃ xs, bk[i]? = some xs ∧ t.2.1 = xs.length ∧ xs.length ≤ t.2.2 ∧ xs.length ≤ 1000000 ∧
    (0 < xs.length → ∃ g rest, t.1 = some ⟨g, 0, none⟩ ∧ base ≤ g ∧ w.heap[g]? = some (.cells (rowBlk (Value.int .u8) xs rest) 5 (0, 0)))
  apart : ∀ (i j : Nat) (s t : Hdr) (g : Nat), hs[i]? = some s → hs[j]? = some t → s.1 = some ⟨g, 0, none⟩ → t.1 = some ⟨g, 0, none⟩ → 0 < s.2.1 → 0 < t.2.1 → i = j
theorem Own2.nil (w : World) (base : Nat) : Own2 w base [] [] := ⟨rfl, fun i t h => by simp at h, fun i j s t g h => by simp at h⟩
theorem Own2.move {w w1 : World} {base : Nat} {hs : List Hdr} {bk : List (List Int)} (h : Own2 w base hs bk) (hm : ∀ g cs, base ≤ g → w.heap[g]? = some (.cells cs 5 (0, 0)) → w1.heap[g]? = w.heap[g]?) : Own2 w1 base hs bk :=
  ⟨h.len, fun i t hi => by
    obtain ⟨xs, h1, h2, h3, h4, h5⟩ := h.row i t hi
    refine ⟨xs, h1, h2, h3, h4, fun hp => ?_⟩
    obtain ⟨g, rest, e, hb, hg⟩ := h5 hp
    exact ⟨g, rest, e, hb, (hm g _ hb hg).trans hg⟩, h.apart⟩
theorem Own2.below {w w1 : World} {base : Nat} {hs : List Hdr} {bk : List (List Int)} (h : Own2 w base hs bk) (hb : Below w.heap.size w w1) : Own2 w1 base hs bk := h.move fun g _ _ hg => hb.block g (blk_lt hg)
theorem Own2.snoc {w : World} {base B : Nat} {hs : List Hdr} {bk : List (List Int)} (h : Own2 w base hs bk) {xs : List Int} {A : Option Addr} {c : Nat} {ok : Nat → Prop} (hx : xs.length ≤ 1000000) (hB : base ≤ B)
    (hR : (Kd.int .u8).R 5 w B ok (.slice A xs.length c) xs) (hnew : ∀ (i : Nat) (t : Hdr) (g : Nat), hs[i]? = some t → t.1 = some ⟨g, 0, none⟩ → 0 < t.2.1 → g < B) : Own2 w base (hs ++ [(A, xs.length, c)]) (bk ++ [xs]) := by
  obtain ⟨_, hc, _⟩ := Kd.R_reads' hR
  have hform : 0 < xs.length → ∃ g rest, A = some ⟨g, 0, none⟩ ∧ B ≤ g ∧ w.heap[g]? = some (.cells (rowBlk (Value.int .u8) xs rest) 5 (0, 0)) := by
    intro hp
    obtain ⟨g, cap, e, _, _, _⟩ := Kd.R_form hR hp
    injection e with e1 e2 e3
    subst e1
    obtain ⟨rest, h1, h2, _⟩ := row_of_R hR
    exact ⟨g, rest, rfl, h2, h1⟩
  refine ⟨by simp [h.len], fun i t hi => ?_, fun i j s t g hi hj hs' ht hp hq => ?_⟩
  · rcases Nat.lt_or_ge i hs.length with hl | hl
    · rw [List.getElem?_append_left hl] at hi
      obtain ⟨ys, h1, h2⟩ := h.row i t hi
      exact ⟨ys, by rw [List.getElem?_append_left (by rw [← h.len]; exact hl)]; exact h1, h2⟩
    · have hl2 : i = hs.length := by
        have := (List.getElem?_eq_some_iff.1 hi).1
        simp at this
        omega
      subst hl2
      have : t = (A, xs.length, c) := by simpa using hi.symm
      subst this
      refine ⟨xs, by rw [h.len]; simp, rfl, hc, hx, fun hp => ?_⟩
      obtain ⟨g, rest, e, h1, h2⟩ := hform hp
      exact ⟨g, rest, e, by omega, h2⟩
  · have key : ∀ (i : Nat) (t : Hdr), (hs ++ [(A, xs.length, c)])[i]? = some t → t.1 = some ⟨g, 0, none⟩ → 0 < t.2.1 → (i < hs.length ∧ hs[i]? = some t ∧ g < B) ∨ (i = hs.length ∧ B ≤ g) := by
      intro i t hi ht hp
      rcases Nat.lt_or_ge i hs.length with hl | hl
      · rw [List.getElem?_append_left hl] at hi
        exact .inl ⟨hl, hi, hnew i t g hi ht hp⟩
      · have hl2 : i = hs.length := by
          have := (List.getElem?_eq_some_iff.1 hi).1
          simp at this
          omega
        subst hl2
        have : t = (A, xs.length, c) := by simpa using hi.symm
        subst this
        obtain ⟨g', rest, e, h1, h2⟩ := hform hp
        rw [show A = some ⟨g, 0, none⟩ from ht] at e
        injection e with e
        injection e with e
        subst e
        exact .inr ⟨rfl, h1⟩
    rcases key i s hi hs' hp with ⟨h1, h2, h3⟩ | ⟨h1, h2⟩ <;> rcases key j t hj ht hq with ⟨k1, k2, k3⟩ | ⟨k1, k2⟩
    · exact h.apart i j s t g h2 k2 hs' ht hp hq
    · omega
    · omega
    · omega
theorem Own2.lt {w : World} {base : Nat} {hs : List Hdr} {bk : List (List Int)} (h : Own2 w base hs bk) : ∀ (i : Nat) (t : Hdr) (g : Nat), hs[i]? = some t → t.1 = some ⟨g, 0, none⟩ → 0 < t.2.1 → g < w.heap.size := by
  intro i t g hi ht hp
  obtain ⟨xs, h1, h2, h3, _, h4⟩ := h.row i t hi
  obtain ⟨g', rest, e, hb, hg⟩ := h4 (by omega)
  rw [ht] at e
  injection e with e
  injection e with e
  subst e
  exact blk_lt hg
theorem Own2.set {w : World} {base : Nat} {hs : List Hdr} {bk : List (List Int)} (h : Own2 w base hs bk) {i g m d : Nat} {xs : List Int} {rest : List Value} (hi : hs[i]? = some (some ⟨g, 0, none⟩, m, d)) (hx : bk[i]? = some xs)
    (hg : w.heap[g]? = some (.cells (rowBlk (Value.int .u8) xs rest) 5 (0, 0))) (j : Nat) (hj : j < xs.length) (nv : Int) : Own2 (w.setCell ⟨g, j, none⟩ (.int .u8 nv)) base hs (bk.set i (xs.set j nv)) := by
  refine ⟨by rw [List.length_set]; exact h.len, fun q t hq => ?_, h.apart⟩
  obtain ⟨ys, h1, h2, h3, h4, h5⟩ := h.row q t hq
  by_cases e : i = q
  · subst e
    rw [hi] at hq
    cases hq
    rw [hx] at h1
    cases h1
    refine ⟨xs.set j nv, by rw [List.getElem?_set, if_pos rfl, if_pos (List.getElem?_eq_some_iff.1 hx).1], by rw [List.length_set]; exact h2, by rw [List.length_set]; exact h3, by rw [List.length_set]; exact h4, fun hp => ?_⟩
    obtain ⟨g', rest', e1, hb, _⟩ := h5 (by rw [List.length_set] at hp; exact hp)
    cases e1
    exact ⟨g, rest, rfl, hb, by rw [← rowBlk_set xs rest j nv hj]; exact blk_set hg j _⟩
  · refine ⟨ys, by rw [List.getElem?_set, if_neg e]; exact h1, h2, h3, h4, fun hp => ?_⟩
    obtain ⟨g', rest', e1, hb, hg'⟩ := h5 hp
    refine ⟨g', rest', e1, hb, blk_far hg' ?_ _⟩
    rintro (rfl : g' = g)
    have hm : m = xs.length := by
      obtain ⟨zs, k1, k2, _⟩ := h.row i _ hi
      rw [hx] at k1
      cases k1
      exact k2
    exact e (h.apart i q _ t g' hi hq rfl e1 (by show 0 < m; omega) (by omega))
theorem Own2.fu {w : World} {base : Nat} {hs : List Hdr} {bk : List (List Int)} (h : Own2 w base hs bk) {A : Option Addr} {n c : Nat} (hn : hs.length = n) (hc : n ≤ c)
    (hC : Sure (fun k => base ≤ k ∧ k < w.heap.size) w (fun w => Kd.C hdr w A n hs)) : Sure (fun k => base ≤ k ∧ k < w.heap.size) w (fun w => Fu w A n c hs bk) := fun w2 h2 =>
  ⟨hC w2 h2, by rw [← hn]; exact h.len.symm, hc, fun i t hi => by
    obtain ⟨xs, h1, h3, h4, h5, h6⟩ := h.row i t hi
    refine ⟨xs, h1, h3, h4, ?_⟩
    rcases Nat.eq_zero_or_pos xs.length with h0 | h0
    · exact ⟨rfl, by omega, fun hp => by omega⟩
    · obtain ⟨g, rest, e, hb, hg⟩ := h6 h0
      rw [e]
      exact C_of_rowBlk (h1 := fun _ => rfl) ((h2 g ⟨hb, blk_lt hg⟩).trans hg) (by omega)⟩
def rpulseL (bk : List (List Int)) (b c : Int) (cut : Bool) : List (List Int) :=
  if rd (rowOf bk b) c ≤ 1 then bk.set b.toNat ((rowOf bk b).set c.toNat (if cut then 1 else 2)) else bk
theorem rpulse_eq {bk : List (List Int)} {b c : Int} (cut : Bool) (he : existsB bk b c = true) (h0 : 0 ≤ rd (rowOf bk b) c) (h3 : rd (rowOf bk b) c ≤ 3) : rpulseL bk b c cut = pulseL bk b c cut := by
  obtain ⟨h1, h2, h4, h5⟩ := exists_facts he
  unfold rpulseL pulseL
  by_cases h : rd (rowOf bk b) c ≤ 1
  · rw [if_pos h, show nextC (rd (rowOf bk b) c) cut = if cut then 1 else 2 from by unfold nextC; rw [if_neg (by omega)]]
  · rw [if_neg h, show nextC (rd (rowOf bk b) c) cut = rd (rowOf bk b) c from by unfold nextC; rw [if_pos (by omega)]]
    have e1 : (rowOf bk b).set c.toNat (rd (rowOf bk b) c) = rowOf bk b := by
      have hl : c.toNat < (rowOf bk b).length := by omega
      apply List.ext_getElem?
      intro i
      rw [List.getElem?_set]
      by_cases hi : c.toNat = i
      · subst hi
        rw [if_pos rfl, if_pos hl]
        simp [rd, List.getD, hl]
      · rw [if_neg hi]
    rw [e1]
    have hl : b.toNat < bk.length := by omega
    apply List.ext_getElem?
    intro i
    rw [List.getElem?_set]
    by_cases hi : b.toNat = i
    · subst hi
      rw [if_pos rfl, if_pos hl]
      simp [rowOf, List.getD, hl]
    · rw [if_neg hi]
theorem Own2.moveIf {w w1 : World} {base B : Nat} {hs : List Hdr} {bk : List (List Int)} (h : Own2 w base hs bk) (hlt : ∀ (i : Nat) (t : Hdr) (g : Nat), hs[i]? = some t → t.1 = some ⟨g, 0, none⟩ → 0 < t.2.1 → g < B) (hm : ∀ g, g < B → w1.heap[g]? = w.heap[g]?) : Own2 w1 base hs bk :=
  ⟨h.len, fun i t hi => by
    obtain ⟨xs, h1, h2, h3, h4, h5⟩ := h.row i t hi
    refine ⟨xs, h1, h2, h3, h4, fun hp => ?_⟩
    obtain ⟨g, rest, e, hb, hg⟩ := h5 hp
    exact ⟨g, rest, e, hb, (hm g (hlt i t g hi e (by omega))).trans hg⟩, h.apart⟩
set_option maxRecDepth 100000 in
set_option maxHeartbeats 16000000 in
theorem rpulse_yes {A : Option Addr} {n d : Nat} {hs : List Hdr} {bk : List (List Int)} {w : World} {S : Nat → Prop} (b c : Int) (cut : Bool) (hd : ∀ k, S k → k < w.heap.size) (hf : Sure S w (fun w => Fu w A n d hs bk))
    (he : existsB bk b c = true) (hn : n ≤ 1000) (hrow : ∀ xs ∈ bk, xs.length ≤ 1000) (HEX : ∀ W, Below w.heap.size w W → Calls Try.prog 49 #[.agg #[.slice A n d], .int .i64 b, .int .i64 c] W fun e w' => e = .returned (.bool true) ∧ Below W.heap.size W w') :
    Calls Try.prog 24 #[.agg #[.slice A n d], .int .i64 b, .int .i64 c, .bool cut] w (FuseRes S (rpulseL bk b c cut) n 0 w) := by
  have h := hf.here
  obtain ⟨h1, h2, h3, h4⟩ := exists_facts he
  have h2' : b < (n : Int) := by have := h.len; omega
  have hn0 : 0 < n := by omega
  obtain ⟨ad, rfl⟩ : ∃ ad, A = some ad := by obtain ⟨ad, _, _, e, _⟩ := h.at b h1 h2'; exact ⟨ad, e⟩
  have H0 := Aside0.mk ((St.enter1 hd hf).alloc2 #[.slice (some ad) n d] 24 #[.slice none 0 0] 24)
  have HF := Aside0.mk h
  have HX := Aside0.mk HEX
  have HRW := Aside0.mk hrow
  have EX := Aside0.mk he
  have HL := Aside0.mk h.len
  clear hf h he hd HEX hrow h2
  go_enter Try.func24, Try.ntmps24
  go_wp2_with (first | (go_at_call 49; refine (HX.out _ H0.out.bel).mono ?_; rintro e w1 ⟨rfl, hb⟩; have H1 := Aside0.mk (H0.out.step hb); have k0 := H1.out.cell 0 rfl 0 rfl; have n0 := H1.out.facts 0 rfl |>.2.2.1; clear hb))
  go_loopw [11] (fun i wr => ∃ (k : Nat) (v : Value) (hs1 : List Hdr), k ≤ n ∧ i = .int .i64 k ∧ Aside0 (St w S [fun w => Fu w (some ad) n d hs bk] [(w.heap.size, #[.slice (some ad) n d], 24), (w.heap.size + 1, #[.slice none 0 0], 24), (w1.heap.size, #[v], 24)] wr) ∧ Aside0 (Kd.R hdr 56 wr (w1.heap.size + 1) (fun _ => True) v hs1) ∧ Aside0 (Own2 wr (w1.heap.size + 1) hs1 (bk.take k))) (fun i _ => n - (intOf i).toNat)
  case atStart => exact ⟨0, _, [], Nat.zero_le _, rfl, ⟨H1.out.alloc _ _⟩, ⟨Kd.R_nil _ _ _ _ _⟩, ⟨Own2.nil _ _⟩⟩
  case round =>
    clear k0 n0
    obtain ⟨k, v, hs1, hk, rfl, H0, RO, OW⟩ := hrel
    have q0 := H0.out.cell 0 rfl 0 rfl
    have q2 := H0.out.cell 2 rfl 0 rfl
    by_cases hlt : k < n
    · obtain ⟨ad', B, e0, ea, _, hx, hle, hC⟩ := HF.out.at (k : Int) (by omega) (by omega)
      cases ea
      rw [Int.toNat_natCast] at hx
      obtain ⟨xs, hxs⟩ : ∃ xs, rowOf bk k = xs := ⟨_, rfl⟩
      obtain ⟨m, hm⟩ : ∃ m, xs.length = m := ⟨_, rfl⟩
      rw [hxs, hm] at hx hle hC
      have X := Aside0.mk hm
      have XS := Aside0.mk hxs
      have hm1 : m ≤ 1000 := by rw [← hm]; exact HRW.out xs (by rw [← hxs]; simp [rowOf, List.getD, show k < bk.length by have := HL.out; omega])
      have HC := Aside0.mk (fun W hb => Kd.C_below hC hb : ∀ W, Below w.heap.size w W → Kd.C (Kd.int .u8) W B m xs)
      have TK := Aside0.mk (show (bk.take k).length = k by rw [List.length_take]; have := HL.out; omega)
      have BT := Aside0.mk (show bk.take (k + 1) = bk.take k ++ [xs] by rw [List.take_succ_eq_append_getElem (by have := HL.out; omega)]; congr 2; rw [← hxs]; simp [rowOf, List.getD, show k < bk.length by have := HL.out; omega])
      clear hC hxs hm
      have hxr := pw_cell_below H0.out.bel hx
      go_wp2
      refine start_ (n := 13) (S := (fun w' => w'.cell? ⟨w1.heap.size, 0, none⟩ = some v ∧ w'.cell? ⟨w.heap.size, 0, none⟩ = some (.slice (some ad) n d) ∧ w'.cell? (ad.add k) = some (.slice B m e0))) (ds := [12]) #[false, false, false, false, false, false, false, false, false, false, false, false, false] (by kernel_rfl) rfl rfl ⟨H0.out.drew.cell 2 rfl 0 rfl, H0.out.drew.cell 0 rfl 0 rfl, pw_cell_below H0.out.drew.bel hx⟩ (fun hHeld => ?_)
      refine pure_ (i := 0) (N := (some 26)) (v := ?_) (a' := ?_) #[true, false, false, false, false, false, false, false, false, false, false, false, false] rfl rfl (by kernel_rfl) (fun _ _ _ h => h) (Or.inl ⟨by rfl, ?_⟩) ?_ ?_
      rotate_left
      · intro w'
        go_simp
        try with_reducible rfl
      rotate_left
      · simp only [Act.put, List.setIfInBounds_toArray, List.set_cons_zero, List.set_cons_succ, i64_w, i32_w]
        rfl
      refine pure_ (i := 3) (N := (some 29)) (v := ?_) (a' := ?_) #[true, false, false, true, false, false, false, false, false, false, false, false, false] rfl rfl (by kernel_rfl) (fun _ _ _ h => h) (Or.inl ⟨by rfl, ?_⟩) ?_ ?_
      rotate_left
      · intro w'
        go_simp
        try with_reducible rfl
      rotate_left
      · simp only [Act.put, List.setIfInBounds_toArray, List.set_cons_zero, List.set_cons_succ, i64_w, i32_w]
        rfl
      refine pure_ (i := 5) (N := (some 31)) (v := ?_) (a' := ?_) #[true, false, false, true, false, true, false, false, false, false, false, false, false] rfl rfl (by kernel_rfl) (fun _ _ _ h => h) (Or.inl ⟨by rfl, ?_⟩) ?_ ?_
      rotate_left
      · intro w'
        go_simp
        try with_reducible rfl
      rotate_left
      · simp only [Act.put, List.setIfInBounds_toArray, List.set_cons_zero, List.set_cons_succ, i64_w, i32_w]
        rfl
      refine take_ (i := 1) (N := (some 27)) (v := ?_) (a' := ?_) #[true, true, false, true, false, true, false, false, false, false, false, false, false] rfl rfl (by kernel_rfl) (fun _ _ _ h => h) (Or.inl ⟨by rfl, ?_⟩) hHeld ?_ ?_
      rotate_left
      · rintro w' ⟨s0, s1, s2⟩
        go_simp
        try with_reducible rfl
      rotate_left
      · simp only [Act.put, List.setIfInBounds_toArray, List.set_cons_zero, List.set_cons_succ, i64_w, i32_w]
        rfl
      refine take_ (i := 4) (N := (some 30)) (v := ?_) (a' := ?_) #[true, true, false, true, true, true, false, false, false, false, false, false, false] rfl rfl (by kernel_rfl) (fun _ _ _ h => h) (Or.inl ⟨by rfl, ?_⟩) hHeld ?_ ?_
      rotate_left
      · rintro w' ⟨s0, s1, s2⟩
        go_simp
        try with_reducible rfl
      rotate_left
      · simp only [Act.put, List.setIfInBounds_toArray, List.set_cons_zero, List.set_cons_succ, i64_w, i32_w]
        rfl
      refine pure_ (i := 6) (N := (some 32)) (v := ?_) (a' := ?_) #[true, true, false, true, true, true, true, false, false, false, false, false, false] rfl rfl (by kernel_rfl) (fun _ _ _ h => h) (Or.inl ⟨by rfl, ?_⟩) ?_ ?_
      rotate_left
      · intro w'
        go_simp
        try with_reducible rfl
      rotate_left
      · simp only [Act.put, List.setIfInBounds_toArray, List.set_cons_zero, List.set_cons_succ, i64_w, i32_w]
        rfl
      refine take_ (i := 7) (N := (some 33)) (v := ?_) (a' := ?_) #[true, true, false, true, true, true, true, true, false, false, false, false, false] rfl rfl (by kernel_rfl) (fun _ _ _ h => h) (Or.inl ⟨by rfl, ?_⟩) hHeld ?_ ?_
      rotate_left
      · rintro w' ⟨s0, s1, s2⟩
        go_simp
        try with_reducible rfl
      rotate_left
      · simp only [Act.put, List.setIfInBounds_toArray, List.set_cons_zero, List.set_cons_succ, i64_w, i32_w]
        rfl
      refine one_ (i := 2) (N := (some 28)) #[true, true, true, true, true, true, true, true, false, false, false, false, false] rfl rfl (by kernel_rfl) (by decide) (fun K hK => ?_)
      refine Kd.R_lit_step (Kd.int .u8) (w0 := wr.drew) wr.drew.heap.size 5 (by rfl) (N := 28) rfl (xs := ([] : List Int)) (inner := []) (ok := fun _ => True) (okp := fun _ => True) ?hrun (Reps.none _ _) (fun _ hk => hk) trivial (Below.refl _ _) (Nat.le_refl _) (by simp) ?_
      case hrun => first | (go_simp; done) | (go_simp; rfl)
      intro v3 w3 ho hb _ _
      have H3 := Aside0.mk (H0.out.drew.step hb)
      have R3 := Aside0.mk (Kd.R_below (Kd.R_drew RO.out) hb)
      have W3 := Aside0.mk ((OW.out.below (below_drew (Below.refl _ _))).below hb)
      obtain ⟨A3, c3, e3⟩ := Kd.R_slice ho
      subst e3
      have O3 := Aside0.mk ho
      have z3 : wr.heap.size ≤ w3.heap.size := hb.size
      clear ho hb
      refine hK.out _ _ ⟨H3.out.cell 2 rfl 0 rfl, H3.out.cell 0 rfl 0 rfl, pw_cell_below H3.out.bel hx⟩ (fun hHeld => ?_)
      clear hK K
      refine norm_ (a' := ?_) ?_ ?_
      rotate_left
      · show Act.put _ (some 28) _ = _
        simp only [Act.put, List.setIfInBounds_toArray, List.set_cons_zero, List.set_cons_succ, i64_w, i32_w]
        rfl
      refine one_ (i := 8) (N := (some 34)) #[true, true, true, true, true, true, true, true, true, false, false, false, false] rfl rfl (by kernel_rfl) (by decide) (fun K hK => ?_)
      refine Kd.R_append_rows_step (Kd.int .u8) (Rr := (Kd.int .u8).K w3) (w0 := w3) wr.heap.size (by rfl) (.tmp 28) (.tmp 33) 56 5 (.int .u8 0) 1 rfl Try.underlying56 info_byte rfl (by decide) (by omega) (.slice A3 ([] : List Int).length c3) [] xs B m e0 (fun _ => True) (fun _ => False) rfl rfl O3.out (HC.out w3 H3.out.bel) (fun _ _ h => h) (fun _ h => h.elim) (fun _ _ => trivial) (Below.refl _ _) z3 (by simp; omega) ?_
      intro v4 w4 ho _ hg _
      rw [List.nil_append] at ho
      obtain ⟨A4, c4, e4⟩ := Kd.R_slice ho
      subst e4
      have H4 := Aside0.mk (H3.out.grown hg (fun k_ e_ => by have h1 := Kd.R_base O3.out k_ e_; have h1' : wr.heap.size ≤ k_ := h1; have h2 := H0.out.lt 2 rfl; have h3 := H0.out.lt 1 rfl; have h4 := H0.out.lt 0 rfl; have h5 := H0.out.bel.size; refine ⟨by omega, fun hs_ => by have := H0.out.dom _ hs_; omega, fun x hx => ?_⟩; simp only [List.mem_cons, List.not_mem_nil, or_false] at hx; (rcases hx with rfl | rfl | rfl) <;> (dsimp only; omega)))
      have R4 := Aside0.mk (Kd.R_over R3.out O3.out (by decide) hg)
      have W4 := Aside0.mk (W3.out.moveIf (fun i t g hi ht hp => (OW.out.lt i t g hi ht hp : g < wr.heap.size)) (fun g hlt => hg.block g (by omega) (fun e_ => by have h1 := Kd.R_base O3.out g e_.symm; have h1' : wr.heap.size ≤ g := h1; omega)))
      have O4 := Aside0.mk ho
      have z4 : w3.heap.size ≤ w4.heap.size := hg.size
      clear ho hg
      refine hK.out _ _ ⟨H4.out.cell 2 rfl 0 rfl, H4.out.cell 0 rfl 0 rfl, pw_cell_below H4.out.bel hx⟩ (fun hHeld => ?_)
      clear hK K
      refine norm_ (a' := ?_) ?_ ?_
      rotate_left
      · show Act.put _ (some 34) _ = _
        simp only [Act.put, List.setIfInBounds_toArray, List.set_cons_zero, List.set_cons_succ, i64_w, i32_w]
        rfl
      refine one_ (i := 9) (N := (some 35)) #[true, true, true, true, true, true, true, true, true, true, false, false, false] rfl rfl (by kernel_rfl) (by decide) (fun K hK => ?_)
      refine value_ (w1 := ?_) (v := ?_) (by rfl) rfl ?_ ?_
      rotate_left 2
      · go_simp
        constructor
        · rfl
        · rfl
      refine hK.out _ _ ⟨(H4.out.other _).cell 2 rfl 0 rfl, (H4.out.other _).cell 0 rfl 0 rfl, pw_cell_below (H4.out.other _).bel hx⟩ (fun hHeld => ?_)
      clear hK K
      refine norm_ (a' := ?_) ?_ ?_
      rotate_left
      · show Act.put _ (some 35) _ = _
        simp only [Act.put, List.setIfInBounds_toArray, List.set_cons_zero, List.set_cons_succ, i64_w, i32_w]
        rfl
      refine one_ (i := 10) (N := (some 36)) #[true, true, true, true, true, true, true, true, true, true, true, false, false] rfl rfl (by kernel_rfl) (by decide) (fun K hK => ?_)
      refine Kd.R_append_step hdr (w0 := w4) (w1.heap.size + 1) (by rfl) (.tmp 27) (.tmp 35) 22 56 (.slice none 0 0) 24 rfl Try.underlying22 info_hdr rfl (by decide) (by omega) v hs1 (A4, xs.length, c4) [.slice A4 xs.length c4] (fun _ => True) (fun _ => False) rfl rfl rfl (fun _ h => h.elim) (fun _ _ => trivial) R4.out (Below.refl _ _) (by have := H0.out.lt 2 rfl; omega) (by have := OW.out.len; rw [TK.out] at this; omega) ?_
      intro v5 w5 ho _ hg _
      obtain ⟨hs2, hh2⟩ : ∃ y, y = hs1 ++ [(A4, xs.length, c4)] := ⟨_, rfl⟩
      rw [← hh2] at ho
      have HH2 := Aside0.mk hh2
      clear hh2
      obtain ⟨A5, c5, e5⟩ := Kd.R_slice ho
      subst e5
      have H5 := Aside0.mk (H4.out.grown hg (fun k_ e_ => by have h1 := Kd.R_base R4.out k_ e_; have h2 := H0.out.lt 2 rfl; have h3 := H1.out.lt 1 rfl; have h4 := H1.out.lt 0 rfl; have h5 := H1.out.bel.size; have h6 := H1.out.dom; refine ⟨by omega, fun hs_ => by have := h6 _ hs_; omega, fun x hx => ?_⟩; simp only [List.mem_cons, List.not_mem_nil, or_false] at hx; (rcases hx with rfl | rfl | rfl) <;> (dsimp only; omega)))
      have W5 := Aside0.mk ((W4.out.snoc (A := A4) (c := c4) (by rw [X.out]; omega : xs.length ≤ 1000000) (B := wr.heap.size) (by have := H0.out.lt 2 rfl; omega) O4.out (fun i t g hi ht hp => OW.out.lt i t g hi ht hp)).move (fun g cs hb hgc => hg.block g (blk_lt hgc) (fun e_ => Kd.R_ne R4.out hgc (by decide) e_)))
      rw [← HH2.out, ← BT.out] at W5
      have O5 := Aside0.mk ho
      clear ho hg
      refine hK.out _ _ ⟨H5.out.cell 2 rfl 0 rfl, H5.out.cell 0 rfl 0 rfl, pw_cell_below H5.out.bel hx⟩ (fun hHeld => ?_)
      clear hK K
      refine norm_ (a' := ?_) ?_ ?_
      rotate_left
      · show Act.put _ (some 36) _ = _
        simp only [Act.put, List.setIfInBounds_toArray, List.set_cons_zero, List.set_cons_succ, i64_w, i32_w]
        rfl
      refine pure_ (i := 11) (N := (some 37)) (v := ?_) (a' := ?_) #[true, true, true, true, true, true, true, true, true, true, true, true, false] rfl rfl (by kernel_rfl) (fun _ _ _ h => h) (Or.inl ⟨by rfl, ?_⟩) ?_ ?_
      rotate_left
      · intro w'
        go_simp
        try with_reducible rfl
      rotate_left
      · simp only [Act.put, List.setIfInBounds_toArray, List.set_cons_zero, List.set_cons_succ, i64_w, i32_w]
        rfl
      refine last_ (i := 12) (N := none) #[true, true, true, true, true, true, true, true, true, true, true, true, true] rfl rfl (by kernel_rfl) (by decide) (fun K hK => ?_)
      have k3 := H5.out.cell 2 rfl 0 rfl
      have f3 := H5.out.free 2 rfl 0
      refine skip_ (w1 := ?_) (by rfl) rfl ?_ ?_
      rotate_left
      · go_simp
        rfl
      refine hK.out _ _ ?_
      clear hK K k3 f3
      refine done_ (by kernel_rfl) ?_
      go_wp2
      go_roundw
      case rel => exact ⟨k + 1, _, _, by omega, by go_num, ⟨H5.out.set 2 rfl 0 _⟩, ⟨R_set O5.out (g := w1.heap.size) (by omega) 0 _⟩, ⟨W5.out.move (fun g cs hb hgc => Below.heap_setCell _ _ _ _ (by show g ≠ w1.heap.size; omega))⟩⟩
      case measure => simp [intOf]; omega
    · obtain rfl : k = n := by omega
      have TK : bk.take k = bk := List.take_of_length_le (by have := HL.out; omega)
      rw [TK] at OW
      have hl1 : hs1.length = k := by have := OW.out.len; have := HL.out; omega
      obtain ⟨g1, c2, e1, hg1, -, -⟩ := Kd.R_form RO.out (by omega)
      subst e1
      rw [hl1] at RO q2 H0
      obtain ⟨rest1, hB1, -, -, hc2, -⟩ := row_of_R RO.out
      rw [hl1] at hc2
      have hbl : b.toNat < bk.length := by have := HL.out; omega
      have hbh : b.toNat < hs1.length := by omega
      obtain ⟨xs, hx⟩ : ∃ xs, bk[b.toNat]? = some xs := ⟨_, List.getElem?_eq_getElem hbl⟩
      have hrx : rowOf bk b = xs := by simp [rowOf, List.getD, hx]
      obtain ⟨⟨A2, m, d2⟩, ht⟩ : ∃ t, hs1[b.toNat]? = some t := ⟨_, List.getElem?_eq_getElem (by omega)⟩
      obtain ⟨xs', hx', e2, e3, e4, e5⟩ := OW.out.row b.toNat _ ht
      rw [hx] at hx'
      cases hx'
      obtain rfl : m = xs.length := e2
      have e3' : xs.length ≤ d2 := e3
      clear e3
      obtain ⟨g2, rest2, e6, hg2, hB2⟩ := e5 (by rw [← hrx]; omega)
      obtain rfl : A2 = some ⟨g2, 0, none⟩ := e6
      obtain ⟨m, hm⟩ : ∃ m, xs.length = m := ⟨_, rfl⟩
      obtain ⟨v, hv⟩ : ∃ v, rd xs c = v := ⟨_, rfl⟩
      have h4' : c < (m : Int) := by rw [← hm, ← hrx]; exact h4
      have hcm : c.toNat < xs.length := by omega
      have hm1 : m ≤ 1000000 := by rw [← hm]; exact e4
      rw [hm] at e3'
      have w1lt := H1.out.lt 1 rfl
      have q1 : w.heap.size ≠ g1 := by omega
      have q2 : w.heap.size + 1 ≠ g1 := by omega
      have q3 : w1.heap.size ≠ g1 := by omega
      have p1 : w.heap.size ≠ g2 := by omega
      have p2 : w.heap.size + 1 ≠ g2 := by omega
      have p3 : w1.heap.size ≠ g2 := by omega
      have p4 : g1 ≠ g2 := by
        intro e
        rw [← e, hB1] at hB2
        injection hB2 with hB2
        injection hB2 with _ hB2
        exact absurd hB2 (by decide)
      have r1 : w.heap.size ≤ g1 := by omega
      have r2 : w.heap.size ≤ g2 := by omega
      have s1 : ¬ S g1 := fun hs_ => by have := H1.out.dom _ hs_; omega
      have s2 : ¬ S g2 := fun hs_ => by have := H1.out.dom _ hs_; omega
      have H6 := Aside0.mk ((H0.out.take hB1 r1 s1 (fun x hx => by
        simp only [List.mem_cons, List.not_mem_nil, or_false] at hx
        rcases hx with rfl | rfl | rfl
        · exact q1
        · exact q2
        · exact q3)).take hB2 r2 s2 (fun x hx => by
        simp only [List.mem_append, List.mem_cons, List.not_mem_nil, or_false] at hx
        rcases hx with (rfl | rfl | rfl) | rfl
        · exact p1
        · exact p2
        · exact p3
        · exact p4))
      clear q1 q2 q3 p1 p2 p3 p4 r1 r2 s1 s2
      have r3 := H6.out.cell 3 rfl b.toNat (rowBlk_get hs1 rest1 ((none, 0, 0) : Hdr) b.toNat hbh)
      rw [show hs1.getD b.toNat (none, 0, 0) = (some ⟨g2, 0, none⟩, xs.length, d2) by rw [List.getD, ht]; rfl] at r3
      have r3' : wr.cell? ⟨g1, b.toNat, none⟩ = some (.slice (some ⟨g2, 0, none⟩) m d2) := by rw [← hm]; exact r3
      have v3 := H6.out.cell 4 rfl c.toNat (rowBlk_get xs rest2 (0 : Int) c.toNat hcm)
      rw [show xs.getD c.toNat 0 = v from hv] at v3
      have f3 := H6.out.free 4 rfl c.toNat
      have z3 := H6.out.cell 1 rfl 0 rfl
      have y3 := H6.out.free 1 rfl 0
      have n24 := H6.out.ne 2 4 rfl rfl (by decide)
      have n24' := n24.symm
      have n14 := H6.out.ne 1 4 rfl rfl (by decide)
      have n14' := n14.symm
      have OSET := Aside0.mk (fun nv => OW.out.set (ht) hx hB2 c.toNat hcm nv)
      have EV := Aside0.mk (show rpulseL bk b c cut = if v ≤ 1 then bk.set b.toNat (xs.set c.toNat (if cut then 1 else 2)) else bk by unfold rpulseL; rw [hrx, hv])
      have HT := Aside0.mk ht
      have HXX := Aside0.mk hx
      have HB1' := Aside0.mk hB1
      have HL1 := Aside0.mk hl1
      clear r3 hv hrx hm h4 hx ht hB1 hB2 e4 e5 TK hl1 hlt hk
      by_cases hv1 : v ≤ 1
      · cases cut
        all_goals
          go_wp2
          have H8 := fun nv => (H6.out.set 4 rfl c.toNat (.int .u8 nv)).set 1 rfl 0 (.slice (some ⟨g1, 0, none⟩) k c2)
          refine bodyPost_ret (results_ct rfl _ _ (w.heap.size + 1) 24 #[.slice (some ⟨g1, 0, none⟩) k c2] (0, 0) _ rfl ((H8 _).blk 1 rfl) Try.underlying24 rfl (by kernel_rfl)) rfl ?_
          rw [EV.out, if_pos hv1]
          refine ⟨some ⟨g1, 0, none⟩, c2, hs1, rfl, (H8 _).done' ?_⟩
          refine ((((OSET.out _).move (fun g cs hb hgc => Below.heap_setCell _ _ _ _ (by show g ≠ w.heap.size + 1; omega))).fu HL1.out hc2 ?_).mono fun q hq => .inr ⟨by have := H1.out.bel.size; omega, hq.2⟩)
          intro w2 h2
          have := C_of_rowBlk (h1 := fun _ => rfl) ((h2 g1 ⟨by omega, (H8 _).lt 3 rfl⟩).trans ((H8 _).blk 3 rfl)) (by have := HL1.out; omega)
          rw [HL1.out] at this
          exact this
      · have hv2 : 1 < v := by omega
        cases cut
        all_goals
          go_wp2
          have H8 := H6.out.set 1 rfl 0 (.slice (some ⟨g1, 0, none⟩) k c2)
          refine bodyPost_ret (results_ct rfl _ _ (w.heap.size + 1) 24 #[.slice (some ⟨g1, 0, none⟩) k c2] (0, 0) _ rfl (H8.blk 1 rfl) Try.underlying24 rfl (by kernel_rfl)) rfl ?_
          rw [EV.out, if_neg (by omega)]
          refine ⟨some ⟨g1, 0, none⟩, c2, hs1, rfl, H8.done' ?_⟩
          refine (((OW.out.move (fun g cs hb hgc => Below.heap_setCell _ _ _ _ (by show g ≠ w.heap.size + 1; omega))).fu HL1.out hc2 ?_).mono fun q hq => .inr ⟨by have := H1.out.bel.size; omega, hq.2⟩)
          intro w2 h2
          have := C_of_rowBlk (h1 := fun _ => rfl) ((h2 g1 ⟨by omega, H8.lt 3 rfl⟩).trans (H8.blk 3 rfl)) (by have := HL1.out; omega)
          rw [HL1.out] at this
          exact this
end Go.Proofs.Ytkfhekocbfednaa.Fu
namespace Go.Proofs.Ytkfhekocbfednaa.Fu
set_option linter.unusedVariables false
set_option linter.unusedSimpArgs false
open Go.RowKit Go.Proofs.Ytkfhekocbfednaa Go.Proofs.YtkfhekocbfednaaW.PrintWords Go.Proofs.YtkfhekocbfednaaW.PrintLast Go.Proofs.YtkfhekocbfednaaW.PrintMore
open Go.Proofs.Ytkfhekocbfednaa.PDeviceMatches
theorem rexists_f (bk : List (List Int)) (b c : Int) : bootchainref07_Exists.f bk b c = some (existsB bk b c) := by
  unfold bootchainref07_Exists.f existsB
  by_cases h1 : b < 0
  · rw [if_pos h1]; simp; omega
  · rw [if_neg h1]
    by_cases h2 : b ≥ (bk.length : Int)
    · rw [if_pos h2]; simp; omega
    · rw [if_neg h2]
      by_cases h3 : c ≥ 0
      · rw [if_pos h3, if_pos (by omega), if_pos (by omega)]
        have e1 : decide (0 ≤ b) = true := decide_eq_true (by omega)
        have e2 : decide (b < (bk.length : Int)) = true := decide_eq_true (by omega)
        have e3 : decide (0 ≤ c) = true := decide_eq_true h3
        rw [e1, e2, e3]; rfl
      · rw [if_neg h3]; simp; omega
theorem rexists_any {A : Option Addr} {n d : Nat} {hs : List Hdr} {bk : List (List Int)} {w : World} (b c : Int) (h : Fu w A n d hs bk) :
    Calls Try.prog 49 #[.agg #[.slice A n d], .int .i64 b, .int .i64 c] w fun e w' => e = .returned (.bool (existsB bk b c)) ∧ Below w.heap.size w w' := by
  obtain rfl := h.len
  exact bootchainref07_Exists.calls A d bk b c _ w h.nested h.cap (rexists_f bk b c)
theorem rread_f (bk : List (List Int)) (b c : Int) (noise : Bool) : bootchainref07_Read.f bk b c noise = some (frV bk b c noise, frE bk b c) := by
  unfold bootchainref07_Read.f
  rw [rexists_f, Option.bind_some]
  cases he : existsB bk b c with
  | false => simp [frV, frE, he]
  | true =>
    obtain ⟨h1, h2, h3, h4⟩ := exists_facts he
    rw [if_pos rfl, if_pos h1, if_pos h2, if_pos h3, if_pos (show c < ((rd_L2 bk b).length : Int) from h4)]
    show (if rd (rowOf bk b) c = 2 then _ else _) = _
    simp only [frV, frE, he, if_true, readV]
    by_cases k2 : rd (rowOf bk b) c = 2
    · rw [if_pos k2, if_pos (.inl k2)]
    · rw [if_neg k2]
      show (if rd (rowOf bk b) c = 1 then _ else _) = _
      by_cases k1 : rd (rowOf bk b) c = 1
      · rw [if_pos k1]
        cases noise
        · simp [k1]
        · simp [k1]
      · rw [if_neg k1, if_neg (by omega)]
theorem rread_any {A : Option Addr} {n d : Nat} {hs : List Hdr} {bk : List (List Int)} {w : World} (b c : Int) (noise : Bool) (h : Fu w A n d hs bk) :
    Calls Try.prog 23 #[.agg #[.slice A n d], .int .i64 b, .int .i64 c, .bool noise] w fun e w' => e = .returned (.tuple #[.int .i64 (frV bk b c noise), .int .i64 (frE bk b c)]) ∧ Below w.heap.size w w' := by
  obtain rfl := h.len
  exact bootchainref07_Read.calls A d bk b c noise _ _ w h.nested h.cap (rread_f bk b c noise)
set_option maxRecDepth 100000 in
set_option maxHeartbeats 2000000 in
theorem rpulse_no {A : Option Addr} {n d : Nat} {hs : List Hdr} {bk : List (List Int)} {w : World} {S : Nat → Prop} (b c : Int) (cut : Bool) (hd : ∀ k, S k → k < w.heap.size) (hf : Sure S w (fun w => Fu w A n d hs bk))
    (he : existsB bk b c = false) :
    Calls Try.prog 24 #[.agg #[.slice A n d], .int .i64 b, .int .i64 c, .bool cut] w (FuseRes S bk n 1 w) := by
  have HF := Aside0.mk hf.here
  have HE := Aside0.mk he
  have H0 := Aside0.mk ((St.enter1 hd hf).alloc2 #[.slice A n d] 24 #[.slice none 0 0] 24)
  clear he hf hd
  go_enter Try.func24, Try.ntmps24
  go_wp2_with (first | (go_at_call 49; refine (rexists_any b c (HF.out.below H0.out.bel)).mono ?_; rw [HE.out]; rintro e w1 ⟨rfl, hb⟩; have H1 := Aside0.mk (H0.out.step hb); have k0 := H1.out.cell 0 rfl 0 rfl; have k1 := H1.out.cell 1 rfl 0 rfl; have f1 := H1.out.free 1 rfl 0; clear hb))
  have H2 := H1.out.set 1 rfl 0 (.slice A n d)
  refine bodyPost_ret (results_ct rfl _ _ (w.heap.size + 1) 24 #[.slice A n d] (0, 0) _ rfl (H2.blk 1 rfl) Try.underlying24 rfl (by kernel_rfl)) rfl ?_
  exact ⟨A, d, hs, rfl, H2.done' (H2.sureNew 0 rfl)⟩
def OkBk (bk : List (List Int)) : Prop := ∀ xs ∈ bk, xs.length ≤ 48 ∧ ∀ c ∈ xs, 0 ≤ c ∧ c ≤ 3
theorem OkBk.cell {bk : List (List Int)} (h : OkBk bk) {b c : Int} (he : existsB bk b c = true) : 0 ≤ rd (rowOf bk b) c ∧ rd (rowOf bk b) c ≤ 3 := by
  obtain ⟨h1, h2, h3, h4⟩ := exists_facts he
  have hb : b.toNat < bk.length := by omega
  have hr : rowOf bk b = bk[b.toNat] := by simp [rowOf, List.getD, hb]
  have hc : c.toNat < (rowOf bk b).length := by omega
  have := (h bk[b.toNat] (List.getElem_mem hb)).2 ((rowOf bk b)[c.toNat]) (by rw [← hr]; exact List.getElem_mem hc)
  simpa [rd, List.getD, hc] using this
theorem OkBk.row {bk : List (List Int)} (h : OkBk bk) (b : Int) : (rowOf bk b).length ≤ 48 := by
  unfold rowOf
  rw [List.getD_eq_getElem?_getD]
  cases e : bk[b.toNat]? with
  | none => simp
  | some xs => exact (h xs (List.mem_of_getElem? e)).1
theorem nextC_range {c : Int} {cut : Bool} (h0 : 0 ≤ c) (h3 : c ≤ 3) : 0 ≤ nextC c cut ∧ nextC c cut ≤ 3 := by
  unfold nextC
  split
  · exact ⟨h0, h3⟩
  · split <;> omega
theorem OkBk.fpL {bk : List (List Int)} (h : OkBk bk) (b c : Int) (cut : Bool) : OkBk (fpL bk b c cut) := by
  unfold Fu.fpL
  cases he : existsB bk b c with
  | false => exact h
  | true =>
    have hc := h.cell he
    obtain ⟨h1, h2, h3, h4⟩ := exists_facts he
    show OkBk (pulseL bk b c cut)
    intro xs hx
    unfold pulseL at hx
    rcases List.mem_or_eq_of_mem_set hx with hx | rfl
    · exact h xs hx
    · have hb : b.toNat < bk.length := by omega
      have hr : rowOf bk b = bk[b.toNat] := by simp [rowOf, List.getD, hb]
      refine ⟨by rw [List.length_set]; exact h.row b, fun q hq => ?_⟩
      rcases List.mem_or_eq_of_mem_set hq with hq | rfl
      · exact (h _ (List.getElem_mem hb)).2 q (by rw [← hr]; exact hq)
      · exact nextC_range hc.1 hc.2
theorem rpulse_any {A : Option Addr} {n d : Nat} {hs : List Hdr} {bk : List (List Int)} {w : World} {S : Nat → Prop} (b c : Int) (cut : Bool) (hd : ∀ k, S k → k < w.heap.size) (hf : Sure S w (fun w => Fu w A n d hs bk))
    (hn : n ≤ 1000) (hok : OkBk bk) :
    Calls Try.prog 24 #[.agg #[.slice A n d], .int .i64 b, .int .i64 c, .bool cut] w (FuseRes S (fpL bk b c cut) n (frE bk b c) w) := by
  unfold fpL frE
  cases he : existsB bk b c with
  | true =>
    have hc := hok.cell he
    have h := hf.here
    rw [if_pos rfl, if_pos rfl, ← rpulse_eq cut he hc.1 hc.2]
    exact rpulse_yes b c cut hd hf he hn (fun xs hx => by have := (hok xs hx).1; omega) (fun W hb => by have := rexists_any b c (h.below hb); rwa [he] at this)
  | false => exact rpulse_no b c cut hd hf he
theorem pulse_ok {A : Option Addr} {n d : Nat} {hs : List Hdr} {bk : List (List Int)} {w : World} {S : Nat → Prop} (b c : Int) (cut : Bool) (hd : ∀ k, S k → k < w.heap.size) (hf : Sure S w (fun w => Fu w A n d hs bk))
    (hn : n ≤ 1000) (hok : OkBk bk) :
    Calls Try.prog 42 #[.agg #[.slice A n d], .int .i64 b, .int .i64 c, .bool cut] w (FuseRes S (fpL bk b c cut) n (frE bk b c) w) :=
  pulse_any b c cut hd hf hn (by have := hok.row b; omega)
end Go.Proofs.Ytkfhekocbfednaa.Fu
end
