/- Part of the proof of deviceTorn_holds: what later parts use. -/
import Derived.Test.YtkfhekocbfednaaZt0
import Derived.Test.YtkfhekocbfednaaZt1
import Derived.Test.YtkfhekocbfednaaZt2
import Derived.Test.YtkfhekocbfednaaZt3
import Derived.Test.YtkfhekocbfednaaZt4
import Derived.Test.YtkfhekocbfednaaZt5
import Derived.Test.YtkfhekocbfednaaZt6
import Derived.Test.YtkfhekocbfednaaZt7
import Derived.Test.YtkfhekocbfednaaZt8
import Derived.Test.YtkfhekocbfednaaZt9
import Derived.Test.YtkfhekocbfednaaZt10
import Derived.Test.YtkfhekocbfednaaZt11
import Derived.Test.YtkfhekocbfednaaZt12
import Derived.Test.YtkfhekocbfednaaZt13
import Derived.Test.YtkfhekocbfednaaZt14
import Derived.Test.YtkfhekocbfednaaZt15
import Derived.Laws.StructEq
section
namespace Go.Proofs.Ytkfhekocbfednaa.Fu
set_option linter.unusedVariables false
set_option linter.unusedSimpArgs false
open Go.RowKit Go.Proofs.Ytkfhekocbfednaa Go.Proofs.YtkfhekocbfednaaW.PrintWords Go.Proofs.YtkfhekocbfednaaW.PrintLast Go.Proofs.YtkfhekocbfednaaW.PrintMore
structure Own2 (w : World) (base : Nat) (hs : List Hdr) (bk : List (List Int)) : Prop where
  len : hs.length = bk.length
  row : ∀ (i : Nat) (t : Hdr), hs[i]? = some t → ∃ xs, bk[i]? = some xs ∧ t.2.1 = xs.length ∧ xs.length ≤ t.2.2 ∧ xs.length ≤ 1000000 ∧
    (0 < xs.length → ∃ g rest, t.1 = some ⟨g, 0, none⟩ ∧ base ≤ g ∧ w.heap[g]? = some (.cells (rowBlk (Value.int .u8) xs rest) 5 (0, 0)))
  apart : ∀ (i j : Nat) (s t : Hdr) (g : Nat), hs[i]? = some s → hs[j]? = some t → s.1 = some ⟨g, 0, none⟩ → t.1 = some ⟨g, 0, none⟩ → 0 < s.2.1 → 0 < t.2.1 → i = j
theorem Own2.nil (w : World) (base : Nat) : Own2 w base [] [] := ⟨rfl, fun i t h => by simp at h, fun i j s t g h => by simp at h⟩
theorem Own2.move {w w1 : World} {base : Nat} {hs : List Hdr} {bk : List (List Int)} (h : Own2 w base hs bk) (hm : ∀ g cs, base ≤ g → w.heap[g]? = some (.cells cs 5 (0, 0)) → w1.heap[g]? = w.heap[g]?) : Own2 w1 base hs bk :=
  ⟨h.len, fun i t hi => by
    obtain ⟨xs, h1, h2, h3, h4, h5⟩ := h.row i t hi
    refine ⟨xs, h1, h2, h3, h4, fun hp => ?_⟩
    obtain ⟨g, rest, e, hb, hg⟩ := h5 hp
    exact ⟨g, rest, e, hb, (hm g _ hb hg).trans hg⟩, h.apart⟩
theorem Own2.below {w w1 : World} {base : Nat} {hs : List Hdr} {bk : List (List Int)} (h : Own2 w base hs bk) (hb : Below w.heap.size w w1) : Own2 w1 base hs bk := h.move fun g _ _ hg => hb.block g (blk_lt hg)
theorem Own2.snoc {w : World} {base B : Nat} {hs : List Hdr} {bk : List (List Int)} (h : Own2 w base hs bk) {xs : List Int} {A : Option Addr} {c : Nat} {ok : Nat → Prop} (hx : xs.length ≤ 1000000) (hB : base ≤ B)
    (hR : (Kd.int .u8).R 5 w B ok (.slice A xs.length c) xs) (hnew : ∀ (i : Nat) (t : Hdr) (g : Nat), hs[i]? = some t → t.1 = some ⟨g, 0, none⟩ → 0 < t.2.1 → g < B) : Own2 w base (hs ++ [(A, xs.length, c)]) (bk ++ [xs]) := by
  obtain ⟨_, hc, _⟩ := Kd.R_reads' hR
  have hform : 0 < xs.length → ∃ g rest, A = some ⟨g, 0, none⟩ ∧ B ≤ g ∧ w.heap[g]? = some (.cells (rowBlk (Value.int .u8) xs rest) 5 (0, 0)) := by
    intro hp
    obtain ⟨g, cap, e, _, _, _⟩ := Kd.R_form hR hp
    injection e with e1 e2 e3
    subst e1
    obtain ⟨rest, h1, h2, _⟩ := row_of_R hR
    exact ⟨g, rest, rfl, h2, h1⟩
  refine ⟨by simp [h.len], fun i t hi => ?_, fun i j s t g hi hj hs' ht hp hq => ?_⟩
  · rcases Nat.lt_or_ge i hs.length with hl | hl
    · rw [List.getElem?_append_left hl] at hi
      obtain ⟨ys, h1, h2⟩ := h.row i t hi
      exact ⟨ys, by rw [List.getElem?_append_left (by rw [← h.len]; exact hl)]; exact h1, h2⟩
    · have hl2 : i = hs.length := by
        have := (List.getElem?_eq_some_iff.1 hi).1
        simp at this
        omega
      subst hl2
      have : t = (A, xs.length, c) := by simpa using hi.symm
      subst this
      refine ⟨xs, by rw [h.len]; simp, rfl, hc, hx, fun hp => ?_⟩
      obtain ⟨g, rest, e, h1, h2⟩ := hform hp
      exact ⟨g, rest, e, by omega, h2⟩
  · have key : ∀ (i : Nat) (t : Hdr), (hs ++ [(A, xs.length, c)])[i]? = some t → t.1 = some ⟨g, 0, none⟩ → 0 < t.2.1 → (i < hs.length ∧ hs[i]? = some t ∧ g < B) ∨ (i = hs.length ∧ B ≤ g) := by
      intro i t hi ht hp
      rcases Nat.lt_or_ge i hs.length with hl | hl
      · rw [List.getElem?_append_left hl] at hi
        exact .inl ⟨hl, hi, hnew i t g hi ht hp⟩
      · have hl2 : i = hs.length := by
          have := (List.getElem?_eq_some_iff.1 hi).1
          simp at this
          omega
        subst hl2
        have : t = (A, xs.length, c) := by simpa using hi.symm
        subst this
        obtain ⟨g', rest, e, h1, h2⟩ := hform hp
        rw [show A = some ⟨g, 0, none⟩ from ht] at e
        injection e with e
        injection e with e
        subst e
        exact .inr ⟨rfl, h1⟩
    rcases key i s hi hs' hp with ⟨h1, h2, h3⟩ | ⟨h1, h2⟩ <;> rcases key j t hj ht hq with ⟨k1, k2, k3⟩ | ⟨k1, k2⟩
    · exact h.apart i j s t g h2 k2 hs' ht hp hq
    · omega
    · omega
    · omega
theorem Own2.set {w : World} {base : Nat} {hs : List Hdr} {bk : List (List Int)} (h : Own2 w base hs bk) {i g m d : Nat} {xs : List Int} {rest : List Value} (hi : hs[i]? = some (some ⟨g, 0, none⟩, m, d)) (hx : bk[i]? = some xs)
    (hg : w.heap[g]? = some (.cells (rowBlk (Value.int .u8) xs rest) 5 (0, 0))) (j : Nat) (hj : j < xs.length) (nv : Int) : Own2 (w.setCell ⟨g, j, none⟩ (.int .u8 nv)) base hs (bk.set i (xs.set j nv)) := by
  refine ⟨by rw [List.length_set]; exact h.len, fun q t hq => ?_, h.apart⟩
  obtain ⟨ys, h1, h2, h3, h4, h5⟩ := h.row q t hq
  by_cases e : i = q
  · subst e
    rw [hi] at hq
    cases hq
    rw [hx] at h1
    cases h1
    refine ⟨xs.set j nv, by rw [List.getElem?_set, if_pos rfl, if_pos (List.getElem?_eq_some_iff.1 hx).1], by rw [List.length_set]; exact h2, by rw [List.length_set]; exact h3, by rw [List.length_set]; exact h4, fun hp => ?_⟩
    obtain ⟨g', rest', e1, hb, _⟩ := h5 (by rw [List.length_set] at hp; exact hp)
    cases e1
    exact ⟨g, rest, rfl, hb, by rw [← rowBlk_set xs rest j nv hj]; exact blk_set hg j _⟩
  · refine ⟨ys, by rw [List.getElem?_set, if_neg e]; exact h1, h2, h3, h4, fun hp => ?_⟩
    obtain ⟨g', rest', e1, hb, hg'⟩ := h5 hp
    refine ⟨g', rest', e1, hb, blk_far hg' ?_ _⟩
    rintro (rfl : g' = g)
    have hm : m = xs.length := by
      obtain ⟨zs, k1, k2, _⟩ := h.row i _ hi
      rw [hx] at k1
      cases k1
      exact k2
    exact e (h.apart i q _ t g' hi hq rfl e1 (by show 0 < m; omega) (by omega))
def rpulseL (bk : List (List Int)) (b c : Int) (cut : Bool) : List (List Int) :=
  if rd (rowOf bk b) c ≤ 1 then bk.set b.toNat ((rowOf bk b).set c.toNat (if cut then 1 else 2)) else bk
theorem rpulse_eq {bk : List (List Int)} {b c : Int} (cut : Bool) (he : existsB bk b c = true) (h0 : 0 ≤ rd (rowOf bk b) c) (h3 : rd (rowOf bk b) c ≤ 3) : rpulseL bk b c cut = pulseL bk b c cut := by
  obtain ⟨h1, h2, h4, h5⟩ := exists_facts he
  unfold rpulseL pulseL
  by_cases h : rd (rowOf bk b) c ≤ 1
  · rw [if_pos h, show nextC (rd (rowOf bk b) c) cut = if cut then 1 else 2 from by unfold nextC; rw [if_neg (by omega)]]
  · rw [if_neg h, show nextC (rd (rowOf bk b) c) cut = rd (rowOf bk b) c from by unfold nextC; rw [if_pos (by omega)]]
    have e1 : (rowOf bk b).set c.toNat (rd (rowOf bk b) c) = rowOf bk b := by
      have hl : c.toNat < (rowOf bk b).length := by omega
      apply List.ext_getElem?
      intro i
      rw [List.getElem?_set]
      by_cases hi : c.toNat = i
      · subst hi
        rw [if_pos rfl, if_pos hl]
        simp [rd, List.getD, hl]
      · rw [if_neg hi]
    rw [e1]
    have hl : b.toNat < bk.length := by omega
    apply List.ext_getElem?
    intro i
    rw [List.getElem?_set]
    by_cases hi : b.toNat = i
    · subst hi
      rw [if_pos rfl, if_pos hl]
      simp [rowOf, List.getD, hl]
    · rw [if_neg hi]
end Go.Proofs.Ytkfhekocbfednaa.Fu
namespace Go.Proofs.Ytkfhekocbfednaa.Fu
set_option linter.unusedVariables false
set_option linter.unusedSimpArgs false
open Go.RowKit Go.Proofs.Ytkfhekocbfednaa Go.Proofs.YtkfhekocbfednaaW.PrintWords Go.Proofs.YtkfhekocbfednaaW.PrintLast Go.Proofs.YtkfhekocbfednaaW.PrintMore
open Go.Proofs.Ytkfhekocbfednaa.PDeviceMatches
def OkBk (bk : List (List Int)) : Prop := ∀ xs ∈ bk, xs.length ≤ 48 ∧ ∀ c ∈ xs, 0 ≤ c ∧ c ≤ 3
theorem OkBk.cell {bk : List (List Int)} (h : OkBk bk) {b c : Int} (he : existsB bk b c = true) : 0 ≤ rd (rowOf bk b) c ∧ rd (rowOf bk b) c ≤ 3 := by
  obtain ⟨h1, h2, h3, h4⟩ := exists_facts he
  have hb : b.toNat < bk.length := by omega
  have hr : rowOf bk b = bk[b.toNat] := by simp [rowOf, List.getD, hb]
  have hc : c.toNat < (rowOf bk b).length := by omega
  have := (h bk[b.toNat] (List.getElem_mem hb)).2 ((rowOf bk b)[c.toNat]) (by rw [← hr]; exact List.getElem_mem hc)
  simpa [rd, List.getD, hc] using this
theorem OkBk.row {bk : List (List Int)} (h : OkBk bk) (b : Int) : (rowOf bk b).length ≤ 48 := by
  unfold rowOf
  rw [List.getD_eq_getElem?_getD]
  cases e : bk[b.toNat]? with
  | none => simp
  | some xs => exact (h xs (List.mem_of_getElem? e)).1
theorem nextC_range {c : Int} {cut : Bool} (h0 : 0 ≤ c) (h3 : c ≤ 3) : 0 ≤ nextC c cut ∧ nextC c cut ≤ 3 := by
  unfold nextC
  split
  · exact ⟨h0, h3⟩
  · split <;> omega
theorem OkBk.fpL {bk : List (List Int)} (h : OkBk bk) (b c : Int) (cut : Bool) : OkBk (fpL bk b c cut) := by
  unfold Fu.fpL
  cases he : existsB bk b c with
  | false => exact h
  | true =>
    have hc := h.cell he
    obtain ⟨h1, h2, h3, h4⟩ := exists_facts he
    show OkBk (pulseL bk b c cut)
    intro xs hx
    unfold pulseL at hx
    rcases List.mem_or_eq_of_mem_set hx with hx | rfl
    · exact h xs hx
    · have hb : b.toNat < bk.length := by omega
      have hr : rowOf bk b = bk[b.toNat] := by simp [rowOf, List.getD, hb]
      refine ⟨by rw [List.length_set]; exact h.row b, fun q hq => ?_⟩
      rcases List.mem_or_eq_of_mem_set hq with hq | rfl
      · exact (h _ (List.getElem_mem hb)).2 q (by rw [← hr]; exact hq)
      · exact nextC_range hc.1 hc.2
theorem pulse_ok {A : Option Addr} {n d : Nat} {hs : List Hdr} {bk : List (List Int)} {w : World} {S : Nat → Prop} (b c : Int) (cut : Bool) (hd : ∀ k, S k → k < w.heap.size) (hf : Sure S w (fun w => Fu w A n d hs bk))
    (hn : n ≤ 1000) (hok : OkBk bk) :
    Calls Try.prog 42 #[.agg #[.slice A n d], .int .i64 b, .int .i64 c, .bool cut] w (FuseRes S (fpL bk b c cut) n (frE bk b c) w) :=
  pulse_any b c cut hd hf hn (by have := hok.row b; omega)
end Go.Proofs.Ytkfhekocbfednaa.Fu
end
