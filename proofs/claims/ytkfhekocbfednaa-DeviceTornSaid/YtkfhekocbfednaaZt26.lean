/- Part of the proof of deviceTorn_holds: what later parts use. -/
import Derived.Test.YtkfhekocbfednaaZt0
import Derived.Test.YtkfhekocbfednaaZt1
import Derived.Test.YtkfhekocbfednaaZt2
import Derived.Test.YtkfhekocbfednaaZt3
import Derived.Test.YtkfhekocbfednaaZt4
import Derived.Test.YtkfhekocbfednaaZt5
import Derived.Test.YtkfhekocbfednaaZt6
import Derived.Test.YtkfhekocbfednaaZt7
import Derived.Test.YtkfhekocbfednaaZt8
import Derived.Test.YtkfhekocbfednaaZt9
import Derived.Test.YtkfhekocbfednaaZt10
import Derived.Test.YtkfhekocbfednaaZt11
import Derived.Test.YtkfhekocbfednaaZt12
import Derived.Test.YtkfhekocbfednaaZt13
import Derived.Test.YtkfhekocbfednaaZt14
import Derived.Test.YtkfhekocbfednaaZt15
import Derived.Test.YtkfhekocbfednaaZt16
import Derived.Test.YtkfhekocbfednaaZt17
import Derived.Test.YtkfhekocbfednaaZt18
import Derived.Test.YtkfhekocbfednaaZt19
import Derived.Test.YtkfhekocbfednaaZt20
import Derived.Test.YtkfhekocbfednaaZt21
import Derived.Test.YtkfhekocbfednaaZt22
import Derived.Test.YtkfhekocbfednaaZt23
import Derived.Test.YtkfhekocbfednaaZt24
import Derived.Test.YtkfhekocbfednaaZt25
import Derived.ChangeKeysEq
import Derived.Deep.MidRow
import Derived.Laws.StructEq
section
namespace Go.Proofs.Ytkfhekocbfednaa.Dv
set_option linter.unusedVariables false
set_option linter.unusedSimpArgs false
open Go.RowKit Go.Proofs.Ytkfhekocbfednaa Go.Proofs.YtkfhekocbfednaaW.PrintWords
open Go.Proofs.Ytkfhekocbfednaa.Fu Go.Proofs.Ytkfhekocbfednaa.Fl Go.Proofs.Ytkfhekocbfednaa.PDeviceMatches
theorem wrap_nat (i : Nat) (h : i < 9223372036854775807) : wrap64 ((i : Int) + 1) = ((i + 1 : Nat) : Int) := by
  unfold wrap64
  omega
theorem same_of {α : Type} (z : α) {l m : List α} (h : l.length = m.length) (k : ∀ j, j < l.length → l.getD j z = m.getD j z) : l = m := by
  apply List.ext_getElem h
  intro j h1 h2
  have := k j h1
  simpa [List.getD, h1, h2] using this
theorem equal_l0 {l m : List Int} (h : l.length = m.length) (hx : l.length ≤ 9223372036854775807) : ∀ (q i : Nat), i + q = l.length → (∀ j, j < i → l.getD j 0 = m.getD j 0) →
    slices_Equal_uint8_uint8.l0 (q + 1) l m (l.length : Int) (i : Int) = some (decide (l = m)) := by
  intro q
  induction q with
  | zero =>
    intro i hi hp
    have hi' : i = l.length := by omega
    subst hi'
    rw [slices_Equal_uint8_uint8.l0, if_neg (by omega), decide_eq_true (same_of 0 h hp)]
  | succ q ih =>
    intro i hi hp
    rw [slices_Equal_uint8_uint8.l0, if_pos (by omega), if_pos (by omega), if_pos (by omega), if_pos (by omega)]
    by_cases he : rd l i = rd m i
    · rw [if_pos he, wrap_nat i (by omega)]
      refine ih (i + 1) (by omega) fun j hj => ?_
      rcases Nat.lt_or_ge j i with h1 | h1
      · exact hp j h1
      · have : j = i := by omega
        subst this
        simpa [rd] using he
    · rw [if_neg he, decide_eq_false]
      intro e
      subst e
      exact he rfl
theorem equal_f (l m : List Int) (hx : l.length ≤ 9223372036854775807) : ∃ k, slices_Equal_uint8_uint8.f k l m = some (decide (l = m)) := by
  by_cases h : l.length = m.length
  · refine ⟨l.length + 1, ?_⟩
    unfold slices_Equal_uint8_uint8.f
    rw [if_pos (by omega)]
    exact equal_l0 h hx l.length 0 (by omega) fun j hj => absurd hj (by omega)
  · refine ⟨0, ?_⟩
    unfold slices_Equal_uint8_uint8.f
    rw [if_neg (by omega), decide_eq_false]
    intro e; subst e; exact h rfl
end Go.Proofs.Ytkfhekocbfednaa.Dv
namespace Go.Proofs.Ytkfhekocbfednaa.Dv
set_option linter.unusedVariables false
set_option linter.unusedSimpArgs false
open Go.RowKit Go.Proofs.Ytkfhekocbfednaa Go.Proofs.YtkfhekocbfednaaW.PrintWords Go.Proofs.YtkfhekocbfednaaW.PrintLast Go.Proofs.YtkfhekocbfednaaW.PrintMore
open Go.Proofs.Ytkfhekocbfednaa.Fu Go.Proofs.Ytkfhekocbfednaa.Fl Go.Proofs.Ytkfhekocbfednaa.PDeviceMatches
def Ok3 (bk : List (List Int)) : Prop := ∀ xs ∈ bk, xs.length % 3 = 0 ∧ xs.length ≤ 48 ∧ ∀ c ∈ xs, c ≤ 3
theorem mem_getD {α : Type} {l : List α} {z x : α} (h : x ∈ l) : ∃ j, j < l.length ∧ l.getD j z = x := by
  obtain ⟨j, hj, e⟩ := List.getElem_of_mem h
  exact ⟨j, hj, by simp [List.getD, hj, e]⟩
theorem Fu.rows {w : World} {A : Option Addr} {n c : Nat} {hs : List Hdr} {bk : List (List Int)} (h : Fu w A n c hs bk) : ∀ xs ∈ bk, xs.length ≤ 9223372036854775807 := by
  intro xs hxs
  obtain ⟨j, hj, e⟩ := mem_getD (z := []) hxs
  obtain ⟨ad, B, d, _, _, _, _, hC⟩ := h.at (j : Int) (by omega) (by have := h.len; omega)
  have := hC.2.1
  rw [← e]
  simpa [rowOf] using this
theorem valid_at {A : Option Addr} {n d : Nat} {hs : List Hdr} {bk : List (List Int)} {w : World} {k : Nat} {b : Bool} (h : Fu w A n d hs bk) (hk : bootchainref07_Valid.f k bk = some b) :
    Calls Try.prog 21 #[.agg #[.slice A n d]] w fun e w' => e = .returned (.bool b) ∧ Below w.heap.size w w' := by
  obtain rfl := h.len
  exact bootchainref07_Valid.calls k A d bk _ _ h.nested h.cap hk
def smallB (b : Bool) (m : Nat) (fl : List ByteArray) : Bool := b && (decide (m ≤ 200) && fl.all fun s => decide (s.size ≤ 300))
set_option maxRecDepth 100000 in
set_option maxHeartbeats 16000000 in
theorem small_det {A : Option Addr} {n d : Nat} {hs : List Hdr} {bk : List (List Int)} {B : Option Addr} {m c : Nat} {fl : List ByteArray} {w : World} {r : Nat → Int} {k : Nat} {b : Bool} (hF : Fu w A n d hs bk) (hL : Fl w B m c fl) (hk : bootchainref07_Valid.f k bk = some b) (hb : b = true → Ok3 bk ∧ bk.length ≤ 4) :
    Calls Try.prog 9 #[.agg (hwC (.slice A n d) (.slice B m c) r)] w fun e w' => e = .returned (.bool (smallB b m fl)) ∧ Below w.heap.size w w' := by
  have hm0 := hL.C.2.1
  have hml := hL.C.1
  have HF := Aside0.mk (fun W hb => hF.below hb : ∀ W, Below w.heap.size w W → Fu W A n d hs bk)
  have HL := Aside0.mk (fun W hb => Kd.C_below hL.C hb : ∀ W, Below w.heap.size w W → Kd.C Kd.string W B m fl)
  have HK := Aside0.mk hk
  have HN := Aside0.mk hF.len
  have H0 := Aside0.mk ((St.enter0 w).alloc (hwC (.slice A n d) (.slice B m c) r) 31)
  have h0 : (w.alloc (.cells (hwC (.slice A n d) (.slice B m c) r) 31)).cell? ⟨w.heap.size, 0, none⟩ = some (.slice A n d) := H0.out.cell 0 rfl 0 rfl
  clear hF hL hk
  cases b with
  | false =>
    clear hb
    go_enter Try.func9, Try.ntmps9
    go_wp2_with (first | (go_at_call 21; refine (valid_at (HF.out _ H0.out.bel) HK.out).mono ?_; rintro e w1 ⟨rfl, hb⟩; have H1 := Aside0.mk (H0.out.step hb); clear hb))
    go_ret
    exact ⟨rfl, H1.out.bel⟩
  | true =>
    have HB := Aside0.mk (hb rfl)
    have hn4 : (n : Int) ≤ 4 := by have := (hb rfl).2; have := HN.out; omega
    have HML := Aside0.mk hml
    clear hml
    clear hb
    go_enter Try.func9, Try.ntmps9
    by_cases h200 : 200 < (m : Int)
    · go_wp2_with (first | (go_at_call 21; refine (valid_at (HF.out _ H0.out.bel) HK.out).mono ?_; rintro e w1 ⟨rfl, hb⟩; have H1 := Aside0.mk (H0.out.step hb); clear hb; have g0 : w1.cell? ⟨w.heap.size, 0, none⟩ = some (.slice A n d) := H1.out.cell 0 rfl 0 rfl; have g1 : w1.cell? ⟨w.heap.size, 1, none⟩ = some (.slice B m c) := H1.out.cell 0 rfl 1 rfl))
      go_ret
      exact ⟨by rw [show smallB true m fl = false by simp only [smallB, Bool.true_and]; rw [decide_eq_false (by omega), Bool.false_and]]; rfl, H1.out.bel⟩
    · have h200' : (m : Int) ≤ 200 := by omega
      clear h200
      go_wp2_with (first | (go_at_call 21; refine (valid_at (HF.out _ H0.out.bel) HK.out).mono ?_; rintro e w1 ⟨rfl, hb⟩; have H1 := Aside0.mk (H0.out.step hb); clear hb; have g0 : w1.cell? ⟨w.heap.size, 0, none⟩ = some (.slice A n d) := H1.out.cell 0 rfl 0 rfl; have g1 : w1.cell? ⟨w.heap.size, 1, none⟩ = some (.slice B m c) := H1.out.cell 0 rfl 1 rfl))
      go_loopw [4] (fun i wr => ∃ j : Nat, j ≤ n ∧ i = .int .i64 j ∧ Aside0 (St w (fun _ => False) [] [(w.heap.size, hwC (.slice A n d) (.slice B m c) r, 31)] wr)) (fun i _ => n - (intOf i).toNat)
      case atStart => exact ⟨0, Nat.zero_le _, rfl, H1⟩
      case round =>
        clear g0 g1
        obtain ⟨j, hj, rfl, H2⟩ := hrel
        have g0 : wr.cell? ⟨w.heap.size, 0, none⟩ = some (.slice A n d) := H2.out.cell 0 rfl 0 rfl
        have g1 : wr.cell? ⟨w.heap.size, 1, none⟩ = some (.slice B m c) := H2.out.cell 0 rfl 1 rfl
        by_cases hlt : j < n
        · obtain ⟨ad, B', d', ea, _, hx, hle, hC⟩ := (HF.out _ H2.out.bel).at (j : Int) (by omega) (by omega)
          subst ea
          rw [Int.toNat_natCast] at hx
          obtain ⟨q, hq⟩ : ∃ q, q = (rowOf bk j).length := ⟨_, rfl⟩
          have hq48 : (q : Int) ≤ 48 := by
            have hjl : j < bk.length := by have := HN.out; omega
            have h1 : rowOf bk j = bk[j] := by simp [rowOf, List.getD, hjl]
            have := (HB.out.1 bk[j] (List.getElem_mem hjl)).2.1
            rw [hq, h1]; omega
          rw [← hq] at hx
          clear hC hle hq
          go_wp2
          all_goals go_roundw
          case rel => exact ⟨j + 1, by omega, by go_num, H2⟩
          case measure => simp [intOf]; omega
        · obtain rfl : j = n := by omega
          go_wp2
          go_loopw [5] (fun i wr => ∃ t : Nat, t ≤ m ∧ i = .int .i64 t ∧ Aside0 (∀ q, q < t → (fl.getD q ByteArray.empty).size ≤ 300) ∧ Aside0 (St w (fun _ => False) [] [(w.heap.size, hwC (.slice A j d) (.slice B m c) r, 31)] wr)) (fun i _ => m - (intOf i).toNat)
          case atStart => exact ⟨0, Nat.zero_le _, rfl, ⟨fun q h => by omega⟩, H2⟩
          case round =>
            clear g0 g1
            obtain ⟨t, ht, rfl, HT, H3⟩ := hrel
            have g1 : wr.cell? ⟨w.heap.size, 1, none⟩ = some (.slice B m c) := H3.out.cell 0 rfl 1 rfl
            by_cases hlt2 : t < m
            · obtain ⟨bd, eb, hy⟩ := Kd.at_string (HL.out _ H3.out.bel) (t : Int) (by omega) (by omega)
              subst eb
              obtain ⟨s, hs⟩ : ∃ s, s = rdOf ByteArray.empty fl (t : Int) := ⟨_, rfl⟩
              rw [← hs, Int.toNat_natCast] at hy
              have HS := Aside0.mk (show s = fl.getD t ByteArray.empty by rw [hs]; rfl)
              clear hs
              by_cases hz : 300 < (s.size : Int)
              · go_wp2
                go_ret
                refine ⟨?_, H3.out.bel⟩
                have hmem : s ∈ fl := by
                  have htl : t < fl.length := by have := HML.out; omega
                  rw [HS.out]; simp [List.getD, htl]
                rw [show smallB true m fl = false by
                  simp only [smallB, Bool.true_and]
                  rw [show (fl.all fun s => decide (s.size ≤ 300)) = false from List.all_eq_false.2 ⟨s, hmem, by simp; omega⟩, Bool.and_false]]
                rfl
              · have hz' : (s.size : Int) ≤ 300 := by omega
                clear hz
                go_wp2
                all_goals go_roundw
                case rel => exact ⟨t + 1, by omega, by go_num, ⟨fun q h => by
                  rcases Nat.lt_or_ge q t with h1 | h1
                  · exact HT.out q h1
                  · have : q = t := by omega
                    subst this; rw [← HS.out]; omega⟩, H3⟩
                case measure => simp [intOf]; omega
            · obtain rfl : t = m := by omega
              go_wp2
              go_ret
              refine ⟨?_, H3.out.bel⟩
              rw [show smallB true t fl = true by
                simp only [smallB, Bool.true_and]
                rw [decide_eq_true (by omega), Bool.true_and]
                refine List.all_eq_true.2 fun s hs => decide_eq_true ?_
                obtain ⟨q, hq, e⟩ := mem_getD (z := ByteArray.empty) hs
                rw [← e]; exact HT.out q (by have := HML.out; omega)]
              rfl
end Go.Proofs.Ytkfhekocbfednaa.Dv
namespace Go.Proofs.Ytkfhekocbfednaa.Dv
set_option linter.unusedVariables false
set_option linter.unusedSimpArgs false
open Go.RowKit Go.Proofs.Ytkfhekocbfednaa Go.Proofs.YtkfhekocbfednaaW.PrintWords Go.Proofs.YtkfhekocbfednaaW.PrintLast Go.Proofs.YtkfhekocbfednaaW.PrintMore
open Go.Proofs.Ytkfhekocbfednaa.Fu Go.Proofs.Ytkfhekocbfednaa.Fl Go.Proofs.Ytkfhekocbfednaa.PDeviceMatches
theorem equalu_at {A B : Option Addr} {n m c d : Nat} {xs ys : List Int} {w : World} (h1 : Kd.C (Kd.int .u8) w A n xs) (hc : n ≤ c) (h2 : Kd.C (Kd.int .u8) w B m ys) (hd : m ≤ d) :
    Calls Try.prog 34 #[.slice A n c, .slice B m d] w fun e w' => e = .returned (.bool (decide (xs = ys))) ∧ Below w.heap.size w w' := by
  obtain rfl := h1.1
  obtain rfl := h2.1
  obtain ⟨k, hk⟩ := equal_f xs ys h1.2.1
  refine (slices_Equal_uint8_uint8.calls k A c xs B d ys _ w h1 hc h2 hd hk).mono ?_
  rintro e w' ⟨rfl, ⟨nd, rfl⟩⟩
  exact ⟨rfl, pw_below_drewN (Below.refl _ _) nd⟩
set_option maxRecDepth 100000 in
set_option maxHeartbeats 16000000 in
theorem eqf_any {A B : Option Addr} {n m c d : Nat} {hs gs : List Hdr} {bk cl : List (List Int)} {w : World} (h1 : Fu w A n c hs bk) (h2 : Fu w B m d gs cl) :
    Calls Try.prog 33 #[.slice A n c, .slice B m d, .func (.func 34) #[] #[]] w fun e w' => e = .returned (.bool (decide (bk = cl))) ∧ Below w.heap.size w w' := by
  have hn := h1.max
  have hm := h2.max
  have L1 := Aside0.mk h1.len
  have L2 := Aside0.mk h2.len
  have HF := Aside0.mk (fun W hb => h1.below hb : ∀ W, Below w.heap.size w W → Fu W A n c hs bk)
  have HG := Aside0.mk (fun W hb => h2.below hb : ∀ W, Below w.heap.size w W → Fu W B m d gs cl)
  clear h1 h2
  by_cases hne : n = m
  · have e1 : ((n : Int) == (m : Int)) = true := beq_iff_eq.2 (by omega)
    have e2 : ((n : Int) != (m : Int)) = false := bne_eq_false_iff_eq.2 (by omega)
    have E := Aside0.mk hne
    clear hne
    go_enter Try.func33, Try.ntmps33
    go_wp2
    go_loopw [7, 8, 9, 17] (fun _ _ _ i wr => ∃ k : Nat, k ≤ n ∧ i = .int .i64 k ∧ Aside0 (∀ j, j < k → bk.getD j [] = cl.getD j []) ∧ Aside0 (Below w.heap.size w wr)) (fun _ _ _ i _ => n - (intOf i).toNat)
    case atStart => exact ⟨0, Nat.zero_le _, rfl, ⟨fun j hj => by omega⟩, ⟨Below.refl _ _⟩⟩
    case round =>
      obtain ⟨k, hk, rfl, HA, HB⟩ := hrel
      by_cases hlt : k < n
      · obtain ⟨ad, B1, d1, ea, _, hx, hc1, hC1⟩ := (HF.out _ HB.out).at (k : Int) (by omega) (by omega)
        obtain ⟨bd, B2, d2, eb, _, hy, hc2, hC2⟩ := (HG.out _ HB.out).at (k : Int) (by omega) (by have := E.out; omega)
        subst ea eb
        rw [Int.toNat_natCast] at hx hy
        obtain ⟨xs, hxs⟩ : ∃ xs, rowOf bk k = xs := ⟨_, rfl⟩
        obtain ⟨ys, hys⟩ : ∃ ys, rowOf cl k = ys := ⟨_, rfl⟩
        rw [hxs] at hx hc1 hC1
        rw [hys] at hy hc2 hC2
        obtain ⟨p, hp⟩ : ∃ p, xs.length = p := ⟨_, rfl⟩
        obtain ⟨q, hq⟩ : ∃ q, ys.length = q := ⟨_, rfl⟩
        rw [hp] at hx hc1 hC1
        rw [hq] at hy hc2 hC2
        have X := Aside0.mk (show bk.getD k [] = xs by rw [← hxs]; simp [rowOf])
        have Y := Aside0.mk (show cl.getD k [] = ys by rw [← hys]; simp [rowOf])
        have C1 := Aside0.mk hC1
        have C2 := Aside0.mk hC2
        have c1 := Aside0.mk hc1
        have c2 := Aside0.mk hc2
        have hk2 : (k : Int) < (m : Int) := by have := E.out; omega
        have hk3 : k < m := by omega
        clear hxs hys hp hq hC1 hC2 hc1 hc2
        by_cases he : xs = ys
        · have HE := Aside0.mk he
          have HD := Aside0.mk (decide_eq_true he)
          clear he
          go_wp2_with (first | (go_at_call 34; refine (equalu_at C1.out c1.out C2.out c2.out).mono ?_; rintro e w1 ⟨rfl, hb⟩; rw [HD.out]; have HB1 := Aside0.mk (below_more HB.out hb); clear hb))
          all_goals go_roundw
          case rel => exact ⟨k + 1, by omega, by go_num, ⟨fun j hj => by
            rcases Nat.lt_or_ge j k with h1 | h1
            · exact HA.out j h1
            · have : j = k := by omega
              subst this; rw [X.out, Y.out]; exact HE.out⟩, HB1⟩
          case measure => simp [intOf]; omega
        · have HE := Aside0.mk he
          have HD := Aside0.mk (decide_eq_false he)
          clear he
          go_wp2_with (first | (go_at_call 34; refine (equalu_at C1.out c1.out C2.out c2.out).mono ?_; rintro e w1 ⟨rfl, hb⟩; rw [HD.out]; have HB1 := Aside0.mk (below_more HB.out hb); clear hb))
          go_ret
          refine ⟨?_, HB1.out⟩
          rw [decide_eq_false (show ¬ bk = cl by rintro rfl; exact HE.out (by rw [← X.out, ← Y.out]))]
          rfl
      · obtain rfl : k = n := by omega
        go_wp2
        go_ret
        refine ⟨?_, HB.out⟩
        rw [decide_eq_true (show bk = cl from same_of [] (by have := L1.out; have := L2.out; have := E.out; omega) (by have := L1.out; rw [this]; exact HA.out))]
        rfl
  · have e1 : ((n : Int) == (m : Int)) = false := beq_eq_false_iff_ne.2 (by omega)
    have e2 : ((n : Int) != (m : Int)) = true := bne_iff_ne.2 (by omega)
    have E := Aside0.mk (show decide (bk = cl) = false from decide_eq_false (by rintro rfl; exact hne (L1.out.symm.trans L2.out)))
    clear hne
    go_enter Try.func33, Try.ntmps33
    go_wp2
    go_ret
    exact ⟨by rw [E.out]; rfl, Below.refl _ _⟩
end Go.Proofs.Ytkfhekocbfednaa.Dv
namespace Go.Proofs.Ytkfhekocbfednaa.Dv
set_option linter.unusedVariables false
set_option linter.unusedSimpArgs false
open Go.RowKit Go.Proofs.Ytkfhekocbfednaa Go.Proofs.YtkfhekocbfednaaW.PrintWords Go.Proofs.YtkfhekocbfednaaW.PrintLast Go.Proofs.YtkfhekocbfednaaW.PrintMore
open Go.Proofs.Ytkfhekocbfednaa.Fu Go.Proofs.Ytkfhekocbfednaa.Fl
def rtA (r : Nat → Int) : Array Value := #[.int .u8 (r 0), .int .u8 (r 1), .int .u8 (r 2), .int .u8 (r 3), .int .u8 (r 4), .int .u8 (r 5), .int .u8 (r 6), .int .u8 (r 7), .int .u8 (r 8), .int .u8 (r 9), .int .u8 (r 10), .int .u8 (r 11), .int .u8 (r 12), .int .u8 (r 13), .int .u8 (r 14), .int .u8 (r 15)]
theorem rt_get (r : Nat → Int) (i : Nat) (h : i < 16) : (rtA r)[i]? = some (.int .u8 (r i)) := by
  match i, h with
  | 0, _ => rfl
  | 1, _ => rfl
  | 2, _ => rfl
  | 3, _ => rfl
  | 4, _ => rfl
  | 5, _ => rfl
  | 6, _ => rfl
  | 7, _ => rfl
  | 8, _ => rfl
  | 9, _ => rfl
  | 10, _ => rfl
  | 11, _ => rfl
  | 12, _ => rfl
  | 13, _ => rfl
  | 14, _ => rfl
  | 15, _ => rfl
  | i + 16, h => omega
theorem hw_get (x y : Value) (r : Nat → Int) (i : Nat) (h : i < 16) : (hwC x y r)[2 + i]? = some (.int .u8 (r i)) := by
  match i, h with
  | 0, _ => rfl
  | 1, _ => rfl
  | 2, _ => rfl
  | 3, _ => rfl
  | 4, _ => rfl
  | 5, _ => rfl
  | 6, _ => rfl
  | 7, _ => rfl
  | 8, _ => rfl
  | 9, _ => rfl
  | 10, _ => rfl
  | 11, _ => rfl
  | 12, _ => rfl
  | 13, _ => rfl
  | 14, _ => rfl
  | 15, _ => rfl
  | i + 16, h => omega
theorem hw_root {x y v : Value} {r : Nat → Int} {j : Nat} (h : (rtA r)[j]? = some v) : (hwC x y r)[2 + j]? = some v := by
  have hj : j < 16 := (Array.getElem?_eq_some_iff.1 h).1
  rw [hw_get x y r j hj, ← rt_get r j hj, h]
def rootEq (r s : Nat → Int) : Bool := (List.range 16).all fun i => r i == s i
theorem items_eq (r s : Nat → Int) (w : World) : ∀ is : List Nat, (∀ i ∈ is, i < 16) → (Op.eqItems 9999 5 (Try.prog.cellsOf 5) (rtA r) (rtA s) is).run Try.prog w = .ok (is.all fun i => r i == s i) w
  | [], _ => by simp [Op.eqItems]
  | i :: is, h => by
    have hi := h i List.mem_cons_self
    have hc : i * Try.prog.cellsOf 5 = i := by rw [show Try.prog.cellsOf 5 = 1 from by kernel_rfl, Nat.mul_one]
    have he : Try.prog.plainKey 5 = true := by kernel_rfl
    simp only [Op.eqItems, Sem.run_bind, hc, run_part_plain w he (rt_get r i hi), run_part_plain w he (rt_get s i hi), Result.andThen_ok]
    rw [run_equalIn_int w 9998 5 .u8 .u8 (r i) (s i) Try.underlying5]
    have := items_eq r s w is fun k hk => h k (List.mem_cons_of_mem _ hk)
    cases hq : r i == s i
    · simp [hq]
    · simp [hq, this]
theorem eq_root (r s : Nat → Int) (w : World) : (Op.equalIn 10000 29 (.agg (rtA r)) (.agg (rtA s))).run Try.prog w = .ok (rootEq r s) w := by
  obtain ⟨i, hi⟩ : ∃ i, Try.prog.info? 5 = some i := Option.isSome_iff_exists.1 (by kernel_rfl)
  rw [run_equalIn_array w 9999 (rtA r) (rtA s) Try.underlying29 hi]
  exact items_eq r s w _ fun i hi => List.mem_range.1 hi
section
variable {P : Program} {ops : Array Oper} {Q : Exit → Act → World → Prop}
theorem loadMidL_ {rest : List Oper} {oi : Oper} {a : Act} {w : World} {ty : TypeId} {p : Operand} (N : Option Tmp) (hd' : oi.dst = N) (hgd : oi.guard = none) (hop : oi.op = .load ty p) (g o : Nat) (cs : Array Value) (d : TypeDesc) (hp : a.eval p = .pointer (some ⟨g, o, none⟩))
    (hc : ∀ j v, cs[j]? = some v → w.cell? ⟨g, o + j, none⟩ = some v) (hu : P.underlying ty = some d) (hd : d.isRow = true) (hi : (P.info? ty).map (·.size) = some cs.size)
    (h : wpList P ops Q rest (a.put N (.agg cs)) w) : wpList P ops Q (oi :: rest) a w := by
  refine wpList_plain hgd fun K hK => ?_
  have hl := run_loadVar_mid w g o ty cs.toList d (fun j v hv => hc j v (by simpa using hv)) hu hd (by simpa using hi)
  have hr : (execOp a.eval oi).run P w = .ok (.value (.agg cs)) w := by
    unfold execOp
    simp [hop, hp, Instr.loadAt, Instr.sureAddr, hl]
  unfold Oper.wp
  rw [hr]
  subst hd'
  exact hK _ _ h
end
end Go.Proofs.Ytkfhekocbfednaa.Dv
namespace Go.Proofs.Ytkfhekocbfednaa.Dv
set_option linter.unusedVariables false
set_option linter.unusedSimpArgs false
open Go.RowKit Go.Proofs.Ytkfhekocbfednaa Go.Proofs.YtkfhekocbfednaaW.PrintWords Go.Proofs.YtkfhekocbfednaaW.PrintLast Go.Proofs.YtkfhekocbfednaaW.PrintMore
open Go.Proofs.Ytkfhekocbfednaa.Fu Go.Proofs.Ytkfhekocbfednaa.Fl
attribute [local go_sem] eq_root
def sameH (r s : Nat → Int) (fl gl : List ByteArray) (bk cl : List (List Int)) : Bool := rootEq r s && (sameB fl gl && decide (bk = cl))
set_option maxRecDepth 100000 in
set_option maxHeartbeats 16000000 in
theorem dsame0 {A : Option Addr} {n d : Nat} {hs : List Hdr} {bk : List (List Int)} {B : Option Addr} {m c : Nat} {fl : List ByteArray} {A' : Option Addr} {n' d' : Nat} {gs : List Hdr} {cl : List (List Int)} {B' : Option Addr} {m' c' : Nat} {gl : List ByteArray} {w : World} {r s : Nat → Int} (h1 : Fu w A n d hs bk) (h2 : Fl w B m c fl) (h3 : Fu w A' n' d' gs cl) (h4 : Fl w B' m' c' gl) (e1 : rootEq r s = false) :
    Calls Try.prog 15 #[.agg (hwC (.slice A n d) (.slice B m c) r), .agg (hwC (.slice A' n' d') (.slice B' m' c') s)] w fun e w' => e = .returned (.bool (false)) ∧ Below w.heap.size w w' := by
  have H0 := Aside0.mk ((St.enter0 w).alloc2 (hwC (.slice A n d) (.slice B m c) r) 31 (hwC (.slice A' n' d') (.slice B' m' c') s) 31)
  have HF := Aside0.mk (fun W hb => ⟨h1.below hb, h2.below hb, h3.below hb, h4.below hb⟩ : ∀ W, Below w.heap.size w W → Fu W A n d hs bk ∧ Fl W B m c fl ∧ Fu W A' n' d' gs cl ∧ Fl W B' m' c' gl)
  clear h1 h2 h3 h4
  have z00 : ((w.alloc (.cells (hwC (.slice A n d) (.slice B m c) r) 31)).alloc (.cells (hwC (.slice A' n' d') (.slice B' m' c') s) 31)).cell? ⟨w.heap.size, 0, none⟩ = some (.slice A n d) := H0.out.cell 0 rfl 0 rfl
  have z01 : ((w.alloc (.cells (hwC (.slice A n d) (.slice B m c) r) 31)).alloc (.cells (hwC (.slice A' n' d') (.slice B' m' c') s) 31)).cell? ⟨w.heap.size, 1, none⟩ = some (.slice B m c) := H0.out.cell 0 rfl 1 rfl
  have z10 : ((w.alloc (.cells (hwC (.slice A n d) (.slice B m c) r) 31)).alloc (.cells (hwC (.slice A' n' d') (.slice B' m' c') s) 31)).cell? ⟨w.heap.size + 1, 0, none⟩ = some (.slice A' n' d') := H0.out.cell 1 rfl 0 rfl
  have z11 : ((w.alloc (.cells (hwC (.slice A n d) (.slice B m c) r) 31)).alloc (.cells (hwC (.slice A' n' d') (.slice B' m' c') s) 31)).cell? ⟨w.heap.size + 1, 1, none⟩ = some (.slice B' m' c') := H0.out.cell 1 rfl 1 rfl
  go_enter Try.func15, Try.ntmps15
  go_wp2_with (first | ((with_reducible refine gate_dst (N := 6) rfl ?_); refine loadMidL_ (ty := 29) _ rfl rfl rfl _ _ (rtA r) _ rfl (fun j v hv => H0.out.cell 0 rfl (2 + j) (hw_root hv)) Try.underlying29 rfl (by kernel_rfl) ?_) | ((with_reducible refine gate_dst (N := 8) rfl ?_); refine loadMidL_ (ty := 29) _ rfl rfl rfl _ _ (rtA s) _ rfl (fun j v hv => H0.out.cell 1 rfl (2 + j) (hw_root hv)) Try.underlying29 rfl (by kernel_rfl) ?_))
  go_ret
  exact ⟨rfl, H0.out.bel⟩
set_option maxRecDepth 100000 in
set_option maxHeartbeats 16000000 in
theorem dsame1 {A : Option Addr} {n d : Nat} {hs : List Hdr} {bk : List (List Int)} {B : Option Addr} {m c : Nat} {fl : List ByteArray} {A' : Option Addr} {n' d' : Nat} {gs : List Hdr} {cl : List (List Int)} {B' : Option Addr} {m' c' : Nat} {gl : List ByteArray} {w : World} {r s : Nat → Int} (h1 : Fu w A n d hs bk) (h2 : Fl w B m c fl) (h3 : Fu w A' n' d' gs cl) (h4 : Fl w B' m' c' gl) (e1 : rootEq r s = true) (e2 : sameB fl gl = false) :
    Calls Try.prog 15 #[.agg (hwC (.slice A n d) (.slice B m c) r), .agg (hwC (.slice A' n' d') (.slice B' m' c') s)] w fun e w' => e = .returned (.bool (false)) ∧ Below w.heap.size w w' := by
  have H0 := Aside0.mk ((St.enter0 w).alloc2 (hwC (.slice A n d) (.slice B m c) r) 31 (hwC (.slice A' n' d') (.slice B' m' c') s) 31)
  have HF := Aside0.mk (fun W hb => ⟨h1.below hb, h2.below hb, h3.below hb, h4.below hb⟩ : ∀ W, Below w.heap.size w W → Fu W A n d hs bk ∧ Fl W B m c fl ∧ Fu W A' n' d' gs cl ∧ Fl W B' m' c' gl)
  have E2 := Aside0.mk e2
  clear h1 h2 h3 h4 e2
  have z00 : ((w.alloc (.cells (hwC (.slice A n d) (.slice B m c) r) 31)).alloc (.cells (hwC (.slice A' n' d') (.slice B' m' c') s) 31)).cell? ⟨w.heap.size, 0, none⟩ = some (.slice A n d) := H0.out.cell 0 rfl 0 rfl
  have z01 : ((w.alloc (.cells (hwC (.slice A n d) (.slice B m c) r) 31)).alloc (.cells (hwC (.slice A' n' d') (.slice B' m' c') s) 31)).cell? ⟨w.heap.size, 1, none⟩ = some (.slice B m c) := H0.out.cell 0 rfl 1 rfl
  have z10 : ((w.alloc (.cells (hwC (.slice A n d) (.slice B m c) r) 31)).alloc (.cells (hwC (.slice A' n' d') (.slice B' m' c') s) 31)).cell? ⟨w.heap.size + 1, 0, none⟩ = some (.slice A' n' d') := H0.out.cell 1 rfl 0 rfl
  have z11 : ((w.alloc (.cells (hwC (.slice A n d) (.slice B m c) r) 31)).alloc (.cells (hwC (.slice A' n' d') (.slice B' m' c') s) 31)).cell? ⟨w.heap.size + 1, 1, none⟩ = some (.slice B' m' c') := H0.out.cell 1 rfl 1 rfl
  go_enter Try.func15, Try.ntmps15
  go_wp2_with (first | ((with_reducible refine gate_dst (N := 6) rfl ?_); refine loadMidL_ (ty := 29) _ rfl rfl rfl _ _ (rtA r) _ rfl (fun j v hv => H0.out.cell 0 rfl (2 + j) (hw_root hv)) Try.underlying29 rfl (by kernel_rfl) ?_) | ((with_reducible refine gate_dst (N := 8) rfl ?_); refine loadMidL_ (ty := 29) _ rfl rfl rfl _ _ (rtA s) _ rfl (fun j v hv => H0.out.cell 1 rfl (2 + j) (hw_root hv)) Try.underlying29 rfl (by kernel_rfl) ?_) | (go_at_call 32; refine (same_any' (HF.out _ H0.out.bel).2.1 (HF.out _ H0.out.bel).2.2.2).mono ?_; rintro e w1 ⟨rfl, hb⟩; have H1 := Aside0.mk (H0.out.step hb); clear hb; rw [E2.out]; clear z00 z01 z10 z11; have z00 : w1.cell? ⟨w.heap.size, 0, none⟩ = some (.slice A n d) := H1.out.cell 0 rfl 0 rfl; have z01 : w1.cell? ⟨w.heap.size, 1, none⟩ = some (.slice B m c) := H1.out.cell 0 rfl 1 rfl; have z10 : w1.cell? ⟨w.heap.size + 1, 0, none⟩ = some (.slice A' n' d') := H1.out.cell 1 rfl 0 rfl; have z11 : w1.cell? ⟨w.heap.size + 1, 1, none⟩ = some (.slice B' m' c') := H1.out.cell 1 rfl 1 rfl))
  go_ret
  exact ⟨rfl, H1.out.bel⟩
set_option maxRecDepth 100000 in
set_option maxHeartbeats 16000000 in
theorem dsame2 {A : Option Addr} {n d : Nat} {hs : List Hdr} {bk : List (List Int)} {B : Option Addr} {m c : Nat} {fl : List ByteArray} {A' : Option Addr} {n' d' : Nat} {gs : List Hdr} {cl : List (List Int)} {B' : Option Addr} {m' c' : Nat} {gl : List ByteArray} {w : World} {r s : Nat → Int} (h1 : Fu w A n d hs bk) (h2 : Fl w B m c fl) (h3 : Fu w A' n' d' gs cl) (h4 : Fl w B' m' c' gl) (e1 : rootEq r s = true) (e2 : sameB fl gl = true) (e3 : decide (bk = cl) = false) :
    Calls Try.prog 15 #[.agg (hwC (.slice A n d) (.slice B m c) r), .agg (hwC (.slice A' n' d') (.slice B' m' c') s)] w fun e w' => e = .returned (.bool (false)) ∧ Below w.heap.size w w' := by
  have H0 := Aside0.mk ((St.enter0 w).alloc2 (hwC (.slice A n d) (.slice B m c) r) 31 (hwC (.slice A' n' d') (.slice B' m' c') s) 31)
  have HF := Aside0.mk (fun W hb => ⟨h1.below hb, h2.below hb, h3.below hb, h4.below hb⟩ : ∀ W, Below w.heap.size w W → Fu W A n d hs bk ∧ Fl W B m c fl ∧ Fu W A' n' d' gs cl ∧ Fl W B' m' c' gl)
  have E2 := Aside0.mk e2
  have E3 := Aside0.mk e3
  clear h1 h2 h3 h4 e2 e3
  have z00 : ((w.alloc (.cells (hwC (.slice A n d) (.slice B m c) r) 31)).alloc (.cells (hwC (.slice A' n' d') (.slice B' m' c') s) 31)).cell? ⟨w.heap.size, 0, none⟩ = some (.slice A n d) := H0.out.cell 0 rfl 0 rfl
  have z01 : ((w.alloc (.cells (hwC (.slice A n d) (.slice B m c) r) 31)).alloc (.cells (hwC (.slice A' n' d') (.slice B' m' c') s) 31)).cell? ⟨w.heap.size, 1, none⟩ = some (.slice B m c) := H0.out.cell 0 rfl 1 rfl
  have z10 : ((w.alloc (.cells (hwC (.slice A n d) (.slice B m c) r) 31)).alloc (.cells (hwC (.slice A' n' d') (.slice B' m' c') s) 31)).cell? ⟨w.heap.size + 1, 0, none⟩ = some (.slice A' n' d') := H0.out.cell 1 rfl 0 rfl
  have z11 : ((w.alloc (.cells (hwC (.slice A n d) (.slice B m c) r) 31)).alloc (.cells (hwC (.slice A' n' d') (.slice B' m' c') s) 31)).cell? ⟨w.heap.size + 1, 1, none⟩ = some (.slice B' m' c') := H0.out.cell 1 rfl 1 rfl
  go_enter Try.func15, Try.ntmps15
  go_wp2_with (first | ((with_reducible refine gate_dst (N := 6) rfl ?_); refine loadMidL_ (ty := 29) _ rfl rfl rfl _ _ (rtA r) _ rfl (fun j v hv => H0.out.cell 0 rfl (2 + j) (hw_root hv)) Try.underlying29 rfl (by kernel_rfl) ?_) | ((with_reducible refine gate_dst (N := 8) rfl ?_); refine loadMidL_ (ty := 29) _ rfl rfl rfl _ _ (rtA s) _ rfl (fun j v hv => H0.out.cell 1 rfl (2 + j) (hw_root hv)) Try.underlying29 rfl (by kernel_rfl) ?_) | (go_at_call 32; refine (same_any' (HF.out _ H0.out.bel).2.1 (HF.out _ H0.out.bel).2.2.2).mono ?_; rintro e w1 ⟨rfl, hb⟩; have H1 := Aside0.mk (H0.out.step hb); clear hb; rw [E2.out]; clear z00 z01 z10 z11; have z00 : w1.cell? ⟨w.heap.size, 0, none⟩ = some (.slice A n d) := H1.out.cell 0 rfl 0 rfl; have z01 : w1.cell? ⟨w.heap.size, 1, none⟩ = some (.slice B m c) := H1.out.cell 0 rfl 1 rfl; have z10 : w1.cell? ⟨w.heap.size + 1, 0, none⟩ = some (.slice A' n' d') := H1.out.cell 1 rfl 0 rfl; have z11 : w1.cell? ⟨w.heap.size + 1, 1, none⟩ = some (.slice B' m' c') := H1.out.cell 1 rfl 1 rfl) | (go_at_call 33; refine (eqf_any (HF.out _ H1.out.bel).1 (HF.out _ H1.out.bel).2.2.1).mono ?_; rintro e w2 ⟨rfl, hb⟩; have H2 := Aside0.mk (H1.out.step hb); clear hb; rw [E3.out]))
  go_ret
  exact ⟨rfl, H2.out.bel⟩
set_option maxRecDepth 100000 in
set_option maxHeartbeats 16000000 in
theorem dsame3 {A : Option Addr} {n d : Nat} {hs : List Hdr} {bk : List (List Int)} {B : Option Addr} {m c : Nat} {fl : List ByteArray} {A' : Option Addr} {n' d' : Nat} {gs : List Hdr} {cl : List (List Int)} {B' : Option Addr} {m' c' : Nat} {gl : List ByteArray} {w : World} {r s : Nat → Int} (h1 : Fu w A n d hs bk) (h2 : Fl w B m c fl) (h3 : Fu w A' n' d' gs cl) (h4 : Fl w B' m' c' gl) (e1 : rootEq r s = true) (e2 : sameB fl gl = true) (e3 : decide (bk = cl) = true) :
    Calls Try.prog 15 #[.agg (hwC (.slice A n d) (.slice B m c) r), .agg (hwC (.slice A' n' d') (.slice B' m' c') s)] w fun e w' => e = .returned (.bool (true)) ∧ Below w.heap.size w w' := by
  have H0 := Aside0.mk ((St.enter0 w).alloc2 (hwC (.slice A n d) (.slice B m c) r) 31 (hwC (.slice A' n' d') (.slice B' m' c') s) 31)
  have HF := Aside0.mk (fun W hb => ⟨h1.below hb, h2.below hb, h3.below hb, h4.below hb⟩ : ∀ W, Below w.heap.size w W → Fu W A n d hs bk ∧ Fl W B m c fl ∧ Fu W A' n' d' gs cl ∧ Fl W B' m' c' gl)
  have E2 := Aside0.mk e2
  have E3 := Aside0.mk e3
  clear h1 h2 h3 h4 e2 e3
  have z00 : ((w.alloc (.cells (hwC (.slice A n d) (.slice B m c) r) 31)).alloc (.cells (hwC (.slice A' n' d') (.slice B' m' c') s) 31)).cell? ⟨w.heap.size, 0, none⟩ = some (.slice A n d) := H0.out.cell 0 rfl 0 rfl
  have z01 : ((w.alloc (.cells (hwC (.slice A n d) (.slice B m c) r) 31)).alloc (.cells (hwC (.slice A' n' d') (.slice B' m' c') s) 31)).cell? ⟨w.heap.size, 1, none⟩ = some (.slice B m c) := H0.out.cell 0 rfl 1 rfl
  have z10 : ((w.alloc (.cells (hwC (.slice A n d) (.slice B m c) r) 31)).alloc (.cells (hwC (.slice A' n' d') (.slice B' m' c') s) 31)).cell? ⟨w.heap.size + 1, 0, none⟩ = some (.slice A' n' d') := H0.out.cell 1 rfl 0 rfl
  have z11 : ((w.alloc (.cells (hwC (.slice A n d) (.slice B m c) r) 31)).alloc (.cells (hwC (.slice A' n' d') (.slice B' m' c') s) 31)).cell? ⟨w.heap.size + 1, 1, none⟩ = some (.slice B' m' c') := H0.out.cell 1 rfl 1 rfl
  go_enter Try.func15, Try.ntmps15
  go_wp2_with (first | ((with_reducible refine gate_dst (N := 6) rfl ?_); refine loadMidL_ (ty := 29) _ rfl rfl rfl _ _ (rtA r) _ rfl (fun j v hv => H0.out.cell 0 rfl (2 + j) (hw_root hv)) Try.underlying29 rfl (by kernel_rfl) ?_) | ((with_reducible refine gate_dst (N := 8) rfl ?_); refine loadMidL_ (ty := 29) _ rfl rfl rfl _ _ (rtA s) _ rfl (fun j v hv => H0.out.cell 1 rfl (2 + j) (hw_root hv)) Try.underlying29 rfl (by kernel_rfl) ?_) | (go_at_call 32; refine (same_any' (HF.out _ H0.out.bel).2.1 (HF.out _ H0.out.bel).2.2.2).mono ?_; rintro e w1 ⟨rfl, hb⟩; have H1 := Aside0.mk (H0.out.step hb); clear hb; rw [E2.out]; clear z00 z01 z10 z11; have z00 : w1.cell? ⟨w.heap.size, 0, none⟩ = some (.slice A n d) := H1.out.cell 0 rfl 0 rfl; have z01 : w1.cell? ⟨w.heap.size, 1, none⟩ = some (.slice B m c) := H1.out.cell 0 rfl 1 rfl; have z10 : w1.cell? ⟨w.heap.size + 1, 0, none⟩ = some (.slice A' n' d') := H1.out.cell 1 rfl 0 rfl; have z11 : w1.cell? ⟨w.heap.size + 1, 1, none⟩ = some (.slice B' m' c') := H1.out.cell 1 rfl 1 rfl) | (go_at_call 33; refine (eqf_any (HF.out _ H1.out.bel).1 (HF.out _ H1.out.bel).2.2.1).mono ?_; rintro e w2 ⟨rfl, hb⟩; have H2 := Aside0.mk (H1.out.step hb); clear hb; rw [E3.out]))
  go_ret
  exact ⟨rfl, H2.out.bel⟩
theorem dsame_any {A : Option Addr} {n d : Nat} {hs : List Hdr} {bk : List (List Int)} {B : Option Addr} {m c : Nat} {fl : List ByteArray} {A' : Option Addr} {n' d' : Nat} {gs : List Hdr} {cl : List (List Int)} {B' : Option Addr} {m' c' : Nat} {gl : List ByteArray} {w : World} {r s : Nat → Int} (h1 : Fu w A n d hs bk) (h2 : Fl w B m c fl) (h3 : Fu w A' n' d' gs cl) (h4 : Fl w B' m' c' gl) :
    Calls Try.prog 15 #[.agg (hwC (.slice A n d) (.slice B m c) r), .agg (hwC (.slice A' n' d') (.slice B' m' c') s)] w fun e w' => e = .returned (.bool (sameH r s fl gl bk cl)) ∧ Below w.heap.size w w' := by
  unfold sameH
  cases e1 : rootEq r s with
  | false => exact dsame0 h1 h2 h3 h4 e1
  | true =>
    cases e2 : sameB fl gl with
    | false => exact dsame1 h1 h2 h3 h4 e1 e2
    | true =>
      cases e3 : decide (bk = cl) with
      | false => exact dsame2 h1 h2 h3 h4 e1 e2 e3
      | true => exact dsame3 h1 h2 h3 h4 e1 e2 e3
end Go.Proofs.Ytkfhekocbfednaa.Dv
namespace Go.Proofs.Ytkfhekocbfednaa
set_option linter.unusedVariables false
set_option linter.unusedSimpArgs false
open Go.RowKit Go.Proofs.YtkfhekocbfednaaW.PrintWords
section
variable {w0 w : World} {S : Nat → Prop} {ds : List (World → Prop)} {os : List Blk}
theorem St.three (h : St w0 S ds os w) (i j k : Nat) {x y z : Blk} (hi : os[i]? = some x) (hj : os[j]? = some y) (hk : os[k]? = some z) (hij : i ≠ j) (hik : i ≠ k) (hjk : j ≠ k) : St w0 S ds [x, y, z] w := by
  obtain ⟨x1, x2, x3⟩ := x
  obtain ⟨y1, y2, y3⟩ := y
  obtain ⟨z1, z2, z3⟩ := z
  have h1 := h.ne i j hi hj hij
  have h2 := h.ne i k hi hk hik
  have h3 := h.ne j k hj hk hjk
  refine ⟨h.bel, h.dom, h.sures, fun b hb => ?_, by simp; exact ⟨⟨h1, h2⟩, h3⟩⟩
  simp only [List.mem_cons, List.not_mem_nil, or_false] at hb
  rcases hb with rfl | rfl | rfl
  · exact h.own _ (List.mem_of_getElem? hi)
  · exact h.own _ (List.mem_of_getElem? hj)
  · exact h.own _ (List.mem_of_getElem? hk)
end
namespace Dv
open Go.Proofs.Ytkfhekocbfednaa.Fu Go.Proofs.Ytkfhekocbfednaa.Fl
theorem do_at {A : Option Addr} {n d : Nat} {hs : List Hdr} {bk : List (List Int)} {B : Option Addr} {m c : Nat} {fl : List ByteArray} {w : World} {S : Nat → Prop} {r : Nat → Int} (kd bank cell : Int) (b : ByteArray) (cut : Bool) (fb : Int) (noise : Bool) (bk' : List (List Int)) (fl' : List ByteArray) (v : Int) (s : ByteArray) (q : Int)
    (hd : ∀ k, S k → k < w.heap.size) (hS : Sure S w (fun w => Fu w A n d hs bk ∧ Fl w B m c fl)) (hn : n ≤ 1000) (hb : OkBk bk) (hf : OkFl fl)
    (e1 : doBk bk fl kd bank cell b cut = bk') (e2 : doFl bk fl kd bank cell b cut fb = fl') (e3 : doV bk fl kd bank cell b cut noise = v) (e4 : doS bk fl kd bank cell b cut = s) (e5 : doE bk fl kd bank cell b = q) :
    Calls Try.prog 10 #[.agg (hwC (.slice A n d) (.slice B m c) r), .agg #[.int .i64 kd, .int .i64 bank, .int .i64 cell, .string b], .agg #[.bool cut, .int .i64 fb, .bool noise]] w (DoRes S n m r bk' fl' v s q w) := by
  subst e1 e2 e3 e4 e5
  exact do_any kd bank cell b cut fb noise hd (hS.imp fun _ h => h.1) (hS.imp fun _ h => h.2) hn hb hf
def sB0 : List (List Int) := newBk [2, 1]
def sF0 : List ByteArray := newL 128
def sF1 : List ByteArray := wrL sF0 1 (fullS 97) 3
def sS : ByteArray := rdS sF1 1
def sB1 : List (List Int) := fpL sB0 1 2 true
theorem sB0_eq : sB0 = [[0, 0, 0, 0, 0, 0], [0, 0, 0]] := by decide +kernel
theorem sB1_eq : sB1 = [[0, 0, 0, 0, 0, 0], [0, 0, 1]] := by decide +kernel
theorem sB0_ok : OkBk sB0 := by rw [sB0_eq]; unfold OkBk; decide
theorem sB1_ok : OkBk sB1 := by rw [sB1_eq]; unfold OkBk; decide
theorem sF0_len : sF0.length = 128 := by unfold sF0 newL; rw [if_neg (by decide)]; simp
theorem sF1_len : sF1.length = 128 := by unfold sF1; rw [wrL_len, sF0_len]
theorem sF0_ok : OkFl sF0 := by
  refine ⟨by rw [sF0_len]; omega, fun s hs => ?_⟩
  unfold sF0 newL at hs
  rw [if_neg (by decide)] at hs
  rw [(List.mem_replicate.1 hs).2]
  decide +kernel
theorem sF1_ok : OkFl sF1 := sF0_ok.wrL 1 (fullS 97) 3
theorem newBe21 : newBe [2, 1] = 0 := by decide +kernel
theorem noB : noBytes ⟨#[]⟩ = true := by decide +kernel
theorem full97 : (fullS 97).size = 256 := full_size 97
theorem wr1E : wrE sF0 1 (fullS 97) = 0 := by unfold wrE; rw [sF0_len, if_neg (by omega), if_pos full97]
theorem d1E : doE sB0 sF0 4 0 1 (fullS 97) = 0 := by simp [doE, okK, errK, wr1E]
theorem d1F : doFl sB0 sF0 4 0 1 (fullS 97) true 3 = sF1 := by simp [doFl, d1E]; rfl
theorem d1B : doBk sB0 sF0 4 0 1 (fullS 97) true = sB0 := by simp [doBk]
theorem d1V : doV sB0 sF0 4 0 1 (fullS 97) true false = 0 := by simp [doV]
theorem d1S : doS sB0 sF0 4 0 1 (fullS 97) true = ⟨#[]⟩ := by simp [doS]
theorem rd2E : rdE sF1 1 = 0 := by unfold rdE; rw [sF1_len, if_pos (by omega)]
theorem d2E : doE sB0 sF1 3 0 1 ⟨#[]⟩ = 0 := by simp [doE, okK, errK, rd2E, noB]
theorem d2F : doFl sB0 sF1 3 0 1 ⟨#[]⟩ false 0 = sF1 := by simp [doFl]
theorem d2B : doBk sB0 sF1 3 0 1 ⟨#[]⟩ false = sB0 := by simp [doBk]
theorem d2V : doV sB0 sF1 3 0 1 ⟨#[]⟩ false false = 0 := by simp [doV]
theorem d2S : doS sB0 sF1 3 0 1 ⟨#[]⟩ false = sS := by simp [doS, d2E]; rfl
theorem ex3 : frE sB0 1 2 = 0 := by rw [sB0_eq]; decide +kernel
theorem d3E : doE sB0 sF1 2 1 2 ⟨#[]⟩ = 0 := by simp [doE, okK, errK, ex3, noB]
theorem d3F : doFl sB0 sF1 2 1 2 ⟨#[]⟩ true 0 = sF1 := by simp [doFl]
theorem d3B : doBk sB0 sF1 2 1 2 ⟨#[]⟩ true = sB1 := by simp [doBk, d3E]; rfl
theorem d3V : doV sB0 sF1 2 1 2 ⟨#[]⟩ true false = 0 := by simp [doV]
theorem d3S : doS sB0 sF1 2 1 2 ⟨#[]⟩ true = ⟨#[]⟩ := by simp [doS]
theorem ex4 : frE sB1 1 2 = 0 := by rw [sB1_eq]; decide +kernel
theorem d4E : doE sB1 sF1 1 1 2 ⟨#[]⟩ = 0 := by simp [doE, okK, errK, ex4, noB]
theorem d4F : doFl sB1 sF1 1 1 2 ⟨#[]⟩ false 0 = sF1 := by simp [doFl]
theorem d4B : doBk sB1 sF1 1 1 2 ⟨#[]⟩ false = sB1 := by simp [doBk]
theorem d4V : doV sB1 sF1 1 1 2 ⟨#[]⟩ false true = 1 := by simp [doV, d4E]; rw [sB1_eq]; decide +kernel
theorem d5V : doV sB1 sF1 1 1 2 ⟨#[]⟩ false false = 0 := by simp [doV, d4E]; rw [sB1_eq]; decide +kernel
theorem d4S : doS sB1 sF1 1 1 2 ⟨#[]⟩ false = ⟨#[]⟩ := by simp [doS]
theorem d6E : doE sB0 sF0 5 0 0 ⟨#[]⟩ = 1 := by simp [doE, okK]
theorem d6F : doFl sB0 sF0 5 0 0 ⟨#[]⟩ false 0 = sF0 := by simp [doFl]
theorem d6B : doBk sB0 sF0 5 0 0 ⟨#[]⟩ false = sB0 := by simp [doBk]
theorem d6V : doV sB0 sF0 5 0 0 ⟨#[]⟩ false false = 0 := by simp [doV]
theorem d6S : doS sB0 sF0 5 0 0 ⟨#[]⟩ false = ⟨#[]⟩ := by simp [doS]
theorem sS_size : sS.size = 256 := by decide +kernel
theorem sS_four : sS.extract 0 4 = ⟨#[97, 97, 97, 0]⟩ := by decide +kernel
theorem sF_ne : sameB sF0 sF1 = false := decide_eq_false fun e => by
  have h1 : rdS sF0 1 = rdS sF1 1 := by rw [e]
  have h2 : (rdS sF0 1).extract 0 4 = ⟨#[97, 97, 97, 0]⟩ := by rw [h1]; exact sS_four
  exact absurd h2 (by decide +kernel)
end Dv
end Go.Proofs.Ytkfhekocbfednaa
namespace Go.Proofs.Ytkfhekocbfednaa
set_option linter.unusedVariables false
set_option linter.unusedSimpArgs false
open Go.RowKit Go.Proofs.YtkfhekocbfednaaW.PrintWords
section
variable {P : Program} {ops : Array Oper} {Q : Exit → Act → World → Prop}
theorem loadRowG_ {rest : List Oper} {oi : Oper} {a : Act} {w : World} {ty : TypeId} {p : Operand} (N : Option Tmp) (hd' : oi.dst = N) (hw : Region.wanted oi (yielded ops a.tmps) = true) (hop : oi.op = .load ty p) (g : Nat) (t : TypeId) (cs : Array Value) (fr : Nat × Nat) (d : TypeDesc) (hp : a.eval p = .pointer (some ⟨g, 0, none⟩))
    (hg : w.heap[g]? = some (.cells cs t fr)) (hu : P.underlying ty = some d) (hd : (match d with | .struct _ | .array _ _ => true | _ => false) = true) (hi : (P.info? ty).map (·.size) = some cs.size)
    (h : wpList P ops Q rest (a.put N (.agg cs)) w) : wpList P ops Q (oi :: rest) a w := by
  refine wpList_step fun K hK => ?_
  rw [if_pos hw]
  unfold Oper.wp
  rw [load_row g t cs fr d hop hp hg hu hd hi]
  subst hd'
  exact hK _ _ h
theorem loadMidG_ {rest : List Oper} {oi : Oper} {a : Act} {w : World} {ty : TypeId} {p : Operand} (N : Option Tmp) (hd' : oi.dst = N) (hw : Region.wanted oi (yielded ops a.tmps) = true) (hop : oi.op = .load ty p) (g o : Nat) (cs : Array Value) (d : TypeDesc) (hp : a.eval p = .pointer (some ⟨g, o, none⟩))
    (hc : ∀ j v, cs[j]? = some v → w.cell? ⟨g, o + j, none⟩ = some v) (hu : P.underlying ty = some d) (hd : d.isRow = true) (hi : (P.info? ty).map (·.size) = some cs.size)
    (h : wpList P ops Q rest (a.put N (.agg cs)) w) : wpList P ops Q (oi :: rest) a w := by
  refine wpList_step fun K hK => ?_
  rw [if_pos hw]
  have hl := run_loadVar_mid w g o ty cs.toList d (fun j v hv => hc j v (by simpa using hv)) hu hd (by simpa using hi)
  have hr : (execOp a.eval oi).run P w = .ok (.value (.agg cs)) w := by
    unfold execOp
    simp [hop, hp, Instr.loadAt, Instr.sureAddr, hl]
  unfold Oper.wp
  rw [hr]
  subst hd'
  exact hK _ _ h
end
theorem St.as {w0 w : World} {S : Nat → Prop} {ds : List (World → Prop)} {os : List Blk} (h : St w0 S ds os w) (os' : List Blk) (e : os = os') : St w0 S ds os' w := e ▸ h
namespace Dv
open Go.Proofs.Ytkfhekocbfednaa.Fu Go.Proofs.Ytkfhekocbfednaa.Fl
def r5 : Nat → Int
  | 0 => 5
  | _ => 0
theorem new5 {w : World} {A : Option Addr} {n c : Nat} {S : Nat → Prop} (hd : ∀ k, S k → k < w.heap.size) (hr : Kd.C (Kd.int .i64) w A n [2, 1]) :
    Calls Try.prog 12 #[.agg #[.int .u8 5, .int .u8 0, .int .u8 0, .int .u8 0, .int .u8 0, .int .u8 0, .int .u8 0, .int .u8 0, .int .u8 0, .int .u8 0, .int .u8 0, .int .u8 0, .int .u8 0, .int .u8 0, .int .u8 0, .int .u8 0], .slice A n c] w (NewRes S r5 sB0 sF0 0 w) :=
  dnew_all S r5 hd hr newBe21
theorem sB0_n : sB0.length ≤ 1000 := by rw [sB0_eq]; decide
theorem eq_r5 (w : World) : (Op.equalIn 10000 29 (.agg (rtA r5)) (.agg #[.int .u8 5, .int .u8 0, .int .u8 0, .int .u8 0, .int .u8 0, .int .u8 0, .int .u8 0, .int .u8 0, .int .u8 0, .int .u8 0, .int .u8 0, .int .u8 0, .int .u8 0, .int .u8 0, .int .u8 0, .int .u8 0])).run Try.prog w = .ok true w :=
  (eq_root r5 r5 w).trans (by rw [show rootEq r5 r5 = true from by decide])
abbrev Dev (A : Option Addr) (c : Nat) (hs : List Hdr) (bk : List (List Int)) (B : Option Addr) (d : Nat) (fl : List ByteArray) : World → Prop := fun w => Fu w A sB0.length c hs bk ∧ Fl w B sF0.length d fl
theorem same_at {A A' B B' : Option Addr} {c c' d d' : Nat} {hs hs' : List Hdr} {bk bk' : List (List Int)} {fl fl' : List ByteArray} {w : World} (q : Bool) (h : Dev A c hs bk B d fl w) (h' : Dev A' c' hs' bk' B' d' fl' w) (e : sameH r5 r5 fl fl' bk bk' = q) :
    Calls Try.prog 15 #[.agg (hwC (.slice A sB0.length c) (.slice B sF0.length d) r5), .agg (hwC (.slice A' sB0.length c') (.slice B' sF0.length d') r5)] w fun e w' => e = .returned (.bool q) ∧ Below w.heap.size w w' := by
  rw [← e]; exact dsame_any h.1 h.2 h'.1 h'.2
theorem same_xy : sameH r5 r5 sF1 sF1 sB0 sB0 = true := by
  unfold sameH sameB
  rw [show rootEq r5 r5 = true from by decide, decide_eq_true rfl, decide_eq_true rfl]; rfl
theorem same_hx : sameH r5 r5 sF0 sF1 sB0 sB0 = false := by
  unfold sameH
  rw [sF_ne, Bool.false_and, Bool.and_false]
structure Sg where
  g3 : Nat
  g4 : Nat
  A : Option Addr
  c : Nat
  hs : List Hdr
  B : Option Addr
  d : Nat
  S : Nat → Prop
end Dv
end Go.Proofs.Ytkfhekocbfednaa
namespace Go.Proofs.Ytkfhekocbfednaa.Dv
set_option linter.unusedVariables false
set_option linter.unusedSimpArgs false
open Go.RowKit Go.Proofs.Ytkfhekocbfednaa Go.Proofs.YtkfhekocbfednaaW.PrintWords Go.Proofs.YtkfhekocbfednaaW.PrintLast Go.Proofs.YtkfhekocbfednaaW.PrintMore
open Go.Proofs.Ytkfhekocbfednaa.Fu Go.Proofs.Ytkfhekocbfednaa.Fl
theorem cell_heap {w w' : World} (e : w'.heap = w.heap) (a : Addr) : w'.cell? a = w.cell? a := by simp only [World.cell?, e]
end Go.Proofs.Ytkfhekocbfednaa.Dv
end
