/- Part of the proof of deviceSeparate_holds, deviceAll_holds, deviceMonotonic_holds: what later parts use. -/
import Derived.Test.YtkfhekocbfednaaZu0
import Derived.Test.YtkfhekocbfednaaZu1
import Derived.Test.YtkfhekocbfednaaZu2
import Derived.Test.YtkfhekocbfednaaZu3
import Derived.Test.YtkfhekocbfednaaZu4
import Derived.Test.YtkfhekocbfednaaZu5
import Derived.Test.YtkfhekocbfednaaZu6
import Derived.Test.YtkfhekocbfednaaZu7
import Derived.Test.YtkfhekocbfednaaZu8
import Derived.Test.YtkfhekocbfednaaZu9
import Derived.Test.YtkfhekocbfednaaZu10
import Derived.Test.YtkfhekocbfednaaZu11
import Derived.Test.YtkfhekocbfednaaZu12
import Derived.Test.YtkfhekocbfednaaZu13
import Derived.Test.YtkfhekocbfednaaZu14
import Derived.Test.YtkfhekocbfednaaZu15
import Derived.Test.YtkfhekocbfednaaZu16
import Derived.Test.YtkfhekocbfednaaZu17
import Derived.Test.YtkfhekocbfednaaZu18
import Derived.Test.YtkfhekocbfednaaZu19
import Derived.Test.YtkfhekocbfednaaZu20
import Derived.Test.YtkfhekocbfednaaZu21
import Derived.Test.YtkfhekocbfednaaZu22
import Derived.Test.YtkfhekocbfednaaZu23
import Derived.Test.YtkfhekocbfednaaZu24
import Derived.Test.YtkfhekocbfednaaZu25
import Derived.Test.YtkfhekocbfednaaZu26
import Derived.Test.YtkfhekocbfednaaZu27
import Derived.Test.YtkfhekocbfednaaZu28
import Derived.Test.YtkfhekocbfednaaZu29
import Derived.Test.YtkfhekocbfednaaZu30
import Derived.Test.YtkfhekocbfednaaZu31
import Derived.Laws.StructEq
section
namespace Go.Proofs.Ytkfhekocbfednaa.Fu
set_option linter.unusedVariables false
set_option linter.unusedSimpArgs false
open Go.RowKit Go.Proofs.Ytkfhekocbfednaa Go.Proofs.YtkfhekocbfednaaW.PrintWords Go.Proofs.YtkfhekocbfednaaW.PrintLast Go.Proofs.YtkfhekocbfednaaW.PrintMore
def rv3 (xs : List Int) (k j : Nat) : Int := (if 0 < j then readV (xs.getD (3 * k) 0) false else 0) + (if 1 < j then readV (xs.getD (3 * k + 1) 0) false else 0) + (if 2 < j then readV (xs.getD (3 * k + 2) 0) false else 0)
def lvl (xs : List Int) : Nat → Nat → Int
  | 0, i => i
  | q + 1, i => if rv3 xs i 3 * 2 ≤ 3 then i else lvl xs q (i + 1)
def leastL (xs : List Int) : Int := lvl xs (xs.length / 3) 0
theorem readV_01 (c : Int) (b : Bool) : 0 ≤ readV c b ∧ readV c b ≤ 1 := by unfold readV; split <;> omega
theorem rv3_next (xs : List Int) (k j : Nat) (h : j < 3) : rv3 xs k j + readV (xs.getD (3 * k + j) 0) false = rv3 xs k (j + 1) := by
  have : j = 0 ∨ j = 1 ∨ j = 2 := by omega
  rcases this with rfl | rfl | rfl
  · simp [rv3]
  · simp [rv3]
  · simp [rv3]
theorem rv3_max (xs : List Int) (k j : Nat) : 0 ≤ rv3 xs k j ∧ rv3 xs k j ≤ 3 := by
  have h0 := readV_01 (xs.getD (3 * k) 0) false
  have h1 := readV_01 (xs.getD (3 * k + 1) 0) false
  have h2 := readV_01 (xs.getD (3 * k + 2) 0) false
  unfold rv3
  split <;> split <;> split <;> omega
set_option maxRecDepth 100000 in
set_option maxHeartbeats 1000000 in
theorem width_any {A : Option Addr} {n d : Nat} {hs : List Hdr} {bk : List (List Int)} {w : World} (b : Int) (h : Fu w A n d hs bk) (h0 : 0 ≤ b) (h1 : b < (n : Int)) :
    Calls Try.prog 54 #[.agg #[.slice A n d], .int .i64 b] w fun e w' => e = .returned (.int .i64 (((rowOf bk b).length / 3 : Nat) : Int)) ∧ Below w.heap.size w w' := by
  have hn := h.max
  have HB := Aside0.mk (W1_below A n d w)
  obtain ⟨ad, B, e, rfl, _, hx, hle, hC⟩ := h.at b h0 h1
  have hx1 := pw_cell_below HB.out hx
  have hm : (rowOf bk b).length ≤ 9223372036854775807 := hC.2.1
  clear h hC hx
  go_enter Try.func54, Try.ntmps54
  go_wp2
  go_ret
  exact ⟨by simp, HB.out⟩
theorem least1_any (c : Int) (w : World) : Calls Try.prog 36 #[.int .u8 c] w fun e w' => e = .returned (.int .i64 (readV c false)) ∧ w = w' := by
  go_enter Try.func36, Try.ntmps36
  go_wp2_with (go_at_call 37; refine (reading_any _ _ _).mono ?_; rintro e w' ⟨rfl, rfl⟩)
  go_ret
  exact ⟨rfl, rfl⟩
set_option maxRecDepth 100000 in
set_option maxHeartbeats 8000000 in
theorem level_any {A : Option Addr} {n d : Nat} {hs : List Hdr} {bk : List (List Int)} {w : World} (b : Int) (h : Fu w A n d hs bk) (h0 : 0 ≤ b) (h1 : b < (n : Int)) (hlen : (rowOf bk b).length ≤ 1000) :
    Calls Try.prog 35 #[.agg #[.slice A n d], .int .i64 b, .func (.func 36) #[] #[]] w fun e w' => e = .returned (.int .i64 (leastL (rowOf bk b))) ∧ Below w.heap.size w w' := by
  have hn := h.max
  have H0 := Aside0.mk ((St.enter1 (S := fun k => k < w.heap.size) (p := fun _ => True) (fun _ h => h) (fun _ _ => trivial)).alloc #[.slice A n d] 24)
  obtain ⟨ad, B, e, rfl, _, hx, hle, hC⟩ := h.at b h0 h1
  have HF := Aside0.mk (h.below H0.out.bel)
  have HX := Aside0.mk (fun W hb => pw_cell_below hb hx : ∀ W, Below w.heap.size w W → W.cell? (ad.add b.toNat) = some (.slice B (rowOf bk b).length e))
  obtain ⟨xs, hxs⟩ : ∃ xs, rowOf bk b = xs := ⟨_, rfl⟩
  obtain ⟨m, hm⟩ : ∃ m, xs.length = m := ⟨_, rfl⟩
  rw [hxs] at HX hle hC hlen
  rw [hm] at HX hle hlen hC
  have W := Aside0.mk (hxs ▸ width_any b HF.out h0 h1)
  rw [hm] at W
  obtain ⟨p, hp⟩ : ∃ p, m / 3 = p := ⟨_, rfl⟩
  rw [hp] at W
  have hp3 : p * 3 ≤ m := by omega
  have LP := Aside0.mk (show leastL xs = lvl xs p 0 by unfold leastL; rw [hm, hp])
  rw [hxs]
  have M := Aside0.mk hm
  have HC := Aside0.mk (fun W hb => Kd.C_below hC hb : ∀ W, Below w.heap.size w W → Kd.C (Kd.int .u8) W B m xs)
  clear h hx hC hxs hm HF hp
  go_enter Try.func35, Try.ntmps35
  go_wp2_with (go_at_call 54; refine W.out.mono ?_; rintro e w1 ⟨rfl, hb⟩; have H1 := Aside0.mk (H0.out.step hb); clear hb)
  go_loopw [16] (fun i wr => ∃ k : Nat, k ≤ p ∧ i = .int .i64 k ∧ Aside0 (lvl xs (p - k) k = lvl xs p 0) ∧ Aside0 (St w (fun k => k < w.heap.size) [fun _ => True] [(w.heap.size, #[.slice (some ad) n d], 24)] wr)) (fun i _ => p - (intOf i).toNat)
  case atStart => exact ⟨0, by omega, rfl, ⟨rfl⟩, H1⟩
  case round =>
    clear H1
    obtain ⟨k, hk, rfl, HL, H1⟩ := hrel
    by_cases hlt : k < p
    · have k0 := H1.out.cell 0 rfl 0 rfl
      have hx1 := HX.out _ H1.out.bel
      obtain ⟨bd, rfl, -⟩ := Kd.at_int (HC.out _ H1.out.bel) ((k * 3 : Nat) : Int) (by omega) (by omega)
      have HY := Aside0.mk (fun W hb t ht => by
        obtain ⟨_, e1, h1⟩ := Kd.at_int (HC.out W hb) ((k * 3 + t : Nat) : Int) (by omega) (by omega)
        cases e1
        rw [Int.toNat_natCast] at h1
        rw [Addr.add_add, h1, Nat.mul_comm 3 k]
        rfl : ∀ W, Below w.heap.size w W → ∀ t, t < 3 → W.cell? ((bd.add (k * 3)).add t) = some (.int .u8 (xs.getD (3 * k + t) 0)))
      obtain ⟨wo, rfl⟩ : ∃ wo : World, wo = wr := ⟨_, rfl⟩
      go_wp2
      have e3 : (k + 1) * 3 - k * 3 = 3 := by omega
      rw [e3, show ((3 : Nat) : Int) = 3 from rfl]
      clear e3 k0 hx1
      go_loopw [9, 31] (fun s j wr => ∃ t : Nat, t ≤ 3 ∧ j = .int .i64 t ∧ s = .int .i64 (rv3 xs k t) ∧ Aside0 (St w (fun k => k < w.heap.size) [fun _ => True] [(w.heap.size, #[.slice (some ad) n d], 24)] wr)) (fun _ j _ => 3 - (intOf j).toNat)
      case atStart => exact ⟨0, by omega, rfl, by simp [rv3], H1⟩
      case round =>
        clear H1
        obtain ⟨t, ht, rfl, rfl, H1⟩ := hrel
        by_cases htl : t < 3
        · have hy := HY.out _ H1.out.bel t htl
          have r1 := rv3_max xs k t
          have r2 := readV_01 (xs.getD (3 * k + t) 0) false
          have RN := Aside0.mk (rv3_next xs k t htl)
          obtain ⟨c, hc⟩ : ∃ c, xs.getD (3 * k + t) 0 = c := ⟨_, rfl⟩
          rw [hc] at hy r2 RN
          go_wp2_with (go_at_call 36; refine (least1_any _ _).mono ?_; rintro e w2 ⟨rfl, rfl⟩)
          go_roundw
          case rel => first | exact ⟨t + 1, by omega, by go_num, by rw [← RN.out], H1⟩ | ((repeat apply Exists.intro); exact ⟨⟨t + 1, by omega, by go_num, by rw [← RN.out], H1⟩, rfl⟩)
          case measure => simp [intOf]; omega
        · obtain rfl : t = 3 := by omega
          have r1 := rv3_max xs k 3
          have HR := Aside0.mk (show lvl xs (p - k) k = if rv3 xs k 3 * 2 ≤ 3 then (k : Int) else lvl xs (p - (k + 1)) (k + 1) by rw [show p - k = (p - (k + 1)) + 1 by omega]; rfl)
          by_cases h3 : 2 * rv3 xs k 3 ≤ 3
          · go_wp2
            go_ret
            exact ⟨by rw [LP.out, ← HL.out, HR.out, if_pos (by omega)]; rfl, H1.out.bel⟩
          · go_wp2
            go_roundw
            case rel => first | exact ⟨k + 1, by omega, by go_num, ⟨by rw [← HL.out, HR.out, if_neg (by omega)]⟩, H1⟩ | ((repeat apply Exists.intro); exact ⟨⟨k + 1, by omega, by go_num, ⟨by rw [← HL.out, HR.out, if_neg (by omega)]⟩, H1⟩, rfl⟩)
            case measure => simp [intOf]; omega
    · obtain rfl : k = p := by omega
      go_wp2
      go_ret
      exact ⟨by rw [LP.out, ← HL.out, Nat.sub_self]; rfl, H1.out.bel⟩
theorem least_any {A : Option Addr} {n d : Nat} {hs : List Hdr} {bk : List (List Int)} {w : World} (b : Int) (h : Fu w A n d hs bk) (h0 : 0 ≤ b) (h1 : b < (n : Int)) (hlen : (rowOf bk b).length ≤ 1000) :
    Calls Try.prog 20 #[.agg #[.slice A n d], .int .i64 b] w fun e w' => e = .returned (.int .i64 (leastL (rowOf bk b))) ∧ Below w.heap.size w w' := by
  have HB := Aside0.mk (W1_below A n d w)
  have HL := Aside0.mk (level_any b (h.below HB.out) h0 h1 hlen)
  clear h
  go_enter Try.func20, Try.ntmps20
  go_wp2_with (go_at_call 35; refine HL.out.mono ?_; rintro e w1 ⟨rfl, hb⟩; have HB1 := Aside0.mk (below_more HB.out hb); clear hb)
  go_ret
  exact ⟨rfl, HB1.out⟩
end Go.Proofs.Ytkfhekocbfednaa.Fu
end
