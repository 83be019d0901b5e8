/- Part of the proof of deviceTorn_holds: what later parts use. -/
import Derived.Test.YtkfhekocbfednaaZt0
import Derived.Test.YtkfhekocbfednaaZt1
import Derived.Test.YtkfhekocbfednaaZt2
import Derived.Test.YtkfhekocbfednaaZt3
import Derived.Test.YtkfhekocbfednaaZt4
import Derived.Test.YtkfhekocbfednaaZt5
import Derived.Test.YtkfhekocbfednaaZt6
import Derived.Test.YtkfhekocbfednaaZt7
import Derived.Test.YtkfhekocbfednaaZt8
import Derived.Test.YtkfhekocbfednaaZt9
import Derived.Deep.RegionHeld3
section
namespace Go.Proofs.Ytkfhekocbfednaa.Fu
set_option linter.unusedVariables false
set_option linter.unusedSimpArgs false
open Go.RowKit Go.Proofs.Ytkfhekocbfednaa Go.Proofs.YtkfhekocbfednaaW.PrintWords Go.Proofs.YtkfhekocbfednaaW.PrintLast Go.Proofs.YtkfhekocbfednaaW.PrintMore
def FuseRes (S : Nat → Prop) (bk : List (List Int)) (n : Nat) (code : Int) (w : World) (e : Ending) (w' : World) : Prop :=
  ∃ A c hs, e = .returned (.tuple #[.agg #[.slice A n c], .int .i64 code]) ∧ Back S w w' (fun w => Fu w A n c hs bk)
def nextC (c : Int) (cut : Bool) : Int := if c = 2 ∨ c = 3 then c else if cut then 1 else 2
def pulseL (bk : List (List Int)) (b c : Int) (cut : Bool) : List (List Int) := bk.set b.toNat ((rowOf bk b).set c.toNat (nextC (rd (rowOf bk b) c) cut))
theorem Fu.pulse {w : World} {A : Option Addr} {n d m g1 g2 co1 co2 : Nat} {hs : List Hdr} {bk : List (List Int)} {xs : List Int} {rest1 rest2 : List Value} {i : Nat} {t1 t2 : TypeId}
    (h : Fu w A n d hs bk) (hi : i < n) (hxs : xs.length = m) (hm : m ≤ co2) (hc : n ≤ co1) (hx : m ≤ 9223372036854775807)
    (b1 : w.heap[g1]? = some (.cells (rowBlk encH (hs.set i (some ⟨g2, 0, none⟩, m, co2)) rest1) t1 (0, 0)))
    (b2 : w.heap[g2]? = some (.cells (rowBlk (Value.int .u8) xs rest2) t2 (0, 0))) :
    Fu w (some ⟨g1, 0, none⟩) n co1 (hs.set i (some ⟨g2, 0, none⟩, m, co2)) (bk.set i xs) := by
  have hl := h.hlen
  have hC := C_of_rowBlk (h1 := fun _ => rfl) b1 (by rw [List.length_set, hl]; exact h.max)
  rw [List.length_set, hl] at hC
  refine ⟨hC, by rw [List.length_set]; exact h.len, hc, fun j t hj => ?_⟩
  rw [List.getElem?_set] at hj
  by_cases e : i = j
  · subst e
    rw [if_pos rfl, if_pos (by omega)] at hj
    cases hj
    refine ⟨xs, by rw [List.getElem?_set, if_pos rfl, if_pos (by have := h.len; omega)], hxs.symm, by rw [hxs]; exact hm, ?_⟩
    exact C_of_rowBlk (h1 := fun _ => rfl) b2 (by omega)
  · rw [if_neg e] at hj
    obtain ⟨ys, h1, h2⟩ := h.row j t hj
    exact ⟨ys, by rw [List.getElem?_set, if_neg e]; exact h1, h2⟩
theorem pulse_end {w w3 : World} {S : Nat → Prop} {os : List Blk} {ad : Addr} {n d m g0 g1 g2 co1 co2 i j : Nat} {hs : List Hdr} {bk : List (List Int)} {xs : List Int} {rest1 rest2 : List Value} {t1 t2 t : TypeId} {z : Value} (nv : Int)
    (H : St w S [fun w => Fu w (some ad) n d hs bk] os w3) (i1 : os[1]? = some (g0, #[z], t)) (i2 : os[2]? = some (g1, rowBlk encH hs rest1, t1)) (i3 : os[3]? = some (g2, rowBlk (Value.int .u8) xs rest2, t2))
    (hi : i < n) (hj : j < m) (hxs : xs.length = m) (hm : m ≤ co2) (hc : n ≤ co1) (hmx : m ≤ 1000000) :
    (((w3.setCell ⟨g1, i, none⟩ (.slice (some ⟨g2, 0, none⟩) m co2)).setCell ⟨g2, j, none⟩ (.int .u8 nv)).setCell ⟨g0, 0, none⟩ (.slice (some ⟨g1, 0, none⟩) n co1)).heap[g0]? = some (.cells #[.slice (some ⟨g1, 0, none⟩) n co1] t (0, 0)) ∧
    Back S w (((w3.setCell ⟨g1, i, none⟩ (.slice (some ⟨g2, 0, none⟩) m co2)).setCell ⟨g2, j, none⟩ (.int .u8 nv)).setCell ⟨g0, 0, none⟩ (.slice (some ⟨g1, 0, none⟩) n co1))
      (fun w => Fu w (some ⟨g1, 0, none⟩) n co1 (hs.set i (some ⟨g2, 0, none⟩, m, co2)) (bk.set i (xs.set j nv))) := by
  have hF : Fu w3 (some ad) n d hs bk := H.at 0 rfl
  have hl := hF.hlen
  have H5 := H.set 2 i2 i (.slice (some ⟨g2, 0, none⟩) m co2)
  have e5 : (rowBlk encH hs rest1).setIfInBounds i (.slice (some ⟨g2, 0, none⟩) m co2) = rowBlk encH (hs.set i (some ⟨g2, 0, none⟩, m, co2)) rest1 := rowBlk_set (enc := encH) hs rest1 i (some ⟨g2, 0, none⟩, m, co2) (by omega)
  rw [e5] at H5
  have l3 : 3 < os.length := (List.getElem?_eq_some_iff.1 i3).1
  have H6 := H5.set 3 (by rw [List.getElem?_set_ne (by decide)]; exact i3) j (.int .u8 nv)
  rw [rowBlk_set xs rest2 j nv (by omega)] at H6
  have H7 := H6.set 1 (by rw [List.getElem?_set_ne (by decide), List.getElem?_set_ne (by decide)]; exact i1) 0 (.slice (some ⟨g1, 0, none⟩) n co1)
  refine ⟨H7.blk 1 (by rw [List.getElem?_set_self (by simp; omega)]; rfl), H7.done' ?_⟩
  have s1 := H7.sureNew 0 rfl
  have s2 := H7.sureBlk 2 (g := g1) (cs := rowBlk encH (hs.set i (some ⟨g2, 0, none⟩, m, co2)) rest1) (t := t1) (by rw [List.getElem?_set_ne (by decide), List.getElem?_set_ne (by decide), List.getElem?_set_self (by omega)])
  have s3 := H7.sureBlk 3 (g := g2) (cs := rowBlk (Value.int .u8) (xs.set j nv) rest2) (t := t2) (by rw [List.getElem?_set_ne (by decide), List.getElem?_set_self (by simp; omega)])
  exact (s1.and (s2.and s3)).imp fun w' h => Fu.pulse h.1 hi (by rw [List.length_set]; exact hxs) hm hc (by omega) h.2.1 h.2.2
set_option maxRecDepth 100000 in
set_option maxHeartbeats 8000000 in
theorem pulse_yes {A : Option Addr} {n d : Nat} {hs : List Hdr} {bk : List (List Int)} {w : World} {S : Nat → Prop} (b c : Int) (cut : Bool) (hd : ∀ k, S k → k < w.heap.size) (hf : Sure S w (fun w => Fu w A n d hs bk))
    (he : existsB bk b c = true) (hn : n ≤ 1000) (hrow : (rowOf bk b).length ≤ 1000) :
    Calls Try.prog 42 #[.agg #[.slice A n d], .int .i64 b, .int .i64 c, .bool cut] w (FuseRes S (pulseL bk b c cut) n 0 w) := by
  have h := hf.here
  have HE := Aside0.mk he
  obtain ⟨h1, h2, h3, h4⟩ := exists_facts he
  have h2' : b < (n : Int) := by have := h.len; omega
  obtain ⟨ad, B, e, rfl, hh, hx, hle, hC⟩ := h.at b h1 h2'
  obtain ⟨bd, rfl, hy⟩ := Kd.at_int hC c h3 h4
  obtain ⟨xs, hxs⟩ : ∃ xs, rowOf bk b = xs := ⟨_, rfl⟩
  obtain ⟨v, hv⟩ : ∃ v, rd xs c = v := ⟨_, rfl⟩
  obtain ⟨m, hm⟩ : ∃ m, xs.length = m := ⟨_, rfl⟩
  rw [hxs] at hx hle hC hy h4 hrow hh
  rw [hv] at hy
  rw [hm] at hx hle hC h4 hrow hh
  have HX := Aside0.mk hxs
  have HV := Aside0.mk hv
  have HM := Aside0.mk hm
  have HH := Aside0.mk hh
  have HC := Aside0.mk hC
  have HL := Aside0.mk h.hlen
  have EQ := Aside0.mk (show pulseL bk b c cut = bk.set b.toNat (xs.set c.toNat (nextC v cut)) by unfold pulseL; rw [hxs, hv])
  clear hxs hv hm hh hC he h2
  have h0 := St.enter1 hd hf
  have H0 := Aside0.mk (h0.alloc2 #[.slice (some ad) n d] 24 #[.slice none 0 0] 24)
  have HF := Aside0.mk h
  clear hf h h0
  have hm0 : 0 < m := by omega
  have hn0 : 0 < n := by omega
  have hbm : b.toNat < n := by omega
  have hcm : c.toNat < m := by omega
  have K : (v = 2 ∨ v = 3 ∨ (v == 2) = false ∧ (v == 3) = false) := by
    by_cases h2 : v = 2
    · exact .inl h2
    · by_cases h3 : v = 3
      · exact .inr (.inl h3)
      · exact .inr (.inr ⟨beq_eq_false_iff_ne.2 h2, beq_eq_false_iff_ne.2 h3⟩)
  rcases K with rfl | rfl | ⟨e1, e2⟩ <;> cases cut
  all_goals
    go_enter Try.func42, Try.ntmps42
    go_wp2_with (first | (go_at_call 55; refine (exists_yes (HF.out.below H0.out.bel) HE.out).mono ?_; rintro e w1 ⟨rfl, hb⟩; have H1 := Aside0.mk (H0.out.step hb); have hx1 := pw_cell_below H1.out.bel hx; have hy1 := pw_cell_below H1.out.bel hy; have k0 := H1.out.cell 0 rfl 0 rfl; have f0 := H1.out.free 0 rfl 0; clear hb) | (go_at_call 56; refine (cloneH (Kd.C_below HF.out.C H1.out.bel) hn0 (by omega)).mono ?_; rintro e w2 ⟨g1, co1, rest1, rfl, hB1, hco1, hg1, hb⟩; have H2 := Aside0.mk (H1.out.adopt hb hB1 hg1); have k0' := H2.out.cell 0 rfl 0 rfl; have f0' := H2.out.free 0 rfl 0; clear hb hB1))
    have H3 := Aside0.mk (H2.out.set 0 rfl 0 (.slice (some ⟨g1, 0, none⟩) n co1)).drew
    have k3 := H3.out.cell 0 rfl 0 rfl
    have r3 := H3.out.cell 2 rfl b.toNat (rowBlk_get hs rest1 ((none, 0, 0) : Hdr) b.toNat (by rw [HL.out]; exact hbm))
    rw [show hs.getD b.toNat (none, 0, 0) = (some bd, m, e) by rw [List.getD, HH.out]; rfl] at r3
    go_region_with (first | (go_at_call 57; refine (cloneB (Kd.C_below HC.out H3.out.bel) hm0 (by omega)).mono ?_; rintro e w3 ⟨g2, co2, rest2, rfl, hB2, hco2, hg2, hb⟩; have H4 := Aside0.mk (H3.out.adopt hb hB2 hg2); have k4 := H4.out.cell 0 rfl 0 rfl; have r4 := H4.out.cell 2 rfl b.toNat (rowBlk_get hs rest1 ((none, 0, 0) : Hdr) b.toNat (by rw [HL.out]; exact hbm)); have f4 := H4.out.free 2 rfl b.toNat; clear hb hB2) | fail)
    all_goals
      have H5 := Aside0.mk (H4.out.set 2 rfl b.toNat (.slice (some ⟨g2, 0, none⟩) m co2))
      have k5 := H5.out.cell 0 rfl 0 rfl
      have b2 : b.toNat < hs.length := by rw [HL.out]; exact hbm
      have r5 := H5.out.cell 2 rfl b.toNat (v := .slice (some ⟨g2, 0, none⟩) m co2) (set_get (by rw [rowBlk_size]; omega))
      have v5 := H5.out.cell 3 rfl c.toNat (rowBlk_get xs rest2 (0 : Int) c.toNat (by rw [HM.out]; exact hcm))
      have f5 := H5.out.free 3 rfl c.toNat
      have z5 := H5.out.cell 1 rfl 0 rfl
      have y5 := H5.out.free 1 rfl 0
      have n02 := H5.out.ne 0 3 rfl rfl (by decide)
      have n02' := n02.symm
      have n12 := H5.out.ne 1 3 rfl rfl (by decide)
      have n12' := n12.symm
      clear b2 k4 r4 f4 k3 r3
      go_wp2
      have HP := fun nv => pulse_end (j := c.toNat) nv H4.out rfl rfl rfl hbm hcm HM.out hco2 hco1 (by omega)
      refine bodyPost_ret (results_ct rfl _ _ (w.heap.size + 1) 24 #[.slice (some ⟨g1, 0, none⟩) n co1] (0, 0) _ rfl (HP _).1 Try.underlying24 rfl (by kernel_rfl)) rfl ?_
      first
        | (rw [EQ.out, show nextC 2 _ = 2 from by simp [nextC]]; exact ⟨_, _, _, rfl, (HP _).2⟩)
        | (rw [EQ.out, show nextC 3 _ = 3 from by simp [nextC]]; exact ⟨_, _, _, rfl, (HP _).2⟩)
        | (rw [EQ.out, show nextC v true = 1 from by have := beq_eq_false_iff_ne.1 e1; have := beq_eq_false_iff_ne.1 e2; simp [nextC, *]]; exact ⟨_, _, _, rfl, (HP _).2⟩)
        | (rw [EQ.out, show nextC v false = 2 from by have := beq_eq_false_iff_ne.1 e1; have := beq_eq_false_iff_ne.1 e2; simp [nextC, *]]; exact ⟨_, _, _, rfl, (HP _).2⟩)
set_option maxRecDepth 100000 in
set_option maxHeartbeats 2000000 in
theorem pulse_no {A : Option Addr} {n d : Nat} {hs : List Hdr} {bk : List (List Int)} {w : World} {S : Nat → Prop} (b c : Int) (cut : Bool) (hd : ∀ k, S k → k < w.heap.size) (hf : Sure S w (fun w => Fu w A n d hs bk))
    (he : existsB bk b c = false) :
    Calls Try.prog 42 #[.agg #[.slice A n d], .int .i64 b, .int .i64 c, .bool cut] w (FuseRes S bk n 1 w) := by
  have HF := Aside0.mk hf.here
  have HE := Aside0.mk he
  have H0 := Aside0.mk ((St.enter1 hd hf).alloc2 #[.slice A n d] 24 #[.slice none 0 0] 24)
  clear he hf hd
  go_enter Try.func42, Try.ntmps42
  go_wp2_with (first | (go_at_call 55; refine (exists_no (HF.out.below H0.out.bel) HE.out).mono ?_; rintro e w1 ⟨rfl, hb⟩; have H1 := Aside0.mk (H0.out.step hb); have k0 := H1.out.cell 0 rfl 0 rfl; have k1 := H1.out.cell 1 rfl 0 rfl; have f1 := H1.out.free 1 rfl 0; clear hb))
  have H2 := H1.out.set 1 rfl 0 (.slice A n d)
  refine bodyPost_ret (results_ct rfl _ _ (w.heap.size + 1) 24 #[.slice A n d] (0, 0) _ rfl (H2.blk 1 rfl) Try.underlying24 rfl (by kernel_rfl)) rfl ?_
  exact ⟨A, d, hs, rfl, H2.done' (H2.sureNew 0 rfl)⟩
def fpL (bk : List (List Int)) (b c : Int) (cut : Bool) : List (List Int) := if existsB bk b c then pulseL bk b c cut else bk
theorem pulse_any {A : Option Addr} {n d : Nat} {hs : List Hdr} {bk : List (List Int)} {w : World} {S : Nat → Prop} (b c : Int) (cut : Bool) (hd : ∀ k, S k → k < w.heap.size) (hf : Sure S w (fun w => Fu w A n d hs bk))
    (hn : n ≤ 1000) (hrow : (rowOf bk b).length ≤ 1000) :
    Calls Try.prog 42 #[.agg #[.slice A n d], .int .i64 b, .int .i64 c, .bool cut] w (FuseRes S (fpL bk b c cut) n (frE bk b c) w) := by
  unfold fpL frE
  cases he : existsB bk b c with
  | true => exact pulse_yes b c cut hd hf he hn hrow
  | false => exact pulse_no b c cut hd hf he
end Go.Proofs.Ytkfhekocbfednaa.Fu
end
