/- The walk of the laws' sanity (chapter 8). -/
import Derived.Test.YtangjehadkpecaaFlG2
import Derived.Deep.RegionHeld3
namespace Go.Proofs.Ytangjehadkpecaa.Fl
set_option linter.unusedVariables false
set_option linter.unusedSimpArgs false
open Go.RowKit Go.Proofs.YtangjehadkpecaaW.PrintWords Go.Proofs.YtangjehadkpecaaW.PrintLast Go.Proofs.YtangjehadkpecaaW.PrintMore

def l00 : List ByteArray := List.replicate 2 zeroSector
def l01 : List ByteArray := writeL l00 1 (fullS 7) 3
theorem s1_eq : ((rdOf ByteArray.empty l01 1).toList == ((⟨#[7, 7, 7]⟩ : ByteArray) ++ (fullS 0).extract 3 256).toList) = true := by decide +kernel
theorem valid_l01 : validB l01 = true := by decide +kernel
theorem valid_one : validB [⟨#[]⟩] = false := by decide +kernel
theorem same_l00 : sameB l00 l00 = true := by decide +kernel
theorem same_l01 : sameB l00 l01 = false := by decide +kernel

set_option maxRecDepth 100000 in
set_option maxHeartbeats 2000000 in
theorem sanity_any (w : World) : Calls Try.prog 9 #[] w fun e w' => e = .returned (.bool true) ∧ Below w.heap.size w w' := by
  obtain ⟨l0, hl0⟩ : ∃ l, l = List.replicate 2 zeroSector := ⟨_, rfl⟩
  have L0 := Aside0.mk hl0
  have L2 := Aside0.mk (show l0.length = 2 by rw [hl0]; rfl)
  have HO := Aside0.mk (show (rdOf ByteArray.empty l0 1).size ≤ 1000000 by rw [hl0]; show zeroSector.size ≤ _; rw [zero_full, full_size]; decide)
  clear hl0
  go_enter Try.func9, Try.ntmps9
  go_upto_region 2 with (first | (go_at_call 11; refine ((new_ok 2 _ (by decide)).mono fun _ _ h => FlashRes.toN (n := 2) h rfl).mono ?_; rintro e w1 ⟨A, c, rfl, hC, hn, hc, hb⟩; rw [← L0.out] at hC; have HF := Aside0.mk (Fl.mk hC L2.out hc); have HB1 := Aside0.mk hb; clear hC hb hc hn))
  go_cut [3, 4] (fun s3 s4 wc => ∃ g3 : Nat, s3 = .pointer (some ⟨g3, 0, none⟩) ∧ s4 = .int .i64 0 ∧ Aside0 (wc.heap[w1.heap.size]? = some (.cells #[.slice A 2 c] 24 (0, 0))) ∧ Aside0 (IsFl wc g3 2 (writeL l0 1 (fullS 7) 3)) ∧ Aside0 (Below w1.heap.size w1 wc))
  case first =>
    have HF1 := Aside0.mk (Fl.below HF.out (below_alloc (Below.refl _ _) (.cells #[.slice A 2 c] 24)))
    go_region_held3 (fun w' => w'.cell? ⟨w1.heap.size, 0, none⟩ = some (.slice A 2 c)) (first | assumption | go_keep) (first | (go_at_call 21; refine (full_any 7 _).mono ?_; rintro e w2 ⟨rfl, hb2⟩; have HB2 := Aside0.mk (below_more (w := w1.alloc (.cells #[.slice A 2 c] 24)) (by repeat (first | (with_reducible exact Below.refl _ _) | (with_reducible first | apply below_alloc | apply below_drew | apply pw_below_drewN))) hb2); obtain ⟨hcc2, hff2⟩ := bcell hb2; (try (have hz2 : w1.heap.size + 1 < w2.heap.size := by have hz := hb2.size; simp at hz; omega)); have kc2 : w2.cell? ⟨w1.heap.size, 0, none⟩ = some (.slice A 2 c) := blk_cell (blk_of HB2.out (heap_alloc_new w1 (.cells #[.slice A 2 c] 24))) 0; have ne2 : w2.heap.size ≠ w1.heap.size := World.new_ne w2 _ kc2) | (go_at_call 15; refine (write_okN 1 (fullS 7) 3 (Fl.below HF1.out (by repeat (first | exact HB2.out | (with_reducible first | apply below_alloc | apply below_drew | apply pw_below_drewN)))) (by decide) (by decide) (full_size 7) HO.out (by decide)).mono ?_; rintro e w3 ⟨A3, c3, rfl, hC3, hn3, hc3, hb3⟩; obtain ⟨hcc3, hff3⟩ := bcell hb3; have HB3 := Aside0.mk (below_more (w := w1.alloc (.cells #[.slice A 2 c] 24)) (by repeat (first | exact HB2.out | (with_reducible first | apply below_alloc | apply below_drew | apply pw_below_drewN))) hb3); have kc3 : w3.cell? ⟨w1.heap.size, 0, none⟩ = some (.slice A 2 c) := blk_cell (blk_of HB3.out (heap_alloc_new w1 (.cells #[.slice A 2 c] 24))) 0; have ne3 : w3.heap.size ≠ w1.heap.size := World.new_ne w3 _ kc3))
    · go_wp2_with fail
      go_meet
      have hF := Fl.mk hC3 hn3 hc3
      have hb := below_alloc (Below.refl w3.heap.size w3) (.cells #[.slice A3 2 c3] 24)
      exact ⟨w3.heap.size, rfl, rfl, ⟨blk_of hb (blk_of HB3.out (heap_alloc_new w1 _))⟩, ⟨hF.inNew⟩, ⟨below_more (below_more (below_alloc (Below.refl _ _) _) HB3.out) hb⟩⟩
    · go_wp2_with fail
      go_meet
      have hF := Fl.mk hC3 hn3 hc3
      have hg : w3.heap[w2.heap.size]? = some (.cells #[.slice none 0 0] 24 (0, 0)) := blk_of hb3 (heap_alloc_new w2 _)
      exact ⟨w2.heap.size, rfl, rfl, ⟨blk_far (blk_of HB3.out (heap_alloc_new w1 _)) (Ne.symm ne2) _⟩, ⟨hF.inSet hg⟩, ⟨(below_more (below_alloc (Below.refl _ _) _) HB3.out).setCell (by have := HB2.out.size; simp at this; show _ ≤ w2.heap.size; omega) _⟩⟩
    · go_wp2_with fail
      go_meet
      have hF := Fl.mk hC3 hn3 hc3
      have hg : w3.heap[w1.heap.size + 1]? = some (.cells #[.slice none 0 0] 24 (0, 0)) := blk_of hb3 (blk_of hb2 (show ((w1.alloc (.cells #[.slice A 2 c] 24)).alloc (.cells #[.slice none 0 0] 24)).heap[w1.heap.size + 1]? = _ from by simpa using heap_alloc_new (w1.alloc (.cells #[.slice A 2 c] 24)) (.cells #[.slice none 0 0] 24)))
      exact ⟨w1.heap.size + 1, rfl, rfl, ⟨blk_far (blk_of HB3.out (heap_alloc_new w1 _)) (by simp) _⟩, ⟨hF.inSet hg⟩, ⟨(below_more (below_alloc (Below.refl _ _) _) HB3.out).setCell (by simp) _⟩⟩
  case rest =>
    obtain ⟨g3, rfl, rfl, G1, F3, HBc⟩ := hcut
    obtain ⟨wA, rfl⟩ : ∃ x : World, x = wc := ⟨_, rfl⟩
    obtain ⟨s1, hs1⟩ : ∃ s, s = rdOf ByteArray.empty (writeL l0 1 (fullS 7) 3) 1 := ⟨_, rfl⟩
    have S1 := Aside0.mk hs1
    clear hs1
    obtain ⟨A3, c3, hg3, hF3⟩ := F3.out
    have k1 : wA.cell? ⟨w1.heap.size, 0, none⟩ = some (.slice A 2 c) := blk_cell G1.out 0
    have k3 : wA.cell? ⟨g3, 0, none⟩ = some (.slice A3 2 c3) := blk_cell hg3 0
    have G3 := Aside0.mk hg3
    have HF3 := Aside0.mk hF3
    have HF1 := Aside0.mk (Fl.below HF.out HBc.out)
    clear hg3 hF3
    go_upto_region 4 with (first | (go_at_call 13; refine (read_yesN 1 HF3.out (by decide) (by decide)).mono ?_; rw [← S1.out]; rintro e w4 ⟨rfl, hb4⟩; have HB4 := Aside0.mk hb4; have k1' : w4.cell? ⟨w1.heap.size, 0, none⟩ = some (.slice A 2 c) := blk_cell (blk_of hb4 G1.out) 0; have k3' : w4.cell? ⟨g3, 0, none⟩ = some (.slice A3 2 c3) := blk_cell (blk_of hb4 G3.out) 0; clear hb4))
    have ne4 : w4.heap.size ≠ w1.heap.size := World.new_ne w4 _ k1'
    go_cut [8] (fun s8 wd => s8 = .int .i64 13 ∧ Aside0 (Below w4.heap.size w4 wd))
    case first =>
      go_region_held3 (fun w' => w'.cell? ⟨w1.heap.size, 0, none⟩ = some (.slice A 2 c)) (first | assumption | go_keep) (first | (go_at_call 21; refine (full_any 7 _).mono ?_; rintro e w5 ⟨rfl, hb5⟩; have HB5 := Aside0.mk (below_more (w := w4) (by repeat (first | (with_reducible exact Below.refl _ _) | (with_reducible first | apply below_alloc | apply below_drew | apply pw_below_drewN))) hb5); obtain ⟨hcc5, hff5⟩ := bcell hb5; (try (have hz5 : w4.heap.size < w5.heap.size := by have hz := hb5.size; simp at hz; omega)); have kc5 : w5.cell? ⟨w1.heap.size, 0, none⟩ = some (.slice A 2 c) := (HB5.out.cell (World.block_lt_of_cell? _ _ k1')).trans k1'; have ne5 : w5.heap.size ≠ w1.heap.size := World.new_ne w5 _ kc5) | (go_at_call 15; refine (write_noneN 2 (fullS 7) (-1) (Fl.below (Fl.below HF1.out HB4.out) (by repeat (first | exact HB5.out | (with_reducible first | apply below_alloc | apply below_drew | apply pw_below_drewN)))) (.inr (by decide))).mono ?_; rintro e w6 ⟨A6, c6, rfl, hC6, hn6, hc6, hb6⟩; obtain ⟨hcc6, hff6⟩ := bcell hb6; have HB6 := Aside0.mk (below_more (w := w4) (by repeat (first | exact HB5.out | (with_reducible first | apply below_alloc | apply below_drew | apply pw_below_drewN))) hb6); have kc6 : w6.cell? ⟨w1.heap.size, 0, none⟩ = some (.slice A 2 c) := (HB6.out.cell (World.block_lt_of_cell? _ _ k1')).trans k1'; have ne6 : w6.heap.size ≠ w1.heap.size := World.new_ne w6 _ kc6))
      · go_wp2_with fail
        go_meet
        exact ⟨rfl, ⟨below_alloc HB6.out _⟩⟩
      · go_wp2_with fail
        go_meet
        exact ⟨rfl, ⟨HB6.out.setCell HB5.out.size _⟩⟩
      · go_wp2_with fail
        go_meet
        exact ⟨rfl, ⟨HB6.out.setCell (Nat.le_refl _) _⟩⟩
    case rest =>
      obtain ⟨rfl, HBd⟩ := hcut
      have k1d : wc.cell? ⟨w1.heap.size, 0, none⟩ = some (.slice A 2 c) := (HBd.out.cell (World.block_lt_of_cell? _ _ k1')).trans k1'
      have k3d : wc.cell? ⟨g3, 0, none⟩ = some (.slice A3 2 c3) := (HBd.out.cell (World.block_lt_of_cell? _ _ k3')).trans k3'
      have HFd := Aside0.mk (Fl.below (Fl.below HF1.out HB4.out) HBd.out)
      have HF3d := Aside0.mk (Fl.below (Fl.below HF3.out HB4.out) HBd.out)
      have F1 : ∀ W, Below wc.heap.size wc W → W.cell? ⟨w1.heap.size, 0, none⟩ = some (.slice A 2 c) := fun W h => (h.cell (World.block_lt_of_cell? _ _ k1d)).trans k1d
      have F3' : ∀ W, Below wc.heap.size wc W → W.cell? ⟨g3, 0, none⟩ = some (.slice A3 2 c3) := fun W h => (h.cell (World.block_lt_of_cell? _ _ k3d)).trans k3d
      have FF1 := Aside0.mk F1
      have FF3 := Aside0.mk F3'
      clear F1 F3'
      go_upto_region 8 with (first | (go_at_call 15; refine (write_argN 0 ⟨#[120]⟩ (-1) HFd.out (by decide) (by decide) (by decide)).mono ?_; rintro e w7 ⟨A7, c7, rfl, hC7, hn7, hc7, hb7⟩; have HB7 := Aside0.mk (below_alloc hb7 (.cells #[.slice A7 2 c7] 24)); have k1e := FF1.out _ HB7.out; clear hC7 hn7 hc7 hb7) | (go_at_call 13; refine (read_noN 2 (Fl.below HFd.out HB7.out) (.inr (by decide))).mono ?_; rintro e w8 ⟨rfl, hb8⟩; have HB8 := Aside0.mk (below_more HB7.out hb8); clear hb8) | (go_at_call 11; refine ((new_bad 129 _ (.inr (by decide))).mono fun _ _ h => FlashRes.toN (n := 0) h rfl).mono ?_; rintro e w9 ⟨A9, c9, rfl, hC9, hn9, hc9, hb9⟩; have HB9 := Aside0.mk (below_alloc (below_more HB8.out hb9) (.cells #[.slice A9 0 c9] 24)); clear hC9 hn9 hc9 hb9))
      have hsz : (fullS 0).size = 256 := full_size 0
      have E1 : (s1.toList == ((⟨#[7, 7, 7]⟩ : ByteArray) ++ (fullS 0).extract 3 256).toList) = true := by rw [S1.out, L0.out]; exact s1_eq
      have EV := Aside0.mk (show validB (writeL l0 1 (fullS 7) 3) = true by rw [L0.out]; exact valid_l01)
      have EQ1 := Aside0.mk (show sameB l0 l0 = true by rw [L0.out]; exact same_l00)
      have EQ2 := Aside0.mk (show sameB l0 (writeL l0 1 (fullS 7) 3) = false by rw [L0.out]; exact same_l01)
      go_wp2_with (first | (go_at_call 21; refine (full_any 0 _).mono ?_; rintro e wx ⟨rfl, hbx⟩; have HBx := Aside0.mk (below_more HB9.out hbx); have k3x := FF3.out _ HBx.out; clear hbx) | (go_at_call 18; (with_reducible refine (validN (Fl.below HF3d.out HBx.out)).mono ?_); rw [EV.out]; rintro e wy ⟨rfl, hby⟩; have HBy := Aside0.mk (below_more HBx.out hby); clear hby) | (go_at_call 18; refine (validN (A := some ⟨wy.heap.size, 0, none⟩) (n := 1) (c := 1) (l := [⟨#[]⟩]) (Fl.mk (C_of_block (l := [⟨#[]⟩]) (heap_alloc_new wy (.cells #[.string ⟨#[]⟩] 9)) (by decide)) rfl (by decide))).mono ?_; rw [valid_one]; rintro e wz ⟨rfl, hbz⟩; have HBz := Aside0.mk (below_more (below_alloc HBy.out _) hbz); have k1z := FF1.out _ HBz.out; clear hbz) | (go_at_call 20; (with_reducible refine (sameN (Fl.below HFd.out HBz.out) (Fl.below HFd.out HBz.out)).mono ?_); rw [EQ1.out]; rintro e wq ⟨rfl, hbq⟩; have HBq := Aside0.mk (below_more HBz.out hbq); have k1q := FF1.out _ HBq.out; have k3q := FF3.out _ HBq.out; clear hbq) | (go_at_call 20; (with_reducible refine (sameN (Fl.below HFd.out HBq.out) (Fl.below HF3d.out HBq.out)).mono ?_); rw [EQ2.out]; rintro e wr ⟨rfl, hbr⟩; have HBr := Aside0.mk (below_more HBq.out hbr); clear hbr))
      go_ret
      exact ⟨rfl, below_more (below_more (below_more (below_more HB1.out HBc.out) HB4.out) HBd.out) HBr.out⟩
end Go.Proofs.Ytangjehadkpecaa.Fl
