/- The walk of the law FlashTearsAtByte (chapter 8). -/
import Derived.Test.YtangjehadkpecaaFlH
import Derived.Test.YtangjehadkpecaaFlP5
namespace Go.Proofs.Ytangjehadkpecaa.Fl
set_option linter.unusedVariables false
set_option linter.unusedSimpArgs false
open Go.RowKit Go.Proofs.YtangjehadkpecaaW.PrintWords Go.Proofs.YtangjehadkpecaaW.PrintLast Go.Proofs.YtangjehadkpecaaW.PrintMore
attribute [local go_sem] max2_int min2_int max_two min_two

set_option maxRecDepth 100000 in
set_option maxHeartbeats 40000000 in
theorem tears_any {A : Option Addr} {n c : Nat} {l : List ByteArray} {w : World} (sec b cut : Int) (h : Fl w A n c l) (hs0 : 0 ≤ sec) (hs1 : sec ≤ 255) (hb0 : 0 ≤ b) (hb1 : b ≤ 255) :
    Calls Try.prog 5 #[.agg #[.slice A n c, .int .u8 sec, .int .u8 b, .int .i64 cut]] w fun e w' => e = .returned (.bool true) ∧ Below w.heap.size w w' := by
  have HF := Aside0.mk h
  have hlen : n ≤ 9223372036854775807 := by have := h.C.2.1; have := h.len; omega
  clear h
  cases hv : validB l with
  | false =>
    have EV := Aside0.mk hv
    clear hv
    go_enter Try.func5, Try.ntmps5
    go_wp2_with (first | (go_at_call 9; refine (sanity_any _).mono ?_; rintro e ws ⟨rfl, hbs⟩; have HBs := Aside0.mk (below_more (below_alloc (below_alloc (Below.refl _ _) _) _ : Below w.heap.size w ((w.alloc (.cells #[.slice A n c, .int .u8 sec, .int .u8 b, .int .i64 cut] 42)).alloc (.cells #[.slice A n c] 24))) hbs); have kcf : ws.cell? ⟨w.heap.size + 1, 0, none⟩ = some (.slice A n c) := blk_cell (blk_of hbs (show ((w.alloc (.cells #[.slice A n c, .int .u8 sec, .int .u8 b, .int .i64 cut] 42)).alloc (.cells #[.slice A n c] 24)).heap[w.heap.size + 1]? = _ from by simpa using heap_alloc_new (w.alloc (.cells #[.slice A n c, .int .u8 sec, .int .u8 b, .int .i64 cut] 42)) (.cells #[.slice A n c] 24))) 0; clear hbs) | (go_at_call 19; refine (rvalidN (Fl.below HF.out HBs.out)).mono ?_; rw [EV.out]; rintro e w2 ⟨rfl, hb2⟩; have HB2 := Aside0.mk (below_more HBs.out hb2); have kca : w2.cell? ⟨w.heap.size + 1, 0, none⟩ = some (.slice A n c) := (hb2.cell (World.block_lt_of_cell? _ _ kcf)).trans kcf; clear hb2))
    go_ret
    exact ⟨rfl, HB2.out⟩
  | true =>
    have EV := Aside0.mk hv
    have VF := valid_facts hv
    have hn128 : n ≤ 128 := by have := VF.1; have := HF.out.len; omega
    clear hv VF
    by_cases hn0 : n = 0
    · have e0 : ((n : Int) == 0) = true := beq_iff_eq.2 (by omega)
      clear hn0
      go_enter Try.func5, Try.ntmps5
      go_wp2_with (first | (go_at_call 9; refine (sanity_any _).mono ?_; rintro e ws ⟨rfl, hbs⟩; have HBs := Aside0.mk (below_more (below_alloc (below_alloc (Below.refl _ _) _) _ : Below w.heap.size w ((w.alloc (.cells #[.slice A n c, .int .u8 sec, .int .u8 b, .int .i64 cut] 42)).alloc (.cells #[.slice A n c] 24))) hbs); have kcf : ws.cell? ⟨w.heap.size + 1, 0, none⟩ = some (.slice A n c) := blk_cell (blk_of hbs (show ((w.alloc (.cells #[.slice A n c, .int .u8 sec, .int .u8 b, .int .i64 cut] 42)).alloc (.cells #[.slice A n c] 24)).heap[w.heap.size + 1]? = _ from by simpa using heap_alloc_new (w.alloc (.cells #[.slice A n c, .int .u8 sec, .int .u8 b, .int .i64 cut] 42)) (.cells #[.slice A n c] 24))) 0; clear hbs) | (go_at_call 19; refine (rvalidN (Fl.below HF.out HBs.out)).mono ?_; rw [EV.out]; rintro e w2 ⟨rfl, hb2⟩; have HB2 := Aside0.mk (below_more HBs.out hb2); have kca : w2.cell? ⟨w.heap.size + 1, 0, none⟩ = some (.slice A n c) := (hb2.cell (World.block_lt_of_cell? _ _ kcf)).trans kcf; clear hb2))
      go_ret
      exact ⟨rfl, HB2.out⟩
    · have e0 : ((n : Int) == 0) = false := beq_eq_false_iff_ne.2 (by omega)
      have hnp : (1 : Int) ≤ (n : Int) := by omega
      have hnpos : 0 < n := by omega
      clear hn0
      go_enter Try.func5, Try.ntmps5
      go_upto_region 9 with (first | (go_at_call 9; refine (sanity_any _).mono ?_; rintro e ws ⟨rfl, hbs⟩; have HBs := Aside0.mk (below_more (below_alloc (below_alloc (Below.refl _ _) _) _ : Below w.heap.size w ((w.alloc (.cells #[.slice A n c, .int .u8 sec, .int .u8 b, .int .i64 cut] 42)).alloc (.cells #[.slice A n c] 24))) hbs); have kcf : ws.cell? ⟨w.heap.size + 1, 0, none⟩ = some (.slice A n c) := blk_cell (blk_of hbs (show ((w.alloc (.cells #[.slice A n c, .int .u8 sec, .int .u8 b, .int .i64 cut] 42)).alloc (.cells #[.slice A n c] 24)).heap[w.heap.size + 1]? = _ from by simpa using heap_alloc_new (w.alloc (.cells #[.slice A n c, .int .u8 sec, .int .u8 b, .int .i64 cut] 42)) (.cells #[.slice A n c] 24))) 0; clear hbs) | (go_at_call 19; refine (rvalidN (Fl.below HF.out HBs.out)).mono ?_; rw [EV.out]; rintro e w2 ⟨rfl, hb2⟩; have HB2 := Aside0.mk (below_more HBs.out hb2); have kca : w2.cell? ⟨w.heap.size + 1, 0, none⟩ = some (.slice A n c) := (hb2.cell (World.block_lt_of_cell? _ _ kcf)).trans kcf; clear hb2))
      obtain ⟨k, hk⟩ : ∃ k, k = sec % (n : Int) := ⟨_, rfl⟩
      rw [← hk]
      have hk0 : 0 ≤ k := by rw [hk]; exact Int.emod_nonneg _ (by omega)
      have hkn : k < (n : Int) := by rw [hk]; exact Int.emod_lt_of_pos _ (by omega)
      clear hk
      have hkl : k < (l.length : Int) := by have := HF.out.len; omega
      have OLD := Aside0.mk (valid_rd EV.out k hk0 hkl)
      have nea : w2.heap.size ≠ w.heap.size + 1 := World.new_ne w2 _ kca
      go_cut [9, 10] (fun sg se wd => ∃ g : Nat, sg = .pointer (some ⟨g, 0, none⟩) ∧ se = .int .i64 0 ∧ Aside0 (w2.heap.size ≤ g) ∧ Aside0 (IsFl wd g n (writeL l k (fullS b) cut)) ∧ Aside0 (Below w2.heap.size w2 wd))
      case first =>
        go_region_held3 (fun w' => w'.cell? ⟨w.heap.size + 1, 0, none⟩ = some (.slice A n c)) (first | assumption | go_keep) (first | (go_at_call 21; refine (full_any b _).mono ?_; rintro e w5a ⟨rfl, hb5⟩; have HB5a := Aside0.mk (below_more (w := w2) (by repeat (first | (with_reducible exact Below.refl _ _) | (with_reducible first | apply below_alloc | apply below_drew | apply pw_below_drewN))) hb5); obtain ⟨hcc5, hff5⟩ := bcell hb5; (try (have hz5 : w2.heap.size < w5a.heap.size := by have hz := hb5.size; simp at hz; omega)); have kc5 : w5a.cell? ⟨w.heap.size + 1, 0, none⟩ = some (.slice A n c) := (HB5a.out.cell (World.block_lt_of_cell? _ _ kca)).trans kca; have ne5 : w5a.heap.size ≠ w.heap.size + 1 := World.new_ne w5a _ kc5) | (go_at_call 15; refine (write_okN k (fullS b) cut (Fl.below (Fl.below HF.out HB2.out) (by repeat (first | exact HB5a.out | (with_reducible first | apply below_alloc | apply below_drew | apply pw_below_drewN)))) hk0 hkn (full_size b) (by rw [OLD.out]; omega) (by omega)).mono ?_; rintro e w6a ⟨A6, c6, rfl, hC6, hn6, hc6, hb6⟩; obtain ⟨hcc6, hff6⟩ := bcell hb6; have HB6 := Aside0.mk (below_more (w := w2) (by repeat (first | exact HB5a.out | (with_reducible first | apply below_alloc | apply below_drew | apply pw_below_drewN))) hb6); have kc6 : w6a.cell? ⟨w.heap.size + 1, 0, none⟩ = some (.slice A n c) := (HB6.out.cell (World.block_lt_of_cell? _ _ kca)).trans kca; have ne6 : w6a.heap.size ≠ w.heap.size + 1 := World.new_ne w6a _ kc6))
        all_goals
          go_wp2_with fail
          go_meet
          first
            | exact ⟨w6a.heap.size, rfl, rfl, ⟨HB6.out.size⟩, ⟨(Fl.mk hC6 hn6 hc6).inNew⟩, ⟨below_alloc HB6.out _⟩⟩
            | exact ⟨w5a.heap.size, rfl, rfl, ⟨HB5a.out.size⟩, ⟨(Fl.mk hC6 hn6 hc6).inSet (blk_of hb6 (heap_alloc_new w5a (.cells #[.slice none 0 0] 24)))⟩, ⟨HB6.out.setCell HB5a.out.size _⟩⟩
            | exact ⟨w2.heap.size, rfl, rfl, ⟨Nat.le_refl _⟩, ⟨(Fl.mk hC6 hn6 hc6).inSet (blk_of hb6 (blk_of hb5 (show (w2.alloc (.cells #[.slice none 0 0] 24)).heap[w2.heap.size]? = some (.cells #[.slice none 0 0] 24 (0, 0)) from heap_alloc_new w2 _)))⟩, ⟨HB6.out.setCell (Nat.le_refl _) _⟩⟩
      case rest =>
        obtain ⟨ga, rfl, rfl, GEa, Fa, HBa⟩ := hcut
        obtain ⟨wa, rfl⟩ : ∃ x : World, x = wc := ⟨_, rfl⟩
        obtain ⟨Aa, ca, hga, hFa⟩ := Fa.out
        have HFa := Aside0.mk hFa
        have ka : wa.cell? ⟨ga, 0, none⟩ = some (.slice Aa n ca) := blk_cell hga 0
        clear hga hFa
        have kb : wa.cell? ⟨w.heap.size + 1, 0, none⟩ = some (.slice A n c) := (HBa.out.cell (World.block_lt_of_cell? _ _ kca)).trans kca
        clear kca
        obtain ⟨s, hs⟩ : ∃ s, rdOf ByteArray.empty (writeL l k (fullS b) cut) k = s := ⟨_, rfl⟩
        have HS := Aside0.mk hs
        clear hs
        obtain ⟨ad, hA, hx0⟩ := Kd.at_string HF.out.C k hk0 hkl
        subst hA
        obtain ⟨old, hold⟩ : ∃ s, rdOf ByteArray.empty l k = s := ⟨_, rfl⟩
        rw [hold] at hx0 OLD
        have hm : s = mergeB (fullS b) old cut := by rw [← HS.out, rd_writeL _ _ _ _ hk0 hkl, hold]
        clear hold
        have hx1 : wa.cell? (ad.add k.toNat) = some (.string old) := pw_cell_below (below_more HB2.out HBa.out) hx0
        clear hx0
        have ho256 : old.size = 256 := OLD.out
        have hs256 : s.size = 256 := by rw [hm, merge_size (by rw [full_size, ho256]), full_size]
        have hsi : (s.size : Int) = 256 := by omega
        have hse : ((s.size : Int) == 256) = true := beq_iff_eq.2 hsi
        have hsn : ((s.size : Int) != 256) = false := bne_eq_false_iff_eq.2 hsi
        have MN : ∀ i : Nat, i < 256 → (cut < 0 ∨ (i : Int) < cut) → ∀ h : i < s.size, (((s[i]'h).toNat : Int) == b) = true := by subst hm; exact fun i hi hc h => beq_iff_eq.2 (merge_new ho256 hb0 hb1 hi hc h)
        have MO : ∀ i : Nat, i < 256 → 0 ≤ cut → cut ≤ (i : Int) → ∀ (h : i < s.size) (h2 : i < old.size), (((s[i]'h).toNat : Int) == ((old[i]'h2).toNat : Int)) = true := by subst hm; exact fun i hi hc hc2 h h2 => beq_iff_eq.2 (by rw [merge_old ho256 hi hc hc2 h h2])
        have MN := Aside0.mk MN
        have MO := Aside0.mk MO
        clear hm
        go_wp2_with (go_at_call 13; refine (read_yesN k HFa.out hk0 hkn).mono ?_; rw [HS.out]; rintro e wr ⟨rfl, hbr⟩; have HBr := Aside0.mk hbr; have kf : wr.cell? ⟨w.heap.size + 1, 0, none⟩ = some (.slice (some ad) n c) := (hbr.cell (World.block_lt_of_cell? _ _ kb)).trans kb; have hx : wr.cell? (ad.add k.toNat) = some (.string old) := pw_cell_below hbr hx1; clear hbr)
        clear kb hx1 ka
        obtain ⟨wq, hwq⟩ : ∃ x, x = wr := ⟨_, rfl⟩
        rw [← hwq] at HBr kf hx
        go_loopw [13] (fun i wd => ∃ j : Nat, j ≤ 256 ∧ i = .int .i64 j ∧ Aside0 (Drawn0 wq wd)) (fun i _ => 256 - (intOf i).toNat)
        case atStart => exact ⟨0, by omega, rfl, ⟨hwq ▸ Drawn0.refl _⟩⟩
        case round =>
          obtain ⟨j, hj, rfl, HD⟩ := hrel
          clear hwq
          have kf2 := pw_cell_below HD.out.below kf
          have hx2 := pw_cell_below HD.out.below hx
          clear kf hx
          by_cases hlt : j < 256
          · have hjs : j < s.size := by omega
            have hjs2 : (j : Int) < (s.size : Int) := by omega
            have hjo : j < old.size := by omega
            have hjo2 : (j : Int) < (old.size : Int) := by omega
            by_cases c1 : cut < 0
            · have eb := MN.out j hlt (.inl c1) hjs
              go_wp2
              go_roundw
              case rel => exact ⟨j + 1, by omega, by go_num, HD⟩
              case measure => simp [intOf]; omega
            · by_cases c2 : (j : Int) < cut
              · have eb := MN.out j hlt (.inr c2) hjs
                go_wp2
                go_roundw
                case rel => exact ⟨j + 1, by omega, by go_num, HD⟩
                case measure => simp [intOf]; omega
              · have eb := MO.out j hlt (by omega) (by omega) hjs hjo
                go_wp2
                go_quiet (fail)
                all_goals go_wp2
                all_goals go_roundw
                case rel => exact ⟨j + 1, by omega, by go_num, ⟨HD.out.step _⟩⟩
                case measure => simp [intOf]; omega
          · obtain rfl : j = 256 := by omega
            go_wp2
            go_ret
            exact ⟨rfl, below_more (below_more (below_more HB2.out HBa.out) HBr.out) HD.out.below⟩
end Go.Proofs.Ytangjehadkpecaa.Fl
