/- The walk of the law FlashCutCompletes (chapter 8). -/
import Derived.Test.YtangjehadkpecaaFlH
import Derived.Test.YtangjehadkpecaaFlP
namespace Go.Proofs.Ytangjehadkpecaa.Fl
set_option linter.unusedVariables false
set_option linter.unusedSimpArgs false
open Go.RowKit Go.Proofs.YtangjehadkpecaaW.PrintWords Go.Proofs.YtangjehadkpecaaW.PrintLast Go.Proofs.YtangjehadkpecaaW.PrintMore
attribute [local go_sem] max2_int min2_int max_two min_two

theorem completes_same {l : List ByteArray} {k cut : Int} {b : ByteArray} (h0 : 0 ≤ k) (h : k < (l.length : Int)) :
    sameB (writeL (writeL l k b cut) k b (-1)) (writeL l k b (-1)) = true := by
  rw [writeL_writeL _ _ _ _ _ h0 h, merge_then_whole _ (by omega)]
  exact same_self _
theorem again_same {l : List ByteArray} {k cut : Int} {b : ByteArray} (h0 : 0 ≤ k) (h : k < (l.length : Int)) (hb : b.size = 256) (ho : (rdOf ByteArray.empty l k).size = 256) :
    sameB (writeL (writeL l k b cut) k b cut) (writeL l k b cut) = true := by
  rw [writeL_writeL _ _ _ _ _ h0 h, merge_again (by rw [hb, ho])]
  exact same_self _

set_option maxRecDepth 100000 in
set_option maxHeartbeats 40000000 in
theorem cutCompletes_any {A : Option Addr} {n c : Nat} {l : List ByteArray} {w : World} (sec b cut : Int) (h : Fl w A n c l) (hs0 : 0 ≤ sec) (hs1 : sec ≤ 255) :
    Calls Try.prog 7 #[.agg #[.slice A n c, .int .u8 sec, .int .u8 b, .int .i64 cut]] w fun e w' => e = .returned (.bool true) ∧ Below w.heap.size w w' := by
  have HF := Aside0.mk h
  have hlen : n ≤ 9223372036854775807 := by have := h.C.2.1; have := h.len; omega
  clear h
  cases hv : validB l with
  | false =>
    have EV := Aside0.mk hv
    clear hv
    go_enter Try.func7, Try.ntmps7
    go_wp2_with (first | (go_at_call 9; refine (sanity_any _).mono ?_; rintro e ws ⟨rfl, hbs⟩; have HBs := Aside0.mk (below_more (below_alloc (below_alloc (Below.refl _ _) _) _ : Below w.heap.size w ((w.alloc (.cells #[.slice A n c, .int .u8 sec, .int .u8 b, .int .i64 cut] 46)).alloc (.cells #[.slice A n c] 24))) hbs); have kcf : ws.cell? ⟨w.heap.size + 1, 0, none⟩ = some (.slice A n c) := blk_cell (blk_of hbs (show ((w.alloc (.cells #[.slice A n c, .int .u8 sec, .int .u8 b, .int .i64 cut] 46)).alloc (.cells #[.slice A n c] 24)).heap[w.heap.size + 1]? = _ from by simpa using heap_alloc_new (w.alloc (.cells #[.slice A n c, .int .u8 sec, .int .u8 b, .int .i64 cut] 46)) (.cells #[.slice A n c] 24))) 0; clear hbs) | (go_at_call 19; refine (rvalidN (Fl.below HF.out HBs.out)).mono ?_; rw [EV.out]; rintro e w2 ⟨rfl, hb2⟩; have HB2 := Aside0.mk (below_more HBs.out hb2); have kca : w2.cell? ⟨w.heap.size + 1, 0, none⟩ = some (.slice A n c) := (hb2.cell (World.block_lt_of_cell? _ _ kcf)).trans kcf; clear hb2))
    go_ret
    exact ⟨rfl, HB2.out⟩
  | true =>
    have EV := Aside0.mk hv
    have VF := valid_facts hv
    have hn128 : n ≤ 128 := by have := VF.1; have := HF.out.len; omega
    clear hv VF
    by_cases hn0 : n = 0
    · have e0 : ((n : Int) == 0) = true := beq_iff_eq.2 (by omega)
      clear hn0
      go_enter Try.func7, Try.ntmps7
      go_wp2_with (first | (go_at_call 9; refine (sanity_any _).mono ?_; rintro e ws ⟨rfl, hbs⟩; have HBs := Aside0.mk (below_more (below_alloc (below_alloc (Below.refl _ _) _) _ : Below w.heap.size w ((w.alloc (.cells #[.slice A n c, .int .u8 sec, .int .u8 b, .int .i64 cut] 46)).alloc (.cells #[.slice A n c] 24))) hbs); have kcf : ws.cell? ⟨w.heap.size + 1, 0, none⟩ = some (.slice A n c) := blk_cell (blk_of hbs (show ((w.alloc (.cells #[.slice A n c, .int .u8 sec, .int .u8 b, .int .i64 cut] 46)).alloc (.cells #[.slice A n c] 24)).heap[w.heap.size + 1]? = _ from by simpa using heap_alloc_new (w.alloc (.cells #[.slice A n c, .int .u8 sec, .int .u8 b, .int .i64 cut] 46)) (.cells #[.slice A n c] 24))) 0; clear hbs) | (go_at_call 19; refine (rvalidN (Fl.below HF.out HBs.out)).mono ?_; rw [EV.out]; rintro e w2 ⟨rfl, hb2⟩; have HB2 := Aside0.mk (below_more HBs.out hb2); have kca : w2.cell? ⟨w.heap.size + 1, 0, none⟩ = some (.slice A n c) := (hb2.cell (World.block_lt_of_cell? _ _ kcf)).trans kcf; clear hb2))
      go_ret
      exact ⟨rfl, HB2.out⟩
    · have e0 : ((n : Int) == 0) = false := beq_eq_false_iff_ne.2 (by omega)
      have hnp : (1 : Int) ≤ (n : Int) := by omega
      have hnpos : 0 < n := by omega
      clear hn0
      go_enter Try.func7, Try.ntmps7
      go_upto_region 9 with (first | (go_at_call 9; refine (sanity_any _).mono ?_; rintro e ws ⟨rfl, hbs⟩; have HBs := Aside0.mk (below_more (below_alloc (below_alloc (Below.refl _ _) _) _ : Below w.heap.size w ((w.alloc (.cells #[.slice A n c, .int .u8 sec, .int .u8 b, .int .i64 cut] 46)).alloc (.cells #[.slice A n c] 24))) hbs); have kcf : ws.cell? ⟨w.heap.size + 1, 0, none⟩ = some (.slice A n c) := blk_cell (blk_of hbs (show ((w.alloc (.cells #[.slice A n c, .int .u8 sec, .int .u8 b, .int .i64 cut] 46)).alloc (.cells #[.slice A n c] 24)).heap[w.heap.size + 1]? = _ from by simpa using heap_alloc_new (w.alloc (.cells #[.slice A n c, .int .u8 sec, .int .u8 b, .int .i64 cut] 46)) (.cells #[.slice A n c] 24))) 0; clear hbs) | (go_at_call 19; refine (rvalidN (Fl.below HF.out HBs.out)).mono ?_; rw [EV.out]; rintro e w2 ⟨rfl, hb2⟩; have HB2 := Aside0.mk (below_more HBs.out hb2); have kca : w2.cell? ⟨w.heap.size + 1, 0, none⟩ = some (.slice A n c) := (hb2.cell (World.block_lt_of_cell? _ _ kcf)).trans kcf; clear hb2))
      obtain ⟨k, hk⟩ : ∃ k, k = sec % (n : Int) := ⟨_, rfl⟩
      rw [← hk]
      have hk0 : 0 ≤ k := by rw [hk]; exact Int.emod_nonneg _ (by omega)
      have hkn : k < (n : Int) := by rw [hk]; exact Int.emod_lt_of_pos _ (by omega)
      clear hk
      have hkl : k < (l.length : Int) := by have := HF.out.len; omega
      have OLD := Aside0.mk (valid_rd EV.out k hk0 hkl)
      have nea : w2.heap.size ≠ w.heap.size + 1 := World.new_ne w2 _ kca
      go_cut [9, 10] (fun sg se wd => ∃ g : Nat, sg = .pointer (some ⟨g, 0, none⟩) ∧ se = .int .i64 0 ∧ Aside0 (w2.heap.size ≤ g) ∧ Aside0 (IsFl wd g n (writeL l k (fullS b) (-1))) ∧ Aside0 (Below w2.heap.size w2 wd))
      case first =>
        go_region_held3 (fun w' => w'.cell? ⟨w.heap.size + 1, 0, none⟩ = some (.slice A n c)) (first | assumption | go_keep) (first | (go_at_call 21; refine (full_any b _).mono ?_; rintro e w5a ⟨rfl, hb5⟩; have HB5a := Aside0.mk (below_more (w := w2) (by repeat (first | (with_reducible exact Below.refl _ _) | (with_reducible first | apply below_alloc | apply below_drew | apply pw_below_drewN))) hb5); obtain ⟨hcc5, hff5⟩ := bcell hb5; (try (have hz5 : w2.heap.size < w5a.heap.size := by have hz := hb5.size; simp at hz; omega)); have kc5 : w5a.cell? ⟨w.heap.size + 1, 0, none⟩ = some (.slice A n c) := (HB5a.out.cell (World.block_lt_of_cell? _ _ kca)).trans kca; have ne5 : w5a.heap.size ≠ w.heap.size + 1 := World.new_ne w5a _ kc5) | (go_at_call 15; refine (write_okN k (fullS b) (-1) (Fl.below (Fl.below HF.out HB2.out) (by repeat (first | exact HB5a.out | (with_reducible first | apply below_alloc | apply below_drew | apply pw_below_drewN)))) hk0 hkn (full_size b) (by rw [OLD.out]; omega) (by omega)).mono ?_; rintro e w6a ⟨A6, c6, rfl, hC6, hn6, hc6, hb6⟩; obtain ⟨hcc6, hff6⟩ := bcell hb6; have HB6 := Aside0.mk (below_more (w := w2) (by repeat (first | exact HB5a.out | (with_reducible first | apply below_alloc | apply below_drew | apply pw_below_drewN))) hb6); have kc6 : w6a.cell? ⟨w.heap.size + 1, 0, none⟩ = some (.slice A n c) := (HB6.out.cell (World.block_lt_of_cell? _ _ kca)).trans kca; have ne6 : w6a.heap.size ≠ w.heap.size + 1 := World.new_ne w6a _ kc6))
        all_goals
          go_wp2_with fail
          go_meet
          first
            | exact ⟨w6a.heap.size, rfl, rfl, ⟨HB6.out.size⟩, ⟨(Fl.mk hC6 (by first | exact hn6 | rfl) hc6).inNew⟩, ⟨below_alloc HB6.out _⟩⟩
            | exact ⟨w5a.heap.size, rfl, rfl, ⟨HB5a.out.size⟩, ⟨(Fl.mk hC6 (by first | exact hn6 | rfl) hc6).inSet (blk_of hb6 (heap_alloc_new w5a (.cells #[.slice none 0 0] 24)))⟩, ⟨HB6.out.setCell HB5a.out.size _⟩⟩
            | exact ⟨w2.heap.size, rfl, rfl, ⟨Nat.le_refl _⟩, ⟨(Fl.mk hC6 (by first | exact hn6 | rfl) hc6).inSet (blk_of hb6 (blk_of hb5 (show (w2.alloc (.cells #[.slice none 0 0] 24)).heap[w2.heap.size]? = some (.cells #[.slice none 0 0] 24 (0, 0)) from heap_alloc_new w2 _)))⟩, ⟨HB6.out.setCell (Nat.le_refl _) _⟩⟩
      case rest =>
        obtain ⟨ga, rfl, rfl, GEa, Fa, HBa⟩ := hcut
        obtain ⟨wa, rfl⟩ : ∃ x : World, x = wc := ⟨_, rfl⟩
        have kcb : wa.cell? ⟨w.heap.size + 1, 0, none⟩ = some (.slice A n c) := (HBa.out.cell (World.block_lt_of_cell? _ _ kca)).trans kca
        go_upto_region 10 with fail
        have neb : wa.heap.size ≠ w.heap.size + 1 := World.new_ne wa _ kcb
        go_cut [11, 12] (fun sg se wd => ∃ g : Nat, sg = .pointer (some ⟨g, 0, none⟩) ∧ se = .int .i64 0 ∧ Aside0 (wa.heap.size ≤ g) ∧ Aside0 (IsFl wd g n (writeL l k (fullS b) cut)) ∧ Aside0 (Below wa.heap.size wa wd))
        case first =>
          go_region_held3 (fun w' => w'.cell? ⟨w.heap.size + 1, 0, none⟩ = some (.slice A n c)) (first | assumption | go_keep) (first | (go_at_call 21; refine (full_any b _).mono ?_; rintro e w5b ⟨rfl, hb5⟩; have HB5b := Aside0.mk (below_more (w := wa) (by repeat (first | (with_reducible exact Below.refl _ _) | (with_reducible first | apply below_alloc | apply below_drew | apply pw_below_drewN))) hb5); obtain ⟨hcc5, hff5⟩ := bcell hb5; (try (have hz5 : wa.heap.size < w5b.heap.size := by have hz := hb5.size; simp at hz; omega)); have kc5 : w5b.cell? ⟨w.heap.size + 1, 0, none⟩ = some (.slice A n c) := (HB5b.out.cell (World.block_lt_of_cell? _ _ kcb)).trans kcb; have ne5 : w5b.heap.size ≠ w.heap.size + 1 := World.new_ne w5b _ kc5) | (go_at_call 15; refine (write_okN k (fullS b) cut (Fl.below (Fl.below (Fl.below HF.out HB2.out) HBa.out) (by repeat (first | exact HB5b.out | (with_reducible first | apply below_alloc | apply below_drew | apply pw_below_drewN)))) hk0 hkn (full_size b) (by rw [OLD.out]; omega) (by omega)).mono ?_; rintro e w6b ⟨A6, c6, rfl, hC6, hn6, hc6, hb6⟩; obtain ⟨hcc6, hff6⟩ := bcell hb6; have HB6 := Aside0.mk (below_more (w := wa) (by repeat (first | exact HB5b.out | (with_reducible first | apply below_alloc | apply below_drew | apply pw_below_drewN))) hb6); have kc6 : w6b.cell? ⟨w.heap.size + 1, 0, none⟩ = some (.slice A n c) := (HB6.out.cell (World.block_lt_of_cell? _ _ kcb)).trans kcb; have ne6 : w6b.heap.size ≠ w.heap.size + 1 := World.new_ne w6b _ kc6))
          all_goals
            go_wp2_with fail
            go_meet
            first
              | exact ⟨w6b.heap.size, rfl, rfl, ⟨HB6.out.size⟩, ⟨(Fl.mk hC6 (by first | exact hn6 | rfl) hc6).inNew⟩, ⟨below_alloc HB6.out _⟩⟩
              | exact ⟨w5b.heap.size, rfl, rfl, ⟨HB5b.out.size⟩, ⟨(Fl.mk hC6 (by first | exact hn6 | rfl) hc6).inSet (blk_of hb6 (heap_alloc_new w5b (.cells #[.slice none 0 0] 24)))⟩, ⟨HB6.out.setCell HB5b.out.size _⟩⟩
              | exact ⟨wa.heap.size, rfl, rfl, ⟨Nat.le_refl _⟩, ⟨(Fl.mk hC6 (by first | exact hn6 | rfl) hc6).inSet (blk_of hb6 (blk_of hb5 (show (wa.alloc (.cells #[.slice none 0 0] 24)).heap[wa.heap.size]? = some (.cells #[.slice none 0 0] 24 (0, 0)) from heap_alloc_new wa _)))⟩, ⟨HB6.out.setCell (Nat.le_refl _) _⟩⟩
        case rest =>
          obtain ⟨gb, rfl, rfl, GEb, Fb, HBb⟩ := hcut
          obtain ⟨wb, rfl⟩ : ∃ x : World, x = wc := ⟨_, rfl⟩
          obtain ⟨Ab, cb, hgb, hFb⟩ := Fb.out
          have HFb := Aside0.mk hFb
          have HGb := Aside0.mk hgb
          have kcc : wb.cell? ⟨gb, 0, none⟩ = some (.slice Ab n cb) := blk_cell hgb 0
          have SZb := Aside0.mk (show (rdOf ByteArray.empty (writeL l k (fullS b) cut) k).size = 256 by rw [rd_writeL _ _ _ _ hk0 hkl, merge_size (by rw [full_size, OLD.out]), full_size])
          clear hgb hFb
          go_upto_region 11 with fail
          have nec : wb.heap.size ≠ gb := World.new_ne wb _ kcc
          go_cut [13, 14] (fun sg se wd => ∃ g : Nat, sg = .pointer (some ⟨g, 0, none⟩) ∧ se = .int .i64 0 ∧ Aside0 (wb.heap.size ≤ g) ∧ Aside0 (IsFl wd g n (writeL (writeL l k (fullS b) cut) k (fullS b) (-1))) ∧ Aside0 (Below wb.heap.size wb wd))
          case first =>
            go_region_held3 (fun w' => w'.cell? ⟨gb, 0, none⟩ = some (.slice Ab n cb)) (first | assumption | go_keep) (first | (go_at_call 21; refine (full_any b _).mono ?_; rintro e w5c ⟨rfl, hb5⟩; have HB5c := Aside0.mk (below_more (w := wb) (by repeat (first | (with_reducible exact Below.refl _ _) | (with_reducible first | apply below_alloc | apply below_drew | apply pw_below_drewN))) hb5); obtain ⟨hcc5, hff5⟩ := bcell hb5; (try (have hz5 : wb.heap.size < w5c.heap.size := by have hz := hb5.size; simp at hz; omega)); have kc5 : w5c.cell? ⟨gb, 0, none⟩ = some (.slice Ab n cb) := (HB5c.out.cell (World.block_lt_of_cell? _ _ kcc)).trans kcc; have ne5 : w5c.heap.size ≠ gb := World.new_ne w5c _ kc5) | (go_at_call 15; refine (write_okN k (fullS b) (-1) (Fl.below HFb.out (by repeat (first | exact HB5c.out | (with_reducible first | apply below_alloc | apply below_drew | apply pw_below_drewN)))) hk0 hkn (full_size b) (by rw [SZb.out]; omega) (by omega)).mono ?_; rintro e w6c ⟨A6, c6, rfl, hC6, hn6, hc6, hb6⟩; obtain ⟨hcc6, hff6⟩ := bcell hb6; have HB6 := Aside0.mk (below_more (w := wb) (by repeat (first | exact HB5c.out | (with_reducible first | apply below_alloc | apply below_drew | apply pw_below_drewN))) hb6); have kc6 : w6c.cell? ⟨gb, 0, none⟩ = some (.slice Ab n cb) := (HB6.out.cell (World.block_lt_of_cell? _ _ kcc)).trans kcc; have ne6 : w6c.heap.size ≠ gb := World.new_ne w6c _ kc6))
            all_goals
              go_wp2_with fail
              go_meet
              first
                | exact ⟨w6c.heap.size, rfl, rfl, ⟨HB6.out.size⟩, ⟨(Fl.mk hC6 (by first | exact hn6 | rfl) hc6).inNew⟩, ⟨below_alloc HB6.out _⟩⟩
                | exact ⟨w5c.heap.size, rfl, rfl, ⟨HB5c.out.size⟩, ⟨(Fl.mk hC6 (by first | exact hn6 | rfl) hc6).inSet (blk_of hb6 (heap_alloc_new w5c (.cells #[.slice none 0 0] 24)))⟩, ⟨HB6.out.setCell HB5c.out.size _⟩⟩
                | exact ⟨wb.heap.size, rfl, rfl, ⟨Nat.le_refl _⟩, ⟨(Fl.mk hC6 (by first | exact hn6 | rfl) hc6).inSet (blk_of hb6 (blk_of hb5 (show (wb.alloc (.cells #[.slice none 0 0] 24)).heap[wb.heap.size]? = some (.cells #[.slice none 0 0] 24 (0, 0)) from heap_alloc_new wb _)))⟩, ⟨HB6.out.setCell (Nat.le_refl _) _⟩⟩
          case rest =>
            obtain ⟨gc, rfl, rfl, GEc, Fc, HBc⟩ := hcut
            obtain ⟨wc, rfl⟩ : ∃ x : World, x = wc := ⟨_, rfl⟩
            have kcd : wc.cell? ⟨gb, 0, none⟩ = some (.slice Ab n cb) := (HBc.out.cell (World.block_lt_of_cell? _ _ kcc)).trans kcc
            go_upto_region 12 with fail
            have ned : wc.heap.size ≠ gb := World.new_ne wc _ kcd
            go_cut [15, 16] (fun sg se wd => ∃ g : Nat, sg = .pointer (some ⟨g, 0, none⟩) ∧ se = .int .i64 0 ∧ Aside0 (wc.heap.size ≤ g) ∧ Aside0 (IsFl wd g n (writeL (writeL l k (fullS b) cut) k (fullS b) cut)) ∧ Aside0 (Below wc.heap.size wc wd))
            case first =>
              go_region_held3 (fun w' => w'.cell? ⟨gb, 0, none⟩ = some (.slice Ab n cb)) (first | assumption | go_keep) (first | (go_at_call 21; refine (full_any b _).mono ?_; rintro e w5d ⟨rfl, hb5⟩; have HB5d := Aside0.mk (below_more (w := wc) (by repeat (first | (with_reducible exact Below.refl _ _) | (with_reducible first | apply below_alloc | apply below_drew | apply pw_below_drewN))) hb5); obtain ⟨hcc5, hff5⟩ := bcell hb5; (try (have hz5 : wc.heap.size < w5d.heap.size := by have hz := hb5.size; simp at hz; omega)); have kc5 : w5d.cell? ⟨gb, 0, none⟩ = some (.slice Ab n cb) := (HB5d.out.cell (World.block_lt_of_cell? _ _ kcd)).trans kcd; have ne5 : w5d.heap.size ≠ gb := World.new_ne w5d _ kc5) | (go_at_call 15; refine (write_okN k (fullS b) cut (Fl.below (Fl.below HFb.out HBc.out) (by repeat (first | exact HB5d.out | (with_reducible first | apply below_alloc | apply below_drew | apply pw_below_drewN)))) hk0 hkn (full_size b) (by rw [SZb.out]; omega) (by omega)).mono ?_; rintro e w6d ⟨A6, c6, rfl, hC6, hn6, hc6, hb6⟩; obtain ⟨hcc6, hff6⟩ := bcell hb6; have HB6 := Aside0.mk (below_more (w := wc) (by repeat (first | exact HB5d.out | (with_reducible first | apply below_alloc | apply below_drew | apply pw_below_drewN))) hb6); have kc6 : w6d.cell? ⟨gb, 0, none⟩ = some (.slice Ab n cb) := (HB6.out.cell (World.block_lt_of_cell? _ _ kcd)).trans kcd; have ne6 : w6d.heap.size ≠ gb := World.new_ne w6d _ kc6))
              all_goals
                go_wp2_with fail
                go_meet
                first
                  | exact ⟨w6d.heap.size, rfl, rfl, ⟨HB6.out.size⟩, ⟨(Fl.mk hC6 (by first | exact hn6 | rfl) hc6).inNew⟩, ⟨below_alloc HB6.out _⟩⟩
                  | exact ⟨w5d.heap.size, rfl, rfl, ⟨HB5d.out.size⟩, ⟨(Fl.mk hC6 (by first | exact hn6 | rfl) hc6).inSet (blk_of hb6 (heap_alloc_new w5d (.cells #[.slice none 0 0] 24)))⟩, ⟨HB6.out.setCell HB5d.out.size _⟩⟩
                  | exact ⟨wc.heap.size, rfl, rfl, ⟨Nat.le_refl _⟩, ⟨(Fl.mk hC6 (by first | exact hn6 | rfl) hc6).inSet (blk_of hb6 (blk_of hb5 (show (wc.alloc (.cells #[.slice none 0 0] 24)).heap[wc.heap.size]? = some (.cells #[.slice none 0 0] 24 (0, 0)) from heap_alloc_new wc _)))⟩, ⟨HB6.out.setCell (Nat.le_refl _) _⟩⟩
            case rest =>
              obtain ⟨gd, rfl, rfl, GEd, Fd, HBd⟩ := hcut
              obtain ⟨wd, rfl⟩ : ∃ x : World, x = wc := ⟨_, rfl⟩
              obtain ⟨Aa, ca, hga, hFa⟩ := ((Fa.out.below HBb.out).below HBc.out).below HBd.out
              obtain ⟨Ac, cc, hgc, hFc⟩ := Fc.out.below HBd.out
              obtain ⟨Ad, cd, hgd, hFd⟩ := Fd.out
              have ka : wd.cell? ⟨ga, 0, none⟩ = some (.slice Aa n ca) := blk_cell hga 0
              have kb : wd.cell? ⟨gb, 0, none⟩ = some (.slice Ab n cb) := (HBd.out.cell (World.block_lt_of_cell? _ _ kcd)).trans kcd
              have kc : wd.cell? ⟨gc, 0, none⟩ = some (.slice Ac n cc) := blk_cell hgc 0
              have kd : wd.cell? ⟨gd, 0, none⟩ = some (.slice Ad n cd) := blk_cell hgd 0
              have HFa := Aside0.mk hFa
              have HFc := Aside0.mk hFc
              have HFd := Aside0.mk hFd
              have HFb2 := Aside0.mk (Fl.below (Fl.below HFb.out HBc.out) HBd.out)
              clear hga hgc hgd hFa hFc hFd kca kcb kcc kcd
              have EQ := Aside0.mk (completes_same (b := fullS b) (cut := cut) hk0 hkl)
              have EQ2 := Aside0.mk (again_same (cut := cut) hk0 hkl (full_size b) OLD.out)
              go_wp2_with (first | (go_at_call 17; with_reducible refine (rsameN HFc.out HFa.out).mono ?_; rw [EQ.out]; rintro e we ⟨rfl, hbe⟩; have HBe := Aside0.mk hbe; have kb2 : we.cell? ⟨gb, 0, none⟩ = some (.slice Ab n cb) := (hbe.cell (World.block_lt_of_cell? _ _ kb)).trans kb; have kd2 : we.cell? ⟨gd, 0, none⟩ = some (.slice Ad n cd) := (hbe.cell (World.block_lt_of_cell? _ _ kd)).trans kd; clear hbe) | (go_at_call 17; with_reducible refine (rsameN (Fl.below HFd.out HBe.out) (Fl.below HFb2.out HBe.out)).mono ?_; rw [EQ2.out]; rintro e wf ⟨rfl, hbf⟩; have HBf := Aside0.mk hbf; clear hbf))
              go_ret
              exact ⟨rfl, below_more (below_more (below_more (below_more (below_more (below_more HB2.out HBa.out) HBb.out) HBc.out) HBd.out) HBe.out) HBf.out⟩
end Go.Proofs.Ytangjehadkpecaa.Fl
