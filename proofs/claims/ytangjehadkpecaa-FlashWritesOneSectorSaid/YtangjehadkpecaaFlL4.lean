/- The walk of the law FlashWritesOneSector (chapter 8). -/
import Derived.Test.YtangjehadkpecaaFlH
import Derived.Test.YtangjehadkpecaaFlP5
namespace Go.Proofs.Ytangjehadkpecaa.Fl
set_option linter.unusedVariables false
set_option linter.unusedSimpArgs false
open Go.RowKit Go.Proofs.YtangjehadkpecaaW.PrintWords Go.Proofs.YtangjehadkpecaaW.PrintLast Go.Proofs.YtangjehadkpecaaW.PrintMore
attribute [local go_sem] max2_int min2_int max_two min_two

theorem rd_writeL_ne {l : List ByteArray} {i : Int} {b : ByteArray} {cut : Int} {j : Nat} (h0 : 0 ≤ i) (hj : ¬ (j : Int) = i) : rdOf ByteArray.empty (writeL l i b cut) (j : Int) = rdOf ByteArray.empty l (j : Int) := by
  unfold rdOf writeL
  simp only [Int.toNat_natCast, List.getD]
  rw [List.getElem?_set_ne (by omega)]

set_option maxRecDepth 100000 in
set_option maxHeartbeats 40000000 in
theorem oneSector_any {A : Option Addr} {n c : Nat} {l : List ByteArray} {w : World} (sec b cut : Int) (h : Fl w A n c l) :
    Calls Try.prog 4 #[.agg #[.slice A n c, .int .i64 sec, .int .u8 b, .int .i64 cut]] w fun e w' => e = .returned (.bool true) ∧ Below w.heap.size w w' := by
  obtain rfl := h.len
  have HF := Aside0.mk h
  have hlen : l.length ≤ 9223372036854775807 := h.C.2.1
  clear h
  cases hv : validB l with
  | false =>
    have EV := Aside0.mk hv
    clear hv
    go_enter Try.func4, Try.ntmps4
    go_wp2_with (first | (go_at_call 9; refine (sanity_any _).mono ?_; rintro e ws ⟨rfl, hbs⟩; have HBs := Aside0.mk (below_more (below_alloc (below_alloc (Below.refl _ _) _) _ : Below w.heap.size w ((w.alloc (.cells #[.slice A l.length c, .int .i64 sec, .int .u8 b, .int .i64 cut] 38)).alloc (.cells #[.slice A l.length c] 24))) hbs); have kcf : ws.cell? ⟨w.heap.size + 1, 0, none⟩ = some (.slice A l.length c) := blk_cell (blk_of hbs (show ((w.alloc (.cells #[.slice A l.length c, .int .i64 sec, .int .u8 b, .int .i64 cut] 38)).alloc (.cells #[.slice A l.length c] 24)).heap[w.heap.size + 1]? = _ from by simpa using heap_alloc_new (w.alloc (.cells #[.slice A l.length c, .int .i64 sec, .int .u8 b, .int .i64 cut] 38)) (.cells #[.slice A l.length c] 24))) 0; clear hbs) | (go_at_call 19; refine (rvalidN (Fl.below HF.out HBs.out)).mono ?_; rw [EV.out]; rintro e w2 ⟨rfl, hb2⟩; have HB2 := Aside0.mk (below_more HBs.out hb2); have kca : w2.cell? ⟨w.heap.size + 1, 0, none⟩ = some (.slice A l.length c) := (hb2.cell (World.block_lt_of_cell? _ _ kcf)).trans kcf; clear hb2))
    go_ret
    exact ⟨rfl, HB2.out⟩
  | true =>
    have EV := Aside0.mk hv
    have VF := valid_facts hv
    have hn128 : l.length ≤ 128 := VF.1
    clear hv VF
    by_cases hin : 0 ≤ sec ∧ sec < (l.length : Int)
    · have VX := Aside0.mk (valid_writeL EV.out sec (fullS b) cut hin.1 hin.2 (full_size b))
      have hk0 : 0 ≤ sec := hin.1
      have hkn : sec < (l.length : Int) := hin.2
      have OLD := Aside0.mk (valid_rd EV.out sec hk0 hkn)
      clear hin
      go_enter Try.func4, Try.ntmps4
      go_upto_region 9 with (first | (go_at_call 9; refine (sanity_any _).mono ?_; rintro e ws ⟨rfl, hbs⟩; have HBs := Aside0.mk (below_more (below_alloc (below_alloc (Below.refl _ _) _) _ : Below w.heap.size w ((w.alloc (.cells #[.slice A l.length c, .int .i64 sec, .int .u8 b, .int .i64 cut] 38)).alloc (.cells #[.slice A l.length c] 24))) hbs); have kcf : ws.cell? ⟨w.heap.size + 1, 0, none⟩ = some (.slice A l.length c) := blk_cell (blk_of hbs (show ((w.alloc (.cells #[.slice A l.length c, .int .i64 sec, .int .u8 b, .int .i64 cut] 38)).alloc (.cells #[.slice A l.length c] 24)).heap[w.heap.size + 1]? = _ from by simpa using heap_alloc_new (w.alloc (.cells #[.slice A l.length c, .int .i64 sec, .int .u8 b, .int .i64 cut] 38)) (.cells #[.slice A l.length c] 24))) 0; clear hbs) | (go_at_call 19; refine (rvalidN (Fl.below HF.out HBs.out)).mono ?_; rw [EV.out]; rintro e w2 ⟨rfl, hb2⟩; have HB2 := Aside0.mk (below_more HBs.out hb2); have kca : w2.cell? ⟨w.heap.size + 1, 0, none⟩ = some (.slice A l.length c) := (hb2.cell (World.block_lt_of_cell? _ _ kcf)).trans kcf; clear hb2) | ((with_reducible refine gate_dst (N := 25) rfl ?_); refine Kd.R_lit Kd.string w2.heap.size 9 rfl (N := 25) rfl (xs := ([] : List ByteArray)) (inner := []) (ok := fun _ => True) (okp := fun _ => True) ?hr (Reps.none _ _) (fun _ hk => hk) trivial (Below.refl _ _) (Nat.le_refl _) (by simp) ?_; (case hr => first | (go_simp; done) | (go_simp; rfl)); intro v1 w3 ho hb _ _; obtain ⟨A1, c1, rfl⟩ := Kd.R_slice ho; have HO1 := Aside0.mk ho; have HB3 := Aside0.mk hb; have cz : w3.cell? ⟨w.heap.size + 1, 0, none⟩ = some (.slice A l.length c) := (hb.cell (World.block_lt_of_cell? _ _ kca)).trans kca; clear ho hb) | (at_builtin; refine Kd.R_append_row Value.string ByteArray.empty (h1 := fun _ => rfl) w2.heap.size rfl (.tmp 25) (.tmp 27) 22 9 (.string ⟨#[]⟩) 16 rfl Try.underlying22 info_str rfl (by decide) _ [] l A l.length c (fun _ => True) rfl rfl (fun _ _ => trivial) HO1.out (Kd.C_below HF.out.C (below_more HB2.out HB3.out)) HB3.out HB3.out.size (by simp; omega) ?_; intro v2 w4 ho hb _ _; rw [List.nil_append] at ho; obtain ⟨A2, c2, rfl⟩ := Kd.R_slice ho; have CO := Aside0.mk (Kd.R_reads' ho).2.2; have HB4 := Aside0.mk hb; have kcc : w4.cell? ⟨w.heap.size + 1, 0, none⟩ = some (.slice A l.length c) := (hb.cell (World.block_lt_of_cell? _ _ kca)).trans kca; clear ho hb cz))
      have nea : w4.heap.size ≠ w.heap.size + 1 := World.new_ne w4 _ kcc
      go_cut [9, 10] (fun sg se wd => ∃ g : Nat, sg = .pointer (some ⟨g, 0, none⟩) ∧ se = .int .i64 0 ∧ Aside0 (w4.heap.size ≤ g) ∧ Aside0 (IsFl wd g l.length (writeL l sec (fullS b) cut)) ∧ Aside0 (Below w4.heap.size w4 wd))
      case first =>
        go_region_held3 (fun w' => w'.cell? ⟨w.heap.size + 1, 0, none⟩ = some (.slice A l.length c)) (first | assumption | go_keep) (first | (go_at_call 21; refine (full_any b _).mono ?_; rintro e w5a ⟨rfl, hb5⟩; have HB5a := Aside0.mk (below_more (w := w4) (by repeat (first | (with_reducible exact Below.refl _ _) | (with_reducible first | apply below_alloc | apply below_drew | apply pw_below_drewN))) hb5); obtain ⟨hcc5, hff5⟩ := bcell hb5; (try (have hz5 : w4.heap.size < w5a.heap.size := by have hz := hb5.size; simp at hz; omega)); have kc5 : w5a.cell? ⟨w.heap.size + 1, 0, none⟩ = some (.slice A l.length c) := (HB5a.out.cell (World.block_lt_of_cell? _ _ kcc)).trans kcc; have ne5 : w5a.heap.size ≠ w.heap.size + 1 := World.new_ne w5a _ kc5) | (go_at_call 15; refine (write_okN sec (fullS b) cut (Fl.below (Fl.below HF.out (below_more HB2.out HB4.out)) (by repeat (first | exact HB5a.out | (with_reducible first | apply below_alloc | apply below_drew | apply pw_below_drewN)))) hk0 hkn (full_size b) (by rw [OLD.out]; omega) (by omega)).mono ?_; rintro e w6a ⟨A6, c6, rfl, hC6, hn6, hc6, hb6⟩; obtain ⟨hcc6, hff6⟩ := bcell hb6; have HB6 := Aside0.mk (below_more (w := w4) (by repeat (first | exact HB5a.out | (with_reducible first | apply below_alloc | apply below_drew | apply pw_below_drewN))) hb6); have kc6 : w6a.cell? ⟨w.heap.size + 1, 0, none⟩ = some (.slice A l.length c) := (HB6.out.cell (World.block_lt_of_cell? _ _ kcc)).trans kcc; have ne6 : w6a.heap.size ≠ w.heap.size + 1 := World.new_ne w6a _ kc6))
        all_goals
          go_wp2_with fail
          go_meet
          first
            | exact ⟨w6a.heap.size, rfl, rfl, ⟨HB6.out.size⟩, ⟨(Fl.mk hC6 (by first | exact hn6 | rfl) hc6).inNew⟩, ⟨below_alloc HB6.out _⟩⟩
            | exact ⟨w5a.heap.size, rfl, rfl, ⟨HB5a.out.size⟩, ⟨(Fl.mk hC6 (by first | exact hn6 | rfl) hc6).inSet (blk_of hb6 (heap_alloc_new w5a (.cells #[.slice none 0 0] 24)))⟩, ⟨HB6.out.setCell HB5a.out.size _⟩⟩
            | exact ⟨w4.heap.size, rfl, rfl, ⟨Nat.le_refl _⟩, ⟨(Fl.mk hC6 (by first | exact hn6 | rfl) hc6).inSet (blk_of hb6 (blk_of hb5 (show (w4.alloc (.cells #[.slice none 0 0] 24)).heap[w4.heap.size]? = some (.cells #[.slice none 0 0] 24 (0, 0)) from heap_alloc_new w4 _)))⟩, ⟨HB6.out.setCell (Nat.le_refl _) _⟩⟩
      case rest =>
        obtain ⟨ga, rfl, rfl, GEa, Fa, HBa⟩ := hcut
        obtain ⟨wa, rfl⟩ : ∃ x : World, x = wc := ⟨_, rfl⟩
        obtain ⟨Aa, ca, hga, hFa⟩ := Fa.out
        have HFa := Aside0.mk hFa
        have ka : wa.cell? ⟨ga, 0, none⟩ = some (.slice Aa l.length ca) := blk_cell hga 0
        clear hga hFa
        have kb : wa.cell? ⟨w.heap.size + 1, 0, none⟩ = some (.slice A l.length c) := (HBa.out.cell (World.block_lt_of_cell? _ _ kcc)).trans kcc
        have HCo := Aside0.mk (Kd.C_below CO.out HBa.out)
        have HCf := Aside0.mk (Kd.C_below HF.out.C (below_more (below_more HB2.out HB4.out) HBa.out))
        go_wp2_with (go_at_call 18; refine (validN HFa.out).mono ?_; rw [VX.out]; rintro e wr ⟨rfl, hbr⟩; have HBr := Aside0.mk hbr; have kf : wr.cell? ⟨w.heap.size + 1, 0, none⟩ = some (.slice A l.length c) := (hbr.cell (World.block_lt_of_cell? _ _ kb)).trans kb; have kg : wr.cell? ⟨ga, 0, none⟩ = some (.slice Aa l.length ca) := (hbr.cell (World.block_lt_of_cell? _ _ ka)).trans ka; clear hbr)
        clear ka kb kcc
        obtain ⟨wq, hwq⟩ : ∃ x, x = wr := ⟨_, rfl⟩
        rw [← hwq] at HBr kf kg
        go_loopw [11] (fun i wd => ∃ j : Nat, j ≤ l.length ∧ i = .int .i64 j ∧ Aside0 (Drawn0 wq wd)) (fun i _ => l.length - (intOf i).toNat)
        case atStart => exact ⟨0, by omega, rfl, ⟨hwq ▸ Drawn0.refl _⟩⟩
        case round =>
          obtain ⟨j, hj, rfl, HD⟩ := hrel
          clear hwq
          have kf2 := pw_cell_below HD.out.below kf
          have kg2 := pw_cell_below HD.out.below kg
          clear kf kg
          by_cases hlt : j < l.length
          · have hjl : (j : Int) < (l.length : Int) := by omega
            have HB7 := Aside0.mk (below_more HBr.out HD.out.below)
            obtain ⟨ad, hA, hx⟩ := Kd.at_string (Kd.C_below HCf.out HB7.out) (j : Int) (by omega) hjl
            obtain ⟨bd, hB, hy⟩ := Kd.at_string (Kd.C_below HCo.out HB7.out) (j : Int) (by omega) hjl
            obtain ⟨cd, hC, hz⟩ := Kd.at_string (Fl.below HFa.out HB7.out).C (j : Int) (by omega) (by have := HFa.out.len; omega)
            subst hA hB hC
            obtain ⟨s, hs⟩ : ∃ s, rdOf ByteArray.empty l (j : Int) = s := ⟨_, rfl⟩
            rw [hs, Int.toNat_natCast] at hx hy
            have hb : (s.toList == s.toList) = true := beq_self_eq_true _
            by_cases hjs : (j : Int) = sec
            · have e1 : ((j : Int) == sec) = true := beq_iff_eq.2 hjs
              have e2 : ((j : Int) != sec) = false := bne_eq_false_iff_eq.2 hjs
              clear hs hz hjs
              go_wp2
              go_quiet (fail)
              all_goals go_wp2
              all_goals go_roundw
              case rel => exact ⟨j + 1, by omega, by go_num, ⟨HD.out.step _⟩⟩
              case measure => simp [intOf]; omega
            · have e1 : ((j : Int) == sec) = false := beq_eq_false_iff_ne.2 hjs
              have e2 : ((j : Int) != sec) = true := bne_iff_ne.2 hjs
              rw [rd_writeL_ne hk0 hjs, hs, Int.toNat_natCast] at hz
              clear hs hjs
              go_wp2
              go_quiet (fail)
              all_goals go_wp2
              all_goals go_roundw
              case rel => exact ⟨j + 1, by omega, by go_num, ⟨HD.out.step _⟩⟩
              case measure => simp [intOf]; omega
          · obtain rfl : j = l.length := by omega
            go_wp2
            go_ret
            exact ⟨rfl, below_more (below_more (below_more (below_more HB2.out HB4.out) HBa.out) HBr.out) HD.out.below⟩
    · have VX := EV
      have hor : sec < 0 ∨ (l.length : Int) ≤ sec := by omega
      have d1 : decide (0 ≤ sec) = true ∧ decide (sec < (l.length : Int)) = false ∨ decide (0 ≤ sec) = false := by
        rcases Int.lt_or_le sec 0 with h | h
        · right; simp; omega
        · left; simp; omega
      clear hin
      rcases d1 with ⟨d1, d2⟩ | d1
      ·
        go_enter Try.func4, Try.ntmps4
        go_upto_region 9 with (first | (go_at_call 9; refine (sanity_any _).mono ?_; rintro e ws ⟨rfl, hbs⟩; have HBs := Aside0.mk (below_more (below_alloc (below_alloc (Below.refl _ _) _) _ : Below w.heap.size w ((w.alloc (.cells #[.slice A l.length c, .int .i64 sec, .int .u8 b, .int .i64 cut] 38)).alloc (.cells #[.slice A l.length c] 24))) hbs); have kcf : ws.cell? ⟨w.heap.size + 1, 0, none⟩ = some (.slice A l.length c) := blk_cell (blk_of hbs (show ((w.alloc (.cells #[.slice A l.length c, .int .i64 sec, .int .u8 b, .int .i64 cut] 38)).alloc (.cells #[.slice A l.length c] 24)).heap[w.heap.size + 1]? = _ from by simpa using heap_alloc_new (w.alloc (.cells #[.slice A l.length c, .int .i64 sec, .int .u8 b, .int .i64 cut] 38)) (.cells #[.slice A l.length c] 24))) 0; clear hbs) | (go_at_call 19; refine (rvalidN (Fl.below HF.out HBs.out)).mono ?_; rw [EV.out]; rintro e w2 ⟨rfl, hb2⟩; have HB2 := Aside0.mk (below_more HBs.out hb2); have kca : w2.cell? ⟨w.heap.size + 1, 0, none⟩ = some (.slice A l.length c) := (hb2.cell (World.block_lt_of_cell? _ _ kcf)).trans kcf; clear hb2) | ((with_reducible refine gate_dst (N := 25) rfl ?_); refine Kd.R_lit Kd.string w2.heap.size 9 rfl (N := 25) rfl (xs := ([] : List ByteArray)) (inner := []) (ok := fun _ => True) (okp := fun _ => True) ?hr (Reps.none _ _) (fun _ hk => hk) trivial (Below.refl _ _) (Nat.le_refl _) (by simp) ?_; (case hr => first | (go_simp; done) | (go_simp; rfl)); intro v1 w3 ho hb _ _; obtain ⟨A1, c1, rfl⟩ := Kd.R_slice ho; have HO1 := Aside0.mk ho; have HB3 := Aside0.mk hb; have cz : w3.cell? ⟨w.heap.size + 1, 0, none⟩ = some (.slice A l.length c) := (hb.cell (World.block_lt_of_cell? _ _ kca)).trans kca; clear ho hb) | (at_builtin; refine Kd.R_append_row Value.string ByteArray.empty (h1 := fun _ => rfl) w2.heap.size rfl (.tmp 25) (.tmp 27) 22 9 (.string ⟨#[]⟩) 16 rfl Try.underlying22 info_str rfl (by decide) _ [] l A l.length c (fun _ => True) rfl rfl (fun _ _ => trivial) HO1.out (Kd.C_below HF.out.C (below_more HB2.out HB3.out)) HB3.out HB3.out.size (by simp; omega) ?_; intro v2 w4 ho hb _ _; rw [List.nil_append] at ho; obtain ⟨A2, c2, rfl⟩ := Kd.R_slice ho; have CO := Aside0.mk (Kd.R_reads' ho).2.2; have HB4 := Aside0.mk hb; have kcc : w4.cell? ⟨w.heap.size + 1, 0, none⟩ = some (.slice A l.length c) := (hb.cell (World.block_lt_of_cell? _ _ kca)).trans kca; clear ho hb cz))
        have nea : w4.heap.size ≠ w.heap.size + 1 := World.new_ne w4 _ kcc
        go_cut [9, 10] (fun sg se wd => ∃ g : Nat, sg = .pointer (some ⟨g, 0, none⟩) ∧ se = .int .i64 13 ∧ Aside0 (w4.heap.size ≤ g) ∧ Aside0 (IsFl wd g l.length l) ∧ Aside0 (Below w4.heap.size w4 wd))
        case first =>
          go_region_held3 (fun w' => w'.cell? ⟨w.heap.size + 1, 0, none⟩ = some (.slice A l.length c)) (first | assumption | go_keep) (first | (go_at_call 21; refine (full_any b _).mono ?_; rintro e w5a ⟨rfl, hb5⟩; have HB5a := Aside0.mk (below_more (w := w4) (by repeat (first | (with_reducible exact Below.refl _ _) | (with_reducible first | apply below_alloc | apply below_drew | apply pw_below_drewN))) hb5); obtain ⟨hcc5, hff5⟩ := bcell hb5; (try (have hz5 : w4.heap.size < w5a.heap.size := by have hz := hb5.size; simp at hz; omega)); have kc5 : w5a.cell? ⟨w.heap.size + 1, 0, none⟩ = some (.slice A l.length c) := (HB5a.out.cell (World.block_lt_of_cell? _ _ kcc)).trans kcc; have ne5 : w5a.heap.size ≠ w.heap.size + 1 := World.new_ne w5a _ kc5) | (go_at_call 15; refine (write_noneN sec (fullS b) cut (Fl.below (Fl.below HF.out (below_more HB2.out HB4.out)) (by repeat (first | exact HB5a.out | (with_reducible first | apply below_alloc | apply below_drew | apply pw_below_drewN)))) hor).mono ?_; rintro e w6a ⟨A6, c6, rfl, hC6, hn6, hc6, hb6⟩; obtain ⟨hcc6, hff6⟩ := bcell hb6; have HB6 := Aside0.mk (below_more (w := w4) (by repeat (first | exact HB5a.out | (with_reducible first | apply below_alloc | apply below_drew | apply pw_below_drewN))) hb6); have kc6 : w6a.cell? ⟨w.heap.size + 1, 0, none⟩ = some (.slice A l.length c) := (HB6.out.cell (World.block_lt_of_cell? _ _ kcc)).trans kcc; have ne6 : w6a.heap.size ≠ w.heap.size + 1 := World.new_ne w6a _ kc6))
          all_goals
            go_wp2_with fail
            go_meet
            first
              | exact ⟨w6a.heap.size, rfl, rfl, ⟨HB6.out.size⟩, ⟨(Fl.mk hC6 (by first | exact hn6 | rfl) hc6).inNew⟩, ⟨below_alloc HB6.out _⟩⟩
              | exact ⟨w5a.heap.size, rfl, rfl, ⟨HB5a.out.size⟩, ⟨(Fl.mk hC6 (by first | exact hn6 | rfl) hc6).inSet (blk_of hb6 (heap_alloc_new w5a (.cells #[.slice none 0 0] 24)))⟩, ⟨HB6.out.setCell HB5a.out.size _⟩⟩
              | exact ⟨w4.heap.size, rfl, rfl, ⟨Nat.le_refl _⟩, ⟨(Fl.mk hC6 (by first | exact hn6 | rfl) hc6).inSet (blk_of hb6 (blk_of hb5 (show (w4.alloc (.cells #[.slice none 0 0] 24)).heap[w4.heap.size]? = some (.cells #[.slice none 0 0] 24 (0, 0)) from heap_alloc_new w4 _)))⟩, ⟨HB6.out.setCell (Nat.le_refl _) _⟩⟩
        case rest =>
          obtain ⟨ga, rfl, rfl, GEa, Fa, HBa⟩ := hcut
          obtain ⟨wa, rfl⟩ : ∃ x : World, x = wc := ⟨_, rfl⟩
          obtain ⟨Aa, ca, hga, hFa⟩ := Fa.out
          have HFa := Aside0.mk hFa
          have ka : wa.cell? ⟨ga, 0, none⟩ = some (.slice Aa l.length ca) := blk_cell hga 0
          clear hga hFa
          have kb : wa.cell? ⟨w.heap.size + 1, 0, none⟩ = some (.slice A l.length c) := (HBa.out.cell (World.block_lt_of_cell? _ _ kcc)).trans kcc
          have HCo := Aside0.mk (Kd.C_below CO.out HBa.out)
          have HCf := Aside0.mk (Kd.C_below HF.out.C (below_more (below_more HB2.out HB4.out) HBa.out))
          go_wp2_with (go_at_call 18; refine (validN HFa.out).mono ?_; rw [VX.out]; rintro e wr ⟨rfl, hbr⟩; have HBr := Aside0.mk hbr; have kf : wr.cell? ⟨w.heap.size + 1, 0, none⟩ = some (.slice A l.length c) := (hbr.cell (World.block_lt_of_cell? _ _ kb)).trans kb; have kg : wr.cell? ⟨ga, 0, none⟩ = some (.slice Aa l.length ca) := (hbr.cell (World.block_lt_of_cell? _ _ ka)).trans ka; clear hbr)
          clear ka kb kcc
          obtain ⟨wq, hwq⟩ : ∃ x, x = wr := ⟨_, rfl⟩
          rw [← hwq] at HBr kf kg
          go_loopw [11] (fun i wd => ∃ j : Nat, j ≤ l.length ∧ i = .int .i64 j ∧ Aside0 (Drawn0 wq wd)) (fun i _ => l.length - (intOf i).toNat)
          case atStart => exact ⟨0, by omega, rfl, ⟨hwq ▸ Drawn0.refl _⟩⟩
          case round =>
            obtain ⟨j, hj, rfl, HD⟩ := hrel
            clear hwq
            have kf2 := pw_cell_below HD.out.below kf
            have kg2 := pw_cell_below HD.out.below kg
            clear kf kg
            by_cases hlt : j < l.length
            · have hjl : (j : Int) < (l.length : Int) := by omega
              have HB7 := Aside0.mk (below_more HBr.out HD.out.below)
              obtain ⟨ad, hA, hx⟩ := Kd.at_string (Kd.C_below HCf.out HB7.out) (j : Int) (by omega) hjl
              obtain ⟨bd, hB, hy⟩ := Kd.at_string (Kd.C_below HCo.out HB7.out) (j : Int) (by omega) hjl
              obtain ⟨cd, hC, hz⟩ := Kd.at_string (Fl.below HFa.out HB7.out).C (j : Int) (by omega) (by have := HFa.out.len; omega)
              subst hA hB hC
              obtain ⟨s, hs⟩ : ∃ s, rdOf ByteArray.empty l (j : Int) = s := ⟨_, rfl⟩
              rw [hs, Int.toNat_natCast] at hx hy
              have hb : (s.toList == s.toList) = true := beq_self_eq_true _
              rw [hs, Int.toNat_natCast] at hz
              clear hs
              by_cases hjs : (j : Int) = sec
              · have e1 : ((j : Int) == sec) = true := beq_iff_eq.2 hjs
                have e2 : ((j : Int) != sec) = false := bne_eq_false_iff_eq.2 hjs
                clear hjs
                go_wp2
                go_quiet (fail)
                all_goals go_wp2
                all_goals go_roundw
                case rel => exact ⟨j + 1, by omega, by go_num, ⟨HD.out.step _⟩⟩
                case measure => simp [intOf]; omega
              · have e1 : ((j : Int) == sec) = false := beq_eq_false_iff_ne.2 hjs
                have e2 : ((j : Int) != sec) = true := bne_iff_ne.2 hjs
                clear hjs
                go_wp2
                go_quiet (fail)
                all_goals go_wp2
                all_goals go_roundw
                case rel => exact ⟨j + 1, by omega, by go_num, ⟨HD.out.step _⟩⟩
                case measure => simp [intOf]; omega
            · obtain rfl : j = l.length := by omega
              go_wp2
              go_ret
              exact ⟨rfl, below_more (below_more (below_more (below_more HB2.out HB4.out) HBa.out) HBr.out) HD.out.below⟩
      ·
        go_enter Try.func4, Try.ntmps4
        go_upto_region 9 with (first | (go_at_call 9; refine (sanity_any _).mono ?_; rintro e ws ⟨rfl, hbs⟩; have HBs := Aside0.mk (below_more (below_alloc (below_alloc (Below.refl _ _) _) _ : Below w.heap.size w ((w.alloc (.cells #[.slice A l.length c, .int .i64 sec, .int .u8 b, .int .i64 cut] 38)).alloc (.cells #[.slice A l.length c] 24))) hbs); have kcf : ws.cell? ⟨w.heap.size + 1, 0, none⟩ = some (.slice A l.length c) := blk_cell (blk_of hbs (show ((w.alloc (.cells #[.slice A l.length c, .int .i64 sec, .int .u8 b, .int .i64 cut] 38)).alloc (.cells #[.slice A l.length c] 24)).heap[w.heap.size + 1]? = _ from by simpa using heap_alloc_new (w.alloc (.cells #[.slice A l.length c, .int .i64 sec, .int .u8 b, .int .i64 cut] 38)) (.cells #[.slice A l.length c] 24))) 0; clear hbs) | (go_at_call 19; refine (rvalidN (Fl.below HF.out HBs.out)).mono ?_; rw [EV.out]; rintro e w2 ⟨rfl, hb2⟩; have HB2 := Aside0.mk (below_more HBs.out hb2); have kca : w2.cell? ⟨w.heap.size + 1, 0, none⟩ = some (.slice A l.length c) := (hb2.cell (World.block_lt_of_cell? _ _ kcf)).trans kcf; clear hb2) | ((with_reducible refine gate_dst (N := 25) rfl ?_); refine Kd.R_lit Kd.string w2.heap.size 9 rfl (N := 25) rfl (xs := ([] : List ByteArray)) (inner := []) (ok := fun _ => True) (okp := fun _ => True) ?hr (Reps.none _ _) (fun _ hk => hk) trivial (Below.refl _ _) (Nat.le_refl _) (by simp) ?_; (case hr => first | (go_simp; done) | (go_simp; rfl)); intro v1 w3 ho hb _ _; obtain ⟨A1, c1, rfl⟩ := Kd.R_slice ho; have HO1 := Aside0.mk ho; have HB3 := Aside0.mk hb; have cz : w3.cell? ⟨w.heap.size + 1, 0, none⟩ = some (.slice A l.length c) := (hb.cell (World.block_lt_of_cell? _ _ kca)).trans kca; clear ho hb) | (at_builtin; refine Kd.R_append_row Value.string ByteArray.empty (h1 := fun _ => rfl) w2.heap.size rfl (.tmp 25) (.tmp 27) 22 9 (.string ⟨#[]⟩) 16 rfl Try.underlying22 info_str rfl (by decide) _ [] l A l.length c (fun _ => True) rfl rfl (fun _ _ => trivial) HO1.out (Kd.C_below HF.out.C (below_more HB2.out HB3.out)) HB3.out HB3.out.size (by simp; omega) ?_; intro v2 w4 ho hb _ _; rw [List.nil_append] at ho; obtain ⟨A2, c2, rfl⟩ := Kd.R_slice ho; have CO := Aside0.mk (Kd.R_reads' ho).2.2; have HB4 := Aside0.mk hb; have kcc : w4.cell? ⟨w.heap.size + 1, 0, none⟩ = some (.slice A l.length c) := (hb.cell (World.block_lt_of_cell? _ _ kca)).trans kca; clear ho hb cz))
        have nea : w4.heap.size ≠ w.heap.size + 1 := World.new_ne w4 _ kcc
        go_cut [9, 10] (fun sg se wd => ∃ g : Nat, sg = .pointer (some ⟨g, 0, none⟩) ∧ se = .int .i64 13 ∧ Aside0 (w4.heap.size ≤ g) ∧ Aside0 (IsFl wd g l.length l) ∧ Aside0 (Below w4.heap.size w4 wd))
        case first =>
          go_region_held3 (fun w' => w'.cell? ⟨w.heap.size + 1, 0, none⟩ = some (.slice A l.length c)) (first | assumption | go_keep) (first | (go_at_call 21; refine (full_any b _).mono ?_; rintro e w5a ⟨rfl, hb5⟩; have HB5a := Aside0.mk (below_more (w := w4) (by repeat (first | (with_reducible exact Below.refl _ _) | (with_reducible first | apply below_alloc | apply below_drew | apply pw_below_drewN))) hb5); obtain ⟨hcc5, hff5⟩ := bcell hb5; (try (have hz5 : w4.heap.size < w5a.heap.size := by have hz := hb5.size; simp at hz; omega)); have kc5 : w5a.cell? ⟨w.heap.size + 1, 0, none⟩ = some (.slice A l.length c) := (HB5a.out.cell (World.block_lt_of_cell? _ _ kcc)).trans kcc; have ne5 : w5a.heap.size ≠ w.heap.size + 1 := World.new_ne w5a _ kc5) | (go_at_call 15; refine (write_noneN sec (fullS b) cut (Fl.below (Fl.below HF.out (below_more HB2.out HB4.out)) (by repeat (first | exact HB5a.out | (with_reducible first | apply below_alloc | apply below_drew | apply pw_below_drewN)))) hor).mono ?_; rintro e w6a ⟨A6, c6, rfl, hC6, hn6, hc6, hb6⟩; obtain ⟨hcc6, hff6⟩ := bcell hb6; have HB6 := Aside0.mk (below_more (w := w4) (by repeat (first | exact HB5a.out | (with_reducible first | apply below_alloc | apply below_drew | apply pw_below_drewN))) hb6); have kc6 : w6a.cell? ⟨w.heap.size + 1, 0, none⟩ = some (.slice A l.length c) := (HB6.out.cell (World.block_lt_of_cell? _ _ kcc)).trans kcc; have ne6 : w6a.heap.size ≠ w.heap.size + 1 := World.new_ne w6a _ kc6))
          all_goals
            go_wp2_with fail
            go_meet
            first
              | exact ⟨w6a.heap.size, rfl, rfl, ⟨HB6.out.size⟩, ⟨(Fl.mk hC6 (by first | exact hn6 | rfl) hc6).inNew⟩, ⟨below_alloc HB6.out _⟩⟩
              | exact ⟨w5a.heap.size, rfl, rfl, ⟨HB5a.out.size⟩, ⟨(Fl.mk hC6 (by first | exact hn6 | rfl) hc6).inSet (blk_of hb6 (heap_alloc_new w5a (.cells #[.slice none 0 0] 24)))⟩, ⟨HB6.out.setCell HB5a.out.size _⟩⟩
              | exact ⟨w4.heap.size, rfl, rfl, ⟨Nat.le_refl _⟩, ⟨(Fl.mk hC6 (by first | exact hn6 | rfl) hc6).inSet (blk_of hb6 (blk_of hb5 (show (w4.alloc (.cells #[.slice none 0 0] 24)).heap[w4.heap.size]? = some (.cells #[.slice none 0 0] 24 (0, 0)) from heap_alloc_new w4 _)))⟩, ⟨HB6.out.setCell (Nat.le_refl _) _⟩⟩
        case rest =>
          obtain ⟨ga, rfl, rfl, GEa, Fa, HBa⟩ := hcut
          obtain ⟨wa, rfl⟩ : ∃ x : World, x = wc := ⟨_, rfl⟩
          obtain ⟨Aa, ca, hga, hFa⟩ := Fa.out
          have HFa := Aside0.mk hFa
          have ka : wa.cell? ⟨ga, 0, none⟩ = some (.slice Aa l.length ca) := blk_cell hga 0
          clear hga hFa
          have kb : wa.cell? ⟨w.heap.size + 1, 0, none⟩ = some (.slice A l.length c) := (HBa.out.cell (World.block_lt_of_cell? _ _ kcc)).trans kcc
          have HCo := Aside0.mk (Kd.C_below CO.out HBa.out)
          have HCf := Aside0.mk (Kd.C_below HF.out.C (below_more (below_more HB2.out HB4.out) HBa.out))
          go_wp2_with (go_at_call 18; refine (validN HFa.out).mono ?_; rw [VX.out]; rintro e wr ⟨rfl, hbr⟩; have HBr := Aside0.mk hbr; have kf : wr.cell? ⟨w.heap.size + 1, 0, none⟩ = some (.slice A l.length c) := (hbr.cell (World.block_lt_of_cell? _ _ kb)).trans kb; have kg : wr.cell? ⟨ga, 0, none⟩ = some (.slice Aa l.length ca) := (hbr.cell (World.block_lt_of_cell? _ _ ka)).trans ka; clear hbr)
          clear ka kb kcc
          obtain ⟨wq, hwq⟩ : ∃ x, x = wr := ⟨_, rfl⟩
          rw [← hwq] at HBr kf kg
          go_loopw [11] (fun i wd => ∃ j : Nat, j ≤ l.length ∧ i = .int .i64 j ∧ Aside0 (Drawn0 wq wd)) (fun i _ => l.length - (intOf i).toNat)
          case atStart => exact ⟨0, by omega, rfl, ⟨hwq ▸ Drawn0.refl _⟩⟩
          case round =>
            obtain ⟨j, hj, rfl, HD⟩ := hrel
            clear hwq
            have kf2 := pw_cell_below HD.out.below kf
            have kg2 := pw_cell_below HD.out.below kg
            clear kf kg
            by_cases hlt : j < l.length
            · have hjl : (j : Int) < (l.length : Int) := by omega
              have HB7 := Aside0.mk (below_more HBr.out HD.out.below)
              obtain ⟨ad, hA, hx⟩ := Kd.at_string (Kd.C_below HCf.out HB7.out) (j : Int) (by omega) hjl
              obtain ⟨bd, hB, hy⟩ := Kd.at_string (Kd.C_below HCo.out HB7.out) (j : Int) (by omega) hjl
              obtain ⟨cd, hC, hz⟩ := Kd.at_string (Fl.below HFa.out HB7.out).C (j : Int) (by omega) (by have := HFa.out.len; omega)
              subst hA hB hC
              obtain ⟨s, hs⟩ : ∃ s, rdOf ByteArray.empty l (j : Int) = s := ⟨_, rfl⟩
              rw [hs, Int.toNat_natCast] at hx hy
              have hb : (s.toList == s.toList) = true := beq_self_eq_true _
              rw [hs, Int.toNat_natCast] at hz
              clear hs
              by_cases hjs : (j : Int) = sec
              · have e1 : ((j : Int) == sec) = true := beq_iff_eq.2 hjs
                have e2 : ((j : Int) != sec) = false := bne_eq_false_iff_eq.2 hjs
                clear hjs
                go_wp2
                go_quiet (fail)
                all_goals go_wp2
                all_goals go_roundw
                case rel => exact ⟨j + 1, by omega, by go_num, ⟨HD.out.step _⟩⟩
                case measure => simp [intOf]; omega
              · have e1 : ((j : Int) == sec) = false := beq_eq_false_iff_ne.2 hjs
                have e2 : ((j : Int) != sec) = true := bne_iff_ne.2 hjs
                clear hjs
                go_wp2
                go_quiet (fail)
                all_goals go_wp2
                all_goals go_roundw
                case rel => exact ⟨j + 1, by omega, by go_num, ⟨HD.out.step _⟩⟩
                case measure => simp [intOf]; omega
            · obtain rfl : j = l.length := by omega
              go_wp2
              go_ret
              exact ⟨rfl, below_more (below_more (below_more (below_more HB2.out HB4.out) HBa.out) HBr.out) HD.out.below⟩
end Go.Proofs.Ytangjehadkpecaa.Fl
