/- The walk of the law FlashReadsLastWrite (chapter 8). -/
import Derived.Test.YtangjehadkpecaaFlH
import Derived.Test.YtangjehadkpecaaFlP5
import Derived.Test.YtangjehadkpecaaFlL6a
namespace Go.Proofs.Ytangjehadkpecaa.Fl
set_option linter.unusedVariables false
set_option linter.unusedSimpArgs false
open Go.RowKit Go.Proofs.YtangjehadkpecaaW.PrintWords Go.Proofs.YtangjehadkpecaaW.PrintLast Go.Proofs.YtangjehadkpecaaW.PrintMore
attribute [local go_sem] max2_int min2_int max_two min_two

set_option maxRecDepth 100000 in
set_option maxHeartbeats 40000000 in
theorem lastWrite_any {A : Option Addr} {c : Nat} {L : List Int} {w : World} (nn : Int) (hn0 : 0 ≤ nn) (hn1 : nn ≤ 255) (hL : Kd.C (Kd.int .u8) w A L.length L) (hcap : L.length ≤ c) (hr : ∀ x ∈ L, 0 ≤ x ∧ x ≤ 255) :
    Calls Try.prog 6 #[.int .u8 nn, .slice A L.length c] w fun e w' => e = .returned (.bool true) ∧ Below w.heap.size w w' := by
  have HL := Aside0.mk hL
  have HR := Aside0.mk hr
  have hlen : L.length ≤ 9223372036854775807 := hL.2.1
  clear hL hr
  by_cases h40 : 40 < (L.length : Int)
  · go_enter Try.func6, Try.ntmps6
    go_wp2_with (first | (go_at_call 9; refine (sanity_any _).mono ?_; rintro e ws ⟨rfl, hbs⟩; have HBs := Aside0.mk hbs; clear hbs))
    go_ret
    exact ⟨rfl, HBs.out⟩
  · have h40' : (L.length : Int) ≤ 40 := by omega
    obtain ⟨M, hM⟩ : ∃ M : Nat, 1 + nn % 8 = (M : Int) := ⟨_, (Int.toNat_of_nonneg (by omega)).symm⟩
    have hM1 : 1 ≤ M := by omega
    have hM2 : M ≤ 8 := by omega
    have hMp : (0 : Int) ≤ (M : Int) := by omega
    clear h40
    go_enter Try.func6, Try.ntmps6
    go_wp2_with (first | (go_at_call 9; refine (sanity_any _).mono ?_; rintro e ws ⟨rfl, hbs⟩; have HBs := Aside0.mk hbs; clear hbs) | (go_at_call 11; (try rw [hM]); refine (new_okN M (by omega)).mono ?_; rintro e w1 ⟨A1, c1, rfl, hC1, hn1, hc1, hb1⟩; have HF1 := Aside0.mk (Fl.mk hC1 hn1 hc1); have HB1 := Aside0.mk (below_more HBs.out hb1); clear hC1 hn1 hc1 hb1) | ((with_reducible refine gate_dst (N := 34) rfl ?_); refine Kd.R_make (Kd.int .u8) (w1.alloc (.cells #[.slice A1 M c1] 24)).heap.size 5 rfl (N := 34) rfl 44 _ _ rfl (M : Int) rfl rfl Try.underlying44 (.int .u8 0) 1 info_u8 rfl (by decide) (by omega) 0 (ok := fun _ => True) (okp := fun _ => True) rfl (fun _ hk => hk) trivial (by omega) (by omega) (Below.refl _ _) (Nat.le_refl _) ?_; intro v1 w2 ho hb _ _; rw [Int.toNat_natCast] at ho; obtain ⟨g, co, rfl, gb, gl, cl, hgc⟩ := Kd.R_form ho (by rw [List.length_replicate]; omega); rw [List.length_replicate] at ho; have HO1 := Aside0.mk ho; have HB2 := Aside0.mk hb; have GB := Aside0.mk gb; clear ho hb gb gl hgc cl))
    have HI := Aside0.mk (Fl.inNew HF1.out)
    have hgf := GB.out
    go_loopw [10, 11, 12, 13] (fun i _ _ _ wr => ∃ (j : Nat) (W : List Int), j ≤ L.length ∧ i = .int .i64 j ∧ Aside0 (W.length = M) ∧ Aside0 (Kd.R (Kd.int .u8) 5 wr (w1.alloc (.cells #[.slice A1 M c1] 24)).heap.size (fun _ => True) (.slice (some ⟨g, 0, none⟩) M co) W) ∧ Aside0 (IsFl wr w1.heap.size M (W.map fullS)) ∧ Aside0 (Below w.heap.size w wr)) (fun i _ _ _ _ => L.length - (intOf i).toNat)
    case atStart => exact ⟨0, List.replicate M 0, by omega, rfl, ⟨List.length_replicate⟩, HO1, ⟨HI.out.below HB2.out⟩, ⟨below_more (below_alloc HB1.out _) HB2.out⟩⟩
    case round =>
      obtain ⟨j, W, hj, rfl, HW, HO, HS, HB⟩ := hrel
      by_cases hlt : j < L.length
      · obtain ⟨Af, cf, hgf0, hFf⟩ := HS.out
        have HFf := Aside0.mk hFf
        have HG := Aside0.mk hgf0
        have kca : wr.cell? ⟨w1.heap.size, 0, none⟩ = some (.slice Af M cf) := blk_cell hgf0 0
        obtain ⟨ad, hA, hx⟩ := Kd.at_int (Kd.C_below HL.out HB.out) (j : Int) (by omega) (by omega)
        rw [Int.toNat_natCast] at hx
        subst hA
        obtain ⟨x, hxe⟩ : ∃ x, x = rd L (j : Int) := ⟨_, rfl⟩
        rw [← hxe] at hx
        have hxr : 0 ≤ x ∧ x ≤ 255 := by rw [hxe]; exact HR.out _ (rd_mem hlt)
        clear hxe hgf0 hFf
        have hx0 := hxr.1
        have hx1 := hxr.2
        have hjl : (j : Int) < (L.length : Int) := by omega
        go_upto_region 13 with fail
        obtain ⟨kk, hkk⟩ : ∃ k, k = x % (M : Int) := ⟨_, rfl⟩
        rw [← hkk]
        have hk0 : 0 ≤ kk := by rw [hkk]; exact Int.emod_nonneg _ (by omega)
        have hkn : kk < (M : Int) := by rw [hkk]; exact Int.emod_lt_of_pos _ (by omega)
        clear hkk
        have nea : wr.heap.size ≠ w1.heap.size := World.new_ne wr _ kca
        have nex : wr.heap.size ≠ (ad.add j).block := World.new_ne wr _ hx
        have nex2 : wr.heap.size ≠ ad.block := blk_add_ne nex
        go_cut [12, 13] (fun sg se wd => ∃ gb : Nat, sg = .pointer (some ⟨gb, 0, none⟩) ∧ se = .int .i64 0 ∧ Aside0 (wr.heap.size ≤ gb) ∧ Aside0 (IsFl wd gb M (writeL (W.map fullS) kk (fullS x) (-1))) ∧ Aside0 (Below wr.heap.size wr wd))
        case first =>
          go_region_held3 (fun w' => w'.cell? ⟨w1.heap.size, 0, none⟩ = some (.slice Af M cf) ∧ w'.cell? (ad.add j) = some (.int .u8 x)) (first | assumption | exact ⟨by assumption, by assumption⟩ | go_keep) (first | (go_at_call 21; refine (full_any x _).mono ?_; rintro e w5 ⟨rfl, hb5⟩; have HB5 := Aside0.mk (below_more (w := wr) (by repeat (first | (with_reducible exact Below.refl _ _) | (with_reducible first | apply below_alloc | apply below_drew | apply pw_below_drewN))) hb5); obtain ⟨hcc5, hff5⟩ := bcell hb5; (try (have hz5 : wr.heap.size < w5.heap.size := by have hz := hb5.size; simp at hz; omega)); have kc5 : w5.cell? ⟨w1.heap.size, 0, none⟩ = some (.slice Af M cf) := (HB5.out.cell (World.block_lt_of_cell? _ _ kca)).trans kca; have kx5 : w5.cell? (ad.add j) = some (.int .u8 x) := (HB5.out.cell (World.block_lt_of_cell? _ _ hx)).trans hx; have ne5 : w5.heap.size ≠ w1.heap.size := World.new_ne w5 _ kc5; have nx5 : w5.heap.size ≠ (ad.add j).block := World.new_ne w5 _ kx5; have ny5 : w5.heap.size ≠ ad.block := blk_add_ne nx5) | (go_at_call 15; refine (write_okN kk (fullS x) (-1) (Fl.below HFf.out (by repeat (first | exact HB5.out | (with_reducible exact Below.refl _ _) | (with_reducible first | apply below_alloc | apply below_drew | apply pw_below_drewN)))) hk0 hkn (full_size x) (by rw [row_rd hk0 (by have := HW.out; omega), full_size]; omega) (by omega)).mono ?_; rintro e w6 ⟨A6, c6, rfl, hC6, hn6, hc6, hb6⟩; obtain ⟨hcc6, hff6⟩ := bcell hb6; have HB6 := Aside0.mk (below_more (w := wr) (by repeat (first | exact HB5.out | (with_reducible exact Below.refl _ _) | (with_reducible first | apply below_alloc | apply below_drew | apply pw_below_drewN))) hb6); have kc6 : w6.cell? ⟨w1.heap.size, 0, none⟩ = some (.slice Af M cf) := (HB6.out.cell (World.block_lt_of_cell? _ _ kca)).trans kca; have kx6 : w6.cell? (ad.add j) = some (.int .u8 x) := (HB6.out.cell (World.block_lt_of_cell? _ _ hx)).trans hx; have ne6 : w6.heap.size ≠ w1.heap.size := World.new_ne w6 _ kc6; have nx6 : w6.heap.size ≠ (ad.add j).block := World.new_ne w6 _ kx6; have ny6 : w6.heap.size ≠ ad.block := blk_add_ne nx6))
          all_goals
            go_wp2_with fail
            go_meet
            first
              | exact ⟨w6.heap.size, rfl, rfl, ⟨HB6.out.size⟩, ⟨(Fl.mk hC6 (by first | exact hn6 | rfl) hc6).inNew⟩, ⟨below_alloc HB6.out _⟩⟩
              | exact ⟨w5.heap.size, rfl, rfl, ⟨HB5.out.size⟩, ⟨(Fl.mk hC6 (by first | exact hn6 | rfl) hc6).inSet (blk_of hb6 (heap_alloc_new w5 (.cells #[.slice none 0 0] 24)))⟩, ⟨HB6.out.setCell HB5.out.size _⟩⟩
              | exact ⟨wr.heap.size, rfl, rfl, ⟨Nat.le_refl _⟩, ⟨(Fl.mk hC6 (by first | exact hn6 | rfl) hc6).inSet (blk_of hb6 (blk_of hb5 (show (wr.alloc (.cells #[.slice none 0 0] 24)).heap[wr.heap.size]? = some (.cells #[.slice none 0 0] 24 (0, 0)) from heap_alloc_new wr _)))⟩, ⟨HB6.out.setCell (Nat.le_refl _) _⟩⟩
        case rest =>
          obtain ⟨gb, rfl, rfl, GE, Fb, HBd⟩ := hcut
          obtain ⟨wd, rfl⟩ : ∃ x : World, x = wc := ⟨_, rfl⟩
          rw [row_write hk0 (by have := HW.out; omega)] at Fb
          obtain ⟨Ab, cb, hgb, hFb⟩ := Fb.out
          have HFb := Aside0.mk hFb
          have HOd := Aside0.mk (Kd.R_below HO.out HBd.out)
          have HGd := Aside0.mk (blk_of HBd.out HG.out)
          have kb : wd.cell? ⟨gb, 0, none⟩ = some (.slice Ab M cb) := blk_cell hgb 0
          have kf : wd.cell? ⟨w1.heap.size, 0, none⟩ = some (.slice Af M cf) := blk_cell HGd.out 0
          have kz : wd.frozen? ⟨w1.heap.size, 0, none⟩ = false := blk_frozen HGd.out 0
          have kx : wd.cell? (ad.add j) = some (.int .u8 x) := (HBd.out.cell (World.block_lt_of_cell? _ _ hx)).trans hx
          obtain ⟨hxk, hzk⟩ := Kd.R_celln 0 HOd.out kk hk0 hkn
          have hgne : w1.heap.size ≠ g := by simp at hgf; omega
          have hlw : (ad.add j).block < w1.heap.size := by
            obtain ⟨ad', hA', hx'⟩ := Kd.at_int (Kd.C_below HL.out HB1.out) (j : Int) (by omega) (by omega)
            rw [Int.toNat_natCast] at hx'
            obtain rfl := Option.some.inj hA'
            exact World.block_lt_of_cell? _ _ hx'
          have nxw : w1.heap.size ≠ (ad.add j).block := by omega
          have nxw2 := blk_add_ne nxw
          have ngx : g ≠ (ad.add j).block := by simp at hgf; omega
          have ngx2 := blk_add_ne ngx
          have kx2 : (wd.setCell ⟨w1.heap.size, 0, none⟩ (.slice Ab M cb)).cell? (ad.add j) = some (.int .u8 x) := by
            rw [World.cell?_setCell_other]
            · exact kx
            · exact fun h => nxw (by rw [← h])
          have hxk2 : (wd.setCell ⟨w1.heap.size, 0, none⟩ (.slice Ab M cb)).cell? ⟨g, kk.toNat, none⟩ = some (.int .u8 (rdOf 0 W kk)) := by
            rw [World.cell?_setCell_other]
            · exact hxk
            · exact fun h => hgne (congrArg Addr.block h)
          clear hgb hFb hx kca nea nex nex2
          have RO := Aside0.mk (Kd.R_putn (Kd.R_mono (Kd.R_far (p := ⟨w1.heap.size, 0, none⟩) (Kd.R_types HOd.out HGd.out (by decide)) (fun _ hk => hk.2) (.slice Ab M cb)) (fun _ _ => trivial)) kk x)
          have RI := Aside0.mk ((Fl.inSet HFb.out HGd.out).setNon hxk2 (fun _ => by simp) hgne (.int .u8 x))
          have RB := Aside0.mk (((below_more HB.out HBd.out).setCell (p := ⟨w1.heap.size, 0, none⟩) HB1.out.size (.slice Ab M cb)).setCell (p := ⟨g, kk.toNat, none⟩) (by have := HB1.out.size; simp at hgf ⊢; omega) (.int .u8 x))
          go_wp2
          go_roundw
          case rel => exact ⟨j + 1, W.set kk.toNat x, by omega, by go_num, ⟨by rw [List.length_set]; exact HW.out⟩, RO, RI, RB⟩
          case measure => simp [intOf]; omega
      · obtain rfl : j = L.length := by omega
        go_wp2
        obtain ⟨wq, hwq⟩ : ∃ x, x = wr := ⟨_, rfl⟩
        rw [← hwq] at HO HS HB
        go_loopw [14, 15, 16] (fun i _ _ wv => ∃ k : Nat, k ≤ M ∧ i = .int .i64 k ∧ Aside0 (Below wq.heap.size wq wv)) (fun i _ _ _ => M - (intOf i).toNat)
        case atStart => exact ⟨0, by omega, rfl, ⟨hwq ▸ Below.refl _ _⟩⟩
        case round =>
          obtain ⟨k, hk, rfl, HV⟩ := hrel
          by_cases hkl : k < M
          · obtain ⟨Af, cf, hgf0, hFf⟩ := HS.out.below HV.out
            have HFf := Aside0.mk hFf
            have kf : wr.cell? ⟨w1.heap.size, 0, none⟩ = some (.slice Af M cf) := blk_cell hgf0 0
            obtain ⟨hxk, hzk⟩ := Kd.R_celln 0 (Kd.R_below HO.out HV.out) (k : Int) (by omega) (by omega)
            rw [Int.toNat_natCast] at hxk hzk
            obtain ⟨y, hy⟩ : ∃ y, y = rdOf 0 W (k : Int) := ⟨_, rfl⟩
            rw [← hy] at hxk
            have RD := Aside0.mk (show rdOf ByteArray.empty (W.map fullS) (k : Int) = fullS y by rw [row_rd (by omega) (by have := HW.out; omega), hy])
            have hkm : (k : Int) < (M : Int) := by omega
            clear hy hgf0 hFf
            have hself : ((fullS y).toList == (fullS y).toList) = true := beq_self_eq_true _
            go_wp2_with (first | (go_at_call 13; refine (read_yesN (k : Int) HFf.out (by omega) hkm).mono ?_; rw [RD.out]; rintro e w3 ⟨rfl, hb3⟩; have HB3 := Aside0.mk hb3; have hxk3 : w3.cell? ⟨g, k, none⟩ = some (.int .u8 y) := (hb3.cell (World.block_lt_of_cell? _ _ hxk)).trans hxk; have hzk3 := World.new_ne w3 _ hxk3; clear hb3) | (go_at_call 21; refine (full_any y _).mono ?_; rintro e w4 ⟨rfl, hb4⟩; have HB4 := Aside0.mk hb4; clear hb4))
            go_roundw
            case rel => exact ⟨k + 1, by omega, by go_num, ⟨below_more HV.out (below_more HB3.out HB4.out)⟩⟩
            case measure => simp [intOf]; omega
          · obtain rfl : k = M := by omega
            go_wp2
            go_ret
            exact ⟨rfl, below_more HB.out HV.out⟩
end Go.Proofs.Ytangjehadkpecaa.Fl
