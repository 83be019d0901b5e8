/- The walk of the reference's Write (bootchainref08.Write). -/
import Derived.Test.YtangjehadkpecaaFlC
namespace Go.Proofs.Ytangjehadkpecaa.Fl
set_option linter.unusedVariables false
set_option linter.unusedSimpArgs false
open Go.RowKit Go.Proofs.YtangjehadkpecaaW.PrintWords Go.Proofs.YtangjehadkpecaaW.PrintLast Go.Proofs.YtangjehadkpecaaW.PrintMore

abbrev V2 (A : Option Addr) (n c : Nat) (w : World) : World :=
  (w.alloc (.cells #[.slice A n c] 24)).alloc (.cells #[.slice none 0 0] 24)
theorem V2_below (A : Option Addr) (n c : Nat) (w : World) : Below w.heap.size w (V2 A n c w) := below_alloc (below_alloc (Below.refl _ _) _) _
theorem V2_1 (A : Option Addr) (n c : Nat) (w : World) : (V2 A n c w).heap[w.heap.size]? = some (.cells #[.slice A n c] 24 (0, 0)) :=
  blk_of (below_alloc (Below.refl _ _) _) (heap_alloc_new w _)
theorem V2_2 (A : Option Addr) (n c : Nat) (w : World) : (V2 A n c w).heap[w.heap.size + 1]? = some (.cells #[.slice none 0 0] 24 (0, 0)) := by
  have := heap_alloc_new (w.alloc (.cells #[.slice A n c] 24)) (.cells #[.slice none 0 0] 24)
  simpa using this
theorem end2 {w : World} {A : Option Addr} {l : List ByteArray} {c : Nat} (o : Obj) (hr : Kd.C Kd.string w A l.length l) (hc : l.length ≤ c) (code : Int) :
    FlashRes l code w (.returned (.tuple #[.agg #[.slice A l.length c], .int .i64 code])) ((w.alloc o).alloc (.cells #[.slice A l.length c] 24)) :=
  ⟨A, c, rfl, Kd.C_alloc (Kd.C_alloc hr _) _, hc, below_alloc (below_alloc (Below.refl _ _) _) _⟩

set_option maxHeartbeats 2000000 in
theorem refWrite_none (A : Option Addr) (l : List ByteArray) (c : Nat) (i : Int) (b : ByteArray) (cut : Int) (w : World) (hr : Kd.C Kd.string w A l.length l) (hc : l.length ≤ c)
    (h : i < 0 ∨ (l.length : Int) ≤ i) :
    Calls Try.prog 16 #[.agg #[.slice A l.length c], .int .i64 i, .string b, .int .i64 cut] w (FlashRes l 13 w) := by
  have hn := hr.2.1
  by_cases hi0 : i < 0
  · clear h
    go_enter Try.func16, Try.ntmps16
    go_wp2
    refine bodyPost_ret (results_ct rfl _ _ _ 24 #[.slice A l.length c] (0, 0) _ rfl (by simpa using heap_alloc_new (w.alloc (.cells #[.slice A l.length c] 24)) (.cells #[.slice A l.length c] 24)) Try.underlying24 rfl (by kernel_rfl)) rfl ?_
    exact (end2 _ hr hc 13)
  · have h' : (l.length : Int) ≤ i := by omega
    clear h
    go_enter Try.func16, Try.ntmps16
    go_wp2
    refine bodyPost_ret (results_ct rfl _ _ _ 24 #[.slice A l.length c] (0, 0) _ rfl (by simpa using heap_alloc_new (w.alloc (.cells #[.slice A l.length c] 24)) (.cells #[.slice A l.length c] 24)) Try.underlying24 rfl (by kernel_rfl)) rfl ?_
    exact (end2 _ hr hc 13)

set_option maxHeartbeats 2000000 in
theorem refWrite_arg (A : Option Addr) (l : List ByteArray) (c : Nat) (i : Int) (b : ByteArray) (cut : Int) (w : World) (hr : Kd.C Kd.string w A l.length l) (hc : l.length ≤ c)
    (h : 0 ≤ i) (h2 : i < (l.length : Int)) (hb256 : ¬ (b.size : Int) = 256) :
    Calls Try.prog 16 #[.agg #[.slice A l.length c], .int .i64 i, .string b, .int .i64 cut] w (FlashRes l 1 w) := by
  have hn := hr.2.1
  have hne : ((b.size : Int) == 256) = false := beq_eq_false_iff_ne.2 hb256
  go_enter Try.func16, Try.ntmps16
  go_wp2
  refine bodyPost_ret (results_ct rfl _ _ _ 24 #[.slice A l.length c] (0, 0) _ rfl (by simpa using heap_alloc_new (w.alloc (.cells #[.slice A l.length c] 24)) (.cells #[.slice A l.length c] 24)) Try.underlying24 rfl (by kernel_rfl)) rfl ?_
  exact (end2 _ hr hc 1)

theorem merge_whole {b old : ByteArray} {cut : Int} (h : cut < 0 ∨ (b.size : Int) ≤ cut) : mergeB b old cut = b := by
  unfold mergeB
  rcases h with h | h
  · rw [if_pos h]
  · by_cases h0 : cut < 0
    · rw [if_pos h0]
    · rw [if_neg h0, if_pos h]
theorem merge_both {b old : ByteArray} {cut : Int} (h0 : 0 ≤ cut) (h : cut < (b.size : Int)) (h2 : cut < (old.size : Int)) : mergeB b old cut = b.extract 0 cut.toNat ++ old.extract cut.toNat old.size := by
  unfold mergeB
  rw [if_neg (by omega), if_neg (by omega), show min cut.toNat old.size = cut.toNat from by omega]
theorem merge_short {b old : ByteArray} {cut : Int} (h0 : 0 ≤ cut) (h : cut < (b.size : Int)) (h2 : (old.size : Int) ≤ cut) : mergeB b old cut = b.extract 0 cut.toNat := by
  unfold mergeB
  rw [if_neg (by omega), if_neg (by omega), show min cut.toNat old.size = old.size from by omega]
  apply ByteArray.ext
  simp

/-- The store's end: the row that append made, written at i, and the result's cell. -/
theorem refWrite_end {w w3 : World} {l : List ByteArray} {A : Option Addr} {c g co : Nat} {i : Int} {b : ByteArray} {cut : Int} (m : ByteArray) (hm : mergeB b (rdOf ByteArray.empty l i) cut = m)
    (hn : l.length ≤ 9223372036854775807)
    (HO : Kd.R Kd.string 9 w3 (V2 A l.length c w).heap.size (fun _ => True) (.slice (some ⟨g, 0, none⟩) l.length co) l) (HB : Below (V2 A l.length c w).heap.size (V2 A l.length c w) w3) (hg : (V2 A l.length c w).heap.size ≤ g) :
    (((w3.setCell ⟨g, i.toNat, none⟩ (.string m)).setCell ⟨w.heap.size + 1, 0, none⟩ (.slice (some ⟨g, 0, none⟩) l.length co)).heap[w.heap.size + 1]? = some (.cells #[.slice (some ⟨g, 0, none⟩) l.length co] 24 (0, 0))) ∧
    FlashRes (writeL l i b cut) 0 w (.returned (.tuple #[.agg #[.slice (some ⟨g, 0, none⟩) l.length co], .int .i64 0]))
      ((w3.setCell ⟨g, i.toNat, none⟩ (.string m)).setCell ⟨w.heap.size + 1, 0, none⟩ (.slice (some ⟨g, 0, none⟩) l.length co)) := by
  have hz : w.heap.size + 1 < g := by simp at hg; omega
  have h1 := blk_far (p := ⟨g, i.toNat, none⟩) (blk_of HB (V2_2 A l.length c w)) (by simp; omega) (.string m)
  refine ⟨one_setCell h1, ?_⟩
  have hlen : (writeL l i b cut).length = l.length := by simp [writeL]
  have HP := Kd.R_putn HO i m
  have HP2 := Kd.R_far (p := ⟨w.heap.size + 1, 0, none⟩) (Kd.R_types HP h1 (by decide)) (fun _ hk => hk.2) (.slice (some ⟨g, 0, none⟩) l.length co)
  obtain ⟨he, hle, hC⟩ := Kd.R_reads' HP2
  rw [List.length_set] at hC
  refine ⟨some ⟨g, 0, none⟩, co, by rw [hlen], ?_, by omega, ?_⟩
  · rw [hlen]; unfold writeL; rw [hm]; exact hC
  · exact ((below_more (V2_below A l.length c w) HB).setCell (by simp; omega) _).setCell (by simp) _

set_option maxHeartbeats 4000000 in
theorem refWrite_ok (A : Option Addr) (l : List ByteArray) (c : Nat) (i : Int) (b : ByteArray) (cut : Int) (w : World) (hr : Kd.C Kd.string w A l.length l) (hc : l.length ≤ c)
    (h : 0 ≤ i) (h2 : i < (l.length : Int)) (hb256 : (b.size : Int) = 256) (hold : (rdOf ByteArray.empty l i).size ≤ 1000000) (hl : l.length ≤ 1000000) :
    Calls Try.prog 16 #[.agg #[.slice A l.length c], .int .i64 i, .string b, .int .i64 cut] w (FlashRes (writeL l i b cut) 0 w) := by
  have hn := hr.2.1
  have hne : ((b.size : Int) == 256) = true := beq_iff_eq.2 hb256
  have hbl : (b.size : Int) ≤ 256 := by omega
  have hbg : 256 ≤ (b.size : Int) := by omega
  clear hb256
  obtain ⟨ad, rfl, hx⟩ := Kd.at_string hr i h h2
  have HR := Aside0.mk hr
  clear hr
  have hx2 : ((w.alloc (.cells #[.slice (some ad) l.length c] 24)).alloc (.cells #[.slice none 0 0] 24)).cell? (ad.add i.toNat) = some (.string (rdOf ByteArray.empty l i)) := pw_cell_below (V2_below (some ad) l.length c w) hx
  clear hx
  by_cases k1 : cut < 0
  · go_enter Try.func16, Try.ntmps16
    go_wp2_with (first | ((with_reducible refine gate_dst (N := 51) rfl ?_); refine Kd.R_lit Kd.string (V2 (some ad) l.length c w).heap.size 9 rfl (N := 51) rfl (xs := ([] : List ByteArray)) (inner := []) (ok := fun _ => True) (okp := fun _ => True) ?hr (Reps.none _ _) (fun _ hk => hk) trivial (Below.refl _ _) (Nat.le_refl _) (by simp) ?_; (case hr => first | (go_simp; done) | (go_simp; rfl)); intro v1 w1 ho hb _ _; obtain ⟨A1, c1, rfl⟩ := Kd.R_slice ho; have HO1 := Aside0.mk ho; have HB1 := Aside0.mk hb; have cz : w1.cell? ⟨w.heap.size, 0, none⟩ = some (.slice (some ad) l.length c) := blk_cell (blk_of hb (V2_1 (some ad) l.length c w)) 0; clear ho hb) | (at_builtin; refine Kd.R_append_row Value.string ByteArray.empty (h1 := fun _ => rfl) (V2 (some ad) l.length c w).heap.size rfl (.tmp 51) (.tmp 53) 22 9 (.string ⟨#[]⟩) 16 rfl Try.underlying22 info_str rfl (by decide) _ [] l (some ad) l.length c (fun _ => True) rfl rfl (fun _ _ => trivial) HO1.out (Kd.C_below HR.out (below_more (V2_below (some ad) l.length c w) HB1.out)) HB1.out HB1.out.size (by simp; omega) ?_; intro v2 w2 ho hb _ _; rw [List.nil_append] at ho; obtain ⟨g, co, rfl, gb, gl, cl, hgc⟩ := Kd.R_form ho (by omega); have HO2 := Aside0.mk ho; have HB2 := Aside0.mk hb; have GB := Aside0.mk gb; obtain ⟨hxx, hff⟩ := Kd.R_celln ByteArray.empty ho i h h2; have c8 : w2.cell? ⟨w.heap.size + 1, 0, none⟩ = some (.slice none 0 0) := blk_cell (blk_of hb (V2_2 (some ad) l.length c w)) 0; have f8 : w2.frozen? ⟨w.heap.size + 1, 0, none⟩ = false := blk_frozen (blk_of hb (V2_2 (some ad) l.length c w)) 0; have hz : w.heap.size + 1 < g := (by simp at gb; omega); clear ho hb gb gl hgc cl))
    have HE := refWrite_end (i := i) (b := b) (cut := cut) _ (merge_whole (.inl k1)) hn HO2.out HB2.out GB.out
    refine bodyPost_ret (results_ct rfl _ _ (w.heap.size + 1) 24 #[.slice (some ⟨g, 0, none⟩) l.length co] (0, 0) _ rfl HE.1 Try.underlying24 rfl (by kernel_rfl)) rfl ?_
    exact HE.2
  · by_cases k2 : 256 ≤ cut
    · go_enter Try.func16, Try.ntmps16
      go_wp2_with (first | ((with_reducible refine gate_dst (N := 51) rfl ?_); refine Kd.R_lit Kd.string (V2 (some ad) l.length c w).heap.size 9 rfl (N := 51) rfl (xs := ([] : List ByteArray)) (inner := []) (ok := fun _ => True) (okp := fun _ => True) ?hr (Reps.none _ _) (fun _ hk => hk) trivial (Below.refl _ _) (Nat.le_refl _) (by simp) ?_; (case hr => first | (go_simp; done) | (go_simp; rfl)); intro v1 w1 ho hb _ _; obtain ⟨A1, c1, rfl⟩ := Kd.R_slice ho; have HO1 := Aside0.mk ho; have HB1 := Aside0.mk hb; have cz : w1.cell? ⟨w.heap.size, 0, none⟩ = some (.slice (some ad) l.length c) := blk_cell (blk_of hb (V2_1 (some ad) l.length c w)) 0; clear ho hb) | (at_builtin; refine Kd.R_append_row Value.string ByteArray.empty (h1 := fun _ => rfl) (V2 (some ad) l.length c w).heap.size rfl (.tmp 51) (.tmp 53) 22 9 (.string ⟨#[]⟩) 16 rfl Try.underlying22 info_str rfl (by decide) _ [] l (some ad) l.length c (fun _ => True) rfl rfl (fun _ _ => trivial) HO1.out (Kd.C_below HR.out (below_more (V2_below (some ad) l.length c w) HB1.out)) HB1.out HB1.out.size (by simp; omega) ?_; intro v2 w2 ho hb _ _; rw [List.nil_append] at ho; obtain ⟨g, co, rfl, gb, gl, cl, hgc⟩ := Kd.R_form ho (by omega); have HO2 := Aside0.mk ho; have HB2 := Aside0.mk hb; have GB := Aside0.mk gb; obtain ⟨hxx, hff⟩ := Kd.R_celln ByteArray.empty ho i h h2; have c8 : w2.cell? ⟨w.heap.size + 1, 0, none⟩ = some (.slice none 0 0) := blk_cell (blk_of hb (V2_2 (some ad) l.length c w)) 0; have f8 : w2.frozen? ⟨w.heap.size + 1, 0, none⟩ = false := blk_frozen (blk_of hb (V2_2 (some ad) l.length c w)) 0; have hz : w.heap.size + 1 < g := (by simp at gb; omega); clear ho hb gb gl hgc cl))
      have HE := refWrite_end (i := i) (b := b) (cut := cut) _ (merge_whole (.inr (by omega))) hn HO2.out HB2.out GB.out
      refine bodyPost_ret (results_ct rfl _ _ (w.heap.size + 1) 24 #[.slice (some ⟨g, 0, none⟩) l.length co] (0, 0) _ rfl HE.1 Try.underlying24 rfl (by kernel_rfl)) rfl ?_
      exact HE.2
    · by_cases k3 : cut < ((rdOf ByteArray.empty l i).size : Int)
      · go_enter Try.func16, Try.ntmps16
        go_wp2_with (first | ((with_reducible refine gate_dst (N := 51) rfl ?_); refine Kd.R_lit Kd.string (V2 (some ad) l.length c w).heap.size 9 rfl (N := 51) rfl (xs := ([] : List ByteArray)) (inner := []) (ok := fun _ => True) (okp := fun _ => True) ?hr (Reps.none _ _) (fun _ hk => hk) trivial (Below.refl _ _) (Nat.le_refl _) (by simp) ?_; (case hr => first | (go_simp; done) | (go_simp; rfl)); intro v1 w1 ho hb _ _; obtain ⟨A1, c1, rfl⟩ := Kd.R_slice ho; have HO1 := Aside0.mk ho; have HB1 := Aside0.mk hb; have cz : w1.cell? ⟨w.heap.size, 0, none⟩ = some (.slice (some ad) l.length c) := blk_cell (blk_of hb (V2_1 (some ad) l.length c w)) 0; clear ho hb) | (at_builtin; refine Kd.R_append_row Value.string ByteArray.empty (h1 := fun _ => rfl) (V2 (some ad) l.length c w).heap.size rfl (.tmp 51) (.tmp 53) 22 9 (.string ⟨#[]⟩) 16 rfl Try.underlying22 info_str rfl (by decide) _ [] l (some ad) l.length c (fun _ => True) rfl rfl (fun _ _ => trivial) HO1.out (Kd.C_below HR.out (below_more (V2_below (some ad) l.length c w) HB1.out)) HB1.out HB1.out.size (by simp; omega) ?_; intro v2 w2 ho hb _ _; rw [List.nil_append] at ho; obtain ⟨g, co, rfl, gb, gl, cl, hgc⟩ := Kd.R_form ho (by omega); have HO2 := Aside0.mk ho; have HB2 := Aside0.mk hb; have GB := Aside0.mk gb; obtain ⟨hxx, hff⟩ := Kd.R_celln ByteArray.empty ho i h h2; have c8 : w2.cell? ⟨w.heap.size + 1, 0, none⟩ = some (.slice none 0 0) := blk_cell (blk_of hb (V2_2 (some ad) l.length c w)) 0; have f8 : w2.frozen? ⟨w.heap.size + 1, 0, none⟩ = false := blk_frozen (blk_of hb (V2_2 (some ad) l.length c w)) 0; have hz : w.heap.size + 1 < g := (by simp at gb; omega); clear ho hb gb gl hgc cl))
        have HE := refWrite_end (i := i) (b := b) (cut := cut) _ (merge_both (by omega) (by omega) k3) hn HO2.out HB2.out GB.out
        refine bodyPost_ret (results_ct rfl _ _ (w.heap.size + 1) 24 #[.slice (some ⟨g, 0, none⟩) l.length co] (0, 0) _ rfl HE.1 Try.underlying24 rfl (by kernel_rfl)) rfl ?_
        exact HE.2
      · go_enter Try.func16, Try.ntmps16
        go_wp2_with (first | ((with_reducible refine gate_dst (N := 51) rfl ?_); refine Kd.R_lit Kd.string (V2 (some ad) l.length c w).heap.size 9 rfl (N := 51) rfl (xs := ([] : List ByteArray)) (inner := []) (ok := fun _ => True) (okp := fun _ => True) ?hr (Reps.none _ _) (fun _ hk => hk) trivial (Below.refl _ _) (Nat.le_refl _) (by simp) ?_; (case hr => first | (go_simp; done) | (go_simp; rfl)); intro v1 w1 ho hb _ _; obtain ⟨A1, c1, rfl⟩ := Kd.R_slice ho; have HO1 := Aside0.mk ho; have HB1 := Aside0.mk hb; have cz : w1.cell? ⟨w.heap.size, 0, none⟩ = some (.slice (some ad) l.length c) := blk_cell (blk_of hb (V2_1 (some ad) l.length c w)) 0; clear ho hb) | (at_builtin; refine Kd.R_append_row Value.string ByteArray.empty (h1 := fun _ => rfl) (V2 (some ad) l.length c w).heap.size rfl (.tmp 51) (.tmp 53) 22 9 (.string ⟨#[]⟩) 16 rfl Try.underlying22 info_str rfl (by decide) _ [] l (some ad) l.length c (fun _ => True) rfl rfl (fun _ _ => trivial) HO1.out (Kd.C_below HR.out (below_more (V2_below (some ad) l.length c w) HB1.out)) HB1.out HB1.out.size (by simp; omega) ?_; intro v2 w2 ho hb _ _; rw [List.nil_append] at ho; obtain ⟨g, co, rfl, gb, gl, cl, hgc⟩ := Kd.R_form ho (by omega); have HO2 := Aside0.mk ho; have HB2 := Aside0.mk hb; have GB := Aside0.mk gb; obtain ⟨hxx, hff⟩ := Kd.R_celln ByteArray.empty ho i h h2; have c8 : w2.cell? ⟨w.heap.size + 1, 0, none⟩ = some (.slice none 0 0) := blk_cell (blk_of hb (V2_2 (some ad) l.length c w)) 0; have f8 : w2.frozen? ⟨w.heap.size + 1, 0, none⟩ = false := blk_frozen (blk_of hb (V2_2 (some ad) l.length c w)) 0; have hz : w.heap.size + 1 < g := (by simp at gb; omega); clear ho hb gb gl hgc cl))
        have HE := refWrite_end (i := i) (b := b) (cut := cut) _ (merge_short (by omega) (by omega) (by omega)) hn HO2.out HB2.out GB.out
        refine bodyPost_ret (results_ct rfl _ _ (w.heap.size + 1) 24 #[.slice (some ⟨g, 0, none⟩) l.length co] (0, 0) _ rfl HE.1 Try.underlying24 rfl (by kernel_rfl)) rfl ?_
        exact HE.2

end Go.Proofs.Ytangjehadkpecaa.Fl
