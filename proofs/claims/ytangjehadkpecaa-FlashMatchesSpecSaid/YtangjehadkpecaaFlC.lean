/- Walks of flash.has and flash.Write. -/
import Derived.Test.YtangjehadkpecaaFlB
namespace Go.Proofs.Ytangjehadkpecaa.Fl
set_option linter.unusedVariables false
set_option linter.unusedSimpArgs false
open Go.RowKit Go.Proofs.YtangjehadkpecaaW.PrintWords Go.Proofs.YtangjehadkpecaaW.PrintLast Go.Proofs.YtangjehadkpecaaW.PrintMore

def hasB (n : Nat) (i : Int) : Bool := decide (0 ≤ i) && decide (i < (n : Int))

theorem has_any (A : Option Addr) (n c : Nat) (i : Int) (w : World) (hn : n ≤ 9223372036854775807) :
    Calls Try.prog 23 #[.agg #[.slice A n c], .int .i64 i] w fun e w' => e = .returned (.bool (hasB n i)) ∧ Below w.heap.size w w' := by
  have HB := Aside0.mk (below_alloc (Below.refl w.heap.size w) (.cells #[.slice A n c] 24))
  by_cases h : 0 ≤ i
  · by_cases h2 : i < (n : Int)
    · have e := Aside0.mk (show hasB n i = true by simp [hasB, h, h2])
      go_enter Try.func23, Try.ntmps23
      go_wp2
      go_ret
      exact ⟨by rw [e.out]; first | rfl | (simp; done) | (simp; omega), HB.out⟩
    · have e := Aside0.mk (show hasB n i = false by simp [hasB, h]; omega)
      go_enter Try.func23, Try.ntmps23
      go_wp2
      go_ret
      exact ⟨by rw [e.out]; first | rfl | (simp; done) | (simp; omega), HB.out⟩
  · have e := Aside0.mk (show hasB n i = false by simp [hasB, h])
    go_enter Try.func23, Try.ntmps23
    go_wp2
    go_ret
    exact ⟨by rw [e.out]; first | rfl | (simp; done) | (simp; omega), HB.out⟩

theorem has_yes (A : Option Addr) (n c : Nat) (i : Int) (w : World) (hn : n ≤ 9223372036854775807) (h : 0 ≤ i) (h2 : i < (n : Int)) :
    Calls Try.prog 23 #[.agg #[.slice A n c], .int .i64 i] w fun e w' => e = .returned (.bool true) ∧ Below w.heap.size w w' := by
  have := has_any A n c i w hn
  rwa [show hasB n i = true by simp [hasB, h, h2]] at this
theorem has_no (A : Option Addr) (n c : Nat) (i : Int) (w : World) (hn : n ≤ 9223372036854775807) (h : i < 0 ∨ (n : Int) ≤ i) :
    Calls Try.prog 23 #[.agg #[.slice A n c], .int .i64 i] w fun e w' => e = .returned (.bool false) ∧ Below w.heap.size w w' := by
  have := has_any A n c i w hn
  rwa [show hasB n i = false by simp [hasB]; omega] at this

theorem bcell {W w1 : World} (hb : Below W.heap.size W w1) : (∀ b o, b < W.heap.size → w1.cell? ⟨b, o, none⟩ = W.cell? ⟨b, o, none⟩) ∧ (∀ b o, b < W.heap.size → w1.frozen? ⟨b, o, none⟩ = W.frozen? ⟨b, o, none⟩) :=
  ⟨fun b o h => hb.cell (p := ⟨b, o, none⟩) h, fun b o h => hb.frozen (p := ⟨b, o, none⟩) h⟩

/-- The four blocks that Write makes at its head. -/
abbrev W4 (A : Option Addr) (n c : Nat) (b : ByteArray) (cut : Int) (w : World) : World :=
  (((w.alloc (.cells #[.slice A n c] 24)).alloc (.cells #[.string b] 9)).alloc (.cells #[.int .i64 cut] 3)).alloc (.cells #[.slice none 0 0] 24)
theorem W4_below (A : Option Addr) (n c : Nat) (b : ByteArray) (cut : Int) (w : World) : Below w.heap.size w (W4 A n c b cut w) :=
  below_alloc (below_alloc (below_alloc (below_alloc (Below.refl _ _) _) _) _) _
theorem W4_res (A : Option Addr) (n c : Nat) (b : ByteArray) (cut : Int) (w : World) : (W4 A n c b cut w).heap[w.heap.size + 1 + 1 + 1]? = some (.cells #[.slice none 0 0] 24 (0, 0)) := by
  have := heap_alloc_new (((w.alloc (.cells #[.slice A n c] 24)).alloc (.cells #[.string b] 9)).alloc (.cells #[.int .i64 cut] 3)) (.cells #[.slice none 0 0] 24)
  simpa using this

theorem W4_1 (A : Option Addr) (n c : Nat) (b : ByteArray) (cut : Int) (w : World) : (W4 A n c b cut w).heap[w.heap.size]? = some (.cells #[.slice A n c] 24 (0, 0)) :=
  blk_of (below_alloc (below_alloc (below_alloc (Below.refl _ _) _) _) _) (heap_alloc_new w _)
theorem W4_2 (A : Option Addr) (n c : Nat) (b : ByteArray) (cut : Int) (w : World) : (W4 A n c b cut w).heap[w.heap.size + 1]? = some (.cells #[.string b] 9 (0, 0)) := by
  have := heap_alloc_new (w.alloc (.cells #[.slice A n c] 24)) (.cells #[.string b] 9)
  exact blk_of (below_alloc (below_alloc (Below.refl _ _) _) _) (by simpa using this)
theorem W4_3 (A : Option Addr) (n c : Nat) (b : ByteArray) (cut : Int) (w : World) : (W4 A n c b cut w).heap[w.heap.size + 1 + 1]? = some (.cells #[.int .i64 cut] 3 (0, 0)) := by
  have := heap_alloc_new ((w.alloc (.cells #[.slice A n c] 24)).alloc (.cells #[.string b] 9)) (.cells #[.int .i64 cut] 3)
  exact blk_of (below_alloc (Below.refl _ _) _) (by simpa using this)

set_option maxHeartbeats 2000000 in
theorem write_none (A : Option Addr) (l : List ByteArray) (c : Nat) (i : Int) (b : ByteArray) (cut : Int) (w : World) (hr : Kd.C Kd.string w A l.length l) (hc : l.length ≤ c)
    (h : i < 0 ∨ (l.length : Int) ≤ i) :
    Calls Try.prog 15 #[.agg #[.slice A l.length c], .int .i64 i, .string b, .int .i64 cut] w (FlashRes l 13 w) := by
  have hn := hr.2.1
  go_enter Try.func15, Try.ntmps15
  go_wp2_with (go_at_call 23; refine (has_no A l.length c i _ hn h).mono ?_; rintro e w1 ⟨rfl, hb⟩; obtain ⟨hcc, hff⟩ := bcell hb)
  clear hcc hff
  have H1 := one_setCell (u := .slice A l.length c) (blk_of hb (W4_res A l.length c b cut w))
  have HB : Below w.heap.size w w1 := below_more (W4_below A l.length c b cut w) hb
  refine bodyPost_ret (results_ct rfl _ _ (w.heap.size + 1 + 1 + 1) 24 #[.slice A l.length c] (0, 0) _ rfl H1 Try.underlying24 rfl (by kernel_rfl)) rfl ?_
  have HB2 : Below w.heap.size w (w1.setCell ⟨w.heap.size + 1 + 1 + 1, 0, none⟩ (.slice A l.length c)) := HB.setCell (by simp; omega) _
  exact ⟨A, c, rfl, Kd.C_below hr HB2, hc, HB2⟩

set_option maxHeartbeats 2000000 in
theorem write_arg (A : Option Addr) (l : List ByteArray) (c : Nat) (i : Int) (b : ByteArray) (cut : Int) (w : World) (hr : Kd.C Kd.string w A l.length l) (hc : l.length ≤ c)
    (h : 0 ≤ i) (h2 : i < (l.length : Int)) (hb256 : ¬ (b.size : Int) = 256) :
    Calls Try.prog 15 #[.agg #[.slice A l.length c], .int .i64 i, .string b, .int .i64 cut] w (FlashRes l 1 w) := by
  have hn := hr.2.1
  have hne : ((b.size : Int) == 256) = false := beq_eq_false_iff_ne.2 hb256
  go_enter Try.func15, Try.ntmps15
  go_wp2_with (go_at_call 23; refine (has_yes A l.length c i _ hn h h2).mono ?_; rintro e w1 ⟨rfl, hb⟩; obtain ⟨hcc, hff⟩ := bcell hb)
  clear hcc hff
  have H1 := one_setCell (u := .slice A l.length c) (blk_of hb (W4_res A l.length c b cut w))
  have HB : Below w.heap.size w w1 := below_more (W4_below A l.length c b cut w) hb
  refine bodyPost_ret (results_ct rfl _ _ (w.heap.size + 1 + 1 + 1) 24 #[.slice A l.length c] (0, 0) _ rfl H1 Try.underlying24 rfl (by kernel_rfl)) rfl ?_
  have HB2 : Below w.heap.size w (w1.setCell ⟨w.heap.size + 1 + 1 + 1, 0, none⟩ (.slice A l.length c)) := HB.setCell (by simp; omega) _
  exact ⟨A, c, rfl, Kd.C_below hr HB2, hc, HB2⟩

/-- What a write leaves. -/
def writeL (l : List ByteArray) (i : Int) (b : ByteArray) (cut : Int) : List ByteArray := l.set i.toNat (mergeB b (rdOf ByteArray.empty l i) cut)

theorem own_full {w : World} {base g n : Nat} {e : TypeId} {xs : List Value} (h : w.ownsRow base e 1 (.slice (some ⟨g, 0, none⟩) n n) n xs) :
    w.heap[g]? = some (.cells xs.toArray e (0, 0)) ∧ xs.length = n ∧ base ≤ g := by
  obtain ⟨h1, h2⟩ := h
  rcases h2 with ⟨h2, _⟩ | ⟨g', cap, cur, hv, hg, hh, h3⟩
  · cases h2
  · cases hv
    obtain ⟨_, _, hs, ht⟩ := h3
    have : cur.toList = xs := by rw [← ht]; exact (List.take_of_length_le (by rw [Array.length_toList]; omega)).symm
    subst this
    exact ⟨by simpa using hh, by simpa using h1, hg⟩
theorem splice_all {α : Type} (cur cs : List α) (h : cs.length = cur.length) : splice cur 0 cs = cs := by
  unfold splice; simp [h]
def strs (l : List ByteArray) : List Value := l.map Value.string
theorem strs_len (l : List ByteArray) : (strs l).length = l.length := by simp [strs]
theorem strs_get (l : List ByteArray) (k : Nat) (h : k < l.length) : (strs l).toArray[k]? = some (.string (l.getD k ByteArray.empty)) := by
  simp [strs, h, List.getD]
theorem strs_set (l : List ByteArray) (k : Nat) (s : ByteArray) : (strs l).toArray.setIfInBounds k (.string s) = (strs (l.set k s)).toArray := by
  simp [strs, List.map_set]
theorem C_of_block {w : World} {g : Nat} {t : TypeId} {l : List ByteArray} (h : w.heap[g]? = some (.cells (strs l).toArray t (0, 0))) (hn : l.length ≤ 9223372036854775807) :
    Kd.C Kd.string w (some ⟨g, 0, none⟩) l.length l := by
  refine Kd.C_of_reads (d := ByteArray.empty) (h1 := fun _ => rfl) ⟨rfl, hn, fun _ => ⟨_, rfl, fun j hj => ?_⟩⟩
  rw [add_plain, blk_cell h, strs_get l j hj]
/-- the cells of a slice that reads as l -/
theorem C_cells {w : World} {A : Option Addr} {l : List ByteArray} (hr : Kd.C Kd.string w A l.length l) (h0 : 0 < l.length) :
    ∃ ad, A = some ad ∧ ∀ j v, (strs l)[j]? = some v → w.cell? (ad.add j) = some v := by
  obtain ⟨ad, hA, _⟩ := Kd.at_string hr 0 (by omega) (by omega)
  refine ⟨ad, hA, fun j v hv => ?_⟩
  have hj : j < l.length := by
    have := (List.getElem?_eq_some_iff.1 hv).1
    simpa [strs] using this
  obtain ⟨ad', hA', hx⟩ := Kd.at_string hr (j : Int) (by omega) (by omega)
  rw [hA] at hA'
  cases hA'
  rw [Int.toNat_natCast] at hx
  rw [hx]
  simp [strs, hj] at hv
  simp [rdOf, hj, ← hv]

set_option maxHeartbeats 4000000 in
theorem write_ok (A : Option Addr) (l : List ByteArray) (c : Nat) (i : Int) (b : ByteArray) (cut : Int) (w : World) (hr : Kd.C Kd.string w A l.length l) (hc : l.length ≤ c)
    (h : 0 ≤ i) (h2 : i < (l.length : Int)) (hb256 : (b.size : Int) = 256) (hold : (rdOf ByteArray.empty l i).size ≤ 1000000) (hl : l.length ≤ 1000000) :
    Calls Try.prog 15 #[.agg #[.slice A l.length c], .int .i64 i, .string b, .int .i64 cut] w (FlashRes (writeL l i b cut) 0 w) := by
  have hn := hr.2.1
  have hne : ((b.size : Int) == 256) = true := beq_iff_eq.2 hb256
  have H256 := Aside0.mk hb256
  clear hb256
  go_enter Try.func15, Try.ntmps15
  have hl0 : 0 < l.length := by omega
  obtain ⟨ad, rfl, hsrc⟩ := C_cells hr hl0
  have HSRC := Aside0.mk hsrc
  clear hsrc
  obtain ⟨i0, hi, hz0, hz1, hz2⟩ := info_parts info_str
  go_wp2_with (first | (go_at_call 23; refine (has_yes (some ad) l.length c i _ hn h h2).mono ?_; rintro e w1 ⟨rfl, hb⟩; have G1 := Aside0.mk (blk_of hb (W4_1 (some ad) l.length c b cut w)); have G2 := Aside0.mk (blk_of hb (W4_2 (some ad) l.length c b cut w)); have G3 := Aside0.mk (blk_of hb (W4_3 (some ad) l.length c b cut w)); have G4 := Aside0.mk (blk_of hb (W4_res (some ad) l.length c b cut w)); have HB := Aside0.mk (below_more (W4_below (some ad) l.length c b cut w) hb); have c1 : w1.cell? ⟨w.heap.size, 0, none⟩ = some (.slice (some ad) l.length c) := blk_cell G1.out 0; have c2 : w1.cell? ⟨w.heap.size + 1, 0, none⟩ = some (.string b) := blk_cell G2.out 0; clear hb) | (at_make; refine wpList_make_full _ rfl _ _ 22 rfl w1.heap.size 9 i0 (.string ⟨#[]⟩) 1 Try.underlying22 hi hz0 hz1 .i64 .i64 _ _ l.length rfl rfl rfl rfl (by rw [hz2]; omega) (by unfold maxLen; omega) (Nat.le_refl _) ?_; intro w2 ho2 hg2; have HO2 := Aside0.mk (own_full ho2); have HB2 := Aside0.mk ((Below.refl w1.heap.size w1).grown hg2 (Nat.le_refl _) (fun k hk => by cases hk)); clear ho2 hg2; have c1' : w2.cell? ⟨w.heap.size, 0, none⟩ = some (.slice (some ad) l.length c) := blk_cell (blk_of HB2.out G1.out) 0) | ((with_reducible refine gate_dst (N := 31) rfl ?_); refine wpList_copy_splice rfl (.tmp 28) (.tmp 30) 22 22 rfl 9 Try.underlying22 (by rw [hi]; simp [hz1]) _ _ _ _ _ _ rfl rfl w1.heap.size 0 _ 9 HO2.out.1 (strs l) (by rw [strs_len]; simp) (fun _ => ⟨rfl, ad, rfl, fun j v hv => by have := HSRC.out j v hv; exact ((below_more HB.out HB2.out).cell (World.block_lt_of_cell? _ _ this)).trans this⟩) (by rw [HO2.out.2.1, strs_len]; omega) (fun v hv => by obtain ⟨s, _, rfl⟩ := List.mem_map.1 hv; rfl) w1.heap.size w1 HB2.out (Nat.le_refl _) ?_; intro w3 hg3 hb3; have HG := Aside0.mk hg3.out; rw [splice_all _ _ (by rw [HO2.out.2.1, strs_len])] at HG; clear hg3; have HB3 := Aside0.mk hb3; clear hb3; have cx : w3.cell? ⟨w1.heap.size, i.toNat, none⟩ = some (.string (rdOf ByteArray.empty l i)) := (blk_cell HG.out _).trans (strs_get l i.toNat (by omega)); have fx : w3.frozen? ⟨w1.heap.size, i.toNat, none⟩ = false := blk_frozen HG.out _; have c3' : w3.cell? ⟨w.heap.size + 1 + 1, 0, none⟩ = some (.int .i64 cut) := blk_cell (blk_of HB3.out G3.out) 0; have c2' : w3.cell? ⟨w.heap.size + 1, 0, none⟩ = some (.string b) := blk_cell (blk_of HB3.out G2.out) 0; have c4' : w3.cell? ⟨w.heap.size + 1 + 1 + 1, 0, none⟩ = some (.slice none 0 0) := blk_cell (blk_of HB3.out G4.out) 0; have f4' : w3.frozen? ⟨w.heap.size + 1 + 1 + 1, 0, none⟩ = false := blk_frozen (blk_of HB3.out G4.out) 0; have hz := blk_lt G4.out) | (go_at_call 24; refine (write1_any (rdOf ByteArray.empty l i) b cut ⟨w.heap.size + 1 + 1, 0, none⟩ ⟨w.heap.size + 1, 0, none⟩ _ c3' c2' (by have := H256.out; omega)).mono ?_; rintro e w4 ⟨rfl, hd⟩; obtain ⟨nq, rfl⟩ := hd.out))
  have HX := one_setCell (u := .slice (some ⟨w1.heap.size, 0, none⟩) l.length l.length) (blk_far (p := ⟨w1.heap.size, i.toNat, none⟩) (blk_of HB3.out G4.out) (by simp; omega) (.string (mergeB b (rdOf ByteArray.empty l i) cut)))
  have HY := blk_far (p := ⟨w.heap.size + 1 + 1 + 1, 0, none⟩) (blk_set HG.out i.toNat (.string (mergeB b (rdOf ByteArray.empty l i) cut))) (by simp; omega) (.slice (some ⟨w1.heap.size, 0, none⟩) l.length l.length)
  rw [strs_set] at HY
  have HZ : Below w.heap.size w ((w3.setCell ⟨w1.heap.size, i.toNat, none⟩ (.string (mergeB b (rdOf ByteArray.empty l i) cut))).setCell ⟨w.heap.size + 1 + 1 + 1, 0, none⟩ (.slice (some ⟨w1.heap.size, 0, none⟩) l.length l.length)) :=
    ((below_more HB.out HB3.out).setCell (by simp; omega) _).setCell (by simp; omega) _
  refine bodyPost_ret (results_ct rfl _ _ (w.heap.size + 1 + 1 + 1) 24 #[.slice (some ⟨w1.heap.size, 0, none⟩) l.length l.length] (0, 0) _ rfl HX Try.underlying24 rfl (by kernel_rfl)) rfl ?_
  have hlen : (writeL l i b cut).length = l.length := by simp [writeL]
  refine ⟨some ⟨w1.heap.size, 0, none⟩, l.length, by rw [hlen]; rfl, ?_, by omega, pw_below_drewN HZ _⟩
  exact C_of_block (l := writeL l i b cut) HY (by omega)
end Go.Proofs.Ytangjehadkpecaa.Fl
