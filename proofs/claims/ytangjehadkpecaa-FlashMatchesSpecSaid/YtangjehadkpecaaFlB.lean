/- Walks of flash.New, flash.Write and the reference's Write. -/
import Derived.Test.YtangjehadkpecaaFlA
import Derived.Test.YtangjehadkpecaaShelf
import Derived.Laws.CopyOwn
import Derived.Deep.DeepCutAuto
namespace Go.Proofs.Ytangjehadkpecaa.Fl
set_option linter.unusedVariables false
set_option linter.unusedSimpArgs false
open Go.RowKit Go.Proofs.YtangjehadkpecaaW.PrintWords Go.Proofs.YtangjehadkpecaaW.PrintLast Go.Proofs.YtangjehadkpecaaW.PrintMore
theorem info_str : (Try.prog.info? 9).map (fun i => (i.zero, i.size, i.bytes)) = some (some (.string ⟨#[]⟩), 1, 16) := by kernel_rfl

/-- A result that is a flash memory: some slice that reads as the list. -/
def FlashRes (r : List ByteArray) (code : Int) (w : World) (e : Ending) (w' : World) : Prop :=
  ∃ A c, e = .returned (.tuple #[.agg #[.slice A r.length c], .int .i64 code]) ∧ Kd.C Kd.string w' A r.length r ∧ r.length ≤ c ∧ Below w.heap.size w w'

def zeroSector : ByteArray := ⟨(Lib.repeatL [0] 256).toArray⟩

set_option maxHeartbeats 1000000 in
theorem new_bad (n : Int) (w : World) (h : n < 0 ∨ 128 < n) :
    Calls Try.prog 11 #[.int .i64 n] w (FlashRes [] 1 w) := by
  have hB : Below w.heap.size w (w.alloc (.cells #[.slice none 0 0] 24)) := below_alloc (Below.refl _ _) _
  have hb := heap_alloc_new w (.cells #[.slice none 0 0] 24)
  have HB := Aside0.mk hB
  have HH := Aside0.mk hb
  clear hB hb
  rcases h with h | h
  all_goals
    go_enter Try.func11, Try.ntmps11
    go_wp2
    refine bodyPost_ret (results_ct rfl _ _ w.heap.size 24 #[.slice none 0 0] (0, 0) _ rfl HH.out Try.underlying24 rfl (by kernel_rfl)) rfl ?_
    exact ⟨none, 0, rfl, ⟨rfl, by decide, fun h => by simp at h⟩, Nat.le_refl _, HB.out⟩

theorem rep_set {α : Type} (z y : α) (k m : Nat) (hk : k < m) : (List.replicate k z ++ List.replicate (m - k) y).set k z = List.replicate (k + 1) z ++ List.replicate (m - (k + 1)) y := by
  rw [List.set_append_right _ _ (by simp), List.length_replicate, Nat.sub_self, show m - k = (m - (k + 1)) + 1 from by omega, List.replicate_succ, List.set_cons_zero, List.replicate_succ' (n := k)]
  simp

theorem blk_of {w w1 : World} {g : Nat} {o : Obj} (hb : Below w.heap.size w w1) (h : w.heap[g]? = some o) : w1.heap[g]? = some o := (hb.block g (blk_lt h)).trans h
theorem below_more {w w1 w2 : World} (h : Below w.heap.size w w1) (k : Below w1.heap.size w1 w2) : Below w.heap.size w w2 := below_then h h.size k

set_option maxHeartbeats 2000000 in
theorem new_ok (m : Nat) (w : World) (h : m ≤ 128) :
    Calls Try.prog 11 #[.int .i64 m] w (FlashRes (List.replicate m zeroSector) 0 w) := by
  have hB : Below w.heap.size w (w.alloc (.cells #[.slice none 0 0] 24)) := below_alloc (Below.refl _ _) _
  have hb := heap_alloc_new w (.cells #[.slice none 0 0] 24)
  have HB := Aside0.mk hB
  have HH := Aside0.mk hb
  clear hB hb
  have h0 : (0 : Int) ≤ (m : Int) := by omega
  have h1 : (m : Int) ≤ 128 := by omega
  go_enter Try.func11, Try.ntmps11
  go_wp2_with (first | ((with_reducible refine gate_dst (N := 15) rfl ?_); refine Kd.R_make Kd.string (w.alloc (.cells #[.slice none 0 0] 24)).heap.size 9 rfl (N := 15) rfl 22 _ _ rfl (m : Int) rfl rfl Try.underlying22 (.string ⟨#[]⟩) 16 info_str rfl (by decide) (by omega) ByteArray.empty (ok := fun _ => True) (okp := fun _ => True) rfl (fun _ hk => hk) trivial (by omega) (by omega) (Below.refl _ _) (Nat.le_refl _) ?_; intro v1 w1 ho hb hg hnew; clear hg hnew; rw [Int.toNat_natCast] at ho; obtain ⟨A, c, rfl⟩ := Kd.R_slice ho; rw [List.length_replicate] at ho; have HO := Aside0.mk ho; have HB1 := Aside0.mk hb; have HG := Aside0.mk (blk_of hb HH.out); clear ho hb) | (go_at_call 22; refine (Try.strings_Repeat ⟨#[0]⟩ 256 _ (by decide) (by decide)).mono ?_; rintro e w2 ⟨rfl, hb2⟩; have HB2 := Aside0.mk (below_more (below_more HB.out (below_more HB1.out (below_alloc (Below.refl _ _) _))) hb2); have HO2 := Aside0.mk (Kd.R_below (Kd.R_alloc HO.out (.cells #[.slice A m c] 24)) hb2); have HG2 := Aside0.mk (blk_of (below_more (below_alloc (Below.refl w1.heap.size w1) (.cells #[.slice A m c] 24)) hb2) HG.out); have HG4 := Aside0.mk (blk_of hb2 (heap_alloc_new w1 (.cells #[.slice A m c] 24))); have hc4 : w2.cell? ⟨w1.heap.size, 0, none⟩ = some (.slice A m c) := blk_cell HG4.out 0; clear hb2))
  clear HO HG HB1 HH HB
  have hcz : ByteArray.mk (Lib.repeatL [0] 256).toArray = zeroSector := rfl
  rw [hcz]
  clear hcz
  go_loopw [6, 21] (fun _ i wr => ∃ k : Nat, k ≤ m ∧ i = .int .i64 k ∧ Aside0 (Kd.R Kd.string 9 wr (w.alloc (.cells #[.slice none 0 0] 24)).heap.size (fun _ => True) (.slice A m c) (List.replicate k zeroSector ++ List.replicate (m - k) ByteArray.empty)) ∧ Aside0 (wr.heap[w1.heap.size]? = some (.cells #[.slice A m c] 24 (0, 0))) ∧ Aside0 (wr.heap[w.heap.size]? = some (.cells #[.slice none 0 0] 24 (0, 0))) ∧ Aside0 (Below w.heap.size w wr)) (fun _ i _ => m - (intOf i).toNat)
  case atStart => exact ⟨0, by omega, rfl, ⟨by simpa using HO2.out⟩, HG4, HG2, HB2⟩
  case round =>
    clear HO2 HG4 HG2 HB2 hc4
    obtain ⟨k, hk, rfl, HO, HG4, HG2, HB⟩ := hrel
    have hc4 : wr.cell? ⟨w1.heap.size, 0, none⟩ = some (.slice A m c) := blk_cell HG4.out 0
    by_cases hlt : k < m
    · have ho := HO.out
      obtain ⟨go, co, eo, gb, gl, cl, hgc⟩ := Kd.R_form ho (by simp; omega)
      injection eo with ea en ec
      subst ea ec
      obtain ⟨hx, hfz⟩ := Kd.R_celln ByteArray.empty ho (k : Int) (by omega) (by omega)
      rw [Int.toNat_natCast] at hx hfz
      have HP := Aside0.mk (Kd.R_putg ho (k : Int) zeroSector)
      have h4 := Aside0.mk (Kd.R_ne ho HG4.out (by decide))
      have h2 := Aside0.mk (Kd.R_ne ho HG2.out (by decide))
      have GB := Aside0.mk gb
      clear ho gb gl cl hgc en
      go_wp2
      go_roundw
      case rel =>
        have hp := HP.out.1
        rw [Int.toNat_natCast, rep_set _ _ _ _ hlt] at hp
        have hg4 : w1.heap.size ≠ go := fun e => h4.out (by rw [e]; rfl)
        have hg2 : w.heap.size ≠ go := fun e => h2.out (by rw [e]; rfl)
        exact ⟨k + 1, by omega, by go_num, ⟨hp⟩, ⟨blk_far HG4.out hg4 _⟩, ⟨blk_far HG2.out hg2 _⟩, ⟨HB.out.setCell (by have := GB.out; simp at this ⊢; omega) _⟩⟩
      case measure => simp [intOf]; omega
    · obtain rfl : k = m := by omega
      have hc2 : wr.cell? ⟨w.heap.size, 0, none⟩ = some (.slice none 0 0) := blk_cell HG2.out 0
      have hf2 : wr.frozen? ⟨w.heap.size, 0, none⟩ = false := blk_frozen HG2.out 0
      go_wp2
      refine bodyPost_ret (results_ct rfl _ _ w.heap.size 24 #[.slice A k c] (0, 0) _ rfl (by simpa using blk_set HG2.out 0 (.slice A k c)) Try.underlying24 rfl (by kernel_rfl)) rfl ?_
      have hR := HO.out
      simp only [Nat.sub_self, List.replicate_zero, List.append_nil] at hR
      have hR2 := Kd.R_far (p := ⟨w.heap.size, 0, none⟩) (Kd.R_types hR HG2.out (by decide)) (fun _ hk => hk.2) (.slice A k c)
      obtain ⟨_, hl, hC⟩ := Kd.R_reads' hR2
      rw [List.length_replicate] at hC
      exact ⟨A, c, by rw [List.length_replicate]; rfl, by rw [List.length_replicate]; exact hC, by rw [List.length_replicate]; exact hl, HB.out.setCell (Nat.le_refl _) _⟩

end Go.Proofs.Ytangjehadkpecaa.Fl
