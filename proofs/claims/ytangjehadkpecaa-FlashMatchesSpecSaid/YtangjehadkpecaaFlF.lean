/- Walks of slices.Equal on []string, flash.Same, the reference's Same, and of the laws' full. -/
import Derived.Test.YtangjehadkpecaaFlE
namespace Go.Proofs.Ytangjehadkpecaa.Fl
set_option linter.unusedVariables false
set_option linter.unusedSimpArgs false
open Go.RowKit Go.Proofs.YtangjehadkpecaaW.PrintWords Go.Proofs.YtangjehadkpecaaW.PrintLast Go.Proofs.YtangjehadkpecaaW.PrintMore

def SameTo (l m : List ByteArray) (k : Nat) : Prop := ∀ i, i < k → l.getD i ByteArray.empty = m.getD i ByteArray.empty
theorem SameTo.step {l m : List ByteArray} {k : Nat} (h : SameTo l m k) (hk : l.getD k ByteArray.empty = m.getD k ByteArray.empty) : SameTo l m (k + 1) := by
  intro i hi
  by_cases e : i = k
  · subst e; exact hk
  · exact h i (by omega)
theorem SameTo.eq {l m : List ByteArray} (h : SameTo l m l.length) (hl : l.length = m.length) : l = m := by
  apply List.ext_getElem hl
  intro i h1 h2
  have := h i h1
  simpa [List.getD, h1, h2] using this
def sameB (l m : List ByteArray) : Bool := decide (l = m)

theorem str_ne {s t : ByteArray} (h : ¬ s = t) : ¬ (s.toList = t.toList) := fun e => h (by
  apply ByteArray.ext
  apply Array.ext'
  rw [← Lib.toList_data, ← Lib.toList_data]
  exact e)

set_option maxHeartbeats 1000000 in
theorem equal_any (A B : Option Addr) (l m : List ByteArray) (c d : Nat) (w : World) (hl : Kd.C Kd.string w A l.length l) (hm : Kd.C Kd.string w B m.length m) :
    Calls Try.prog 27 #[.slice A l.length c, .slice B m.length d] w fun e w' => e = .returned (.bool (sameB l m)) ∧ Drawn0 w w' := by
  have hlen := hl.2.1
  have hlen2 := hm.2.1
  by_cases hne : l.length = m.length
  · have e1 : ((l.length : Int) == (m.length : Int)) = true := beq_iff_eq.2 (by omega)
    have e2 : ((l.length : Int) != (m.length : Int)) = false := bne_eq_false_iff_eq.2 (by omega)
    have E := Aside0.mk hne
    have HL := Aside0.mk hl
    have HM := Aside0.mk hm
    clear hne hl hm
    go_enter Try.func27, Try.ntmps27
    go_wp2
    go_loopw [5, 13] (fun _ i wr => ∃ k : Nat, k ≤ l.length ∧ i = .int .i64 k ∧ Aside0 (SameTo l m k) ∧ Aside0 (Drawn0 w wr)) (fun _ i _ => l.length - (intOf i).toNat)
    case atStart => exact ⟨0, Nat.zero_le _, rfl, ⟨fun i hi => by omega⟩, ⟨Drawn0.refl _⟩⟩
    case round =>
      obtain ⟨k, hk, rfl, HA, HD⟩ := hrel
      by_cases hlt : k < l.length
      · obtain ⟨ad, rfl, hx⟩ := Kd.at_string (Kd.C_below HL.out HD.out.below) (k : Int) (by omega) (by omega)
        obtain ⟨bd, rfl, hy⟩ := Kd.at_string (Kd.C_below HM.out HD.out.below) (k : Int) (by omega) (by have := E.out; omega)
        obtain ⟨s, hs⟩ : ∃ s, s = rdOf ByteArray.empty l (k : Int) := ⟨_, rfl⟩
        obtain ⟨t, ht⟩ : ∃ t, t = rdOf ByteArray.empty m (k : Int) := ⟨_, rfl⟩
        rw [← hs, Int.toNat_natCast] at hx
        rw [← ht, Int.toNat_natCast] at hy
        have HS := Aside0.mk (show s = l.getD k ByteArray.empty by rw [hs]; rfl)
        have HT := Aside0.mk (show t = m.getD k ByteArray.empty by rw [ht]; rfl)
        clear hs ht
        have hk2 : (k : Int) < (m.length : Int) := by have := E.out; omega
        have hk3 : k < m.length := by omega
        by_cases hst : s = t
        · have hb : (s.toList == t.toList) = true := by rw [hst]; simp
          have H3 := Aside0.mk hst
          clear hst
          go_wp2
          go_quiet (fail)
          all_goals go_wp2
          all_goals go_roundw
          case rel => exact ⟨k + 1, by omega, by go_num, ⟨HA.out.step (by rw [← HS.out, ← HT.out]; exact H3.out)⟩, ⟨HD.out.step _⟩⟩
          case measure => simp [intOf]; omega
        · have hb : (s.toList == t.toList) = false := beq_eq_false_iff_ne.2 (str_ne hst)
          have H3 := Aside0.mk hst
          clear hst
          go_wp2
          go_quiet (fail)
          all_goals go_wp2
          go_ret
          refine ⟨?_, HD.out.step _⟩
          have : sameB l m = false := by
            simp only [sameB, decide_eq_false_iff_not]
            rintro rfl
            exact H3.out (by rw [HS.out, HT.out])
          rw [this]
          rfl
      · obtain rfl : k = l.length := by omega
        go_wp2
        go_ret
        refine ⟨?_, HD.out⟩
        rw [show sameB l m = true from by simp only [sameB, decide_eq_true_eq]; exact HA.out.eq E.out]
        rfl
  · have e1 : ((l.length : Int) == (m.length : Int)) = false := beq_eq_false_iff_ne.2 (by omega)
    have e2 : ((l.length : Int) != (m.length : Int)) = true := bne_iff_ne.2 (by omega)
    have E := Aside0.mk (show sameB l m = false by simp only [sameB, decide_eq_false_iff_not]; rintro rfl; exact hne rfl)
    clear hne hl hm
    go_enter Try.func27, Try.ntmps27
    go_wp2
    go_ret
    exact ⟨by rw [E.out]; rfl, Drawn0.refl _⟩
abbrev U2 (v1 v2 : Value) (w : World) : World := (w.alloc (.cells #[v1] 24)).alloc (.cells #[v2] 24)
theorem U2_below (v1 v2 : Value) (w : World) : Below w.heap.size w (U2 v1 v2 w) := below_alloc (below_alloc (Below.refl _ _) _) _

theorem same_any (A B : Option Addr) (l m : List ByteArray) (c d : Nat) (w : World) (hl : Kd.C Kd.string w A l.length l) (hm : Kd.C Kd.string w B m.length m) :
    Calls Try.prog 20 #[.agg #[.slice A l.length c], .agg #[.slice B m.length d]] w fun e w' => e = .returned (.bool (sameB l m)) ∧ Below w.heap.size w w' := by
  have HB := Aside0.mk (U2_below (.slice A l.length c) (.slice B m.length d) w)
  have HL := Aside0.mk (Kd.C_below hl HB.out)
  have HM := Aside0.mk (Kd.C_below hm HB.out)
  clear hl hm
  go_enter Try.func20, Try.ntmps20
  go_wp2_with (go_at_call 27; refine (equal_any A B l m c d _ HL.out HM.out).mono ?_; rintro e w1 ⟨rfl, hd⟩; have HB1 := Aside0.mk (below_more HB.out hd.below); clear hd)
  go_ret
  exact ⟨rfl, HB1.out⟩

set_option maxHeartbeats 1000000 in
theorem rsame_any (A B : Option Addr) (l m : List ByteArray) (c d : Nat) (w : World) (hl : Kd.C Kd.string w A l.length l) (hm : Kd.C Kd.string w B m.length m) :
    Calls Try.prog 17 #[.agg #[.slice A l.length c], .agg #[.slice B m.length d]] w fun e w' => e = .returned (.bool (sameB l m)) ∧ Below w.heap.size w w' := by
  have hlen := hl.2.1
  have hlen2 := hm.2.1
  have HB := Aside0.mk (U2_below (.slice A l.length c) (.slice B m.length d) w)
  have HL := Aside0.mk (Kd.C_below hl HB.out)
  have HM := Aside0.mk (Kd.C_below hm HB.out)
  have G1 := Aside0.mk (blk_of (below_alloc (Below.refl _ _) (.cells #[.slice B m.length d] 24)) (heap_alloc_new w (.cells #[.slice A l.length c] 24)))
  have G2 := Aside0.mk (show (U2 (.slice A l.length c) (.slice B m.length d) w).heap[w.heap.size + 1]? = some (.cells #[.slice B m.length d] 24 (0, 0)) by simpa using heap_alloc_new (w.alloc (.cells #[.slice A l.length c] 24)) (.cells #[.slice B m.length d] 24))
  clear hl hm
  by_cases hne : l.length = m.length
  · have e1 : ((l.length : Int) == (m.length : Int)) = true := beq_iff_eq.2 (by omega)
    have e2 : ((l.length : Int) != (m.length : Int)) = false := bne_eq_false_iff_eq.2 (by omega)
    have E := Aside0.mk hne
    clear hne
    go_enter Try.func17, Try.ntmps17
    go_wp2
    go_loopw [5] (fun i wr => ∃ k : Nat, k ≤ l.length ∧ i = .int .i64 k ∧ Aside0 (SameTo l m k) ∧ Aside0 (Drawn0 (U2 (.slice A l.length c) (.slice B m.length d) w) wr)) (fun i _ => l.length - (intOf i).toNat)
    case atStart => exact ⟨0, Nat.zero_le _, rfl, ⟨fun i hi => by omega⟩, ⟨Drawn0.refl _⟩⟩
    case round =>
      obtain ⟨k, hk, rfl, HA, HD⟩ := hrel
      have c1 : wr.cell? ⟨w.heap.size, 0, none⟩ = some (.slice A l.length c) := blk_cell (blk_of HD.out.below G1.out) 0
      have c2 : wr.cell? ⟨w.heap.size + 1, 0, none⟩ = some (.slice B m.length d) := blk_cell (blk_of HD.out.below G2.out) 0
      by_cases hlt : k < l.length
      · obtain ⟨ad, rfl, hx⟩ := Kd.at_string (Kd.C_below HL.out HD.out.below) (k : Int) (by omega) (by omega)
        obtain ⟨bd, rfl, hy⟩ := Kd.at_string (Kd.C_below HM.out HD.out.below) (k : Int) (by omega) (by have := E.out; omega)
        obtain ⟨s, hs⟩ : ∃ s, s = rdOf ByteArray.empty l (k : Int) := ⟨_, rfl⟩
        obtain ⟨t, ht⟩ : ∃ t, t = rdOf ByteArray.empty m (k : Int) := ⟨_, rfl⟩
        rw [← hs, Int.toNat_natCast] at hx
        rw [← ht, Int.toNat_natCast] at hy
        have HS := Aside0.mk (show s = l.getD k ByteArray.empty by rw [hs]; rfl)
        have HT := Aside0.mk (show t = m.getD k ByteArray.empty by rw [ht]; rfl)
        clear hs ht
        have hk2 : (k : Int) < (m.length : Int) := by have := E.out; omega
        have hk3 : k < m.length := by omega
        by_cases hst : s = t
        · have hb : (s.toList == t.toList) = true := by rw [hst]; simp
          have H3 := Aside0.mk hst
          clear hst
          go_wp2
          go_quiet (fail)
          all_goals go_wp2
          all_goals go_roundw
          case rel => exact ⟨k + 1, by omega, by go_num, ⟨HA.out.step (by rw [← HS.out, ← HT.out]; exact H3.out)⟩, ⟨HD.out.step _⟩⟩
          case measure => simp [intOf]; omega
        · have hb : (s.toList == t.toList) = false := beq_eq_false_iff_ne.2 (str_ne hst)
          have H3 := Aside0.mk hst
          clear hst
          go_wp2
          go_quiet (fail)
          all_goals go_wp2
          go_ret
          refine ⟨?_, below_more HB.out (HD.out.step _).below⟩
          have : sameB l m = false := by
            simp only [sameB, decide_eq_false_iff_not]
            rintro rfl
            exact H3.out (by rw [HS.out, HT.out])
          rw [this]
          rfl
      · obtain rfl : k = l.length := by omega
        go_wp2
        go_ret
        refine ⟨?_, below_more HB.out HD.out.below⟩
        rw [show sameB l m = true from by simp only [sameB, decide_eq_true_eq]; exact HA.out.eq E.out]
        rfl
  · have e1 : ((l.length : Int) == (m.length : Int)) = false := beq_eq_false_iff_ne.2 (by omega)
    have e2 : ((l.length : Int) != (m.length : Int)) = true := bne_iff_ne.2 (by omega)
    have E := Aside0.mk (show sameB l m = false by simp only [sameB, decide_eq_false_iff_not]; rintro rfl; exact hne rfl)
    clear hne
    go_enter Try.func17, Try.ntmps17
    go_wp2
    go_ret
    exact ⟨by rw [E.out]; rfl, HB.out⟩

theorem info_u8 : (Try.prog.info? 5).map (fun i => (i.zero, i.size, i.bytes)) = some (some (.int .u8 0), 1, 1) := by kernel_rfl
/-- The text of a row of bytes given as numbers. -/
def fullS (b : Int) : ByteArray := strOfNums (List.replicate 256 b)
end Go.Proofs.Ytangjehadkpecaa.Fl
