/- Walks of the readers over flash memories: Read, Same, and the reference's Read, Small, Valid, Same. -/
import Derived.Test.YtangjehadkpecaaFlD
namespace Go.Proofs.Ytangjehadkpecaa.Fl
set_option linter.unusedVariables false
set_option linter.unusedSimpArgs false
open Go.RowKit Go.Proofs.YtangjehadkpecaaW.PrintWords Go.Proofs.YtangjehadkpecaaW.PrintLast Go.Proofs.YtangjehadkpecaaW.PrintMore

def AllP (p : ByteArray → Bool) (l : List ByteArray) (k : Nat) : Prop := ∀ i, i < k → p (l.getD i ByteArray.empty) = true
theorem AllP.step {p : ByteArray → Bool} {l : List ByteArray} {k : Nat} (h : AllP p l k) (hk : p (l.getD k ByteArray.empty) = true) : AllP p l (k + 1) := by
  intro i hi
  by_cases e : i = k
  · subst e; exact hk
  · exact h i (by omega)
theorem AllP.all {p : ByteArray → Bool} {l : List ByteArray} (h : AllP p l l.length) : l.all p = true := by
  rw [List.all_eq_true]
  intro s hs
  obtain ⟨j, hj, rfl⟩ := List.getElem_of_mem hs
  have := h j hj
  simpa [List.getD, hj] using this
theorem all_false {p : ByteArray → Bool} {l : List ByteArray} {k : Nat} (hk : k < l.length) (h : p (l.getD k ByteArray.empty) = false) : l.all p = false := by
  rw [List.all_eq_false]
  refine ⟨l[k], List.getElem_mem hk, ?_⟩
  simpa [List.getD, hk] using h

def smallB (l : List ByteArray) : Bool := decide ((l.length : Int) ≤ 150) && l.all fun s => decide ((s.size : Int) ≤ 300)
def rvalidB (l : List ByteArray) : Bool := decide ((l.length : Int) ≤ 128) && l.all fun s => (s.size : Int) == 256

theorem rvalid_eq (l : List ByteArray) : rvalidB l = validB l := by
  unfold rvalidB validB idxShort
  congr 1
  cases h : l.findIdx? (fun s => !((s.size : Int) == 256)) with
  | none =>
    rw [List.findIdx?_eq_none_iff] at h
    simp only [show ¬ ((0 : Int) ≤ -1) from by omega, decide_false, Bool.not_false]
    rw [List.all_eq_true]
    intro s hs
    have := h s hs
    simpa using this
  | some i =>
    rw [List.findIdx?_eq_some_iff_getElem] at h
    obtain ⟨hi, h1, _⟩ := h
    simp only [show (0 : Int) ≤ (i : Int) from by omega, decide_true, Bool.not_true]
    rw [List.all_eq_false]
    exact ⟨l[i], List.getElem_mem hi, by simpa using h1⟩

set_option maxHeartbeats 1000000 in
theorem small_any (A : Option Addr) (l : List ByteArray) (c : Nat) (w : World) (hr : Kd.C Kd.string w A l.length l) :
    Calls Try.prog 10 #[.agg #[.slice A l.length c]] w fun e w' => e = .returned (.bool (smallB l)) ∧ Below w.heap.size w w' := by
  have hlen := hr.2.1
  have HB := Aside0.mk (below_alloc (Below.refl w.heap.size w) (.cells #[.slice A l.length c] 24))
  have HR := Aside0.mk (Kd.C_below hr HB.out)
  clear hr
  by_cases h150 : (l.length : Int) ≤ 150
  · have e1 := Aside0.mk (show decide ((l.length : Int) ≤ 150) = true by simp [h150])
    go_enter Try.func10, Try.ntmps10
    go_wp2
    go_loop [3] (fun i => ∃ k : Nat, k ≤ l.length ∧ i = .int .i64 k ∧ Aside0 (AllP (fun s => decide ((s.size : Int) ≤ 300)) l k)) (fun i => l.length - (intOf i).toNat)
    case atStart => exact ⟨0, Nat.zero_le _, rfl, ⟨fun i hi => by omega⟩⟩
    case round =>
      obtain ⟨k, hk, rfl, HA⟩ := hrel
      by_cases hlt : k < l.length
      · obtain ⟨ad, rfl, hx⟩ := Kd.at_string HR.out (k : Int) (by omega) (by omega)
        obtain ⟨s, hs⟩ : ∃ s, s = rdOf ByteArray.empty l (k : Int) := ⟨_, rfl⟩
        rw [← hs, Int.toNat_natCast] at hx
        have HS := Aside0.mk (show s = l.getD k ByteArray.empty by rw [hs]; rfl)
        clear hs
        by_cases h3 : (s.size : Int) ≤ 300
        · go_wp2
          go_round
          case rel => exact ⟨k + 1, by omega, by go_num, ⟨HA.out.step (by rw [← HS.out]; simpa using h3)⟩⟩
          case measure => simp [intOf]; omega
        · go_wp2
          go_ret
          refine ⟨?_, HB.out⟩
          unfold smallB
          rw [e1.out, all_false hlt (by rw [← HS.out]; simpa using h3)]
          rfl
      · obtain rfl : k = l.length := by omega
        go_wp2
        go_ret
        refine ⟨?_, HB.out⟩
        unfold smallB
        rw [e1.out, HA.out.all]
        rfl
  · have e1 := Aside0.mk (show decide ((l.length : Int) ≤ 150) = false by simp [h150])
    go_enter Try.func10, Try.ntmps10
    go_wp2
    go_ret
    refine ⟨?_, HB.out⟩
    unfold smallB
    rw [e1.out]
    rfl

set_option maxHeartbeats 1000000 in
theorem rvalid_any (A : Option Addr) (l : List ByteArray) (c : Nat) (w : World) (hr : Kd.C Kd.string w A l.length l) :
    Calls Try.prog 19 #[.agg #[.slice A l.length c]] w fun e w' => e = .returned (.bool (rvalidB l)) ∧ Below w.heap.size w w' := by
  have hlen := hr.2.1
  have HB := Aside0.mk (below_alloc (Below.refl w.heap.size w) (.cells #[.slice A l.length c] 24))
  have HR := Aside0.mk (Kd.C_below hr HB.out)
  clear hr
  by_cases h150 : (l.length : Int) ≤ 128
  · have e1 := Aside0.mk (show decide ((l.length : Int) ≤ 128) = true by simp [h150])
    go_enter Try.func19, Try.ntmps19
    go_wp2
    go_loop [3] (fun i => ∃ k : Nat, k ≤ l.length ∧ i = .int .i64 k ∧ Aside0 (AllP (fun s => (s.size : Int) == 256) l k)) (fun i => l.length - (intOf i).toNat)
    case atStart => exact ⟨0, Nat.zero_le _, rfl, ⟨fun i hi => by omega⟩⟩
    case round =>
      obtain ⟨k, hk, rfl, HA⟩ := hrel
      by_cases hlt : k < l.length
      · obtain ⟨ad, rfl, hx⟩ := Kd.at_string HR.out (k : Int) (by omega) (by omega)
        obtain ⟨s, hs⟩ : ∃ s, s = rdOf ByteArray.empty l (k : Int) := ⟨_, rfl⟩
        rw [← hs, Int.toNat_natCast] at hx
        have HS := Aside0.mk (show s = l.getD k ByteArray.empty by rw [hs]; rfl)
        clear hs
        by_cases h3 : (s.size : Int) = 256
        · have h3b : ((s.size : Int) == 256) = true := beq_iff_eq.2 h3
          have H3 := Aside0.mk h3b
          clear h3
          go_wp2
          go_round
          case rel => exact ⟨k + 1, by omega, by go_num, ⟨HA.out.step (by rw [← HS.out]; exact H3.out)⟩⟩
          case measure => simp [intOf]; omega
        · have h3b : ((s.size : Int) == 256) = false := beq_eq_false_iff_ne.2 h3
          have H3 := Aside0.mk h3b
          clear h3
          go_wp2
          go_ret
          refine ⟨?_, HB.out⟩
          unfold rvalidB
          rw [e1.out, all_false hlt (by rw [← HS.out]; exact H3.out)]
          rfl
      · obtain rfl : k = l.length := by omega
        go_wp2
        go_ret
        refine ⟨?_, HB.out⟩
        unfold rvalidB
        rw [e1.out, HA.out.all]
        rfl
  · have e1 := Aside0.mk (show decide ((l.length : Int) ≤ 128) = false by simp [h150])
    go_enter Try.func19, Try.ntmps19
    go_wp2
    go_ret
    refine ⟨?_, HB.out⟩
    unfold rvalidB
    rw [e1.out]
    rfl

/-- What Read gives of a sector that is there. -/
theorem read_yes (A : Option Addr) (l : List ByteArray) (c : Nat) (i : Int) (w : World) (hr : Kd.C Kd.string w A l.length l) (h : 0 ≤ i) (h2 : i < (l.length : Int)) :
    Calls Try.prog 13 #[.agg #[.slice A l.length c], .int .i64 i] w fun e w' => e = .returned (.tuple #[.string (rdOf ByteArray.empty l i), .int .i64 0]) ∧ Below w.heap.size w w' := by
  have hn := hr.2.1
  obtain ⟨ad, rfl, hx⟩ := Kd.at_string hr i h h2
  have HB := Aside0.mk (below_alloc (Below.refl w.heap.size w) (.cells #[.slice (some ad) l.length c] 24))
  clear hr
  go_enter Try.func13, Try.ntmps13
  go_wp2_with (go_at_call 23; refine (has_yes (some ad) l.length c i _ hn h h2).mono ?_; rintro e w1 ⟨rfl, hb⟩; obtain ⟨hcc, hff⟩ := bcell hb; have HB1 := Aside0.mk (below_more HB.out hb); have hx1 : w1.cell? (ad.add i.toNat) = some (.string (rdOf ByteArray.empty l i)) := pw_cell_below HB1.out hx; clear hb)
  go_ret2
  exact ⟨rfl, HB1.out⟩
theorem read_no (A : Option Addr) (l : List ByteArray) (c : Nat) (i : Int) (w : World) (hr : Kd.C Kd.string w A l.length l) (h : i < 0 ∨ (l.length : Int) ≤ i) :
    Calls Try.prog 13 #[.agg #[.slice A l.length c], .int .i64 i] w fun e w' => e = .returned (.tuple #[.string ⟨#[]⟩, .int .i64 13]) ∧ Below w.heap.size w w' := by
  have hn := hr.2.1
  have HB := Aside0.mk (below_alloc (Below.refl w.heap.size w) (.cells #[.slice A l.length c] 24))
  clear hr
  go_enter Try.func13, Try.ntmps13
  go_wp2_with (go_at_call 23; refine (has_no A l.length c i _ hn h).mono ?_; rintro e w1 ⟨rfl, hb⟩; obtain ⟨hcc, hff⟩ := bcell hb; have HB1 := Aside0.mk (below_more HB.out hb); clear hb)
  go_ret2
  exact ⟨rfl, HB1.out⟩
theorem rread_yes (A : Option Addr) (l : List ByteArray) (c : Nat) (i : Int) (w : World) (hr : Kd.C Kd.string w A l.length l) (h : 0 ≤ i) (h2 : i < (l.length : Int)) :
    Calls Try.prog 14 #[.agg #[.slice A l.length c], .int .i64 i] w fun e w' => e = .returned (.tuple #[.string (rdOf ByteArray.empty l i), .int .i64 0]) ∧ Below w.heap.size w w' := by
  have hn := hr.2.1
  obtain ⟨ad, rfl, hx⟩ := Kd.at_string hr i h h2
  have HB := Aside0.mk (below_alloc (Below.refl w.heap.size w) (.cells #[.slice (some ad) l.length c] 24))
  have hx2 : (w.alloc (.cells #[.slice (some ad) l.length c] 24)).cell? (ad.add i.toNat) = some (.string (rdOf ByteArray.empty l i)) := pw_cell_below HB.out hx
  clear hr hx
  go_enter Try.func14, Try.ntmps14
  go_wp2
  go_ret2
  exact ⟨rfl, HB.out⟩
theorem rread_no (A : Option Addr) (l : List ByteArray) (c : Nat) (i : Int) (w : World) (hr : Kd.C Kd.string w A l.length l) (h : i < 0 ∨ (l.length : Int) ≤ i) :
    Calls Try.prog 14 #[.agg #[.slice A l.length c], .int .i64 i] w fun e w' => e = .returned (.tuple #[.string ⟨#[]⟩, .int .i64 13]) ∧ Below w.heap.size w w' := by
  have hn := hr.2.1
  have HB := Aside0.mk (below_alloc (Below.refl w.heap.size w) (.cells #[.slice A l.length c] 24))
  clear hr
  by_cases hi0 : i < 0
  · clear h
    go_enter Try.func14, Try.ntmps14
    go_wp2
    go_ret2
    exact ⟨rfl, HB.out⟩
  · have h' : (l.length : Int) ≤ i := by omega
    clear h
    go_enter Try.func14, Try.ntmps14
    go_wp2
    go_ret2
    exact ⟨rfl, HB.out⟩
end Go.Proofs.Ytangjehadkpecaa.Fl
