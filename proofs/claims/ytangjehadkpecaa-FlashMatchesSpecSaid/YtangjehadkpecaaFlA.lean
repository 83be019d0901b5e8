/- Walks of the small functions of package flash: the closure of Valid, slices.IndexFunc and ContainsFunc at it, Valid, and the closure of Write. -/
import Derived.Test.YtangjehadkpecaaProg
import Derived.WalkKit
import Derived.WalkSpells
import Derived.WalkLawsBesides
import Derived.BigQuiet
import Derived.Deep.QuietTactic
import Derived.Test.YtangjehadkpecaaWWords
import Derived.Test.YtangjehadkpecaaWLast
import Derived.Test.YtangjehadkpecaaWMore
namespace Go.Proofs.Ytangjehadkpecaa.Fl
set_option linter.unusedVariables false
set_option linter.unusedSimpArgs false
open Go.RowKit Go.Proofs.YtangjehadkpecaaW.PrintWords Go.Proofs.YtangjehadkpecaaW.PrintLast Go.Proofs.YtangjehadkpecaaW.PrintMore
attribute [local go_sem] max2_int min2_int max_two min_two

theorem valid1_any (s : ByteArray) (w : World) :
    Calls Try.prog 25 #[.string s] w fun e w' => e = .returned (.bool (!((s.size : Int) == 256))) ∧ w = w' := by
  go_enter Try.func25, Try.ntmps25
  go_wp2
  go_ret
  exact ⟨by first | rfl | (simp; done), rfl⟩

/-- the first index of a sector of another length, or -1 -/
def idxShort (l : List ByteArray) : Int := match l.findIdx? (fun s => !((s.size : Int) == 256)) with | some i => i | none => -1
def AllFull (l : List ByteArray) (k : Nat) : Prop := ∀ i, i < k → ((l.getD i ByteArray.empty).size : Int) = 256
theorem AllFull.step {l : List ByteArray} {k : Nat} (h : AllFull l k) (hk : ((l.getD k ByteArray.empty).size : Int) = 256) : AllFull l (k + 1) := by
  intro i hi
  by_cases e : i = k
  · subst e; exact hk
  · exact h i (by omega)
theorem idxShort_hit {l : List ByteArray} {k : Nat} (h : AllFull l k) (hk : k < l.length) (hn : ¬ ((l.getD k ByteArray.empty).size : Int) = 256) : idxShort l = k := by
  unfold idxShort
  have : l.findIdx? (fun s => !((s.size : Int) == 256)) = some k := by
    rw [List.findIdx?_eq_some_iff_getElem]
    refine ⟨hk, ?_, fun j hj => ?_⟩
    · have := hn; simp [List.getD, hk] at this ⊢; exact this
    · have := h j hj; have hj' : j < l.length := by omega
      simp [List.getD, hj'] at this ⊢; exact this
  rw [this]
theorem idxShort_none {l : List ByteArray} (h : AllFull l l.length) : idxShort l = -1 := by
  unfold idxShort
  have : l.findIdx? (fun s => !((s.size : Int) == 256)) = none := by
    rw [List.findIdx?_eq_none_iff]
    intro s hs
    obtain ⟨j, hj, rfl⟩ := List.getElem_of_mem hs
    have := h j hj
    simp [List.getD, hj] at this ⊢; exact this
  rw [this]

set_option maxHeartbeats 1000000 in
theorem indexFunc_any (A : Option Addr) (l : List ByteArray) (c : Nat) (w : World) (hr : Kd.C Kd.string w A l.length l) :
    Calls Try.prog 34 #[.slice A l.length c, .func (.func 25) #[] #[]] w fun e w' =>
      e = .returned (.int .i64 (idxShort l)) ∧ w = w' := by
  have hlen := hr.2.1
  go_enter Try.func34, Try.ntmps34
  go_wp2
  go_loop [5, 8] (fun _ i => ∃ k : Nat, k ≤ l.length ∧ i = .int .i64 k ∧ Aside0 (AllFull l k)) (fun _ i => l.length - (intOf i).toNat)
  case atStart => exact ⟨0, Nat.zero_le _, rfl, ⟨fun i hi => by omega⟩⟩
  case round =>
    obtain ⟨k, hk, rfl, HA⟩ := hrel
    by_cases hlt : k < l.length
    · obtain ⟨ad, rfl, hx⟩ := Kd.at_string hr (k : Int) (by omega) (by omega)
      obtain ⟨s, hs⟩ : ∃ s, s = rdOf ByteArray.empty l (k : Int) := ⟨_, rfl⟩
      rw [← hs, Int.toNat_natCast] at hx
      have hs' : s = l.getD k ByteArray.empty := by rw [hs]; rfl
      have HS := Aside0.mk hs'
      clear hs hs'
      by_cases h256 : (s.size : Int) = 256
      · have hb : ((s.size : Int) == 256) = true := beq_iff_eq.2 h256
        have H2 := Aside0.mk h256
        clear h256
        go_wp2_with (go_at_call 25; refine (valid1_any s _).mono ?_; rintro e w' ⟨rfl, rfl⟩)
        go_round
        case rel => exact ⟨k + 1, by omega, by go_num, ⟨HA.out.step (by rw [← HS.out]; exact H2.out)⟩⟩
        case measure => simp [intOf]; omega
      · have hb : ((s.size : Int) == 256) = false := beq_eq_false_iff_ne.2 h256
        have H2 := Aside0.mk h256
        clear h256
        go_wp2_with (go_at_call 25; refine (valid1_any s _).mono ?_; rintro e w' ⟨rfl, rfl⟩)
        go_ret
        exact ⟨by rw [idxShort_hit HA.out hlt (by rw [← HS.out]; exact H2.out)]; rfl, rfl⟩
    · go_wp2
      go_ret
      exact ⟨by rw [idxShort_none (by rw [show l.length = k from by omega]; exact HA.out)]; rfl, rfl⟩

theorem containsFunc_any (A : Option Addr) (l : List ByteArray) (c : Nat) (w : World) (hr : Kd.C Kd.string w A l.length l) :
    Calls Try.prog 26 #[.slice A l.length c, .func (.func 25) #[] #[]] w fun e w' =>
      e = .returned (.bool (decide (0 ≤ idxShort l))) ∧ w = w' := by
  go_enter Try.func26, Try.ntmps26
  go_wp2_with (go_at_call 34; refine (indexFunc_any A l c _ hr).mono ?_; rintro e w' ⟨rfl, rfl⟩)
  go_ret
  exact ⟨by first | rfl | (simp; done), rfl⟩

/-- What Valid computes. -/
def validB (l : List ByteArray) : Bool := decide ((l.length : Int) ≤ 128) && !decide (0 ≤ idxShort l)

set_option maxHeartbeats 1000000 in
theorem valid_any (A : Option Addr) (l : List ByteArray) (c : Nat) (w : World) (hr : Kd.C Kd.string w A l.length l) :
    Calls Try.prog 18 #[.agg #[.slice A l.length c]] w fun e w' =>
      e = .returned (.bool (validB l)) ∧ Below w.heap.size w w' := by
  have hb : Below w.heap.size w (w.alloc (.cells #[.slice A l.length c] 24)) := below_alloc (Below.refl _ _) _
  have hr' := Aside0.mk (Kd.C_below hr hb)
  have HB := Aside0.mk hb
  clear hb
  by_cases h : (l.length : Int) ≤ 128
  · go_enter Try.func18, Try.ntmps18
    go_wp2_with (go_at_call 26; refine (containsFunc_any A l c _ hr'.out).mono ?_; rintro e w' ⟨rfl, rfl⟩)
    go_ret
    exact ⟨by simp [validB, h], HB.out⟩
  · go_enter Try.func18, Try.ntmps18
    go_wp2
    go_ret
    exact ⟨by simp [validB]; omega, HB.out⟩

/-- What the closure of Write computes. -/
def mergeB (b old : ByteArray) (cut : Int) : ByteArray :=
  if cut < 0 then b else if (b.size : Int) ≤ cut then b else b.extract 0 cut.toNat ++ old.extract (min cut.toNat old.size) old.size

set_option maxHeartbeats 1000000 in
theorem write1_any (old b : ByteArray) (cut : Int) (pc pb : Addr) (w : World) (h1 : w.cell? pc = some (.int .i64 cut)) (h2 : w.cell? pb = some (.string b))
    (hs : b.size + old.size ≤ 9223372036854775807) :
    Calls Try.prog 24 #[.string old, .pointer (some pc), .pointer (some pb)] w fun e w' => e = .returned (.string (mergeB b old cut)) ∧ Drawn0 w w' := by
  by_cases hneg : cut < 0
  · go_enter Try.func24, Try.ntmps24
    go_wp2
    go_ret
    exact ⟨by simp [mergeB, hneg], Drawn0.refl _⟩
  · by_cases hbig : (b.size : Int) ≤ cut
    · go_enter Try.func24, Try.ntmps24
      go_wp2
      go_ret
      exact ⟨by simp [mergeB, hneg, hbig], Drawn0.refl _⟩
    · go_enter Try.func24, Try.ntmps24
      go_wp2
      go_quiet (fail)
      all_goals go_wp2
      all_goals go_ret
      all_goals refine ⟨congrArg (fun s => Ending.returned (.string s)) ?_, ⟨_, rfl⟩⟩
      all_goals unfold mergeB
      · rw [if_neg (by omega), if_neg (by omega), show min cut.toNat old.size = old.size from by omega]
        first | rfl | (apply ByteArray.ext; simp)
      · rw [if_neg (by omega), if_neg (by omega), show min cut.toNat old.size = cut.toNat from by omega]

end Go.Proofs.Ytangjehadkpecaa.Fl
