/- The contracts of chapter 8 with lengths under names of their own. -/
import Derived.Test.YtangjehadkpecaaFlG
namespace Go.Proofs.Ytangjehadkpecaa.Fl
set_option linter.unusedVariables false
set_option linter.unusedSimpArgs false
open Go.RowKit Go.Proofs.YtangjehadkpecaaW.PrintWords Go.Proofs.YtangjehadkpecaaW.PrintLast Go.Proofs.YtangjehadkpecaaW.PrintMore

/-- The contracts with the length under a name of its own. -/
def FlashResN (r : List ByteArray) (n : Nat) (code : Int) (w : World) (e : Ending) (w' : World) : Prop :=
  ∃ A c, e = .returned (.tuple #[.agg #[.slice A n c], .int .i64 code]) ∧ Kd.C Kd.string w' A r.length r ∧ r.length = n ∧ n ≤ c ∧ Below w.heap.size w w'
theorem FlashRes.toN {r : List ByteArray} {n : Nat} {code : Int} {w : World} {e : Ending} {w' : World} (h : FlashRes r code w e w') (hn : r.length = n) : FlashResN r n code w e w' := by
  subst hn
  obtain ⟨A, c, h1, h2, h3, h4⟩ := h
  exact ⟨A, c, h1, h2, rfl, h3, h4⟩
theorem writeL_len (l : List ByteArray) (i : Int) (b : ByteArray) (cut : Int) : (writeL l i b cut).length = l.length := by simp [writeL]
/-- A readable flash memory, its length under a name. -/
structure Fl (w : World) (A : Option Addr) (n c : Nat) (l : List ByteArray) : Prop where
  C : Kd.C Kd.string w A l.length l
  len : l.length = n
  cap : n ≤ c
theorem Fl.below {w w1 : World} {A : Option Addr} {n c : Nat} {l : List ByteArray} (h : Fl w A n c l) (hb : Below w.heap.size w w1) : Fl w1 A n c l := ⟨Kd.C_below h.C hb, h.len, h.cap⟩
theorem write_okN {A : Option Addr} {n c : Nat} {l : List ByteArray} {w : World} (i : Int) (b : ByteArray) (cut : Int) (h : Fl w A n c l)
    (h0 : 0 ≤ i) (h2 : i < (n : Int)) (hb256 : b.size = 256) (hold : (rdOf ByteArray.empty l i).size ≤ 1000000) (hl : n ≤ 1000000) :
    Calls Try.prog 15 #[.agg #[.slice A n c], .int .i64 i, .string b, .int .i64 cut] w (FlashResN (writeL l i b cut) n 0 w) := by
  obtain ⟨hC, rfl, hc⟩ := h
  exact (write_ok A l c i b cut w hC hc h0 h2 (by omega) hold hl).mono fun _ _ h => h.toN (writeL_len _ _ _ _)
theorem write_noneN {A : Option Addr} {n c : Nat} {l : List ByteArray} {w : World} (i : Int) (b : ByteArray) (cut : Int) (h : Fl w A n c l) (h0 : i < 0 ∨ (n : Int) ≤ i) :
    Calls Try.prog 15 #[.agg #[.slice A n c], .int .i64 i, .string b, .int .i64 cut] w (FlashResN l n 13 w) := by
  obtain ⟨hC, rfl, hc⟩ := h
  exact (write_none A l c i b cut w hC hc h0).mono fun _ _ h => h.toN rfl
theorem write_argN {A : Option Addr} {n c : Nat} {l : List ByteArray} {w : World} (i : Int) (b : ByteArray) (cut : Int) (h : Fl w A n c l) (h0 : 0 ≤ i) (h2 : i < (n : Int)) (hb : ¬ b.size = 256) :
    Calls Try.prog 15 #[.agg #[.slice A n c], .int .i64 i, .string b, .int .i64 cut] w (FlashResN l n 1 w) := by
  obtain ⟨hC, rfl, hc⟩ := h
  exact (write_arg A l c i b cut w hC hc h0 h2 (by omega)).mono fun _ _ h => h.toN rfl
theorem rwrite_okN {A : Option Addr} {n c : Nat} {l : List ByteArray} {w : World} (i : Int) (b : ByteArray) (cut : Int) (h : Fl w A n c l)
    (h0 : 0 ≤ i) (h2 : i < (n : Int)) (hb256 : b.size = 256) (hold : (rdOf ByteArray.empty l i).size ≤ 1000000) (hl : n ≤ 1000000) :
    Calls Try.prog 16 #[.agg #[.slice A n c], .int .i64 i, .string b, .int .i64 cut] w (FlashResN (writeL l i b cut) n 0 w) := by
  obtain ⟨hC, rfl, hc⟩ := h
  exact (refWrite_ok A l c i b cut w hC hc h0 h2 (by omega) hold hl).mono fun _ _ h => h.toN (writeL_len _ _ _ _)
theorem rwrite_noneN {A : Option Addr} {n c : Nat} {l : List ByteArray} {w : World} (i : Int) (b : ByteArray) (cut : Int) (h : Fl w A n c l) (h0 : i < 0 ∨ (n : Int) ≤ i) :
    Calls Try.prog 16 #[.agg #[.slice A n c], .int .i64 i, .string b, .int .i64 cut] w (FlashResN l n 13 w) := by
  obtain ⟨hC, rfl, hc⟩ := h
  exact (refWrite_none A l c i b cut w hC hc h0).mono fun _ _ h => h.toN rfl
theorem rwrite_argN {A : Option Addr} {n c : Nat} {l : List ByteArray} {w : World} (i : Int) (b : ByteArray) (cut : Int) (h : Fl w A n c l) (h0 : 0 ≤ i) (h2 : i < (n : Int)) (hb : ¬ b.size = 256) :
    Calls Try.prog 16 #[.agg #[.slice A n c], .int .i64 i, .string b, .int .i64 cut] w (FlashResN l n 1 w) := by
  obtain ⟨hC, rfl, hc⟩ := h
  exact (refWrite_arg A l c i b cut w hC hc h0 h2 (by omega)).mono fun _ _ h => h.toN rfl
theorem read_yesN {A : Option Addr} {n c : Nat} {l : List ByteArray} {w : World} (i : Int) (h : Fl w A n c l) (h0 : 0 ≤ i) (h2 : i < (n : Int)) :
    Calls Try.prog 13 #[.agg #[.slice A n c], .int .i64 i] w fun e w' => e = .returned (.tuple #[.string (rdOf ByteArray.empty l i), .int .i64 0]) ∧ Below w.heap.size w w' := by
  obtain ⟨hC, rfl, hc⟩ := h
  exact read_yes A l c i w hC h0 h2
theorem read_noN {A : Option Addr} {n c : Nat} {l : List ByteArray} {w : World} (i : Int) (h : Fl w A n c l) (h0 : i < 0 ∨ (n : Int) ≤ i) :
    Calls Try.prog 13 #[.agg #[.slice A n c], .int .i64 i] w fun e w' => e = .returned (.tuple #[.string ⟨#[]⟩, .int .i64 13]) ∧ Below w.heap.size w w' := by
  obtain ⟨hC, rfl, hc⟩ := h
  exact read_no A l c i w hC h0
theorem rread_yesN {A : Option Addr} {n c : Nat} {l : List ByteArray} {w : World} (i : Int) (h : Fl w A n c l) (h0 : 0 ≤ i) (h2 : i < (n : Int)) :
    Calls Try.prog 14 #[.agg #[.slice A n c], .int .i64 i] w fun e w' => e = .returned (.tuple #[.string (rdOf ByteArray.empty l i), .int .i64 0]) ∧ Below w.heap.size w w' := by
  obtain ⟨hC, rfl, hc⟩ := h
  exact rread_yes A l c i w hC h0 h2
theorem rread_noN {A : Option Addr} {n c : Nat} {l : List ByteArray} {w : World} (i : Int) (h : Fl w A n c l) (h0 : i < 0 ∨ (n : Int) ≤ i) :
    Calls Try.prog 14 #[.agg #[.slice A n c], .int .i64 i] w fun e w' => e = .returned (.tuple #[.string ⟨#[]⟩, .int .i64 13]) ∧ Below w.heap.size w w' := by
  obtain ⟨hC, rfl, hc⟩ := h
  exact rread_no A l c i w hC h0
theorem validN {A : Option Addr} {n c : Nat} {l : List ByteArray} {w : World} (h : Fl w A n c l) :
    Calls Try.prog 18 #[.agg #[.slice A n c]] w fun e w' => e = .returned (.bool (validB l)) ∧ Below w.heap.size w w' := by
  obtain ⟨hC, rfl, hc⟩ := h
  exact valid_any A l c w hC
theorem rvalidN {A : Option Addr} {n c : Nat} {l : List ByteArray} {w : World} (h : Fl w A n c l) :
    Calls Try.prog 19 #[.agg #[.slice A n c]] w fun e w' => e = .returned (.bool (validB l)) ∧ Below w.heap.size w w' := by
  obtain ⟨hC, rfl, hc⟩ := h
  rw [← rvalid_eq]
  exact rvalid_any A l c w hC
theorem sameN {A B : Option Addr} {n c m d : Nat} {l q : List ByteArray} {w : World} (h : Fl w A n c l) (h' : Fl w B m d q) :
    Calls Try.prog 20 #[.agg #[.slice A n c], .agg #[.slice B m d]] w fun e w' => e = .returned (.bool (sameB l q)) ∧ Below w.heap.size w w' := by
  obtain ⟨hC, rfl, hc⟩ := h
  obtain ⟨hC', rfl, hc'⟩ := h'
  exact same_any A B l q c d w hC hC'
theorem rsameN {A B : Option Addr} {n c m d : Nat} {l q : List ByteArray} {w : World} (h : Fl w A n c l) (h' : Fl w B m d q) :
    Calls Try.prog 17 #[.agg #[.slice A n c], .agg #[.slice B m d]] w fun e w' => e = .returned (.bool (sameB l q)) ∧ Below w.heap.size w w' := by
  obtain ⟨hC, rfl, hc⟩ := h
  obtain ⟨hC', rfl, hc'⟩ := h'
  exact rsame_any A B l q c d w hC hC'

/-- A variable of type api.Flash in block g that holds a readable flash memory. -/
def IsFl (w : World) (g n : Nat) (l : List ByteArray) : Prop :=
  ∃ A c, w.heap[g]? = some (.cells #[.slice A n c] 24 (0, 0)) ∧ Fl w A n c l
theorem IsFl.below {w w1 : World} {g n : Nat} {l : List ByteArray} (h : IsFl w g n l) (hb : Below w.heap.size w w1) : IsFl w1 g n l := by
  obtain ⟨A, c, h1, h2⟩ := h
  exact ⟨A, c, blk_of hb h1, h2.below hb⟩

theorem C_setVar {w : World} {A : Option Addr} {n : Nat} {l : List ByteArray} (h : Kd.C Kd.string w A n l) {g : Nat} {v : Value} {t : TypeId} (hv : ∀ s, v ≠ .string s) (hg : w.heap[g]? = some (.cells #[v] t (0, 0))) (u : Value) :
    Kd.C Kd.string (w.setCell ⟨g, 0, none⟩ u) A n l := by
  have h1 := Kd.reads_of_C (enc := Value.string) (d := ByteArray.empty) (h1 := fun _ => rfl) h
  refine Kd.C_of_reads (d := ByteArray.empty) (h1 := fun _ => rfl) ⟨h1.1, h1.2.1, fun hn => ?_⟩
  obtain ⟨ad, e, hc⟩ := h1.2.2 hn
  refine ⟨ad, e, fun j hj => ?_⟩
  have hx := hc j hj
  rw [World.cell?_setCell_far _ _ _ _ ?_]
  · exact hx
  · intro he
    have h2 : w.cell? (ad.add j) = (#[v] : Array Value)[(ad.add j).off]? ∨ w.cell? (ad.add j) = none := by
      unfold World.cell?
      rw [← he]
      simp only [hg]
      split
      · right; rfl
      · left; rfl
    rcases h2 with h2 | h2
    · rw [hx] at h2
      rcases Nat.eq_zero_or_pos (ad.add j).off with h0 | h0
      · rw [h0] at h2
        simp at h2
        exact hv _ h2.symm
      · rw [Array.getElem?_eq_none (by simp; omega)] at h2
        cases h2
    · rw [hx] at h2; cases h2
theorem Fl.setVar {w : World} {A : Option Addr} {n c : Nat} {l : List ByteArray} (h : Fl w A n c l) {g n0 c0 : Nat} {A0 : Option Addr} {t : TypeId} (hg : w.heap[g]? = some (.cells #[.slice A0 n0 c0] t (0, 0))) (u : Value) :
    Fl (w.setCell ⟨g, 0, none⟩ u) A n c l := ⟨C_setVar h.C (fun _ => by simp) hg u, h.len, h.cap⟩
theorem Fl.inNew {w : World} {A : Option Addr} {n c : Nat} {l : List ByteArray} (h : Fl w A n c l) : IsFl (w.alloc (.cells #[.slice A n c] 24)) w.heap.size n l :=
  ⟨A, c, heap_alloc_new w _, h.below (below_alloc (Below.refl _ _) _)⟩
theorem Fl.inSet {w : World} {A : Option Addr} {n c : Nat} {l : List ByteArray} (h : Fl w A n c l) {g n0 c0 : Nat} {A0 : Option Addr} (hg : w.heap[g]? = some (.cells #[.slice A0 n0 c0] 24 (0, 0))) :
    IsFl (w.setCell ⟨g, 0, none⟩ (.slice A n c)) g n l := ⟨A, c, one_setCell hg, h.setVar hg _⟩
theorem IsFl.setFar {w : World} {g n : Nat} {l : List ByteArray} (h : IsFl w g n l) {g' n0 c0 : Nat} {A0 : Option Addr} (hg : w.heap[g']? = some (.cells #[.slice A0 n0 c0] 24 (0, 0))) (hne : g ≠ g') (u : Value) :
    IsFl (w.setCell ⟨g', 0, none⟩ u) g n l := by
  obtain ⟨A, c, h1, h2⟩ := h
  exact ⟨A, c, blk_far h1 hne _, h2.setVar hg u⟩
end Go.Proofs.Ytangjehadkpecaa.Fl
