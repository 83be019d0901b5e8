/- Plain and small: what FlashReadsLastWrite needs. -/
import Derived.Test.YtangjehadkpecaaFlH
import Derived.Test.YtangjehadkpecaaFlP5
namespace Go.Proofs.Ytangjehadkpecaa.Fl
set_option linter.unusedVariables false
set_option linter.unusedSimpArgs false
open Go.RowKit Go.Proofs.YtangjehadkpecaaW.PrintWords Go.Proofs.YtangjehadkpecaaW.PrintLast Go.Proofs.YtangjehadkpecaaW.PrintMore

theorem new_okN (m : Nat) {w : World} (h : m ≤ 128) :
    Calls Try.prog 11 #[.int .i64 m] w (FlashResN ((List.replicate m (0 : Int)).map fullS) m 0 w) := by
  rw [List.map_replicate, ← zero_full]
  exact (new_ok m w h).mono fun e w' h => h.toN (List.length_replicate)
theorem row_write {W : List Int} {k : Int} {b : Int} (h0 : 0 ≤ k) (h : k < (W.length : Int)) : writeL (W.map fullS) k (fullS b) (-1) = (W.set k.toNat b).map fullS := by
  unfold writeL
  rw [show mergeB (fullS b) (rdOf ByteArray.empty (W.map fullS) k) (-1) = fullS b from by unfold mergeB; rw [if_pos (by decide)]]
  rw [List.map_set]
theorem row_rd {W : List Int} {k : Int} (h0 : 0 ≤ k) (h : k < (W.length : Int)) : rdOf ByteArray.empty (W.map fullS) k = fullS (rdOf 0 W k) := by
  unfold rdOf
  simp only [List.getD]
  rw [List.getElem?_map, List.getElem?_eq_getElem (show k.toNat < W.length by omega)]
  rfl
theorem blk_add (a : Addr) (i : Nat) : (a.add i).block = a.block := by unfold Addr.add; split <;> rfl
theorem blk_add_ne {n : Nat} {a : Addr} {i : Nat} (h : n ≠ (a.add i).block) : n ≠ a.block := by rw [blk_add] at h; exact h
theorem rd_mem {L : List Int} {j : Nat} (h : j < L.length) : rd L (j : Int) ∈ L := by
  unfold rd
  simp [List.getD, List.getElem?_eq_getElem h]
theorem C_setCellNon {w : World} {A : Option Addr} {n : Nat} {l : List ByteArray} (h : Kd.C Kd.string w A n l) {p : Addr} {v : Value} (hp : w.cell? p = some v) (hv : ∀ s, v ≠ .string s) (u : Value) :
    Kd.C Kd.string (w.setCell p u) A n l := by
  have h1 := Kd.reads_of_C (enc := Value.string) (d := ByteArray.empty) (h1 := fun _ => rfl) h
  refine Kd.C_of_reads (d := ByteArray.empty) (h1 := fun _ => rfl) ⟨h1.1, h1.2.1, fun hn => ?_⟩
  obtain ⟨ad, e, hc⟩ := h1.2.2 hn
  refine ⟨ad, e, fun j hj => ?_⟩
  have hx := hc j hj
  rw [World.cell?_setCell_other]
  · exact hx
  · intro he
    rw [he, hx] at hp
    exact hv _ (Option.some.inj hp).symm
theorem IsFl.setNon {w : World} {g n : Nat} {l : List ByteArray} (h : IsFl w g n l) {p : Addr} {v : Value} (hp : w.cell? p = some v) (hv : ∀ s, v ≠ .string s) (hne : g ≠ p.block) (u : Value) : IsFl (w.setCell p u) g n l := by
  obtain ⟨A, c, h1, h2⟩ := h
  exact ⟨A, c, blk_far h1 hne _, ⟨C_setCellNon h2.C hp hv u, h2.len, h2.cap⟩⟩
end Go.Proofs.Ytangjehadkpecaa.Fl
