/- The reference's New, and contracts without a case: New, Read, Write and their references return the same. -/
import Derived.Test.YtangjehadkpecaaFlH
import Derived.Test.YtangjehadkpecaaFlP
import Derived.Test.YtangjehadkpecaaPFlashMatchesSpecx2
namespace Go.Proofs.Ytangjehadkpecaa.Fl
set_option linter.unusedVariables false
set_option linter.unusedSimpArgs false
open Go.RowKit Go.Proofs.YtangjehadkpecaaW.PrintWords Go.Proofs.YtangjehadkpecaaW.PrintLast Go.Proofs.YtangjehadkpecaaW.PrintMore
open Go.Proofs.Ytangjehadkpecaa.PFlashMatchesSpec

def newL (z : Int) : List ByteArray := if z < 0 ∨ 128 < z then [] else List.replicate z.toNat zeroSector
def newE (z : Int) : Int := if z < 0 ∨ 128 < z then 1 else 0
theorem new_anyN (z : Int) (w : World) : Calls Try.prog 11 #[.int .i64 z] w (FlashResN (newL z) (newL z).length (newE z) w) := by
  unfold newL newE
  split
  · rename_i h
    exact (new_bad z w h).mono fun e w' h => h.toN rfl
  · rename_i h
    have e : z = ((z.toNat : Nat) : Int) := by omega
    have := new_ok z.toNat w (by omega)
    rw [← e] at this
    exact this.mono fun e w' h => h.toN rfl
theorem zero_nums : strOfNums (List.replicate 256 0) = zeroSector := zero_full.symm
theorem rnew_l0 (k : Nat) (x0 x5 : Int) (xs : List ByteArray) (h : xs.length < 8796093022208) :
    bootchainref08_New.l0 (k + 1) x0 x5 xs = if x5 < x0 then bootchainref08_New.l0 k x0 (wrap64 (x5 + 1)) (xs ++ [zeroSector]) else some (xs, 0) := by
  have e : bootchainref08_New.l0 (k + 1) x0 x5 xs = if x5 < x0 then (if 256 ≤ 281474976710656 then (if xs.length < 8796093022208 then (bootchainref08_New.l0 k x0 (wrap64 (x5 + 1)) (xs ++ [strOfNums (List.replicate 256 0)])) else (none)) else (none)) else (some (xs, 0)) := by
    conv => lhs; rw [bootchainref08_New.l0]
  rw [e, zero_nums, if_pos (show 256 ≤ 281474976710656 by decide), if_pos h]
theorem rnew_j0 (k : Nat) (z : Int) (t : Bool) : bootchainref08_New.j0 (k + 1) z t = if t = true then some ([], 1) else bootchainref08_New.l0 k z 0 [] := by
  unfold bootchainref08_New.j0
  rfl
theorem wrap64_small (i : Nat) (h : i ≤ 128) : wrap64 ((i : Int) + 1) = ((i + 1 : Nat) : Int) := by
  unfold wrap64
  omega
theorem rnew_rounds (m : Nat) (hm : m ≤ 128) : ∀ d i : Nat, i + d = m → bootchainref08_New.l0 (d + 1) m i (List.replicate i zeroSector) = some (List.replicate m zeroSector, 0)
  | 0, i, h => by
    rw [rnew_l0 _ _ _ _ (by rw [List.length_replicate]; omega), if_neg (by omega), show i = m from by omega]
  | d + 1, i, h => by
    rw [rnew_l0 _ _ _ _ (by rw [List.length_replicate]; omega), if_pos (by omega), wrap64_small i (by omega), ← List.replicate_succ']
    exact rnew_rounds m hm d (i + 1) (by omega)
theorem rnew_f (z : Int) : ∃ k, bootchainref08_New.f k z = some (newL z, newE z) := by
  unfold newL newE
  by_cases h0 : z < 0
  · refine ⟨1, ?_⟩
    unfold bootchainref08_New.f
    rw [if_pos h0, rnew_j0, if_pos rfl, if_pos (Or.inl h0), if_pos (Or.inl h0)]
  · by_cases h1 : 128 < z
    · refine ⟨1, ?_⟩
      unfold bootchainref08_New.f
      rw [if_neg h0, rnew_j0, if_pos (show decide (z > 128) = true from decide_eq_true h1), if_pos (Or.inr h1), if_pos (Or.inr h1)]
    · refine ⟨z.toNat + 2, ?_⟩
      unfold bootchainref08_New.f
      rw [if_neg h0, rnew_j0, if_neg (show ¬ decide (z > 128) = true from by simpa using h1), if_neg (by omega), if_neg (by omega)]
      have := rnew_rounds z.toNat (by omega) z.toNat 0 (by omega)
      rw [show ((z.toNat : Nat) : Int) = z from by omega] at this
      exact this
theorem rnew_anyN (z : Int) (w : World) : Calls Try.prog 12 #[.int .i64 z] w (FlashResN (newL z) (newL z).length (newE z) w) := by
  obtain ⟨k, h⟩ := rnew_f z
  refine (bootchainref08_New.calls k z _ _ w h).mono ?_
  rintro e w' ⟨v, rfl, hr, hb⟩
  obtain ⟨A, c, rfl⟩ := Kd.R_slice hr
  exact ⟨A, c, rfl, (Kd.R_reads' hr).2.2, rfl, (Kd.R_reads' hr).2.1, hb⟩

def rdS (l : List ByteArray) (i : Int) : ByteArray := if 0 ≤ i ∧ i < (l.length : Int) then rdOf ByteArray.empty l i else ⟨#[]⟩
def rdE (l : List ByteArray) (i : Int) : Int := if 0 ≤ i ∧ i < (l.length : Int) then 0 else 13
theorem read_anyN {A : Option Addr} {n c : Nat} {l : List ByteArray} {w : World} (i : Int) (h : Fl w A n c l) :
    Calls Try.prog 13 #[.agg #[.slice A n c], .int .i64 i] w fun e w' => e = .returned (.tuple #[.string (rdS l i), .int .i64 (rdE l i)]) ∧ Below w.heap.size w w' := by
  have := h.len
  unfold rdS rdE
  split
  · exact read_yesN i h (by omega) (by omega)
  · exact read_noN i h (by omega)
theorem rread_anyN {A : Option Addr} {n c : Nat} {l : List ByteArray} {w : World} (i : Int) (h : Fl w A n c l) :
    Calls Try.prog 14 #[.agg #[.slice A n c], .int .i64 i] w fun e w' => e = .returned (.tuple #[.string (rdS l i), .int .i64 (rdE l i)]) ∧ Below w.heap.size w w' := by
  have := h.len
  unfold rdS rdE
  split
  · exact rread_yesN i h (by omega) (by omega)
  · exact rread_noN i h (by omega)

def wrL (l : List ByteArray) (i : Int) (b : ByteArray) (cut : Int) : List ByteArray := if 0 ≤ i ∧ i < (l.length : Int) ∧ b.size = 256 then writeL l i b cut else l
def wrE (l : List ByteArray) (i : Int) (b : ByteArray) : Int := if i < 0 ∨ (l.length : Int) ≤ i then 13 else if b.size = 256 then 0 else 1
theorem wrL_len (l : List ByteArray) (i : Int) (b : ByteArray) (cut : Int) : (wrL l i b cut).length = l.length := by
  unfold wrL
  split
  · exact writeL_len _ _ _ _
  · rfl
theorem smallB_facts {l : List ByteArray} (h : smallB l = true) : l.length ≤ 150 ∧ ∀ s ∈ l, s.size ≤ 300 := by
  simp only [smallB, Bool.and_eq_true, decide_eq_true_eq, List.all_eq_true] at h
  exact ⟨by omega, fun s hs => by have := h.2 s hs; omega⟩
theorem small_rd {l : List ByteArray} (h : smallB l = true) (i : Int) (h0 : 0 ≤ i) (hi : i < (l.length : Int)) : (rdOf ByteArray.empty l i).size ≤ 1000000 := by
  rw [rd_get _ _ h0 hi]
  have := (smallB_facts h).2 (l[i.toNat]'(by omega)) (List.getElem_mem _)
  omega
theorem write_anyN {A : Option Addr} {n c : Nat} {l : List ByteArray} {w : World} (i : Int) (b : ByteArray) (cut : Int) (h : Fl w A n c l) (hs : smallB l = true) :
    Calls Try.prog 15 #[.agg #[.slice A n c], .int .i64 i, .string b, .int .i64 cut] w (FlashResN (wrL l i b cut) n (wrE l i b) w) := by
  have hl := h.len
  have hn := (smallB_facts hs).1
  by_cases h1 : i < 0 ∨ (l.length : Int) ≤ i
  · unfold wrL wrE
    rw [if_neg (by omega), if_pos h1]
    exact write_noneN i b cut h (by omega)
  · by_cases h2 : b.size = 256
    · unfold wrL wrE
      rw [if_pos ⟨by omega, by omega, h2⟩, if_neg h1, if_pos h2]
      exact write_okN i b cut h (by omega) (by omega) h2 (small_rd hs i (by omega) (by omega)) (by omega)
    · unfold wrL wrE
      rw [if_neg (fun k => h2 k.2.2), if_neg h1, if_neg h2]
      exact write_argN i b cut h (by omega) (by omega) h2
theorem rwrite_anyN {A : Option Addr} {n c : Nat} {l : List ByteArray} {w : World} (i : Int) (b : ByteArray) (cut : Int) (h : Fl w A n c l) (hs : smallB l = true) :
    Calls Try.prog 16 #[.agg #[.slice A n c], .int .i64 i, .string b, .int .i64 cut] w (FlashResN (wrL l i b cut) n (wrE l i b) w) := by
  have hl := h.len
  have hn := (smallB_facts hs).1
  by_cases h1 : i < 0 ∨ (l.length : Int) ≤ i
  · unfold wrL wrE
    rw [if_neg (by omega), if_pos h1]
    exact rwrite_noneN i b cut h (by omega)
  · by_cases h2 : b.size = 256
    · unfold wrL wrE
      rw [if_pos ⟨by omega, by omega, h2⟩, if_neg h1, if_pos h2]
      exact rwrite_okN i b cut h (by omega) (by omega) h2 (small_rd hs i (by omega) (by omega)) (by omega)
    · unfold wrL wrE
      rw [if_neg (fun k => h2 k.2.2), if_neg h1, if_neg h2]
      exact rwrite_argN i b cut h (by omega) (by omega) h2
end Go.Proofs.Ytangjehadkpecaa.Fl
