/- Part of the proof of deviceTorn_holds: what later parts use. -/
import Derived.Test.YtkfhekocbfednaaZt0
import Derived.Test.YtkfhekocbfednaaZt1
import Derived.Test.YtkfhekocbfednaaZt2
import Derived.Test.YtkfhekocbfednaaZt3
import Derived.Test.YtkfhekocbfednaaZt4
import Derived.Test.YtkfhekocbfednaaZt5
import Derived.Test.YtkfhekocbfednaaZt6
import Derived.Test.YtkfhekocbfednaaZt7
import Derived.Test.YtkfhekocbfednaaZt8
import Derived.Test.YtkfhekocbfednaaProg
import Derived.WalkSpells
import Derived.WalkLawsBesides
import Derived.BigQuiet
import Derived.Deep.QuietTactic
section
namespace Go.Proofs.Ytkfhekocbfednaa.Fu
set_option linter.unusedVariables false
set_option linter.unusedSimpArgs false
open Go.RowKit Go.Proofs.Ytkfhekocbfednaa Go.Proofs.YtkfhekocbfednaaW.PrintWords Go.Proofs.YtkfhekocbfednaaW.PrintLast Go.Proofs.YtkfhekocbfednaaW.PrintMore
abbrev Hdr := Option Addr × Nat × Nat
def encH (t : Hdr) : Value := .slice t.1 t.2.1 t.2.2
def hdr : Kd Hdr := Kd.scalar encH (fun _ => rfl)
def Rows (w : World) (hs : List Hdr) (bk : List (List Int)) : Prop :=
  ∀ (i : Nat) (t : Hdr), hs[i]? = some t → ∃ xs, bk[i]? = some xs ∧ t.2.1 = xs.length ∧ xs.length ≤ t.2.2 ∧ Kd.C (Kd.int .u8) w t.1 xs.length xs
structure Fu (w : World) (A : Option Addr) (n c : Nat) (hs : List Hdr) (bk : List (List Int)) : Prop where
  C : Kd.C hdr w A n hs
  len : bk.length = n
  cap : n ≤ c
  row : Rows w hs bk
def rowOf (bk : List (List Int)) (i : Int) : List Int := bk.getD i.toNat []
theorem Rows.below {w w1 : World} {hs : List Hdr} {bk : List (List Int)} (h : Rows w hs bk) (hb : Below w.heap.size w w1) : Rows w1 hs bk := fun i t hi => by
  obtain ⟨xs, h1, h2, h3, h4⟩ := h i t hi
  exact ⟨xs, h1, h2, h3, Kd.C_below h4 hb⟩
theorem Fu.below {w w1 : World} {A : Option Addr} {n c : Nat} {hs : List Hdr} {bk : List (List Int)} (h : Fu w A n c hs bk) (hb : Below w.heap.size w w1) : Fu w1 A n c hs bk := ⟨Kd.C_below h.C hb, h.len, h.cap, h.row.below hb⟩
theorem Fu.max {w : World} {A : Option Addr} {n c : Nat} {hs : List Hdr} {bk : List (List Int)} (h : Fu w A n c hs bk) : n ≤ 9223372036854775807 := h.C.2.1
theorem Fu.hlen {w : World} {A : Option Addr} {n c : Nat} {hs : List Hdr} {bk : List (List Int)} (h : Fu w A n c hs bk) : hs.length = n := h.C.1
theorem Fu.at {w : World} {A : Option Addr} {n c : Nat} {hs : List Hdr} {bk : List (List Int)} (h : Fu w A n c hs bk) (i : Int) (h0 : 0 ≤ i) (h1 : i < (n : Int)) :
    ∃ ad B d, A = some ad ∧ hs[i.toNat]? = some (B, (rowOf bk i).length, d) ∧ w.cell? (ad.add i.toNat) = some (.slice B (rowOf bk i).length d) ∧ (rowOf bk i).length ≤ d ∧ Kd.C (Kd.int .u8) w B (rowOf bk i).length (rowOf bk i) := by
  obtain ⟨ad, cs, e, _, hK, hc0⟩ := Kd.C_get h.C ((none, 0, 0) : Hdr) i h0 h1
  have hl : i.toNat < hs.length := by have := h.hlen; omega
  have hg : hs.getD i.toNat (none, 0, 0) = hs[i.toNat] := by simp [List.getD, hl]
  rw [hg] at hK
  obtain ⟨xs, hx, e1, e2, e3⟩ := h.row i.toNat hs[i.toNat] (List.getElem?_eq_getElem hl)
  have hr : rowOf bk i = xs := by simp [rowOf, List.getD, hx]
  rw [hr]
  obtain ⟨B, m, d, et⟩ : ∃ B m d, hs[i.toNat] = (B, m, d) := ⟨_, _, _, rfl⟩
  rw [et] at hK e1 e2 e3
  obtain rfl : m = xs.length := e1
  refine ⟨ad, B, d, e, by rw [List.getElem?_eq_getElem hl, et], ?_, e2, e3⟩
  have hq := hc0 0 (encH (B, xs.length, d)) (by rw [show cs = [encH (B, xs.length, d)] from hK]; rfl)
  rw [show hdr.sz = 1 from rfl, Nat.mul_one, Nat.add_zero] at hq
  exact hq
theorem Fu.nested {w : World} {A : Option Addr} {n c : Nat} {hs : List Hdr} {bk : List (List Int)} (h : Fu w A n c hs bk) : Kd.C (Kd.slice 5 (Kd.int .u8)) w A n bk := by
  refine ⟨h.len, h.max, fun hn => ?_⟩
  obtain ⟨ad, e, hx⟩ := h.C.2.2 (by omega)
  refine ⟨ad, e, fun j p hj => ?_⟩
  have hj' : j < hs.length := by have := (List.getElem?_eq_some_iff.1 hj).1; have := h.len; have := h.hlen; omega
  obtain ⟨cs, hcl, hk, hcell⟩ := hx j hs[j] (List.getElem?_eq_getElem hj')
  obtain ⟨xs, hxs, e1, e2, e3⟩ := h.row j hs[j] (List.getElem?_eq_getElem hj')
  rw [hj] at hxs
  cases hxs
  refine ⟨cs, hcl, ⟨hs[j].1, hs[j].2.2, ?_, e2, e3⟩, hcell⟩
  rw [show cs = [encH hs[j]] from hk, ← e1]
  rfl
abbrev W1 (A : Option Addr) (n c : Nat) (w : World) : World := w.alloc (.cells #[.slice A n c] 24)
theorem W1_below (A : Option Addr) (n c : Nat) (w : World) : Below w.heap.size w (W1 A n c w) := below_alloc (Below.refl _ _) _
def existsB (bk : List (List Int)) (b c : Int) : Bool := decide (0 ≤ b) && decide (b < (bk.length : Int)) && (decide (0 ≤ c) && decide (c < ((rowOf bk b).length : Int)))
set_option maxRecDepth 100000 in
set_option maxHeartbeats 1000000 in
theorem exists_any {A : Option Addr} {n d : Nat} {hs : List Hdr} {bk : List (List Int)} {w : World} (b c : Int) (h : Fu w A n d hs bk) :
    Calls Try.prog 55 #[.agg #[.slice A n d], .int .i64 b, .int .i64 c] w fun e w' => e = .returned (.bool (existsB bk b c)) ∧ Below w.heap.size w w' := by
  have hn := h.max
  have HB := Aside0.mk (W1_below A n d w)
  by_cases h1 : 0 ≤ b
  · by_cases h2 : b < (n : Int)
    · obtain ⟨ad, B, e, rfl, _, hx, hle, hC⟩ := h.at b h1 h2
      have hx1 := pw_cell_below HB.out hx
      have hm : (rowOf bk b).length ≤ 9223372036854775807 := hC.2.1
      have EQ := Aside0.mk (show existsB bk b c = (decide (0 ≤ c) && decide (c < ((rowOf bk b).length : Int))) by have := h.len; simp [existsB, h1, h2, this])
      clear h hC hx
      by_cases h3 : 0 ≤ c
      · have E2 := Aside0.mk (EQ.out.trans (by rw [decide_eq_true h3, Bool.true_and]))
        clear EQ
        go_enter Try.func55, Try.ntmps55
        go_wp2
        go_ret
        exact ⟨by rw [E2.out]; rfl, HB.out⟩
      · have E2 := Aside0.mk (EQ.out.trans (by rw [decide_eq_false h3, Bool.false_and]))
        clear EQ
        go_enter Try.func55, Try.ntmps55
        go_wp2
        go_ret
        exact ⟨by rw [E2.out]; rfl, HB.out⟩
    · have E2 := Aside0.mk (show existsB bk b c = false by have := h.len; simp [existsB, h1]; omega)
      clear h
      go_enter Try.func55, Try.ntmps55
      go_wp2
      go_ret
      exact ⟨by rw [E2.out]; rfl, HB.out⟩
  · have E2 := Aside0.mk (show existsB bk b c = false by simp [existsB, h1])
    clear h
    go_enter Try.func55, Try.ntmps55
    go_wp2
    go_ret
    exact ⟨by rw [E2.out]; rfl, HB.out⟩
theorem exists_yes {A : Option Addr} {n d : Nat} {hs : List Hdr} {bk : List (List Int)} {w : World} {b c : Int} (h : Fu w A n d hs bk) (he : existsB bk b c = true) :
    Calls Try.prog 55 #[.agg #[.slice A n d], .int .i64 b, .int .i64 c] w fun e w' => e = .returned (.bool true) ∧ Below w.heap.size w w' := he ▸ exists_any b c h
theorem exists_no {A : Option Addr} {n d : Nat} {hs : List Hdr} {bk : List (List Int)} {w : World} {b c : Int} (h : Fu w A n d hs bk) (he : existsB bk b c = false) :
    Calls Try.prog 55 #[.agg #[.slice A n d], .int .i64 b, .int .i64 c] w fun e w' => e = .returned (.bool false) ∧ Below w.heap.size w w' := he ▸ exists_any b c h
theorem exists_facts {bk : List (List Int)} {b c : Int} (h : existsB bk b c = true) : 0 ≤ b ∧ b < (bk.length : Int) ∧ 0 ≤ c ∧ c < ((rowOf bk b).length : Int) := by
  simpa [existsB, and_assoc] using h
def readV (c : Int) (noise : Bool) : Int := if c = 2 ∨ (c = 1 ∧ noise = true) then 1 else 0
theorem reading_any (c : Int) (noise : Bool) (w : World) :
    Calls Try.prog 37 #[.int .u8 c, .bool noise] w fun e w' => e = .returned (.int .i64 (readV c noise)) ∧ w = w' := by
  by_cases h2 : c = 2
  · subst h2
    go_enter Try.func37, Try.ntmps37
    go_wp2
    go_ret
    exact ⟨by simp [readV], rfl⟩
  · by_cases h1 : c = 1
    · subst h1
      cases noise
      all_goals
        go_enter Try.func37, Try.ntmps37
        go_wp2
        go_ret
        exact ⟨by simp [readV], rfl⟩
    · have e1 : (c == 2) = false := beq_eq_false_iff_ne.2 h2
      have e2 : (c == 1) = false := beq_eq_false_iff_ne.2 h1
      have E := Aside0.mk (show readV c noise = 0 by simp [readV, h2, h1])
      clear h1 h2
      go_enter Try.func37, Try.ntmps37
      go_wp2
      go_ret
      exact ⟨by rw [E.out]; rfl, rfl⟩
def frV (bk : List (List Int)) (b c : Int) (noise : Bool) : Int := if existsB bk b c then readV (rd (rowOf bk b) c) noise else 0
def frE (bk : List (List Int)) (b c : Int) : Int := if existsB bk b c then 0 else 1
set_option maxRecDepth 100000 in
set_option maxHeartbeats 1000000 in
theorem read_any {A : Option Addr} {n d : Nat} {hs : List Hdr} {bk : List (List Int)} {w : World} (b c : Int) (noise : Bool) (h : Fu w A n d hs bk) :
    Calls Try.prog 40 #[.agg #[.slice A n d], .int .i64 b, .int .i64 c, .bool noise] w fun e w' => e = .returned (.tuple #[.int .i64 (frV bk b c noise), .int .i64 (frE bk b c)]) ∧ Below w.heap.size w w' := by
  have hn := h.max
  have HB := Aside0.mk (W1_below A n d w)
  cases he : existsB bk b c with
  | true =>
    have E1 := Aside0.mk (show frV bk b c noise = readV (rd (rowOf bk b) c) noise by simp [frV, he])
    have E2 := Aside0.mk (show frE bk b c = 0 by simp [frE, he])
    obtain ⟨h1, h2, h3, h4⟩ := exists_facts he
    have h2' : b < (n : Int) := by have := h.len; omega
    obtain ⟨ad, B, e, rfl, _, hx, hle, hC⟩ := h.at b h1 h2'
    obtain ⟨bd, rfl, hy⟩ := Kd.at_int hC c h3 h4
    have HF := Aside0.mk (h.below HB.out)
    have HE := Aside0.mk he
    clear h he
    go_enter Try.func40, Try.ntmps40
    go_wp2_with (first | (go_at_call 55; refine (exists_yes HF.out HE.out).mono ?_; rintro e w1 ⟨rfl, hb⟩; have HB1 := Aside0.mk (below_more HB.out hb); have hx1 := pw_cell_below HB1.out hx; have hy1 := pw_cell_below HB1.out hy; have k1 : w1.cell? ⟨w.heap.size, 0, none⟩ = some (.slice (some ad) n d) := blk_cell (blk_of hb (heap_alloc_new w _)) 0; clear hb) | (go_at_call 37; refine (reading_any _ _ _).mono ?_; rintro e w' ⟨rfl, rfl⟩))
    go_ret2
    exact ⟨by rw [E1.out, E2.out]; rfl, HB1.out⟩
  | false =>
    have E1 := Aside0.mk (show frV bk b c noise = 0 by simp [frV, he])
    have E2 := Aside0.mk (show frE bk b c = 1 by simp [frE, he])
    have HF := Aside0.mk (h.below HB.out)
    have HE := Aside0.mk he
    clear h he
    go_enter Try.func40, Try.ntmps40
    go_wp2_with (first | (go_at_call 55; refine (exists_no HF.out HE.out).mono ?_; rintro e w1 ⟨rfl, hb⟩; have HB1 := Aside0.mk (below_more HB.out hb); clear hb))
    go_ret2
    exact ⟨by rw [E1.out, E2.out]; rfl, HB1.out⟩
end Go.Proofs.Ytkfhekocbfednaa.Fu
namespace Go.Proofs.Ytkfhekocbfednaa.Fu
set_option linter.unusedVariables false
set_option linter.unusedSimpArgs false
open Go.RowKit Go.Proofs.Ytkfhekocbfednaa Go.Proofs.YtkfhekocbfednaaW.PrintWords Go.Proofs.YtkfhekocbfednaaW.PrintLast Go.Proofs.YtkfhekocbfednaaW.PrintMore
theorem info_row : (Try.prog.info? 56).map (fun i => (i.zero, i.size, i.bytes)) = some (some (.slice none 0 0), 1, 24) := by kernel_rfl
theorem info_byte : (Try.prog.info? 5).map (fun i => (i.zero, i.size, i.bytes)) = some (some (.int .u8 0), 1, 1) := by kernel_rfl
set_option maxRecDepth 100000 in
set_option maxHeartbeats 2000000 in
theorem clone_hdr (ad : Addr) (c : Nat) (hs : List Hdr) (w : World) (hr : Kd.C hdr w (some ad) hs.length hs) (h0 : 0 < hs.length) (hm : hs.length ≤ 1000000) :
    Calls Try.prog 56 #[.slice (some ad) hs.length c] w fun e w' =>
      ∃ g co, e = .returned (.slice (some ⟨g, 0, none⟩) hs.length co) ∧ Kd.R hdr 56 w' w.heap.size (fun _ => True) (.slice (some ⟨g, 0, none⟩) hs.length co) hs ∧ w.heap.size ≤ g ∧ Below w.heap.size w w' := by
  have HR := Aside0.mk hr
  clear hr
  have k0 := fun (w : World) => Lib.run_eql_slice_nil (P := Try.prog) w 22 56 (some ad) hs.length c 0 0 Try.underlying22
  go_enter Try.func56, Try.ntmps56
  go_wp2_with (first | ((with_reducible refine gate_dst (N := 5) rfl ?_); refine Kd.R_lit hdr w.heap.size 56 rfl (N := 5) rfl (xs := ([] : List Hdr)) (inner := []) (ok := fun _ => True) (okp := fun _ => True) ?hr (Reps.none _ _) (fun _ hk => hk) trivial (Below.refl _ _) (Nat.le_refl _) (by simp) ?_; (case hr => first | (go_simp; done) | (go_simp; rfl)); intro v1 w1 ho hb _ _; obtain ⟨A1, c1, rfl⟩ := Kd.R_slice ho; have HO1 := Aside0.mk ho; have HB1 := Aside0.mk hb; clear ho hb) | (at_builtin; refine Kd.R_append_row encH (none, 0, 0) (h1 := fun _ => rfl) w.heap.size rfl (.tmp 5) (.tmp 6) 22 56 (.slice none 0 0) 24 rfl Try.underlying22 info_row rfl (by decide) _ [] hs (some ad) hs.length c (fun _ => True) rfl rfl (fun _ _ => trivial) HO1.out (Kd.C_below HR.out HB1.out) HB1.out HB1.out.size (by simp; omega) ?_; intro v2 w2 ho hb _ _; rw [List.nil_append] at ho; obtain ⟨g, co, rfl, gb, gl, cl, hgc⟩ := Kd.R_form ho (by omega); have HO2 := Aside0.mk ho; have HB2 := Aside0.mk hb; have GB := Aside0.mk gb; clear ho hb gb gl hgc cl))
  go_ret
  exact ⟨g, co, rfl, HO2.out, GB.out, HB2.out⟩
set_option maxRecDepth 100000 in
set_option maxHeartbeats 2000000 in
theorem clone_byte (ad : Addr) (c : Nat) (hs : List Int) (w : World) (hr : Kd.C (Kd.int .u8) w (some ad) hs.length hs) (h0 : 0 < hs.length) (hm : hs.length ≤ 1000000) :
    Calls Try.prog 57 #[.slice (some ad) hs.length c] w fun e w' =>
      ∃ g co, e = .returned (.slice (some ⟨g, 0, none⟩) hs.length co) ∧ Kd.R (Kd.int .u8) 5 w' w.heap.size (fun _ => True) (.slice (some ⟨g, 0, none⟩) hs.length co) hs ∧ w.heap.size ≤ g ∧ Below w.heap.size w w' := by
  have HR := Aside0.mk hr
  clear hr
  have k0 := fun (w : World) => Lib.run_eql_slice_nil (P := Try.prog) w 56 5 (some ad) hs.length c 0 0 Try.underlying56
  go_enter Try.func57, Try.ntmps57
  go_wp2_with (first | ((with_reducible refine gate_dst (N := 5) rfl ?_); refine Kd.R_lit (Kd.int .u8) w.heap.size 5 rfl (N := 5) rfl (xs := ([] : List Int)) (inner := []) (ok := fun _ => True) (okp := fun _ => True) ?hr (Reps.none _ _) (fun _ hk => hk) trivial (Below.refl _ _) (Nat.le_refl _) (by simp) ?_; (case hr => first | (go_simp; done) | (go_simp; rfl)); intro v1 w1 ho hb _ _; obtain ⟨A1, c1, rfl⟩ := Kd.R_slice ho; have HO1 := Aside0.mk ho; have HB1 := Aside0.mk hb; clear ho hb) | (at_builtin; refine Kd.R_append_row (Value.int .u8) 0 (h1 := fun _ => rfl) w.heap.size rfl (.tmp 5) (.tmp 6) 56 5 (.int .u8 0) 1 rfl Try.underlying56 info_byte rfl (by decide) _ [] hs (some ad) hs.length c (fun _ => True) rfl rfl (fun _ _ => trivial) HO1.out (Kd.C_below HR.out HB1.out) HB1.out HB1.out.size (by simp; omega) ?_; intro v2 w2 ho hb _ _; rw [List.nil_append] at ho; obtain ⟨g, co, rfl, gb, gl, cl, hgc⟩ := Kd.R_form ho (by omega); have HO2 := Aside0.mk ho; have HB2 := Aside0.mk hb; have GB := Aside0.mk gb; clear ho hb gb gl hgc cl))
  go_ret
  exact ⟨g, co, rfl, HO2.out, GB.out, HB2.out⟩
theorem cloneH {ad : Addr} {n c : Nat} {hs : List Hdr} {w : World} (hr : Kd.C hdr w (some ad) n hs) (h0 : 0 < n) (hm : n ≤ 1000000) :
    Calls Try.prog 56 #[.slice (some ad) n c] w fun e w' =>
      ∃ g co rest, e = .returned (.slice (some ⟨g, 0, none⟩) n co) ∧ w'.heap[g]? = some (.cells (rowBlk encH hs rest) 56 (0, 0)) ∧ n ≤ co ∧ w.heap.size ≤ g ∧ Below w.heap.size w w' := by
  obtain rfl := hr.1
  refine (clone_hdr ad c hs w hr h0 hm).mono ?_
  rintro e w' ⟨g, co, rfl, hR, hg, hb⟩
  obtain ⟨rest, h1, _, _, h2, _⟩ := row_of_R hR
  exact ⟨g, co, rest, rfl, h1, h2, hg, hb⟩
theorem cloneB {ad : Addr} {n c : Nat} {hs : List Int} {w : World} (hr : Kd.C (Kd.int .u8) w (some ad) n hs) (h0 : 0 < n) (hm : n ≤ 1000000) :
    Calls Try.prog 57 #[.slice (some ad) n c] w fun e w' =>
      ∃ g co rest, e = .returned (.slice (some ⟨g, 0, none⟩) n co) ∧ w'.heap[g]? = some (.cells (rowBlk (Value.int .u8) hs rest) 5 (0, 0)) ∧ n ≤ co ∧ w.heap.size ≤ g ∧ Below w.heap.size w w' := by
  obtain rfl := hr.1
  refine (clone_byte ad c hs w hr h0 hm).mono ?_
  rintro e w' ⟨g, co, rfl, hR, hg, hb⟩
  obtain ⟨rest, h1, _, _, h2, _⟩ := row_of_R hR
  exact ⟨g, co, rest, rfl, h1, h2, hg, hb⟩
end Go.Proofs.Ytkfhekocbfednaa.Fu
end
