/- Part of the proof of deviceTorn_holds: what later parts use. -/
import Derived.Test.YtkfhekocbfednaaZt0
import Derived.Test.YtkfhekocbfednaaZt1
import Derived.Test.YtkfhekocbfednaaZt2
import Derived.Test.YtkfhekocbfednaaZt3
import Derived.Test.YtkfhekocbfednaaZt4
import Derived.Test.YtkfhekocbfednaaZt5
import Derived.Test.YtkfhekocbfednaaZt6
import Derived.Test.YtkfhekocbfednaaZt7
import Derived.Test.YtkfhekocbfednaaZt8
import Derived.Test.YtkfhekocbfednaaZt17
import Derived.Test.YtkfhekocbfednaaProg
import Derived.WalkKit
import Derived.WalkSpells
import Derived.WalkLawsBesides
import Derived.BigQuiet
import Derived.Deep.QuietTactic
import Derived.Laws.CopyOwn
import Derived.Deep.DeepCutAuto
section
namespace Go.Proofs.Ytkfhekocbfednaa.Fl
set_option linter.unusedVariables false
set_option linter.unusedSimpArgs false
open Go.RowKit Go.Proofs.YtkfhekocbfednaaW.PrintWords Go.Proofs.YtkfhekocbfednaaW.PrintLast Go.Proofs.YtkfhekocbfednaaW.PrintMore
attribute [local go_sem] max2_int min2_int max_two min_two
def AllFull (l : List ByteArray) (k : Nat) : Prop := ∀ i, i < k → ((l.getD i ByteArray.empty).size : Int) = 256
theorem AllFull.step {l : List ByteArray} {k : Nat} (h : AllFull l k) (hk : ((l.getD k ByteArray.empty).size : Int) = 256) : AllFull l (k + 1) := by
  intro i hi
  by_cases e : i = k
  · subst e; exact hk
  · exact h i (by omega)
def mergeB (b old : ByteArray) (cut : Int) : ByteArray :=
  if cut < 0 then b else if (b.size : Int) ≤ cut then b else b.extract 0 cut.toNat ++ old.extract (min cut.toNat old.size) old.size
set_option maxHeartbeats 1000000 in
theorem write1_any (old b : ByteArray) (cut : Int) (pc pb : Addr) (w : World) (h1 : w.cell? pc = some (.int .i64 cut)) (h2 : w.cell? pb = some (.string b))
    (hs : b.size + old.size ≤ 9223372036854775807) :
    Calls Try.prog 59 #[.string old, .pointer (some pc), .pointer (some pb)] w fun e w' => e = .returned (.string (mergeB b old cut)) ∧ Drawn0 w w' := by
  by_cases hneg : cut < 0
  · go_enter Try.func59, Try.ntmps59
    go_wp2
    go_ret
    exact ⟨by simp [mergeB, hneg], Drawn0.refl _⟩
  · by_cases hbig : (b.size : Int) ≤ cut
    · go_enter Try.func59, Try.ntmps59
      go_wp2
      go_ret
      exact ⟨by simp [mergeB, hneg, hbig], Drawn0.refl _⟩
    · go_enter Try.func59, Try.ntmps59
      go_wp2
      go_quiet (fail)
      all_goals go_wp2
      all_goals go_ret
      all_goals refine ⟨congrArg (fun s => Ending.returned (.string s)) ?_, ⟨_, rfl⟩⟩
      all_goals unfold mergeB
      · rw [if_neg (by omega), if_neg (by omega), show min cut.toNat old.size = old.size from by omega]
        first | rfl | (apply ByteArray.ext; simp)
      · rw [if_neg (by omega), if_neg (by omega), show min cut.toNat old.size = cut.toNat from by omega]
end Go.Proofs.Ytkfhekocbfednaa.Fl
namespace Go.Proofs.Ytkfhekocbfednaa.Fl
set_option linter.unusedVariables false
set_option linter.unusedSimpArgs false
open Go.RowKit Go.Proofs.YtkfhekocbfednaaW.PrintWords Go.Proofs.YtkfhekocbfednaaW.PrintLast Go.Proofs.YtkfhekocbfednaaW.PrintMore
theorem info_str : (Try.prog.info? 9).map (fun i => (i.zero, i.size, i.bytes)) = some (some (.string ⟨#[]⟩), 1, 16) := by kernel_rfl
def FlashRes (S : Nat → Prop) (r : List ByteArray) (code : Int) (w : World) (e : Ending) (w' : World) : Prop :=
  ∃ A c, e = .returned (.tuple #[.agg #[.slice A r.length c], .int .i64 code]) ∧ r.length ≤ c ∧ Back S w w' (fun w => Kd.C Kd.string w A r.length r)
def zeroSector : ByteArray := ⟨(Lib.repeatL [0] 256).toArray⟩
set_option maxRecDepth 100000 in
set_option maxHeartbeats 1000000 in
theorem new_bad (S : Nat → Prop) (n : Int) (w : World) (h : n < 0 ∨ 128 < n) :
    Calls Try.prog 28 #[.int .i64 n] w (FlashRes S [] 1 w) := by
  have hB : Below w.heap.size w (w.alloc (.cells #[.slice none 0 0] 27)) := below_alloc (Below.refl _ _) _
  have hb := heap_alloc_new w (.cells #[.slice none 0 0] 27)
  have HB := Aside0.mk hB
  have HH := Aside0.mk hb
  clear hB hb
  rcases h with h | h
  all_goals
    go_enter Try.func28, Try.ntmps28
    go_wp2
    refine bodyPost_ret (results_ct rfl _ _ w.heap.size 27 #[.slice none 0 0] (0, 0) _ rfl HH.out Try.underlying27 rfl (by kernel_rfl)) rfl ?_
    exact ⟨none, 0, rfl, Nat.le_refl _, HB.out, fun _ _ => ⟨rfl, by decide, fun h => by simp at h⟩⟩
theorem rep_set {α : Type} (z y : α) (k m : Nat) (hk : k < m) : (List.replicate k z ++ List.replicate (m - k) y).set k z = List.replicate (k + 1) z ++ List.replicate (m - (k + 1)) y := by
  rw [List.set_append_right _ _ (by simp), List.length_replicate, Nat.sub_self, show m - k = (m - (k + 1)) + 1 from by omega, List.replicate_succ, List.set_cons_zero, List.replicate_succ' (n := k)]
  simp
set_option maxRecDepth 100000 in
set_option maxHeartbeats 2000000 in
theorem new_ok (S : Nat → Prop) (m : Nat) (w : World) (h : m ≤ 128) :
    Calls Try.prog 28 #[.int .i64 m] w (FlashRes S (List.replicate m zeroSector) 0 w) := by
  have hB : Below w.heap.size w (w.alloc (.cells #[.slice none 0 0] 27)) := below_alloc (Below.refl _ _) _
  have hb := heap_alloc_new w (.cells #[.slice none 0 0] 27)
  have HB := Aside0.mk hB
  have HH := Aside0.mk hb
  clear hB hb
  have h0 : (0 : Int) ≤ (m : Int) := by omega
  have h1 : (m : Int) ≤ 128 := by omega
  go_enter Try.func28, Try.ntmps28
  go_wp2_with (first | ((with_reducible refine gate_dst (N := 15) rfl ?_); refine Kd.R_make Kd.string (w.alloc (.cells #[.slice none 0 0] 27)).heap.size 9 rfl (N := 15) rfl 25 _ _ rfl (m : Int) rfl rfl Try.underlying25 (.string ⟨#[]⟩) 16 info_str rfl (by decide) (by omega) ByteArray.empty (ok := fun _ => True) (okp := fun _ => True) rfl (fun _ hk => hk) trivial (by omega) (by omega) (Below.refl _ _) (Nat.le_refl _) ?_; intro v1 w1 ho hb hg hnew; clear hg hnew; rw [Int.toNat_natCast] at ho; obtain ⟨A, c, rfl⟩ := Kd.R_slice ho; rw [List.length_replicate] at ho; have HO := Aside0.mk ho; have HB1 := Aside0.mk hb; have HG := Aside0.mk (blk_of hb HH.out); clear ho hb) | (go_at_call 52; refine (Try.strings_Repeat ⟨#[0]⟩ 256 _ (by decide) (by decide)).mono ?_; rintro e w2 ⟨rfl, hb2⟩; have HB2 := Aside0.mk (below_more (below_more HB.out (below_more HB1.out (below_alloc (Below.refl _ _) _))) hb2); have HO2 := Aside0.mk (Kd.R_below (Kd.R_alloc HO.out (.cells #[.slice A m c] 27)) hb2); have HG2 := Aside0.mk (blk_of (below_more (below_alloc (Below.refl w1.heap.size w1) (.cells #[.slice A m c] 27)) hb2) HG.out); have HG4 := Aside0.mk (blk_of hb2 (heap_alloc_new w1 (.cells #[.slice A m c] 27))); have hc4 : w2.cell? ⟨w1.heap.size, 0, none⟩ = some (.slice A m c) := blk_cell HG4.out 0; clear hb2))
  clear HO HG HB1 HH HB
  have hcz : ByteArray.mk (Lib.repeatL [0] 256).toArray = zeroSector := rfl
  rw [hcz]
  clear hcz
  go_loopw [6, 21] (fun _ i wr => ∃ k : Nat, k ≤ m ∧ i = .int .i64 k ∧ Aside0 (Kd.R Kd.string 9 wr (w.alloc (.cells #[.slice none 0 0] 27)).heap.size (fun _ => True) (.slice A m c) (List.replicate k zeroSector ++ List.replicate (m - k) ByteArray.empty)) ∧ Aside0 (wr.heap[w1.heap.size]? = some (.cells #[.slice A m c] 27 (0, 0))) ∧ Aside0 (wr.heap[w.heap.size]? = some (.cells #[.slice none 0 0] 27 (0, 0))) ∧ Aside0 (Below w.heap.size w wr)) (fun _ i _ => m - (intOf i).toNat)
  case atStart => exact ⟨0, by omega, rfl, ⟨by simpa using HO2.out⟩, HG4, HG2, HB2⟩
  case round =>
    clear HO2 HG4 HG2 HB2 hc4
    obtain ⟨k, hk, rfl, HO, HG4, HG2, HB⟩ := hrel
    have hc4 : wr.cell? ⟨w1.heap.size, 0, none⟩ = some (.slice A m c) := blk_cell HG4.out 0
    by_cases hlt : k < m
    · have ho := HO.out
      obtain ⟨go, co, eo, gb, gl, cl, hgc⟩ := Kd.R_form ho (by simp; omega)
      injection eo with ea en ec
      subst ea ec
      obtain ⟨hx, hfz⟩ := Kd.R_celln ByteArray.empty ho (k : Int) (by omega) (by omega)
      rw [Int.toNat_natCast] at hx hfz
      have HP := Aside0.mk (Kd.R_putg ho (k : Int) zeroSector)
      have h4 := Aside0.mk (Kd.R_ne ho HG4.out (by decide))
      have h2 := Aside0.mk (Kd.R_ne ho HG2.out (by decide))
      have GB := Aside0.mk gb
      clear ho gb gl cl hgc en
      go_wp2
      go_roundw
      case rel =>
        have hp := HP.out.1
        rw [Int.toNat_natCast, rep_set _ _ _ _ hlt] at hp
        have hg4 : w1.heap.size ≠ go := fun e => h4.out (by rw [e]; rfl)
        have hg2 : w.heap.size ≠ go := fun e => h2.out (by rw [e]; rfl)
        exact ⟨k + 1, by omega, by go_num, ⟨hp⟩, ⟨blk_far HG4.out hg4 _⟩, ⟨blk_far HG2.out hg2 _⟩, ⟨HB.out.setCell (by have := GB.out; simp at this ⊢; omega) _⟩⟩
      case measure => simp [intOf]; omega
    · obtain rfl : k = m := by omega
      have hc2 : wr.cell? ⟨w.heap.size, 0, none⟩ = some (.slice none 0 0) := blk_cell HG2.out 0
      have hf2 : wr.frozen? ⟨w.heap.size, 0, none⟩ = false := blk_frozen HG2.out 0
      go_wp2
      refine bodyPost_ret (results_ct rfl _ _ w.heap.size 27 #[.slice A k c] (0, 0) _ rfl (by simpa using blk_set HG2.out 0 (.slice A k c)) Try.underlying27 rfl (by kernel_rfl)) rfl ?_
      have hR := HO.out
      simp only [Nat.sub_self, List.replicate_zero, List.append_nil] at hR
      have hR2 := Kd.R_far (p := ⟨w.heap.size, 0, none⟩) (Kd.R_types hR HG2.out (by decide)) (fun _ hk => hk.2) (.slice A k c)
      obtain ⟨_, hl, _⟩ := Kd.R_reads' hR2
      exact ⟨A, c, by rw [List.length_replicate]; rfl, by rw [List.length_replicate]; exact hl, Back.row (HB.out.setCell (Nat.le_refl _) _) (Kd.R_lower hR2 (by simp))⟩
end Go.Proofs.Ytkfhekocbfednaa.Fl
namespace Go.Proofs.Ytkfhekocbfednaa.Fl
set_option linter.unusedVariables false
set_option linter.unusedSimpArgs false
open Go.RowKit Go.Proofs.YtkfhekocbfednaaW.PrintWords Go.Proofs.YtkfhekocbfednaaW.PrintLast Go.Proofs.YtkfhekocbfednaaW.PrintMore
def hasB (n : Nat) (i : Int) : Bool := decide (0 ≤ i) && decide (i < (n : Int))
theorem has_any (A : Option Addr) (n c : Nat) (i : Int) (w : World) (hn : n ≤ 9223372036854775807) :
    Calls Try.prog 58 #[.agg #[.slice A n c], .int .i64 i] w fun e w' => e = .returned (.bool (hasB n i)) ∧ Below w.heap.size w w' := by
  have HB := Aside0.mk (below_alloc (Below.refl w.heap.size w) (.cells #[.slice A n c] 27))
  by_cases h : 0 ≤ i
  · by_cases h2 : i < (n : Int)
    · have e := Aside0.mk (show hasB n i = true by simp [hasB, h, h2])
      go_enter Try.func58, Try.ntmps58
      go_wp2
      go_ret
      exact ⟨by rw [e.out]; first | rfl | (simp; done) | (simp; omega), HB.out⟩
    · have e := Aside0.mk (show hasB n i = false by simp [hasB, h]; omega)
      go_enter Try.func58, Try.ntmps58
      go_wp2
      go_ret
      exact ⟨by rw [e.out]; first | rfl | (simp; done) | (simp; omega), HB.out⟩
  · have e := Aside0.mk (show hasB n i = false by simp [hasB, h])
    go_enter Try.func58, Try.ntmps58
    go_wp2
    go_ret
    exact ⟨by rw [e.out]; first | rfl | (simp; done) | (simp; omega), HB.out⟩
theorem has_yes (A : Option Addr) (n c : Nat) (i : Int) (w : World) (hn : n ≤ 9223372036854775807) (h : 0 ≤ i) (h2 : i < (n : Int)) :
    Calls Try.prog 58 #[.agg #[.slice A n c], .int .i64 i] w fun e w' => e = .returned (.bool true) ∧ Below w.heap.size w w' := by
  have := has_any A n c i w hn
  rwa [show hasB n i = true by simp [hasB, h, h2]] at this
theorem has_no (A : Option Addr) (n c : Nat) (i : Int) (w : World) (hn : n ≤ 9223372036854775807) (h : i < 0 ∨ (n : Int) ≤ i) :
    Calls Try.prog 58 #[.agg #[.slice A n c], .int .i64 i] w fun e w' => e = .returned (.bool false) ∧ Below w.heap.size w w' := by
  have := has_any A n c i w hn
  rwa [show hasB n i = false by simp [hasB]; omega] at this
theorem bcell {W w1 : World} (hb : Below W.heap.size W w1) : (∀ b o, b < W.heap.size → w1.cell? ⟨b, o, none⟩ = W.cell? ⟨b, o, none⟩) ∧ (∀ b o, b < W.heap.size → w1.frozen? ⟨b, o, none⟩ = W.frozen? ⟨b, o, none⟩) :=
  ⟨fun b o h => hb.cell (p := ⟨b, o, none⟩) h, fun b o h => hb.frozen (p := ⟨b, o, none⟩) h⟩
abbrev W4 (A : Option Addr) (n c : Nat) (b : ByteArray) (cut : Int) (w : World) : World :=
  (((w.alloc (.cells #[.slice A n c] 27)).alloc (.cells #[.string b] 9)).alloc (.cells #[.int .i64 cut] 3)).alloc (.cells #[.slice none 0 0] 27)
theorem W4_below (A : Option Addr) (n c : Nat) (b : ByteArray) (cut : Int) (w : World) : Below w.heap.size w (W4 A n c b cut w) :=
  below_alloc (below_alloc (below_alloc (below_alloc (Below.refl _ _) _) _) _) _
theorem W4_res (A : Option Addr) (n c : Nat) (b : ByteArray) (cut : Int) (w : World) : (W4 A n c b cut w).heap[w.heap.size + 1 + 1 + 1]? = some (.cells #[.slice none 0 0] 27 (0, 0)) := by
  have := heap_alloc_new (((w.alloc (.cells #[.slice A n c] 27)).alloc (.cells #[.string b] 9)).alloc (.cells #[.int .i64 cut] 3)) (.cells #[.slice none 0 0] 27)
  simpa using this
theorem W4_1 (A : Option Addr) (n c : Nat) (b : ByteArray) (cut : Int) (w : World) : (W4 A n c b cut w).heap[w.heap.size]? = some (.cells #[.slice A n c] 27 (0, 0)) :=
  blk_of (below_alloc (below_alloc (below_alloc (Below.refl _ _) _) _) _) (heap_alloc_new w _)
theorem W4_2 (A : Option Addr) (n c : Nat) (b : ByteArray) (cut : Int) (w : World) : (W4 A n c b cut w).heap[w.heap.size + 1]? = some (.cells #[.string b] 9 (0, 0)) := by
  have := heap_alloc_new (w.alloc (.cells #[.slice A n c] 27)) (.cells #[.string b] 9)
  exact blk_of (below_alloc (below_alloc (Below.refl _ _) _) _) (by simpa using this)
theorem W4_3 (A : Option Addr) (n c : Nat) (b : ByteArray) (cut : Int) (w : World) : (W4 A n c b cut w).heap[w.heap.size + 1 + 1]? = some (.cells #[.int .i64 cut] 3 (0, 0)) := by
  have := heap_alloc_new ((w.alloc (.cells #[.slice A n c] 27)).alloc (.cells #[.string b] 9)) (.cells #[.int .i64 cut] 3)
  exact blk_of (below_alloc (Below.refl _ _) _) (by simpa using this)
set_option maxRecDepth 100000 in
set_option maxHeartbeats 2000000 in
theorem write_none (A : Option Addr) (l : List ByteArray) (c : Nat) (i : Int) (b : ByteArray) (cut : Int) (w : World) {S : Nat → Prop} (hd : ∀ k, S k → k < w.heap.size) (hr : Sure S w (fun w => Kd.C Kd.string w A l.length l)) (hc : l.length ≤ c)
    (h : i < 0 ∨ (l.length : Int) ≤ i) :
    Calls Try.prog 48 #[.agg #[.slice A l.length c], .int .i64 i, .string b, .int .i64 cut] w (FlashRes S l 13 w) := by
  have hn := hr.here.2.1
  go_enter Try.func48, Try.ntmps48
  go_wp2_with (go_at_call 58; refine (has_no A l.length c i _ hn h).mono ?_; rintro e w1 ⟨rfl, hb⟩; obtain ⟨hcc, hff⟩ := bcell hb)
  clear hcc hff
  have H1 := one_setCell (u := .slice A l.length c) (blk_of hb (W4_res A l.length c b cut w))
  have HB : Below w.heap.size w w1 := below_more (W4_below A l.length c b cut w) hb
  refine bodyPost_ret (results_ct rfl _ _ (w.heap.size + 1 + 1 + 1) 27 #[.slice A l.length c] (0, 0) _ rfl H1 Try.underlying27 rfl (by kernel_rfl)) rfl ?_
  have HB2 : Below w.heap.size w (w1.setCell ⟨w.heap.size + 1 + 1 + 1, 0, none⟩ (.slice A l.length c)) := HB.setCell (by simp; omega) _
  exact ⟨A, c, rfl, hc, HB2, (hr.below hd HB2).mono fun k hk => .inl hk⟩
set_option maxRecDepth 100000 in
set_option maxHeartbeats 2000000 in
theorem write_arg (A : Option Addr) (l : List ByteArray) (c : Nat) (i : Int) (b : ByteArray) (cut : Int) (w : World) {S : Nat → Prop} (hd : ∀ k, S k → k < w.heap.size) (hr : Sure S w (fun w => Kd.C Kd.string w A l.length l)) (hc : l.length ≤ c)
    (h : 0 ≤ i) (h2 : i < (l.length : Int)) (hb256 : ¬ (b.size : Int) = 256) :
    Calls Try.prog 48 #[.agg #[.slice A l.length c], .int .i64 i, .string b, .int .i64 cut] w (FlashRes S l 1 w) := by
  have hn := hr.here.2.1
  have hne : ((b.size : Int) == 256) = false := beq_eq_false_iff_ne.2 hb256
  go_enter Try.func48, Try.ntmps48
  go_wp2_with (go_at_call 58; refine (has_yes A l.length c i _ hn h h2).mono ?_; rintro e w1 ⟨rfl, hb⟩; obtain ⟨hcc, hff⟩ := bcell hb)
  clear hcc hff
  have H1 := one_setCell (u := .slice A l.length c) (blk_of hb (W4_res A l.length c b cut w))
  have HB : Below w.heap.size w w1 := below_more (W4_below A l.length c b cut w) hb
  refine bodyPost_ret (results_ct rfl _ _ (w.heap.size + 1 + 1 + 1) 27 #[.slice A l.length c] (0, 0) _ rfl H1 Try.underlying27 rfl (by kernel_rfl)) rfl ?_
  have HB2 : Below w.heap.size w (w1.setCell ⟨w.heap.size + 1 + 1 + 1, 0, none⟩ (.slice A l.length c)) := HB.setCell (by simp; omega) _
  exact ⟨A, c, rfl, hc, HB2, (hr.below hd HB2).mono fun k hk => .inl hk⟩
def writeL (l : List ByteArray) (i : Int) (b : ByteArray) (cut : Int) : List ByteArray := l.set i.toNat (mergeB b (rdOf ByteArray.empty l i) cut)
theorem own_full {w : World} {base g n : Nat} {e : TypeId} {xs : List Value} (h : w.ownsRow base e 1 (.slice (some ⟨g, 0, none⟩) n n) n xs) :
    w.heap[g]? = some (.cells xs.toArray e (0, 0)) ∧ xs.length = n ∧ base ≤ g := by
  obtain ⟨h1, h2⟩ := h
  rcases h2 with ⟨h2, _⟩ | ⟨g', cap, cur, hv, hg, hh, h3⟩
  · cases h2
  · cases hv
    obtain ⟨_, _, hs, ht⟩ := h3
    have : cur.toList = xs := by rw [← ht]; exact (List.take_of_length_le (by rw [Array.length_toList]; omega)).symm
    subst this
    exact ⟨by simpa using hh, by simpa using h1, hg⟩
theorem splice_all {α : Type} (cur cs : List α) (h : cs.length = cur.length) : splice cur 0 cs = cs := by
  unfold splice; simp [h]
def strs (l : List ByteArray) : List Value := l.map Value.string
theorem strs_len (l : List ByteArray) : (strs l).length = l.length := by simp [strs]
theorem strs_get (l : List ByteArray) (k : Nat) (h : k < l.length) : (strs l).toArray[k]? = some (.string (l.getD k ByteArray.empty)) := by
  simp [strs, h, List.getD]
theorem strs_set (l : List ByteArray) (k : Nat) (s : ByteArray) : (strs l).toArray.setIfInBounds k (.string s) = (strs (l.set k s)).toArray := by
  simp [strs, List.map_set]
theorem C_of_block {w : World} {g : Nat} {t : TypeId} {l : List ByteArray} (h : w.heap[g]? = some (.cells (strs l).toArray t (0, 0))) (hn : l.length ≤ 9223372036854775807) :
    Kd.C Kd.string w (some ⟨g, 0, none⟩) l.length l := by
  refine Kd.C_of_reads (d := ByteArray.empty) (h1 := fun _ => rfl) ⟨rfl, hn, fun _ => ⟨_, rfl, fun j hj => ?_⟩⟩
  rw [add_plain, blk_cell h, strs_get l j hj]
theorem C_cells {w : World} {A : Option Addr} {l : List ByteArray} (hr : Kd.C Kd.string w A l.length l) (h0 : 0 < l.length) :
    ∃ ad, A = some ad ∧ ∀ j v, (strs l)[j]? = some v → w.cell? (ad.add j) = some v := by
  obtain ⟨ad, hA, _⟩ := Kd.at_string hr 0 (by omega) (by omega)
  refine ⟨ad, hA, fun j v hv => ?_⟩
  have hj : j < l.length := by
    have := (List.getElem?_eq_some_iff.1 hv).1
    simpa [strs] using this
  obtain ⟨ad', hA', hx⟩ := Kd.at_string hr (j : Int) (by omega) (by omega)
  rw [hA] at hA'
  cases hA'
  rw [Int.toNat_natCast] at hx
  rw [hx]
  simp [strs, hj] at hv
  simp [rdOf, hj, ← hv]
set_option maxRecDepth 100000 in
set_option maxHeartbeats 4000000 in
theorem write_ok (A : Option Addr) (l : List ByteArray) (c : Nat) (i : Int) (b : ByteArray) (cut : Int) (w : World) {S : Nat → Prop} (hd : ∀ k, S k → k < w.heap.size) (hr : Sure S w (fun w => Kd.C Kd.string w A l.length l)) (hc : l.length ≤ c)
    (h : 0 ≤ i) (h2 : i < (l.length : Int)) (hb256 : (b.size : Int) = 256) (hold : (rdOf ByteArray.empty l i).size ≤ 1000000) (hl : l.length ≤ 1000000) :
    Calls Try.prog 48 #[.agg #[.slice A l.length c], .int .i64 i, .string b, .int .i64 cut] w (FlashRes S (writeL l i b cut) 0 w) := by
  have hn := hr.here.2.1
  have hne : ((b.size : Int) == 256) = true := beq_iff_eq.2 hb256
  have H256 := Aside0.mk hb256
  clear hb256
  go_enter Try.func48, Try.ntmps48
  have hl0 : 0 < l.length := by omega
  obtain ⟨ad, rfl, hsrc⟩ := C_cells hr.here hl0
  clear hr hd
  have HSRC := Aside0.mk hsrc
  clear hsrc
  obtain ⟨i0, hi, hz0, hz1, hz2⟩ := info_parts info_str
  go_wp2_with (first | (go_at_call 58; refine (has_yes (some ad) l.length c i _ hn h h2).mono ?_; rintro e w1 ⟨rfl, hb⟩; have G1 := Aside0.mk (blk_of hb (W4_1 (some ad) l.length c b cut w)); have G2 := Aside0.mk (blk_of hb (W4_2 (some ad) l.length c b cut w)); have G3 := Aside0.mk (blk_of hb (W4_3 (some ad) l.length c b cut w)); have G4 := Aside0.mk (blk_of hb (W4_res (some ad) l.length c b cut w)); have HB := Aside0.mk (below_more (W4_below (some ad) l.length c b cut w) hb); have c1 : w1.cell? ⟨w.heap.size, 0, none⟩ = some (.slice (some ad) l.length c) := blk_cell G1.out 0; have c2 : w1.cell? ⟨w.heap.size + 1, 0, none⟩ = some (.string b) := blk_cell G2.out 0; clear hb) | (at_make; refine wpList_make_full _ rfl _ _ 25 rfl w1.heap.size 9 i0 (.string ⟨#[]⟩) 1 Try.underlying25 hi hz0 hz1 .i64 .i64 _ _ l.length rfl rfl rfl rfl (by rw [hz2]; omega) (by unfold maxLen; omega) (Nat.le_refl _) ?_; intro w2 ho2 hg2; have HO2 := Aside0.mk (own_full ho2); have HB2 := Aside0.mk ((Below.refl w1.heap.size w1).grown hg2 (Nat.le_refl _) (fun k hk => by cases hk)); clear ho2 hg2; have c1' : w2.cell? ⟨w.heap.size, 0, none⟩ = some (.slice (some ad) l.length c) := blk_cell (blk_of HB2.out G1.out) 0) | ((with_reducible refine gate_dst (N := 31) rfl ?_); refine wpList_copy_splice rfl (.tmp 28) (.tmp 30) 25 25 rfl 9 Try.underlying25 (by rw [hi]; simp [hz1]) _ _ _ _ _ _ rfl rfl w1.heap.size 0 _ 9 HO2.out.1 (strs l) (by rw [strs_len]; simp) (fun _ => ⟨rfl, ad, rfl, fun j v hv => by have := HSRC.out j v hv; exact ((below_more HB.out HB2.out).cell (World.block_lt_of_cell? _ _ this)).trans this⟩) (by rw [HO2.out.2.1, strs_len]; omega) (fun v hv => by obtain ⟨s, _, rfl⟩ := List.mem_map.1 hv; rfl) w1.heap.size w1 HB2.out (Nat.le_refl _) ?_; intro w3 hg3 hb3; have HG := Aside0.mk hg3.out; rw [splice_all _ _ (by rw [HO2.out.2.1, strs_len])] at HG; clear hg3; have HB3 := Aside0.mk hb3; clear hb3; have cx : w3.cell? ⟨w1.heap.size, i.toNat, none⟩ = some (.string (rdOf ByteArray.empty l i)) := (blk_cell HG.out _).trans (strs_get l i.toNat (by omega)); have fx : w3.frozen? ⟨w1.heap.size, i.toNat, none⟩ = false := blk_frozen HG.out _; have c3' : w3.cell? ⟨w.heap.size + 1 + 1, 0, none⟩ = some (.int .i64 cut) := blk_cell (blk_of HB3.out G3.out) 0; have c2' : w3.cell? ⟨w.heap.size + 1, 0, none⟩ = some (.string b) := blk_cell (blk_of HB3.out G2.out) 0; have c4' : w3.cell? ⟨w.heap.size + 1 + 1 + 1, 0, none⟩ = some (.slice none 0 0) := blk_cell (blk_of HB3.out G4.out) 0; have f4' : w3.frozen? ⟨w.heap.size + 1 + 1 + 1, 0, none⟩ = false := blk_frozen (blk_of HB3.out G4.out) 0; have hz := blk_lt G4.out) | (go_at_call 59; refine (write1_any (rdOf ByteArray.empty l i) b cut ⟨w.heap.size + 1 + 1, 0, none⟩ ⟨w.heap.size + 1, 0, none⟩ _ c3' c2' (by have := H256.out; omega)).mono ?_; rintro e w4 ⟨rfl, hd⟩; obtain ⟨nq, rfl⟩ := hd.out))
  have HX := one_setCell (u := .slice (some ⟨w1.heap.size, 0, none⟩) l.length l.length) (blk_far (p := ⟨w1.heap.size, i.toNat, none⟩) (blk_of HB3.out G4.out) (by simp; omega) (.string (mergeB b (rdOf ByteArray.empty l i) cut)))
  have HY := blk_far (p := ⟨w.heap.size + 1 + 1 + 1, 0, none⟩) (blk_set HG.out i.toNat (.string (mergeB b (rdOf ByteArray.empty l i) cut))) (by simp; omega) (.slice (some ⟨w1.heap.size, 0, none⟩) l.length l.length)
  rw [strs_set] at HY
  have HZ : Below w.heap.size w ((w3.setCell ⟨w1.heap.size, i.toNat, none⟩ (.string (mergeB b (rdOf ByteArray.empty l i) cut))).setCell ⟨w.heap.size + 1 + 1 + 1, 0, none⟩ (.slice (some ⟨w1.heap.size, 0, none⟩) l.length l.length)) :=
    ((below_more HB.out HB3.out).setCell (by simp; omega) _).setCell (by simp; omega) _
  refine bodyPost_ret (results_ct rfl _ _ (w.heap.size + 1 + 1 + 1) 27 #[.slice (some ⟨w1.heap.size, 0, none⟩) l.length l.length] (0, 0) _ rfl HX Try.underlying27 rfl (by kernel_rfl)) rfl ?_
  have hlen : (writeL l i b cut).length = l.length := by simp [writeL]
  refine ⟨some ⟨w1.heap.size, 0, none⟩, l.length, by rw [hlen]; rfl, by omega, pw_below_drewN HZ _, fun w2 h2 => ?_⟩
  refine C_of_block (l := writeL l i b cut) (t := 9) ?_ (by omega)
  rw [h2 w1.heap.size (.inr ⟨HB.out.size, blk_lt HY⟩)]
  exact HY
end Go.Proofs.Ytkfhekocbfednaa.Fl
namespace Go.Proofs.Ytkfhekocbfednaa.Fl
set_option linter.unusedVariables false
set_option linter.unusedSimpArgs false
open Go.RowKit Go.Proofs.YtkfhekocbfednaaW.PrintWords Go.Proofs.YtkfhekocbfednaaW.PrintLast Go.Proofs.YtkfhekocbfednaaW.PrintMore
def AllP (p : ByteArray → Bool) (l : List ByteArray) (k : Nat) : Prop := ∀ i, i < k → p (l.getD i ByteArray.empty) = true
theorem AllP.step {p : ByteArray → Bool} {l : List ByteArray} {k : Nat} (h : AllP p l k) (hk : p (l.getD k ByteArray.empty) = true) : AllP p l (k + 1) := by
  intro i hi
  by_cases e : i = k
  · subst e; exact hk
  · exact h i (by omega)
theorem AllP.all {p : ByteArray → Bool} {l : List ByteArray} (h : AllP p l l.length) : l.all p = true := by
  rw [List.all_eq_true]
  intro s hs
  obtain ⟨j, hj, rfl⟩ := List.getElem_of_mem hs
  have := h j hj
  simpa [List.getD, hj] using this
def smallB (l : List ByteArray) : Bool := decide ((l.length : Int) ≤ 150) && l.all fun s => decide ((s.size : Int) ≤ 300)
theorem read_yes (A : Option Addr) (l : List ByteArray) (c : Nat) (i : Int) (w : World) (hr : Kd.C Kd.string w A l.length l) (h : 0 ≤ i) (h2 : i < (l.length : Int)) :
    Calls Try.prog 45 #[.agg #[.slice A l.length c], .int .i64 i] w fun e w' => e = .returned (.tuple #[.string (rdOf ByteArray.empty l i), .int .i64 0]) ∧ Below w.heap.size w w' := by
  have hn := hr.2.1
  obtain ⟨ad, rfl, hx⟩ := Kd.at_string hr i h h2
  have HB := Aside0.mk (below_alloc (Below.refl w.heap.size w) (.cells #[.slice (some ad) l.length c] 27))
  clear hr
  go_enter Try.func45, Try.ntmps45
  go_wp2_with (go_at_call 58; refine (has_yes (some ad) l.length c i _ hn h h2).mono ?_; rintro e w1 ⟨rfl, hb⟩; obtain ⟨hcc, hff⟩ := bcell hb; have HB1 := Aside0.mk (below_more HB.out hb); have hx1 : w1.cell? (ad.add i.toNat) = some (.string (rdOf ByteArray.empty l i)) := pw_cell_below HB1.out hx; clear hb)
  go_ret2
  exact ⟨rfl, HB1.out⟩
theorem read_no (A : Option Addr) (l : List ByteArray) (c : Nat) (i : Int) (w : World) (hr : Kd.C Kd.string w A l.length l) (h : i < 0 ∨ (l.length : Int) ≤ i) :
    Calls Try.prog 45 #[.agg #[.slice A l.length c], .int .i64 i] w fun e w' => e = .returned (.tuple #[.string ⟨#[]⟩, .int .i64 13]) ∧ Below w.heap.size w w' := by
  have hn := hr.2.1
  have HB := Aside0.mk (below_alloc (Below.refl w.heap.size w) (.cells #[.slice A l.length c] 27))
  clear hr
  go_enter Try.func45, Try.ntmps45
  go_wp2_with (go_at_call 58; refine (has_no A l.length c i _ hn h).mono ?_; rintro e w1 ⟨rfl, hb⟩; obtain ⟨hcc, hff⟩ := bcell hb; have HB1 := Aside0.mk (below_more HB.out hb); clear hb)
  go_ret2
  exact ⟨rfl, HB1.out⟩
end Go.Proofs.Ytkfhekocbfednaa.Fl
namespace Go.Proofs.Ytkfhekocbfednaa.Fl
set_option linter.unusedVariables false
set_option linter.unusedSimpArgs false
open Go.RowKit Go.Proofs.YtkfhekocbfednaaW.PrintWords Go.Proofs.YtkfhekocbfednaaW.PrintLast Go.Proofs.YtkfhekocbfednaaW.PrintMore
def SameTo (l m : List ByteArray) (k : Nat) : Prop := ∀ i, i < k → l.getD i ByteArray.empty = m.getD i ByteArray.empty
theorem SameTo.step {l m : List ByteArray} {k : Nat} (h : SameTo l m k) (hk : l.getD k ByteArray.empty = m.getD k ByteArray.empty) : SameTo l m (k + 1) := by
  intro i hi
  by_cases e : i = k
  · subst e; exact hk
  · exact h i (by omega)
theorem SameTo.eq {l m : List ByteArray} (h : SameTo l m l.length) (hl : l.length = m.length) : l = m := by
  apply List.ext_getElem hl
  intro i h1 h2
  have := h i h1
  simpa [List.getD, h1, h2] using this
def sameB (l m : List ByteArray) : Bool := decide (l = m)
theorem str_ne {s t : ByteArray} (h : ¬ s = t) : ¬ (s.toList = t.toList) := fun e => h (by
  apply ByteArray.ext
  apply Array.ext'
  rw [← Lib.toList_data, ← Lib.toList_data]
  exact e)
set_option maxRecDepth 100000 in
set_option maxHeartbeats 1000000 in
theorem equal_any (A B : Option Addr) (l m : List ByteArray) (c d : Nat) (w : World) (hl : Kd.C Kd.string w A l.length l) (hm : Kd.C Kd.string w B m.length m) :
    Calls Try.prog 53 #[.slice A l.length c, .slice B m.length d] w fun e w' => e = .returned (.bool (sameB l m)) ∧ Drawn0 w w' := by
  have hlen := hl.2.1
  have hlen2 := hm.2.1
  by_cases hne : l.length = m.length
  · have e1 : ((l.length : Int) == (m.length : Int)) = true := beq_iff_eq.2 (by omega)
    have e2 : ((l.length : Int) != (m.length : Int)) = false := bne_eq_false_iff_eq.2 (by omega)
    have E := Aside0.mk hne
    have HL := Aside0.mk hl
    have HM := Aside0.mk hm
    clear hne hl hm
    go_enter Try.func53, Try.ntmps53
    go_wp2
    go_loopw [5, 13] (fun _ i wr => ∃ k : Nat, k ≤ l.length ∧ i = .int .i64 k ∧ Aside0 (SameTo l m k) ∧ Aside0 (Drawn0 w wr)) (fun _ i _ => l.length - (intOf i).toNat)
    case atStart => exact ⟨0, Nat.zero_le _, rfl, ⟨fun i hi => by omega⟩, ⟨Drawn0.refl _⟩⟩
    case round =>
      obtain ⟨k, hk, rfl, HA, HD⟩ := hrel
      by_cases hlt : k < l.length
      · obtain ⟨ad, rfl, hx⟩ := Kd.at_string (Kd.C_below HL.out HD.out.below) (k : Int) (by omega) (by omega)
        obtain ⟨bd, rfl, hy⟩ := Kd.at_string (Kd.C_below HM.out HD.out.below) (k : Int) (by omega) (by have := E.out; omega)
        obtain ⟨s, hs⟩ : ∃ s, s = rdOf ByteArray.empty l (k : Int) := ⟨_, rfl⟩
        obtain ⟨t, ht⟩ : ∃ t, t = rdOf ByteArray.empty m (k : Int) := ⟨_, rfl⟩
        rw [← hs, Int.toNat_natCast] at hx
        rw [← ht, Int.toNat_natCast] at hy
        have HS := Aside0.mk (show s = l.getD k ByteArray.empty by rw [hs]; rfl)
        have HT := Aside0.mk (show t = m.getD k ByteArray.empty by rw [ht]; rfl)
        clear hs ht
        have hk2 : (k : Int) < (m.length : Int) := by have := E.out; omega
        have hk3 : k < m.length := by omega
        by_cases hst : s = t
        · have hb : (s.toList == t.toList) = true := by rw [hst]; simp
          have H3 := Aside0.mk hst
          clear hst
          go_wp2
          go_quiet (fail)
          all_goals go_wp2
          all_goals go_roundw
          case rel => exact ⟨k + 1, by omega, by go_num, ⟨HA.out.step (by rw [← HS.out, ← HT.out]; exact H3.out)⟩, ⟨HD.out.step _⟩⟩
          case measure => simp [intOf]; omega
        · have hb : (s.toList == t.toList) = false := beq_eq_false_iff_ne.2 (str_ne hst)
          have H3 := Aside0.mk hst
          clear hst
          go_wp2
          go_quiet (fail)
          all_goals go_wp2
          go_ret
          refine ⟨?_, HD.out.step _⟩
          have : sameB l m = false := by
            simp only [sameB, decide_eq_false_iff_not]
            rintro rfl
            exact H3.out (by rw [HS.out, HT.out])
          rw [this]
          rfl
      · obtain rfl : k = l.length := by omega
        go_wp2
        go_ret
        refine ⟨?_, HD.out⟩
        rw [show sameB l m = true from by simp only [sameB, decide_eq_true_eq]; exact HA.out.eq E.out]
        rfl
  · have e1 : ((l.length : Int) == (m.length : Int)) = false := beq_eq_false_iff_ne.2 (by omega)
    have e2 : ((l.length : Int) != (m.length : Int)) = true := bne_iff_ne.2 (by omega)
    have E := Aside0.mk (show sameB l m = false by simp only [sameB, decide_eq_false_iff_not]; rintro rfl; exact hne rfl)
    clear hne hl hm
    go_enter Try.func53, Try.ntmps53
    go_wp2
    go_ret
    exact ⟨by rw [E.out]; rfl, Drawn0.refl _⟩
abbrev U2 (v1 v2 : Value) (w : World) : World := (w.alloc (.cells #[v1] 27)).alloc (.cells #[v2] 27)
theorem U2_below (v1 v2 : Value) (w : World) : Below w.heap.size w (U2 v1 v2 w) := below_alloc (below_alloc (Below.refl _ _) _) _
theorem same_any (A B : Option Addr) (l m : List ByteArray) (c d : Nat) (w : World) (hl : Kd.C Kd.string w A l.length l) (hm : Kd.C Kd.string w B m.length m) :
    Calls Try.prog 32 #[.agg #[.slice A l.length c], .agg #[.slice B m.length d]] w fun e w' => e = .returned (.bool (sameB l m)) ∧ Below w.heap.size w w' := by
  have HB := Aside0.mk (U2_below (.slice A l.length c) (.slice B m.length d) w)
  have HL := Aside0.mk (Kd.C_below hl HB.out)
  have HM := Aside0.mk (Kd.C_below hm HB.out)
  clear hl hm
  go_enter Try.func32, Try.ntmps32
  go_wp2_with (go_at_call 53; refine (equal_any A B l m c d _ HL.out HM.out).mono ?_; rintro e w1 ⟨rfl, hd⟩; have HB1 := Aside0.mk (below_more HB.out hd.below); clear hd)
  go_ret
  exact ⟨rfl, HB1.out⟩
theorem info_u8 : (Try.prog.info? 5).map (fun i => (i.zero, i.size, i.bytes)) = some (some (.int .u8 0), 1, 1) := by kernel_rfl
def fullS (b : Int) : ByteArray := strOfNums (List.replicate 256 b)
end Go.Proofs.Ytkfhekocbfednaa.Fl
namespace Go.Proofs.Ytkfhekocbfednaa.Fl
set_option linter.unusedVariables false
set_option linter.unusedSimpArgs false
open Go.RowKit Go.Proofs.YtkfhekocbfednaaW.PrintWords Go.Proofs.YtkfhekocbfednaaW.PrintLast Go.Proofs.YtkfhekocbfednaaW.PrintMore
def rowAt (b : Int) (k : Nat) : List Int := List.replicate k b ++ List.replicate (256 - k) 0
theorem rowAt_len (b : Int) (k : Nat) (h : k ≤ 256) : (rowAt b k).length = 256 := by
  unfold rowAt
  rw [List.length_append, List.length_replicate, List.length_replicate]
  omega
theorem rowAt_zero (b : Int) : rowAt b 0 = List.replicate 256 0 := by
  unfold rowAt
  rw [List.replicate_zero, List.nil_append, Nat.sub_zero]
theorem rowAt_full (b : Int) : rowAt b 256 = List.replicate 256 b := by
  unfold rowAt
  rw [Nat.sub_self, List.replicate_zero, List.append_nil]
theorem rowAt_set (b : Int) (k : Nat) (hk : k < 256) : (rowAt b k).set k b = rowAt b (k + 1) := rep_set _ _ _ _ hk
set_option maxRecDepth 100000 in
set_option maxHeartbeats 2000000 in
theorem full_any (b : Int) (w : World) :
    Calls Try.prog 19 #[.int .u8 b] w fun e w' => e = .returned (.string (fullS b)) ∧ Below w.heap.size w w' := by
  have R0 := Aside0.mk (show List.replicate (256 : Int).toNat (0 : Int) = rowAt b 0 from (rowAt_zero b).symm)
  have hlen := Aside0.mk (rowAt_len b 0 (by omega))
  go_enter Try.func19, Try.ntmps19
  go_wp2_with (first | ((with_reducible refine gate_dst (N := 5) rfl ?_); refine Kd.R_make (Kd.int .u8) w.heap.size 5 rfl (N := 5) rfl 56 _ _ rfl 256 rfl rfl Try.underlying56 (.int .u8 0) 1 info_u8 rfl (by decide) (by omega) 0 (ok := fun _ => True) (okp := fun _ => True) rfl (fun _ hk => hk) trivial (by omega) (by omega) (Below.refl _ _) (Nat.le_refl _) ?_; intro v1 w1 ho hb _ _; rw [R0.out] at ho; obtain ⟨g, co, rfl, gb, gl, cl, hgc⟩ := Kd.R_form ho (by rw [hlen.out]; decide); rw [hlen.out] at ho; have HO1 := Aside0.mk ho; have HB1 := Aside0.mk hb; have GB := Aside0.mk gb; clear ho hb gb gl hgc cl))
  rw [hlen.out]
  go_loopw [4] (fun i wr => ∃ k : Nat, k ≤ 256 ∧ i = .int .i64 k ∧ Aside0 (Kd.R (Kd.int .u8) 5 wr w.heap.size (fun _ => True) (.slice (some ⟨g, 0, none⟩) 256 co) (rowAt b k)) ∧ Aside0 (Below w.heap.size w wr)) (fun i _ => 256 - (intOf i).toNat)
  case atStart => exact ⟨0, by omega, rfl, HO1, HB1⟩
  case round =>
    clear HO1 HB1
    obtain ⟨k, hk, rfl, HO, HB⟩ := hrel
    by_cases hlt : k < 256
    · obtain ⟨hx, hfz⟩ := Kd.R_celln 0 HO.out (k : Int) (by omega) (by omega)
      rw [Int.toNat_natCast] at hx hfz
      have HP := Aside0.mk (Kd.R_putn HO.out (k : Int) b)
      go_wp2
      go_roundw
      case rel =>
        have hp := HP.out
        rw [Int.toNat_natCast, rowAt_set _ _ hlt] at hp
        exact ⟨k + 1, by omega, by go_num, ⟨hp⟩, ⟨HB.out.setCell GB.out _⟩⟩
      case measure => simp [intOf]; omega
    · have ek := show k = 256 by omega
      have hcv := own_string (P := Try.prog) Try.underlying56 Try.underlying5 Try.underlying9 (Kd.own_of_R HO.out)
      rw [show strOfNums (rowAt b k) = fullS b by rw [ek, rowAt_full]; rfl] at hcv
      clear ek
      go_wp2
      go_ret
      exact ⟨rfl, HB.out⟩
theorem full_size (b : Int) : (fullS b).size = 256 := by
  unfold fullS strOfNums
  rw [Lib.size_eq]
  show (List.map _ _).length = 256
  rw [List.length_map, List.length_replicate]
end Go.Proofs.Ytkfhekocbfednaa.Fl
end
