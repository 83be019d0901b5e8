/- Part of the proof of deviceTorn_holds: what later parts use. -/
import Derived.Test.YtkfhekocbfednaaZt0
import Derived.Test.YtkfhekocbfednaaZt1
import Derived.Test.YtkfhekocbfednaaZt2
import Derived.Test.YtkfhekocbfednaaZt3
import Derived.Test.YtkfhekocbfednaaZt4
import Derived.Test.YtkfhekocbfednaaZt5
import Derived.Test.YtkfhekocbfednaaZt6
import Derived.Test.YtkfhekocbfednaaZt7
import Derived.Test.YtkfhekocbfednaaZt8
import Derived.Test.YtkfhekocbfednaaZt9
import Derived.Test.YtkfhekocbfednaaZt10
import Derived.Deep.DeepCutAuto
section
namespace Go.Proofs.Ytkfhekocbfednaa.Fu
set_option linter.unusedVariables false
set_option linter.unusedSimpArgs false
open Go.RowKit Go.Proofs.Ytkfhekocbfednaa Go.Proofs.YtkfhekocbfednaaW.PrintWords Go.Proofs.YtkfhekocbfednaaW.PrintLast Go.Proofs.YtkfhekocbfednaaW.PrintMore
theorem Fu.of_R {w : World} {base n c : Nat} {ok : Nat → Prop} {A : Option Addr} {bk : List (List Int)} (h : (Kd.slice 5 (Kd.int .u8)).R 56 w base ok (.slice A n c) bk) :
    ∃ hs, Sure (fun k => base ≤ k ∧ k < w.heap.size) w (fun w => Fu w A n c hs bk) := by
  obtain ⟨rfl, hc, _⟩ := Kd.R_reads' h
  obtain ⟨h0, inner, ho, hr⟩ := Kd.R_bound h
  let f : Value → Hdr := fun v => match v with | .slice A n c => (A, n, c) | _ => (none, 0, 0)
  have hl : inner.length = bk.length := by have := hr.1; rw [show (Kd.slice 5 (Kd.int .u8)).sz = 1 from rfl] at this; omega
  have hin : ∀ j (hj : j < inner.length), inner[j] = encH (f inner[j]) ∧ ∀ w2 : World, (∀ k, (base ≤ k ∧ k < w.heap.size) → w2.heap[k]? = w.heap[k]?) →
      ∃ xs, bk[j]? = some xs ∧ (f inner[j]).2.1 = xs.length ∧ xs.length ≤ (f inner[j]).2.2 ∧ Kd.C (Kd.int .u8) w2 (f inner[j]).1 xs.length xs := by
    intro j hj
    have hb : bk[j]? = some (bk[j]'(by omega)) := List.getElem?_eq_getElem _
    obtain ⟨v, hv, hR⟩ := hr.2 j _ hb
    have hv' : inner[j] = v := by
      have hv2 : (inner.drop j).take 1 = [v] := by rw [show (Kd.slice 5 (Kd.int .u8)).sz = 1 from rfl, Nat.mul_one] at hv; exact hv
      exact (List.cons.inj (show [inner[j]] = [v] from by rw [← hv2, List.drop_eq_getElem_cons hj]; rfl)).1
    obtain ⟨A', c', rfl, hl', _⟩ := Kd.R_reads hR
    rw [hv']
    refine ⟨rfl, fun w2 h2 => ⟨_, hb, rfl, hl', ?_⟩⟩
    have hR2 := Kd.R_move hR (w1 := w2) (fun k hk => h2 k ⟨hk.1.2.1, hk.1.2.2.1⟩)
    exact (Kd.R_reads' hR2).2.2
  refine ⟨inner.map f, fun w2 h2 => ⟨?_, rfl, hc, fun i t ht => ?_⟩⟩
  · have ho2 : w2.ownsRow base 56 1 (.slice A bk.length c) bk.length inner := own_move ho (fun k hk => h2 k ⟨(h0 k hk).2.1, (h0 k hk).2.2.1⟩)
    refine ⟨by simp; omega, ?_, fun hn => ?_⟩
    · have := Kd.R_own h
      obtain ⟨_, _, h3⟩ := this
      rcases h3 with ⟨h3, h4⟩ | ⟨g, cap, cur, h3, _, _, h4, h5, _⟩
      · omega
      · unfold maxLen at h5; omega
    obtain ⟨ad, e, hx⟩ := q_cells (q_of_own ho2) hn
    refine ⟨ad, e, fun j p hj => ?_⟩
    rw [List.getElem?_map, Option.map_eq_some_iff] at hj
    obtain ⟨v, hv, rfl⟩ := hj
    obtain ⟨hj, rfl⟩ := List.getElem?_eq_some_iff.1 hv
    refine ⟨[encH (f inner[j])], rfl, rfl, fun i u hu => ?_⟩
    cases i with
    | zero =>
      have hu' : encH (f inner[j]) = u := by simpa using hu
      rw [← hu', ← (hin j hj).1]
      rw [show hdr.sz = 1 from rfl, Nat.mul_one, Nat.add_zero]
      exact hx j _ hv
    | succ i => simp at hu
  · rw [List.getElem?_map, Option.map_eq_some_iff] at ht
    obtain ⟨v, hv, rfl⟩ := ht
    obtain ⟨hi, rfl⟩ := List.getElem?_eq_some_iff.1 hv
    exact (hin i hi).2 w2 h2
def badN (n : Int) : Bool := decide (n < 0) || decide (16 < n)
def idxBad (l : List Int) : Int := match l.findIdx? badN with | some i => i | none => -1
def AllOk (l : List Int) (k : Nat) : Prop := ∀ i, i < k → badN (l.getD i 0) = false
theorem AllOk.step {l : List Int} {k : Nat} (h : AllOk l k) (hk : badN (l.getD k 0) = false) : AllOk l (k + 1) := by
  intro i hi
  by_cases e : i = k
  · subst e; exact hk
  · exact h i (by omega)
theorem idxBad_hit {l : List Int} {k : Nat} (h : AllOk l k) (hk : k < l.length) (hn : badN (l.getD k 0) = true) : idxBad l = k := by
  unfold idxBad
  have : l.findIdx? badN = some k := by
    rw [List.findIdx?_eq_some_iff_getElem]
    refine ⟨hk, by simpa [List.getD, hk] using hn, fun j hj => ?_⟩
    have := h j hj; have hj' : j < l.length := by omega
    simpa [List.getD, hj'] using this
  rw [this]
theorem idxBad_none {l : List Int} (h : AllOk l l.length) : idxBad l = -1 := by
  unfold idxBad
  have : l.findIdx? badN = none := by
    rw [List.findIdx?_eq_none_iff]
    intro s hs
    obtain ⟨j, hj, rfl⟩ := List.getElem_of_mem hs
    simpa [List.getD, hj] using h j hj
  rw [this]
theorem anyBad (l : List Int) : decide (0 ≤ idxBad l) = l.any badN := by
  unfold idxBad
  cases h : l.findIdx? badN with
  | none =>
    rw [List.findIdx?_eq_none_iff] at h
    have : l.any badN = false := by rw [List.any_eq_false]; intro x hx; simpa using h x hx
    rw [this]; rfl
  | some i =>
    rw [List.findIdx?_eq_some_iff_getElem] at h
    obtain ⟨hi, h1, _⟩ := h
    have : l.any badN = true := List.any_eq_true.2 ⟨l[i], List.getElem_mem hi, h1⟩
    rw [this]
    simp
theorem new1_any (n : Int) (w : World) : Calls Try.prog 51 #[.int .i64 n] w fun e w' => e = .returned (.bool (badN n)) ∧ w = w' := by
  by_cases h : n < 0
  · have E := Aside0.mk (show badN n = true by simp [badN, h])
    go_enter Try.func51, Try.ntmps51
    go_wp2
    go_ret
    exact ⟨by rw [E.out]; rfl, rfl⟩
  · have E := Aside0.mk (show badN n = decide (16 < n) by simp [badN, h])
    go_enter Try.func51, Try.ntmps51
    go_wp2
    go_ret
    exact ⟨by rw [E.out]; rfl, rfl⟩
set_option maxHeartbeats 1000000 in
theorem indexFunc_any (A : Option Addr) (l : List Int) (c : Nat) (w : World) (hr : Kd.C (Kd.int .i64) w A l.length l) :
    Calls Try.prog 60 #[.slice A l.length c, .func (.func 51) #[] #[]] w fun e w' =>
      e = .returned (.int .i64 (idxBad l)) ∧ w = w' := by
  have hlen := hr.2.1
  go_enter Try.func60, Try.ntmps60
  go_wp2
  go_loop [5, 8] (fun _ i => ∃ k : Nat, k ≤ l.length ∧ i = .int .i64 k ∧ Aside0 (AllOk l k)) (fun _ i => l.length - (intOf i).toNat)
  case atStart => exact ⟨0, Nat.zero_le _, rfl, ⟨fun i hi => by omega⟩⟩
  case round =>
    obtain ⟨k, hk, rfl, HA⟩ := hrel
    by_cases hlt : k < l.length
    · obtain ⟨ad, rfl, hx⟩ := Kd.at_int hr (k : Int) (by omega) (by omega)
      obtain ⟨s, hs⟩ : ∃ s, s = rd l (k : Int) := ⟨_, rfl⟩
      rw [← hs, Int.toNat_natCast] at hx
      have HS := Aside0.mk (show s = l.getD k 0 by rw [hs]; rfl)
      clear hs
      cases hb : badN s with
      | false =>
        have H2 := Aside0.mk hb
        clear hb
        go_wp2_with (go_at_call 51; refine (new1_any s _).mono ?_; rw [H2.out]; rintro e w' ⟨rfl, rfl⟩)
        go_round
        case rel => exact ⟨k + 1, by omega, by go_num, ⟨HA.out.step (by rw [← HS.out]; exact H2.out)⟩⟩
        case measure => simp [intOf]; omega
      | true =>
        have H2 := Aside0.mk hb
        clear hb
        go_wp2_with (go_at_call 51; refine (new1_any s _).mono ?_; rw [H2.out]; rintro e w' ⟨rfl, rfl⟩)
        go_ret
        exact ⟨by rw [idxBad_hit HA.out hlt (by rw [← HS.out]; exact H2.out)]; rfl, rfl⟩
    · go_wp2
      go_ret
      exact ⟨by rw [idxBad_none (by rw [show l.length = k from by omega]; exact HA.out)]; rfl, rfl⟩
theorem containsFunc_any {A : Option Addr} {n : Nat} {l : List Int} {c : Nat} {w : World} (hr : Kd.C (Kd.int .i64) w A n l) :
    Calls Try.prog 50 #[.slice A n c, .func (.func 51) #[] #[]] w fun e w' =>
      e = .returned (.bool (l.any badN)) ∧ w = w' := by
  obtain rfl := hr.1
  rw [← anyBad]
  go_enter Try.func50, Try.ntmps50
  go_wp2_with (go_at_call 60; refine (indexFunc_any A l c _ hr).mono ?_; rintro e w' ⟨rfl, rfl⟩)
  go_ret
  exact ⟨by first | rfl | (simp; done), rfl⟩
def rowsN (l : List Int) (k : Nat) : List (List Int) := (l.take k).map fun n => List.replicate (3 * n).toNat 0
theorem rowsN_snoc (l : List Int) (k : Nat) (hk : k < l.length) : rowsN l (k + 1) = rowsN l k ++ [List.replicate (3 * l.getD k 0).toNat 0] := by
  unfold rowsN
  rw [List.take_succ_eq_append_getElem hk, List.map_append]
  simp [List.getD, hk]
theorem rowsN_len (l : List Int) (k : Nat) (hk : k ≤ l.length) : (rowsN l k).length = k := by simp [rowsN]; omega
def newBk (l : List Int) : List (List Int) := if 4 < l.length ∨ l.any badN = true then [] else rowsN l l.length
def newBe (l : List Int) : Int := if 4 < l.length ∨ l.any badN = true then 1 else 0
theorem info_hdr : (Try.prog.info? 56).map (fun i => (i.zero, i.size, i.bytes)) = some (some (.slice none 0 0), 1, 24) := info_row
theorem FuseRes.nil {S : Nat → Prop} {w w' : World} (hb : Below w.heap.size w w') (code : Int) : FuseRes S [] 0 code w (.returned (.tuple #[.agg #[.slice none 0 0], .int .i64 code])) w' :=
  ⟨none, 0, [], rfl, hb, fun _ _ => ⟨⟨rfl, by decide, fun h => absurd h (by decide)⟩, rfl, by decide, fun i t h => by simp at h⟩⟩
set_option maxRecDepth 100000 in
set_option maxHeartbeats 8000000 in
theorem new_any (S : Nat → Prop) {A : Option Addr} {n c : Nat} {l : List Int} {w : World} (hr : Kd.C (Kd.int .i64) w A n l) :
    Calls Try.prog 27 #[.slice A n c] w (FuseRes S (newBk l) (newBk l).length (newBe l) w) := by
  obtain rfl := hr.1
  have hm := hr.2.1
  have HR := Aside0.mk hr
  have B1 := Aside0.mk (St.enter0 w |>.alloc2 #[.slice none 0 0] 24 #[.slice none 0 0] 24)
  have B0 := Aside0.mk (St.enter0 w |>.alloc #[.slice none 0 0] 24)
  clear hr
  by_cases h4 : 4 < l.length
  · have E1 := Aside0.mk (show newBk l = [] by simp [newBk, h4])
    have E2 := Aside0.mk (show newBe l = 1 by simp [newBe, h4])
    have h4' : (4 : Int) < (l.length : Int) := by omega
    clear h4
    go_enter Try.func27, Try.ntmps27
    go_wp2
    have H2 := B0.out
    refine bodyPost_ret (results_ct rfl _ _ w.heap.size 24 #[.slice none 0 0] (0, 0) _ rfl (H2.blk 0 rfl) Try.underlying24 rfl (by kernel_rfl)) rfl ?_
    rw [E1.out, E2.out]
    exact FuseRes.nil H2.bel 1
  · have h4' : ((l.length : Nat) : Int) ≤ 4 := by omega
    have h4n : l.length ≤ 4 := by omega
    cases hb : l.any badN with
    | true =>
      have E1 := Aside0.mk (show newBk l = [] by simp [newBk, hb])
      have E2 := Aside0.mk (show newBe l = 1 by simp [newBe, hb])
      have HB := Aside0.mk hb
      clear hb h4
      go_enter Try.func27, Try.ntmps27
      go_wp2_with (first | (go_at_call 50; refine (containsFunc_any (Kd.C_below HR.out (below_alloc (Below.refl _ _) _))).mono ?_; rw [HB.out]; rintro e w' ⟨rfl, rfl⟩))
      have H2 := B0.out
      refine bodyPost_ret (results_ct rfl _ _ w.heap.size 24 #[.slice none 0 0] (0, 0) _ rfl (H2.blk 0 rfl) Try.underlying24 rfl (by kernel_rfl)) rfl ?_
      rw [E1.out, E2.out]
      exact FuseRes.nil H2.bel 1
    | false =>
      have E1 := Aside0.mk (show newBk l = rowsN l l.length by simp [newBk, hb, h4])
      have E2 := Aside0.mk (show newBe l = 0 by simp [newBe, hb, h4])
      have HB := Aside0.mk hb
      clear hb h4
      go_enter Try.func27, Try.ntmps27
      go_wp2_with (first | (go_at_call 50; refine (containsFunc_any (Kd.C_below HR.out (below_alloc (Below.refl _ _) _))).mono ?_; rw [HB.out]; rintro e w' ⟨rfl, rfl⟩))
      go_loopw [6, 17] (fun _ i wr => ∃ (k : Nat) (v : Value), k ≤ l.length ∧ i = .int .i64 k ∧ Aside0 (St w (fun _ => False) [] [(w.heap.size, #[.slice none 0 0], 24), (w.heap.size + 1, #[v], 24)] wr) ∧ Aside0 (Kd.R (Kd.slice 5 (Kd.int .u8)) 56 wr (w.heap.size + 1 + 1) (fun _ => True) v (rowsN l k))) (fun _ i _ => l.length - (intOf i).toNat)
      case atStart => exact ⟨0, _, Nat.zero_le _, rfl, B1, ⟨Kd.R_nil _ _ _ _ _⟩⟩
      case round =>
      obtain ⟨k, v, hk, rfl, H0, RO⟩ := hrel
      by_cases hlt : k < l.length
      · obtain ⟨ad, rfl, hx⟩ := Kd.at_int HR.out (k : Int) (by omega) (by omega)
        obtain ⟨m, hmm⟩ : ∃ m, rd l (k : Int) = m := ⟨_, rfl⟩
        have M := Aside0.mk (show l.getD k 0 = m from hmm)
        rw [hmm, Int.toNat_natCast] at hx
        have hbd : badN m = false := by rw [← hmm]; have := List.any_eq_false.1 HB.out (l[k]) (List.getElem_mem hlt); simpa [rd, List.getD, hlt] using this
        clear hmm
        have hm0 : 0 ≤ m := by simp [badN] at hbd; omega
        have hm1 : m ≤ 16 := by simp [badN] at hbd; omega
        clear hbd
        obtain ⟨q, hq⟩ : ∃ q, q = 3 * m := ⟨_, rfl⟩
        have hw : IntKind.i64.wrap (m * 3) = q := by rw [hq, IntWalk.i64_in _ ⟨by omega, by omega⟩]; omega
        have MQ := Aside0.mk hq
        have hq0 : 0 ≤ q := by omega
        have hq1 : q ≤ 48 := by omega
        clear hq
        obtain ⟨zs, hzs⟩ : ∃ zs : List Int, zs = List.replicate q.toNat 0 := ⟨_, rfl⟩
        have Z := Aside0.mk hzs
        clear hzs
        obtain ⟨ys, hys⟩ : ∃ ys : List (List Int), ys = rowsN l k ++ [zs] := ⟨_, rfl⟩
        have Y := Aside0.mk hys
        clear hys
        have hxr := pw_cell_below H0.out.bel hx
        go_wp2
        refine start_ (n := 9) (S := (fun w' => w'.cell? ⟨w.heap.size + 1, 0, none⟩ = some v)) (ds := [8]) #[false, false, false, false, false, false, false, false, false] (by kernel_rfl) rfl rfl (H0.out.drew.cell 1 rfl 0 rfl) (fun hHeld => ?_)
        refine pure_ (i := 0) (N := (some 21)) (v := ?_) (a' := ?_) #[true, false, false, false, false, false, false, false, false] rfl rfl (by kernel_rfl) (fun _ _ _ h => h) (Or.inl ⟨by rfl, ?_⟩) ?_ ?_
        rotate_left
        · intro w'
          go_simp
          try with_reducible rfl
        rotate_left
        · simp only [Act.put, List.setIfInBounds_toArray, List.set_cons_zero, List.set_cons_succ, i64_w, i32_w]
          rfl
        refine pure_ (i := 2) (N := (some 23)) (v := ?_) (a' := ?_) #[true, false, true, false, false, false, false, false, false] rfl rfl (by kernel_rfl) (fun _ _ _ h => h) (Or.inl ⟨by rfl, ?_⟩) ?_ ?_
        rotate_left
        · intro w'
          go_simp
          try with_reducible rfl
        rotate_left
        · simp only [Act.put, List.setIfInBounds_toArray, List.set_cons_zero, List.set_cons_succ, i64_w, i32_w]
          rfl
        refine pure_ (i := 3) (N := (some 24)) (v := ?_) (a' := ?_) #[true, false, true, true, false, false, false, false, false] rfl rfl (by kernel_rfl) (fun _ _ _ h => h) (Or.inl ⟨by rfl, ?_⟩) ?_ ?_
        rotate_left
        · intro w'
          go_simp
          try with_reducible rfl
        rotate_left
        · simp only [Act.put, List.setIfInBounds_toArray, List.set_cons_zero, List.set_cons_succ, i64_w, i32_w]
          rfl
        refine take_ (i := 1) (N := (some 22)) (v := ?_) (a' := ?_) #[true, true, true, true, false, false, false, false, false] rfl rfl (by kernel_rfl) (fun _ _ _ h => h) (Or.inl ⟨by rfl, ?_⟩) hHeld ?_ ?_
        rotate_left
        · rintro w' s0
          go_simp
          try with_reducible rfl
        rotate_left
        · simp only [Act.put, List.setIfInBounds_toArray, List.set_cons_zero, List.set_cons_succ, i64_w, i32_w]
          rfl
        refine one_ (i := 4) (N := (some 25)) #[true, true, true, true, true, false, false, false, false] rfl rfl (by kernel_rfl) (by decide) (fun K hK => ?_)
        refine Kd.R_make_step (Kd.int .u8) wr.drew.heap.size 5 (by rfl) (N := 25) rfl 56 _ _ rfl q rfl rfl Try.underlying56 (.int .u8 0) 1 info_byte rfl (by decide) (by omega) 0 (ok := fun _ => True) (okp := fun _ => True) rfl (fun _ hk => hk) trivial (by omega) (by omega) (Below.refl _ _) (Nat.le_refl _) ?_
        intro v1 w1 ho hb _ _
        rw [← Z.out] at ho
        have H1 := Aside0.mk (H0.out.drew.step hb)
        have R1 := Aside0.mk (Kd.R_below (Kd.R_drew RO.out) hb)
        have O1 := Aside0.mk ho
        obtain ⟨A1, c1, e1⟩ := Kd.R_slice ho
        subst e1
        clear ho
        have hz1 : w.heap.size + 1 + 1 ≤ w1.heap.size := H1.out.lt 1 rfl
        refine hK.out _ _ (H1.out.cell 1 rfl 0 rfl) (fun hHeld => ?_)
        clear hK K
        refine norm_ (a' := ?_) ?_ ?_
        rotate_left
        · show Act.put _ (some 25) _ = _
          simp only [Act.put, List.setIfInBounds_toArray, List.set_cons_zero, List.set_cons_succ, i64_w, i32_w]
          rfl
        refine one_ (i := 5) (N := (some 26)) #[true, true, true, true, true, true, false, false, false] rfl rfl (by kernel_rfl) (by decide) (fun K hK => ?_)
        refine value_ (w1 := ?_) (v := ?_) (by rfl) rfl ?_ ?_
        rotate_left 2
        · go_simp
          constructor
          · rfl
          · rfl
        refine hK.out _ _ ((H1.out.other _).cell 1 rfl 0 rfl) (fun hHeld => ?_)
        clear hK K
        refine norm_ (a' := ?_) ?_ ?_
        rotate_left
        · show Act.put _ (some 26) _ = _
          simp only [Act.put, List.setIfInBounds_toArray, List.set_cons_zero, List.set_cons_succ, i64_w, i32_w]
          rfl
        refine one_ (i := 6) (N := (some 27)) #[true, true, true, true, true, true, true, false, false] rfl rfl (by kernel_rfl) (by decide) (fun K hK => ?_)
        refine Kd.R_append_step (Kd.slice 5 (Kd.int .u8)) (w0 := w1) (w.heap.size + 1 + 1) (by rfl) (.tmp 22) (.tmp 26) 22 56 (.slice none 0 0) 24 rfl Try.underlying22 info_hdr rfl (by decide) (by omega) v (rowsN l k) zs [.slice A1 zs.length c1] (fun _ => True) (fun k_ => wr.heap.size ≤ k_) rfl rfl ?aP (fun k_ hk_ => ⟨trivial, fun e_ => ?aK⟩) (fun _ _ => trivial) ?aO (Below.refl _ _) hz1 ?aL ?_
        case aP => exact Kd.M_row (Kd.R_lower (Kd.R_mono (Kd.R_bound O1.out) fun k_ hk => hk.2.1) (H0.out.lt 1 rfl))
        case aK => have := Kd.R_lt RO.out k_ e_.symm; omega
        case aO => exact R1.out
        case aL => rw [rowsN_len l k (by omega)]; omega
        intro v2 w2 ho _ hg _
        have H2 := Aside0.mk (H1.out.grown hg (fun k_ e_ => by have h1 := Kd.R_base RO.out k_ e_; refine ⟨by omega, id, fun x hx => ?_⟩; simp only [List.mem_cons, List.not_mem_nil, or_false] at hx; (rcases hx with rfl | rfl) <;> (dsimp only; omega)))
        rw [← Y.out] at ho
        obtain ⟨A2, c2, e2⟩ := Kd.R_slice ho
        subst e2
        have O2 := Aside0.mk ho
        clear ho hg
        refine hK.out _ _ (H2.out.cell 1 rfl 0 rfl) (fun hHeld => ?_)
        clear hK K
        refine norm_ (a' := ?_) ?_ ?_
        rotate_left
        · show Act.put _ (some 27) _ = _
          simp only [Act.put, List.setIfInBounds_toArray, List.set_cons_zero, List.set_cons_succ, i64_w, i32_w]
          rfl
        refine pure_ (i := 7) (N := (some 28)) (v := ?_) (a' := ?_) #[true, true, true, true, true, true, true, true, false] rfl rfl (by kernel_rfl) (fun _ _ _ h => h) (Or.inl ⟨by rfl, ?_⟩) ?_ ?_
        rotate_left
        · intro w'
          go_simp
          try with_reducible rfl
        rotate_left
        · simp only [Act.put, List.setIfInBounds_toArray, List.set_cons_zero, List.set_cons_succ, i64_w, i32_w]
          rfl
        refine last_ (i := 8) (N := none) #[true, true, true, true, true, true, true, true, true] rfl rfl (by kernel_rfl) (by decide) (fun K hK => ?_)
        have k3 := H2.out.cell 1 rfl 0 rfl
        have f3 := H2.out.free 1 rfl 0
        refine skip_ (w1 := ?_) (by rfl) rfl ?_ ?_
        rotate_left
        · go_simp
          rfl
        refine hK.out _ _ ?_
        clear hK K k3 f3
        refine done_ (by kernel_rfl) ?_
        go_wp2
        go_roundw
        case rel => exact ⟨k + 1, _, by omega, by go_num, ⟨H2.out.set 1 rfl 0 _⟩, ⟨by rw [rowsN_snoc l k hlt, M.out, ← MQ.out, ← Z.out, ← Y.out]; exact R_set O2.out (by omega) 0 _⟩⟩
        case measure => simp [intOf]; omega
      · obtain rfl : k = l.length := by omega
        have k0 := H0.out.cell 1 rfl 0 rfl
        have z0 := H0.out.cell 0 rfl 0 rfl
        have f0 := H0.out.free 0 rfl 0
        obtain ⟨A2, c2, rfl⟩ := Kd.R_slice RO.out
        go_wp2
        have H2 := H0.out.set 0 rfl 0 (.slice A2 (rowsN l l.length).length c2)
        refine bodyPost_ret (results_ct rfl _ _ w.heap.size 24 #[.slice A2 (rowsN l l.length).length c2] (0, 0) _ rfl (H2.blk 0 rfl) Try.underlying24 rfl (by kernel_rfl)) rfl ?_
        rw [E1.out, E2.out]
        obtain ⟨hs, hF⟩ := Fu.of_R (R_set RO.out (g := w.heap.size) (by omega) 0 (.slice A2 (rowsN l l.length).length c2))
        exact ⟨A2, c2, hs, rfl, H2.done (hF.mono fun k hk => .inr ⟨by omega, hk.2⟩) fun k hk => hk.elim⟩
theorem AllOk.any {l : List Int} (h : AllOk l l.length) : l.any badN = false := by
  rw [List.any_eq_false]
  intro x hx
  obtain ⟨j, hj, rfl⟩ := List.getElem_of_mem hx
  have := h j hj
  simpa [List.getD, hj] using this
end Go.Proofs.Ytkfhekocbfednaa.Fu
end
