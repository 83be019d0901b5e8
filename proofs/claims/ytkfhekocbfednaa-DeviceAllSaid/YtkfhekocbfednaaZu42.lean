/- Part of the proof of deviceSeparate_holds, deviceAll_holds, deviceMonotonic_holds: what later parts use. -/
import Derived.Test.YtkfhekocbfednaaZu0
import Derived.Test.YtkfhekocbfednaaZu1
import Derived.Test.YtkfhekocbfednaaZu2
import Derived.Test.YtkfhekocbfednaaZu3
import Derived.Test.YtkfhekocbfednaaZu4
import Derived.Test.YtkfhekocbfednaaZu5
import Derived.Test.YtkfhekocbfednaaZu6
import Derived.Test.YtkfhekocbfednaaZu7
import Derived.Test.YtkfhekocbfednaaZu8
import Derived.Test.YtkfhekocbfednaaZu9
import Derived.Test.YtkfhekocbfednaaZu10
import Derived.Test.YtkfhekocbfednaaZu11
import Derived.Test.YtkfhekocbfednaaZu12
import Derived.Test.YtkfhekocbfednaaZu13
import Derived.Test.YtkfhekocbfednaaZu14
import Derived.Test.YtkfhekocbfednaaZu15
import Derived.Test.YtkfhekocbfednaaZu16
import Derived.Test.YtkfhekocbfednaaZu17
import Derived.Test.YtkfhekocbfednaaZu18
import Derived.Test.YtkfhekocbfednaaZu19
import Derived.Test.YtkfhekocbfednaaZu20
import Derived.Test.YtkfhekocbfednaaZu21
import Derived.Test.YtkfhekocbfednaaZu22
import Derived.Test.YtkfhekocbfednaaZu23
import Derived.Test.YtkfhekocbfednaaZu24
import Derived.Test.YtkfhekocbfednaaZu25
import Derived.Test.YtkfhekocbfednaaZu26
import Derived.Test.YtkfhekocbfednaaZu27
import Derived.Test.YtkfhekocbfednaaZu28
import Derived.Test.YtkfhekocbfednaaZu29
import Derived.Test.YtkfhekocbfednaaZu30
import Derived.Test.YtkfhekocbfednaaZu31
import Derived.Test.YtkfhekocbfednaaZu32
import Derived.Test.YtkfhekocbfednaaZu33
import Derived.Test.YtkfhekocbfednaaZu37
import Derived.Test.YtkfhekocbfednaaZu38
import Derived.Test.YtkfhekocbfednaaZu40
import Derived.Laws.StructEq
section
namespace Go.Proofs.Ytkfhekocbfednaa.Dv
set_option linter.unusedVariables false
set_option linter.unusedSimpArgs false
open Go.RowKit Go.Proofs.Ytkfhekocbfednaa Go.Proofs.YtkfhekocbfednaaW.PrintWords Go.Proofs.YtkfhekocbfednaaW.PrintLast Go.Proofs.YtkfhekocbfednaaW.PrintMore
open Go.Proofs.Ytkfhekocbfednaa.Fu Go.Proofs.Ytkfhekocbfednaa.Fl
theorem _root_.Go.Proofs.Ytkfhekocbfednaa.St.pick {w0 w : World} {S : Nat → Prop} {ds : List (World → Prop)} {os : List Blk} (h : St w0 S ds os w) : ∀ (is : List Nat) (os' : List Blk), is.map (fun i => os[i]?) = os'.map some → is.Nodup → St w0 S ds os' w
  | [], [], _, _ => ⟨h.bel, h.dom, h.sures, (fun x hx => by cases hx), by simp⟩
  | [], _ :: _, hi, _ => by cases hi
  | _ :: _, [], hi, _ => by cases hi
  | i :: is, x :: os', hi, hn => by
    obtain ⟨h1, h2⟩ := List.cons.inj (by simpa using hi : os[i]? :: is.map (fun i => os[i]?) = some x :: os'.map some)
    obtain ⟨n1, n2⟩ := List.nodup_cons.1 hn
    have ih := h.pick is os' h2 n2
    refine ⟨h.bel, h.dom, h.sures, fun y hy => ?_, ?_⟩
    · rcases List.mem_cons.1 hy with rfl | hy
      · exact h.own _ (List.mem_of_getElem? h1)
      · exact ih.own y hy
    · rw [List.map_cons]
      refine List.nodup_cons.2 ⟨fun hm => ?_, ih.apart⟩
      obtain ⟨y, hy, e⟩ := List.mem_map.1 hm
      have : some y ∈ is.map (fun i => os[i]?) := by rw [h2]; exact List.mem_map.2 ⟨y, hy, rfl⟩
      obtain ⟨j, hj, hy2⟩ := List.mem_map.1 this
      obtain ⟨x1, x2, x3⟩ := x
      obtain ⟨y1, y2, y3⟩ := y
      exact h.ne i j h1 hy2 (fun e2 => n1 (e2 ▸ hj)) e.symm
structure Sb where
  g3 : Nat
  g4 : Nat
  A : Option Addr
  c : Nat
  hs : List Hdr
  B : Option Addr
  d : Nat
  z : Nat
  z' : Nat
set_option maxRecDepth 100000 in
set_option maxHeartbeats 64000000 in
theorem rall_any {A : Option Addr} {n c : Nat} {hs : List Hdr} {bk : List (List Int)} {B : Option Addr} {m d : Nat} {fl : List ByteArray} {w : World} {S0 : Nat → Prop} (r : Nat → Int) {C : Option Addr} {cc : Nat} {l : List Acc} {C' : Option Addr} {cc' : Nat} {f : List Flt} {nl nf : Nat}
    (hd : ∀ k, S0 k → k < w.heap.size) (hF : Sure S0 w (fun w => Fu w A n c hs bk ∧ Fl w B m d fl)) (hl : RowsOf accV 4 w C l) (hf : RowsOf fltV 3 w C' f) (hn : n ≤ 1000) (hbk : OkBk bk) (hfl : OkFl fl) (hlen : l.length ≤ 1000) (hnl : l.length = nl) (hnf : f.length = nf)
    {R : AllR} (hR : allR f l 0 bk fl [] = R) :
    Calls Try.prog 17 #[.agg (hwC (.slice A n c) (.slice B m d) r), .slice C nl cc, .slice C' nf cc'] w (AllRes S0 n m r R w) := by
  subst hnl hnf
  have H0 := Aside0.mk ((St.enter1 hd hF).alloc2 (hwC (.slice A n c) (.slice B m d) r) 31 #[.slice none 0 0, .slice none 0 0, .int .u8 0, .int .u8 0, .int .u8 0, .int .u8 0, .int .u8 0, .int .u8 0, .int .u8 0, .int .u8 0, .int .u8 0, .int .u8 0, .int .u8 0, .int .u8 0, .int .u8 0, .int .u8 0, .int .u8 0, .int .u8 0] 31)
  have HL := Aside0.mk (fun W hb => hl.below hb : ∀ W, Below w.heap.size w W → RowsOf accV 4 W C l)
  have HFT := Aside0.mk (fun W hb => hf.below hb : ∀ W, Below w.heap.size w W → RowsOf fltV 3 W C' f)
  have hfmax := hf.1
  have I0 := Aside0.mk (⟨hR, rfl, hbk, hfl, fun _ hk => .inl hk, H0.out, Kd.R_nil _ _ _ _ _, fun k hk => by simp [Value.ownBlock] at hk⟩ : AllInv w _ S0 n m r l f R (.slice none 0 0) 0 A c hs B d bk fl [] S0)
  clear hd hF hl hf hR hbk hfl H0
  go_enter Try.func17, Try.ntmps17
  go_wp2
  go_loopw [9, 10] (fun v i wr => ∃ (k : Nat) (A : Option Addr) (c : Nat) (hs : List Hdr) (B : Option Addr) (d : Nat) (bk : List (List Int)) (fl : List ByteArray) (out : List RR) (S : Nat → Prop), k ≤ l.length ∧ i = .int .i64 k ∧ Aside0 (AllInv w wr S0 n m r l f R v k A c hs B d bk fl out S)) (fun _ i _ => l.length - (intOf i).toNat)
  case atStart => exact ⟨0, A, c, hs, B, d, bk, fl, [], S0, by omega, rfl, I0⟩
  case round =>
    clear I0
    obtain ⟨k, A, c, hs, B, d, bk, fl, out, S, hk, rfl, I0⟩ := hrel
    obtain ⟨C1, cc1, rfl⟩ := Kd.R_slice I0.out.row
    have H0 := Aside0.mk I0.out.round
    by_cases hlt : k < l.length
    · obtain ⟨⟨kd, bank, cell, b⟩, ha⟩ : ∃ a, l[k]? = some a := ⟨_, List.getElem?_eq_getElem hlt⟩
      have hdrop : l.drop k = (kd, bank, cell, b) :: l.drop (k + 1) := by rw [List.drop_eq_getElem_cons hlt]; congr 1; rw [List.getElem?_eq_getElem hlt] at ha; exact Option.some.inj ha
      obtain ⟨ad, rfl, -⟩ := (HL.out _ H0.out.bel).at k ha
      have HX := Aside0.mk (fun W hb => by obtain ⟨_, e, h⟩ := (HL.out W hb).at k ha; cases e; exact h : ∀ W, Below w.heap.size w W → ∀ j v, (#[.int .i64 kd, .int .i64 bank, .int .i64 cell, .string b] : Array Value)[j]? = some v → W.cell? ((ad.add (k * 4)).add j) = some v)
      obtain ⟨⟨cut, fb, noise⟩, hft⟩ : ∃ y, ftAt f k = y := ⟨_, rfl⟩
      obtain ⟨bk1, hE1⟩ : ∃ y, doBk bk fl kd bank cell b cut = y := ⟨_, rfl⟩
      obtain ⟨fl1, hE2⟩ : ∃ y, doFl bk fl kd bank cell b cut fb = y := ⟨_, rfl⟩
      obtain ⟨v1, hE3⟩ : ∃ y, doV bk fl kd bank cell b cut noise = y := ⟨_, rfl⟩
      obtain ⟨s1, hE4⟩ : ∃ y, doS bk fl kd bank cell b cut = y := ⟨_, rfl⟩
      obtain ⟨q, hE5⟩ : ∃ y, doE bk fl kd bank cell b = y := ⟨_, rfl⟩
      have E1 := Aside0.mk hE1
      have E2 := Aside0.mk hE2
      have E3 := Aside0.mk hE3
      have E4 := Aside0.mk hE4
      have E5 := Aside0.mk hE5
      have FT := Aside0.mk hft
      have HD := Aside0.mk hdrop
      have OK1 := Aside0.mk (hE1 ▸ I0.out.okb.doBk fl kd bank cell b cut)
      have OK2 := Aside0.mk (hE2 ▸ I0.out.okf.doFl bk kd bank cell b cut fb)
      have LK := Aside0.mk I0.out.len
      clear hE1 hE2 hE3 hE4 hE5 hdrop ha
      by_cases hfk : k < f.length
      case' pos =>
        have hfa : f[k]? = some (cut, fb, noise) := by
          have := FT.out
          unfold ftAt at this
          rw [List.getElem?_eq_getElem hfk]
          simpa [List.getD, hfk] using this
        obtain ⟨ad', rfl, -⟩ := (HFT.out _ H0.out.bel).at k hfa
        have HY := Aside0.mk (fun W hb => by obtain ⟨_, e, h⟩ := (HFT.out W hb).at k hfa; cases e; exact h : ∀ W, Below w.heap.size w W → ∀ j v, (#[.bool cut, .int .i64 fb, .bool noise] : Array Value)[j]? = some v → W.cell? ((ad'.add (k * 3)).add j) = some v)
        clear hfa
        go_wp2_with (first | ((with_reducible refine gate_store (t := 35) (p := 11) rfl ?_); refine storeRowSt_ (ty := 35) rfl rfl rfl #[.bool false, .int .i64 0, .bool false] (H0.out.alloc #[.bool false, .int .i64 0, .bool false] 35) 2 rfl rfl rfl (by kernel_rfl) rfl (by kernel_rfl) ?_; intro x1 h_; have H1 := Aside0.mk (h_.as [(w.heap.size, (hwC (.slice A n c) (.slice B m d) r), 31), (w.heap.size + 1, #[.slice none 0 0, .slice none 0 0, .int .u8 0, .int .u8 0, .int .u8 0, .int .u8 0, .int .u8 0, .int .u8 0, .int .u8 0, .int .u8 0, .int .u8 0, .int .u8 0, .int .u8 0, .int .u8 0, .int .u8 0, .int .u8 0, .int .u8 0, .int .u8 0], 31), (wr.heap.size, #[.bool false, .int .i64 0, .bool false], 35)] rfl); clear h_) | ((with_reducible refine gate_dst (N := 29) rfl ?_); refine loadElL_ (ty := 35) _ rfl rfl rfl _ #[.bool cut, .int .i64 fb, .bool noise] _ rfl (HY.out _ H1.out.bel) Try.underlying35 rfl (by kernel_rfl) ?_) | ((with_reducible refine gate_store (t := 35) (p := 11) rfl ?_); refine storeRowSt_ (ty := 35) rfl rfl rfl #[.bool cut, .int .i64 fb, .bool noise] H1.out 2 rfl rfl rfl (by kernel_rfl) rfl (by kernel_rfl) ?_; intro y1 h_; have H2 := Aside0.mk (h_.as [(w.heap.size, (hwC (.slice A n c) (.slice B m d) r), 31), (w.heap.size + 1, #[.slice none 0 0, .slice none 0 0, .int .u8 0, .int .u8 0, .int .u8 0, .int .u8 0, .int .u8 0, .int .u8 0, .int .u8 0, .int .u8 0, .int .u8 0, .int .u8 0, .int .u8 0, .int .u8 0, .int .u8 0, .int .u8 0, .int .u8 0, .int .u8 0], 31), (wr.heap.size, #[.bool cut, .int .i64 fb, .bool noise], 35)] rfl); clear h_))
      case' neg =>
        have hfz : ftAt f k = (false, 0, false) := by simp [ftAt, List.getD, List.getElem?_eq_none (Nat.le_of_not_lt hfk)]
        have HZ := Aside0.mk (show (#[.bool false, .int .i64 0, .bool false] : Array Value) = #[.bool cut, .int .i64 fb, .bool noise] by have := FT.out; rw [hfz] at this; cases this; rfl)
        clear hfz
        go_wp2_with (first | ((with_reducible refine gate_store (t := 35) (p := 11) rfl ?_); refine storeRowSt_ (ty := 35) rfl rfl rfl #[.bool false, .int .i64 0, .bool false] (H0.out.alloc #[.bool false, .int .i64 0, .bool false] 35) 2 rfl rfl rfl (by kernel_rfl) rfl (by kernel_rfl) ?_; intro y1 h_; have H1 := Aside0.mk (h_.as [(w.heap.size, (hwC (.slice A n c) (.slice B m d) r), 31), (w.heap.size + 1, #[.slice none 0 0, .slice none 0 0, .int .u8 0, .int .u8 0, .int .u8 0, .int .u8 0, .int .u8 0, .int .u8 0, .int .u8 0, .int .u8 0, .int .u8 0, .int .u8 0, .int .u8 0, .int .u8 0, .int .u8 0, .int .u8 0, .int .u8 0, .int .u8 0], 31), (wr.heap.size, #[.bool false, .int .i64 0, .bool false], 35)] rfl); clear h_))
        have H2 := Aside0.mk (show St w _ _ [(w.heap.size, (hwC (.slice A n c) (.slice B m d) r), 31), (w.heap.size + 1, #[.slice none 0 0, .slice none 0 0, .int .u8 0, .int .u8 0, .int .u8 0, .int .u8 0, .int .u8 0, .int .u8 0, .int .u8 0, .int .u8 0, .int .u8 0, .int .u8 0, .int .u8 0, .int .u8 0, .int .u8 0, .int .u8 0, .int .u8 0, .int .u8 0], 31), (wr.heap.size, #[.bool cut, .int .i64 fb, .bool noise], 35)] y1 from HZ.out ▸ H1.out)
      all_goals
        refine start_ (n := 16) (S := (fun w' => w'.heap[w.heap.size]? = some (.cells (hwC (.slice A n c) (.slice B m d) r) 31) ∧ w'.heap[wr.heap.size]? = some (.cells #[.bool cut, .int .i64 fb, .bool noise] 35) ∧ (∀ j v, (#[.int .i64 kd, .int .i64 bank, .int .i64 cell, .string b] : Array Value)[j]? = some v → w'.cell? ((ad.add (k * 4)).add j) = some v))) (ds := []) #[false, false, false, false, false, false, false, false, false, false, false, false, false, false, false, false] (by kernel_rfl) rfl rfl ⟨H2.out.drew.blk 0 rfl, H2.out.drew.blk 2 rfl, HX.out _ H2.out.drew.bel⟩ (fun hHeld => ?_)
        refine join_ (σ := Sb) 0 #[true, true, true, true, true, true, true, true, true, true, true, true, true, true, true, true] (fun s => [(31, .agg (hwC (.slice A n c) (.slice B m d) r)), (32, .slice (some ad) l.length cc), (33, .int .i64 k), (34, .pointer (some (ad.add (k * 4)))), (35, .agg #[.int .i64 kd, .int .i64 bank, .int .i64 cell, .string b]), (36, .agg #[.bool cut, .int .i64 fb, .bool noise]), (37, .tuple #[.agg (hwC (.slice s.A n s.c) (.slice s.B m s.d) r), .agg #[.int .i64 v1, .string s1], .int .i64 q]), (30, .tuple #[.agg (hwC (.slice s.A n s.c) (.slice s.B m s.d) r), .agg #[.int .i64 v1, .string s1], .int .i64 q]), (38, .agg (hwC (.slice s.A n s.c) (.slice s.B m s.d) r)), (39, .agg #[.int .i64 v1, .string s1]), (40, .int .i64 q), (12, .pointer (some ⟨s.g3, 0, none⟩)), (13, .pointer (some ⟨s.g4, 0, none⟩)), (14, .int .i64 q)]) (fun s w' => Aside0 (St w (fun x => (S x ∨ (Value.slice C1 out.length cc1).ownBlock = some x) ∨ (s.z ≤ x ∧ x < s.z')) [fun w1 => Sure (fun x => S x ∨ (s.z ≤ x ∧ x < s.z')) w1 (fun w => Fu w s.A n s.c s.hs bk1 ∧ Fl w s.B m s.d fl1), fun w1 => rrK.R 40 w1 (w.heap.size + 1 + 1) (fun _ => True) (.slice C1 out.length cc1) out, fun w1 => Sure S w1 (fun w => Fu w A n c hs bk ∧ Fl w B m d fl)] [(w.heap.size, (hwC (.slice A n c) (.slice B m d) r), 31), (w.heap.size + 1, #[.slice none 0 0, .slice none 0 0, .int .u8 0, .int .u8 0, .int .u8 0, .int .u8 0, .int .u8 0, .int .u8 0, .int .u8 0, .int .u8 0, .int .u8 0, .int .u8 0, .int .u8 0, .int .u8 0, .int .u8 0, .int .u8 0, .int .u8 0, .int .u8 0], 31), (wr.heap.size, #[.bool cut, .int .i64 fb, .bool noise], 35), (s.g3, (hwC (.slice s.A n s.c) (.slice s.B m s.d) r), 31), (s.g4, #[.int .i64 v1, .string s1], 40)] w' ∧ wr.heap.size ≤ s.z)) (fun s w9 hs9 => ?_) (fun REST => ?_)
        · have H4 := Aside0.mk hs9.out.1
          have WS := Aside0.mk hs9.out.2
          clear hs9 hHeld
          refine done_ (by kernel_rfl) ?_
          simp only [putAll, Act.put, List.setIfInBounds_toArray, List.set_cons_zero, List.set_cons_succ]
          rcases Decidable.em (¬ q = 0) with hq0 | hq0
          · have hq : (q == 0) = false := beq_eq_false_iff_ne.2 hq0
            go_wp2_with (first | ((with_reducible refine gate_dst (N := 43) rfl ?_); refine loadRowL_ (ty := 31) _ rfl rfl rfl _ _ _ _ _ rfl (H4.out.blk 0 rfl) Try.underlying31 rfl (by kernel_rfl) ?_) | ((with_reducible refine gate_store (t := 31) (p := 6) rfl ?_); refine storeRowSt_ (ty := 31) rfl rfl rfl (hwC (.slice A n c) (.slice B m d) r) H4.out 1 rfl rfl rfl (by kernel_rfl) rfl (by kernel_rfl) ?_; intro y4 h_; have H5 := Aside0.mk (h_.as [(w.heap.size, (hwC (.slice A n c) (.slice B m d) r), 31), (w.heap.size + 1, (hwC (.slice A n c) (.slice B m d) r), 31), (wr.heap.size, _, 35), (s.g3, (hwC (.slice s.A n s.c) (.slice s.B m s.d) r), 31), (s.g4, #[.int .i64 v1, .string s1], 40)] rfl); clear h_))
            refine bodyPost_ret (results_ctt rfl _ _ (w.heap.size + 1) 31 (hwC (.slice A n c) (.slice B m d) r) (0, 0) _ rfl (H5.out.blk 1 rfl) Try.underlying31 rfl (by kernel_rfl)) rfl ?_
            have RUN := I0.out.run
            rw [HD.out, allR_err E5.out hq0] at RUN
            subst RUN
            exact ⟨_, _, _, _, _, _, _, rfl, I0.out.fin H5.out WS.out (((H5.out.sureNew 2 rfl).imp fun _ h => h.here).and ((H5.out.sureNew 1 rfl).imp fun _ h => RowsOf.of_C (Kd.R_reads' h).2.2 rfl rrK_V))⟩
          obtain rfl : q = 0 := Decidable.not_not.1 hq0
          cases cut with
          | true =>
              go_wp2_with (first | ((with_reducible refine gate_dst (N := 46) rfl ?_); refine loadRowL_ (ty := 31) _ rfl rfl rfl _ _ _ _ _ rfl (H4.out.blk 3 rfl) Try.underlying31 rfl (by kernel_rfl) ?_) | ((with_reducible refine gate_store (t := 31) (p := 3) rfl ?_); refine storeRowSt_ (ty := 31) rfl rfl rfl (hwC (.slice s.A n s.c) (.slice s.B m s.d) r) H4.out 0 rfl rfl rfl (by kernel_rfl) rfl (by kernel_rfl) ?_; intro y4 h_; have H5 := Aside0.mk (h_.as [(w.heap.size, (hwC (.slice s.A n s.c) (.slice s.B m s.d) r), 31), (w.heap.size + 1, #[.slice none 0 0, .slice none 0 0, .int .u8 0, .int .u8 0, .int .u8 0, .int .u8 0, .int .u8 0, .int .u8 0, .int .u8 0, .int .u8 0, .int .u8 0, .int .u8 0, .int .u8 0, .int .u8 0, .int .u8 0, .int .u8 0, .int .u8 0, .int .u8 0], 31), (wr.heap.size, _, 35), (s.g3, (hwC (.slice s.A n s.c) (.slice s.B m s.d) r), 31), (s.g4, #[.int .i64 v1, .string s1], 40)] rfl); clear h_; have kc := H5.out.cell 2 rfl 0 rfl) | ((with_reducible refine gate_dst (N := 49) rfl ?_); refine loadRowL_ (ty := 31) _ rfl rfl rfl _ _ _ _ _ rfl (H5.out.blk 0 rfl) Try.underlying31 rfl (by kernel_rfl) ?_) | ((with_reducible refine gate_store (t := 31) (p := 6) rfl ?_); refine storeRowSt_ (ty := 31) rfl rfl rfl (hwC (.slice s.A n s.c) (.slice s.B m s.d) r) H5.out 1 rfl rfl rfl (by kernel_rfl) rfl (by kernel_rfl) ?_; intro y5 h_; have H6 := Aside0.mk (h_.as [(w.heap.size, (hwC (.slice s.A n s.c) (.slice s.B m s.d) r), 31), (w.heap.size + 1, (hwC (.slice s.A n s.c) (.slice s.B m s.d) r), 31), (wr.heap.size, _, 35), (s.g3, (hwC (.slice s.A n s.c) (.slice s.B m s.d) r), 31), (s.g4, #[.int .i64 v1, .string s1], 40)] rfl); clear h_ kc))
              refine bodyPost_ret (results_ctt rfl _ _ (w.heap.size + 1) 31 (hwC (.slice s.A n s.c) (.slice s.B m s.d) r) (0, 0) _ rfl (H6.out.blk 1 rfl) Try.underlying31 rfl (by kernel_rfl)) rfl ?_
              have RUN := I0.out.run
              rw [HD.out, allR_cut FT.out E5.out E1.out E2.out] at RUN
              subst RUN
              exact ⟨_, _, _, _, _, _, _, rfl, I0.out.fin H6.out WS.out (((H6.out.sureNew 0 rfl).imp fun _ h => h.here).and ((H6.out.sureNew 1 rfl).imp fun _ h => RowsOf.of_C (Kd.R_reads' h).2.2 rfl rrK_V))⟩
          | false =>
              go_wp2_with (first | ((with_reducible refine gate_dst (N := 46) rfl ?_); refine loadRowL_ (ty := 31) _ rfl rfl rfl _ _ _ _ _ rfl (H4.out.blk 3 rfl) Try.underlying31 rfl (by kernel_rfl) ?_) | ((with_reducible refine gate_store (t := 31) (p := 3) rfl ?_); refine storeRowSt_ (ty := 31) rfl rfl rfl (hwC (.slice s.A n s.c) (.slice s.B m s.d) r) H4.out 0 rfl rfl rfl (by kernel_rfl) rfl (by kernel_rfl) ?_; intro y4 h_; have H5 := Aside0.mk (h_.as [(w.heap.size, (hwC (.slice s.A n s.c) (.slice s.B m s.d) r), 31), (w.heap.size + 1, #[.slice none 0 0, .slice none 0 0, .int .u8 0, .int .u8 0, .int .u8 0, .int .u8 0, .int .u8 0, .int .u8 0, .int .u8 0, .int .u8 0, .int .u8 0, .int .u8 0, .int .u8 0, .int .u8 0, .int .u8 0, .int .u8 0, .int .u8 0, .int .u8 0], 31), (wr.heap.size, _, 35), (s.g3, (hwC (.slice s.A n s.c) (.slice s.B m s.d) r), 31), (s.g4, #[.int .i64 v1, .string s1], 40)] rfl); clear h_; have kc := H5.out.cell 2 rfl 0 rfl) | ((with_reducible refine gate_dst (N := 52) rfl ?_); refine loadRowL_ (ty := 40) _ rfl rfl rfl _ _ _ _ _ rfl (H5.out.blk 4 rfl) Try.underlying40 rfl (by kernel_rfl) ?_) | (at_builtin; refine Kd.R_append rrK (w0 := y4) (w.heap.size + 1 + 1) rfl (.tmp 51) (.tmp 53) 51 40 (.agg #[.int .i64 0, .string ⟨#[]⟩]) 24 rfl Try.underlying51 info_rr rfl (by decide) (by decide) (.slice C1 out.length cc1) out (v1, s1) [.int .i64 v1, .string s1] (fun _ => True) (fun _ => False) rfl rfl (rr_M _ _ _ _ _) (fun _ hk => hk.elim) (fun _ _ => trivial) (H5.out.at 1 rfl) (Below.refl _ _) (by have := H5.out.lt 1 rfl; omega) (by have := LK.out; omega) ?_; intro v2 w2 ho hb hg hat; clear kc; have RO := Aside0.mk ho; have GR := Aside0.mk hg; have AT := Aside0.mk hat; clear ho hb hg hat))
              go_roundw
              case rel =>
                have RUN := I0.out.run
                rw [HD.out, allR_go FT.out E5.out E1.out E2.out E3.out E4.out] at RUN
                exact ⟨k + 1, s.A, s.c, s.hs, s.B, s.d, bk1, fl1, out ++ [(v1, s1)], _, by omega, by go_num, ⟨I0.out.next (os := [(wr.heap.size, _, 35), (s.g3, (hwC (.slice s.A n s.c) (.slice s.B m s.d) r), 31), (s.g4, #[.int .i64 v1, .string s1], 40)]) H5.out WS.out GR.out RO.out AT.out RUN (by simp [LK.out]) OK1.out OK2.out⟩⟩
              case measure => simp [intOf]; omega
        simp only [putAll, Act.put, List.setIfInBounds_toArray, List.set_cons_zero, List.set_cons_succ] at REST
        refine pure_ (i := 1) (N := (some 32)) (v := ?_) (a' := ?_) #[false, true, false, false, false, false, false, false, false, false, false, false, false, false, false, false] rfl rfl (by kernel_rfl) (fun _ _ _ h => h) (Or.inl ⟨by rfl, ?_⟩) ?_ ?_
        rotate_left
        · intro w'
          go_simp
          try with_reducible rfl
        rotate_left
        · simp only [Act.put, List.setIfInBounds_toArray, List.set_cons_zero, List.set_cons_succ, i64_w, i32_w]
          rfl
        refine pure_ (i := 2) (N := (some 33)) (v := ?_) (a' := ?_) #[false, true, true, false, false, false, false, false, false, false, false, false, false, false, false, false] rfl rfl (by kernel_rfl) (fun _ _ _ h => h) (Or.inl ⟨by rfl, ?_⟩) ?_ ?_
        rotate_left
        · intro w'
          go_simp
          try with_reducible rfl
        rotate_left
        · simp only [Act.put, List.setIfInBounds_toArray, List.set_cons_zero, List.set_cons_succ, i64_w, i32_w]
          rfl
        refine pure_ (i := 3) (N := (some 34)) (v := ?_) (a' := ?_) #[false, true, true, true, false, false, false, false, false, false, false, false, false, false, false, false] rfl rfl (by kernel_rfl) (fun _ _ _ h => h) (Or.inl ⟨by rfl, ?_⟩) ?_ ?_
        rotate_left
        · intro w'
          go_simp
          try with_reducible rfl
        rotate_left
        · simp only [Act.put, List.setIfInBounds_toArray, List.set_cons_zero, List.set_cons_succ, i64_w, i32_w]
          rfl
        refine take_ (i := 0) (N := (some 31)) (v := ?_) (a' := ?_) #[true, true, true, true, false, false, false, false, false, false, false, false, false, false, false, false] rfl rfl (by kernel_rfl) (fun _ _ _ h => h) (Or.inl ⟨by rfl, ?_⟩) hHeld ?_ ?_
        rotate_left
        · rintro w' ⟨s0, s1, s2⟩
          refine load_row (ty := 31) (p := .tmp 3) _ _ _ _ _ ?p1 ?p2 s0 Try.underlying31 ?p4 ?p5; (case p1 => rfl); (case p2 => rfl); (case p4 => rfl); (case p5 => kernel_rfl)
        rotate_left
        · simp only [Act.put, List.setIfInBounds_toArray, List.set_cons_zero, List.set_cons_succ, i64_w, i32_w]
          rfl
        refine take_ (i := 4) (N := (some 35)) (v := ?_) (a' := ?_) #[true, true, true, true, true, false, false, false, false, false, false, false, false, false, false, false] rfl rfl (by kernel_rfl) (fun _ _ _ h => h) (Or.inl ⟨by rfl, ?_⟩) hHeld ?_ ?_
        rotate_left
        · rintro w' ⟨s0, s1, s2⟩
          refine load_el (ty := 33) (p := .tmp 34) (ad.add (k * 4)) #[.int .i64 kd, .int .i64 bank, .int .i64 cell, .string b] _ ?p1 ?p2 s2 Try.underlying33 ?p4 ?p5; (case p1 => rfl); (case p2 => rfl); (case p4 => rfl); (case p5 => kernel_rfl)
        rotate_left
        · simp only [Act.put, List.setIfInBounds_toArray, List.set_cons_zero, List.set_cons_succ, i64_w, i32_w]
          rfl
        refine take_ (i := 5) (N := (some 36)) (v := ?_) (a' := ?_) #[true, true, true, true, true, true, false, false, false, false, false, false, false, false, false, false] rfl rfl (by kernel_rfl) (fun _ _ _ h => h) (Or.inl ⟨by rfl, ?_⟩) hHeld ?_ ?_
        rotate_left
        · rintro w' ⟨s0, s1, s2⟩
          refine load_row (ty := 35) (p := .tmp 11) _ _ _ _ _ ?p1 ?p2 s1 Try.underlying35 ?p4 ?p5; (case p1 => rfl); (case p2 => rfl); (case p4 => rfl); (case p5 => kernel_rfl)
        rotate_left
        · simp only [Act.put, List.setIfInBounds_toArray, List.set_cons_zero, List.set_cons_succ, i64_w, i32_w]
          rfl
        refine three_ (i := 6) (j := 11) (k := 12) (Ni := (some 37)) (Nj := (some 12)) (Nk := (some 13)) #[true, true, true, true, true, true, true, false, false, false, false, false, false, false, false, false] #[true, true, true, true, true, true, false, false, false, false, false, true, false, false, false, false] #[true, true, true, true, true, true, false, false, false, false, false, false, true, false, false, false] rfl rfl rfl rfl rfl rfl (by kernel_rfl) (by decide) (by decide) (by decide) (fun K hK => ?_) (fun K hK => ?_) (fun K hK => ?_)
        ·
          refine goes_ Try.func11 (by kernel_rfl) rfl #[.agg (hwC (.slice A n c) (.slice B m d) r), .agg #[.int .i64 kd, .int .i64 bank, .int .i64 cell, .string b], .agg #[.bool cut, .int .i64 fb, .bool noise]] (by rfl) rfl rfl ?hargs ((rdo_at kd bank cell b cut fb noise bk1 fl1 v1 s1 q (fun k hk => H2.out.drew.dom k (.inl hk)) ((H2.out.drew.at 1 rfl).imp fun _ h => h.1) ((H2.out.drew.at 1 rfl).imp fun _ h => h.2) hn I0.out.okb I0.out.okf E1.out E2.out E3.out E4.out E5.out).mono ?_)
          case hargs => first | rfl | (go_simp; done) | kernel_rfl
          rintro e w3 ⟨A1, c1, hs1, B1, d1, rfl, hb⟩
          refine ⟨_, rfl, ?_⟩
          have H3 := Aside0.mk (H2.out.drew.callS hb (fun _ hk => .inl hk))
          have WS := Aside0.mk (Nat.le_of_lt (H2.out.drew.lt 2 rfl))
          clear hb
          refine hK.out _ _ ⟨H3.out.blk 0 rfl, H3.out.blk 2 rfl, HX.out _ H3.out.bel⟩ (fun hHeld => ?_)
          clear hK K
          refine norm_ (a' := ?_) ?_ ?_
          rotate_left
          · show Act.put _ (some 37) _ = _
            simp only [Act.put, List.setIfInBounds_toArray, List.set_cons_zero, List.set_cons_succ, i64_w, i32_w]
            rfl
          refine pure_ (i := 7) (N := (some 30)) (v := ?_) (a' := ?_) #[true, true, true, true, true, true, true, true, false, false, false, false, false, false, false, false] rfl rfl (by kernel_rfl) (fun _ _ _ h => h) (Or.inl ⟨by rfl, ?_⟩) ?_ ?_
          rotate_left
          · intro w'
            go_simp
            try with_reducible rfl
          rotate_left
          · simp only [Act.put, List.setIfInBounds_toArray, List.set_cons_zero, List.set_cons_succ, i64_w, i32_w]
            rfl
          refine pure_ (i := 8) (N := (some 38)) (v := ?_) (a' := ?_) #[true, true, true, true, true, true, true, true, true, false, false, false, false, false, false, false] rfl rfl (by kernel_rfl) (fun _ _ _ h => h) (Or.inl ⟨by rfl, ?_⟩) ?_ ?_
          rotate_left
          · intro w'
            go_simp
            try with_reducible rfl
          rotate_left
          · simp only [Act.put, List.setIfInBounds_toArray, List.set_cons_zero, List.set_cons_succ, i64_w, i32_w]
            rfl
          refine pure_ (i := 9) (N := (some 39)) (v := ?_) (a' := ?_) #[true, true, true, true, true, true, true, true, true, true, false, false, false, false, false, false] rfl rfl (by kernel_rfl) (fun _ _ _ h => h) (Or.inl ⟨by rfl, ?_⟩) ?_ ?_
          rotate_left
          · intro w'
            go_simp
            try with_reducible rfl
          rotate_left
          · simp only [Act.put, List.setIfInBounds_toArray, List.set_cons_zero, List.set_cons_succ, i64_w, i32_w]
            rfl
          refine pure_ (i := 10) (N := (some 40)) (v := ?_) (a' := ?_) #[true, true, true, true, true, true, true, true, true, true, true, false, false, false, false, false] rfl rfl (by kernel_rfl) (fun _ _ _ h => h) (Or.inl ⟨by rfl, ?_⟩) ?_ ?_
          rotate_left
          · intro w'
            go_simp
            try with_reducible rfl
          rotate_left
          · simp only [Act.put, List.setIfInBounds_toArray, List.set_cons_zero, List.set_cons_succ, i64_w, i32_w]
            rfl
          refine two_ (i := 11) (j := 12) (Ni := (some 12)) (Nj := (some 13)) #[true, true, true, true, true, true, true, true, true, true, true, true, false, false, false, false] #[true, true, true, true, true, true, true, true, true, true, true, false, true, false, false, false] rfl rfl rfl rfl (by kernel_rfl) (by decide) (by decide) (fun K hK => ?_) (fun K hK => ?_)
          ·
            refine value_ (w1 := ?_) (v := ?_) (by rfl) rfl ?_ ?_
            rotate_left 2
            · go_simp
              constructor
              · rfl
              · rfl
            have H4 := Aside0.mk (H3.out.alloc_ (q := w3.heap.size) (by simp) #[.slice none 0 0, .slice none 0 0, .int .u8 0, .int .u8 0, .int .u8 0, .int .u8 0, .int .u8 0, .int .u8 0, .int .u8 0, .int .u8 0, .int .u8 0, .int .u8 0, .int .u8 0, .int .u8 0, .int .u8 0, .int .u8 0, .int .u8 0, .int .u8 0] 31)
            refine hK.out _ _ ⟨H4.out.blk 0 rfl, H4.out.blk 2 rfl, HX.out _ H4.out.bel⟩ (fun hHeld => ?_)
            clear hK K
            refine norm_ (a' := ?_) ?_ ?_
            rotate_left
            · show Act.put _ (some 12) _ = _
              simp only [Act.put, List.setIfInBounds_toArray, List.set_cons_zero, List.set_cons_succ, i64_w, i32_w]
              rfl
            refine one_ (i := 12) (N := (some 13)) #[true, true, true, true, true, true, true, true, true, true, true, true, true, false, false, false] rfl rfl (by kernel_rfl) (by decide) (fun K hK => ?_)
            refine value_ (w1 := ?_) (v := ?_) (by rfl) rfl ?_ ?_
            rotate_left 2
            · go_simp
              constructor
              · rfl
              · rfl
            have H5 := Aside0.mk (H4.out.alloc_ (q := w3.heap.size + 1) (by simp) #[.int .i64 0, .string ⟨#[]⟩] 40)
            refine hK.out _ _ ⟨H5.out.blk 0 rfl, H5.out.blk 2 rfl, HX.out _ H5.out.bel⟩ (fun hHeld => ?_)
            clear hK K
            refine norm_ (a' := ?_) ?_ ?_
            rotate_left
            · show Act.put _ (some 13) _ = _
              simp only [Act.put, List.setIfInBounds_toArray, List.set_cons_zero, List.set_cons_succ, i64_w, i32_w]
              rfl
            refine one_ (i := 13) (N := none) #[true, true, true, true, true, true, true, true, true, true, true, true, true, true, false, false] rfl rfl (by kernel_rfl) (by decide) (fun K hK => ?_)
            refine skip_ (by rfl) rfl (store_row (ty := 31) (p := .tmp 12) (q := .tmp 38) _ _ _ (hwC (.slice A1 n c1) (.slice B1 m d1) r) rfl rfl rfl (H5.out.blk 3 rfl) (by kernel_rfl) rfl (by kernel_rfl)) ?_
            have H6 := Aside0.mk (H5.out.setRow 3 rfl (hwC (.slice A1 n c1) (.slice B1 m d1) r))
            refine hK.out _ _ ⟨H6.out.blk 0 rfl, H6.out.blk 2 rfl, HX.out _ H6.out.bel⟩ (fun hHeld => ?_)
            clear hK K
            refine one_ (i := 14) (N := none) #[true, true, true, true, true, true, true, true, true, true, true, true, true, true, true, false] rfl rfl (by kernel_rfl) (by decide) (fun K hK => ?_)
            refine skip_ (by rfl) rfl (store_row (ty := 40) (p := .tmp 13) (q := .tmp 39) _ _ _ #[.int .i64 v1, .string s1] rfl rfl rfl (H6.out.blk 4 rfl) (by kernel_rfl) rfl (by kernel_rfl)) ?_
            have H7 := Aside0.mk (H6.out.setRow 4 rfl #[.int .i64 v1, .string s1])
            refine hK.out _ _ ⟨H7.out.blk 0 rfl, H7.out.blk 2 rfl, HX.out _ H7.out.bel⟩ (fun hHeld => ?_)
            clear hK K
            refine pure_ (i := 15) (N := (some 14)) (v := ?_) (a' := ?_) #[true, true, true, true, true, true, true, true, true, true, true, true, true, true, true, true] rfl rfl (by kernel_rfl) (fun _ _ _ h => h) (Or.inl ⟨by rfl, ?_⟩) ?_ ?_
            rotate_left
            · intro w'
              go_simp
              try with_reducible rfl
            rotate_left
            · simp only [Act.put, List.setIfInBounds_toArray, List.set_cons_zero, List.set_cons_succ, i64_w, i32_w]
              rfl
            exact REST ⟨_, _, A1, c1, hs1, B1, d1, _, _⟩ _ ⟨⟨H7.out.pick [0, 1, 2, 3, 4] _ rfl (by decide), WS.out⟩⟩
          ·
            refine value_ (w1 := ?_) (v := ?_) (by rfl) rfl ?_ ?_
            rotate_left 2
            · go_simp
              constructor
              · rfl
              · rfl
            have H4 := Aside0.mk (H3.out.alloc_ (q := w3.heap.size) (by simp) #[.int .i64 0, .string ⟨#[]⟩] 40)
            refine hK.out _ _ ⟨H4.out.blk 0 rfl, H4.out.blk 2 rfl, HX.out _ H4.out.bel⟩ (fun hHeld => ?_)
            clear hK K
            refine norm_ (a' := ?_) ?_ ?_
            rotate_left
            · show Act.put _ (some 13) _ = _
              simp only [Act.put, List.setIfInBounds_toArray, List.set_cons_zero, List.set_cons_succ, i64_w, i32_w]
              rfl
            refine one_ (i := 11) (N := (some 12)) #[true, true, true, true, true, true, true, true, true, true, true, true, true, false, false, false] rfl rfl (by kernel_rfl) (by decide) (fun K hK => ?_)
            refine value_ (w1 := ?_) (v := ?_) (by rfl) rfl ?_ ?_
            rotate_left 2
            · go_simp
              constructor
              · rfl
              · rfl
            have H5 := Aside0.mk (H4.out.alloc_ (q := w3.heap.size + 1) (by simp) #[.slice none 0 0, .slice none 0 0, .int .u8 0, .int .u8 0, .int .u8 0, .int .u8 0, .int .u8 0, .int .u8 0, .int .u8 0, .int .u8 0, .int .u8 0, .int .u8 0, .int .u8 0, .int .u8 0, .int .u8 0, .int .u8 0, .int .u8 0, .int .u8 0] 31)
            refine hK.out _ _ ⟨H5.out.blk 0 rfl, H5.out.blk 2 rfl, HX.out _ H5.out.bel⟩ (fun hHeld => ?_)
            clear hK K
            refine norm_ (a' := ?_) ?_ ?_
            rotate_left
            · show Act.put _ (some 12) _ = _
              simp only [Act.put, List.setIfInBounds_toArray, List.set_cons_zero, List.set_cons_succ, i64_w, i32_w]
              rfl
            refine one_ (i := 13) (N := none) #[true, true, true, true, true, true, true, true, true, true, true, true, true, true, false, false] rfl rfl (by kernel_rfl) (by decide) (fun K hK => ?_)
            refine skip_ (by rfl) rfl (store_row (ty := 31) (p := .tmp 12) (q := .tmp 38) _ _ _ (hwC (.slice A1 n c1) (.slice B1 m d1) r) rfl rfl rfl (H5.out.blk 4 rfl) (by kernel_rfl) rfl (by kernel_rfl)) ?_
            have H6 := Aside0.mk (H5.out.setRow 4 rfl (hwC (.slice A1 n c1) (.slice B1 m d1) r))
            refine hK.out _ _ ⟨H6.out.blk 0 rfl, H6.out.blk 2 rfl, HX.out _ H6.out.bel⟩ (fun hHeld => ?_)
            clear hK K
            refine one_ (i := 14) (N := none) #[true, true, true, true, true, true, true, true, true, true, true, true, true, true, true, false] rfl rfl (by kernel_rfl) (by decide) (fun K hK => ?_)
            refine skip_ (by rfl) rfl (store_row (ty := 40) (p := .tmp 13) (q := .tmp 39) _ _ _ #[.int .i64 v1, .string s1] rfl rfl rfl (H6.out.blk 3 rfl) (by kernel_rfl) rfl (by kernel_rfl)) ?_
            have H7 := Aside0.mk (H6.out.setRow 3 rfl #[.int .i64 v1, .string s1])
            refine hK.out _ _ ⟨H7.out.blk 0 rfl, H7.out.blk 2 rfl, HX.out _ H7.out.bel⟩ (fun hHeld => ?_)
            clear hK K
            refine pure_ (i := 15) (N := (some 14)) (v := ?_) (a' := ?_) #[true, true, true, true, true, true, true, true, true, true, true, true, true, true, true, true] rfl rfl (by kernel_rfl) (fun _ _ _ h => h) (Or.inl ⟨by rfl, ?_⟩) ?_ ?_
            rotate_left
            · intro w'
              go_simp
              try with_reducible rfl
            rotate_left
            · simp only [Act.put, List.setIfInBounds_toArray, List.set_cons_zero, List.set_cons_succ, i64_w, i32_w]
              rfl
            exact REST ⟨_, _, A1, c1, hs1, B1, d1, _, _⟩ _ ⟨⟨H7.out.pick [0, 1, 2, 4, 3] _ rfl (by decide), WS.out⟩⟩
        ·
          refine value_ (w1 := ?_) (v := ?_) (by rfl) rfl ?_ ?_
          rotate_left 2
          · go_simp
            constructor
            · rfl
            · rfl
          have H3 := Aside0.mk (H2.out.drew.alloc_ (q := y1.heap.size) (by simp) #[.slice none 0 0, .slice none 0 0, .int .u8 0, .int .u8 0, .int .u8 0, .int .u8 0, .int .u8 0, .int .u8 0, .int .u8 0, .int .u8 0, .int .u8 0, .int .u8 0, .int .u8 0, .int .u8 0, .int .u8 0, .int .u8 0, .int .u8 0, .int .u8 0] 31)
          refine hK.out _ _ ⟨H3.out.blk 0 rfl, H3.out.blk 2 rfl, HX.out _ H3.out.bel⟩ (fun hHeld => ?_)
          clear hK K
          refine norm_ (a' := ?_) ?_ ?_
          rotate_left
          · show Act.put _ (some 12) _ = _
            simp only [Act.put, List.setIfInBounds_toArray, List.set_cons_zero, List.set_cons_succ, i64_w, i32_w]
            rfl
          refine two_ (i := 6) (j := 12) (Ni := (some 37)) (Nj := (some 13)) #[true, true, true, true, true, true, true, false, false, false, false, true, false, false, false, false] #[true, true, true, true, true, true, false, false, false, false, false, true, true, false, false, false] rfl rfl rfl rfl (by kernel_rfl) (by decide) (by decide) (fun K hK => ?_) (fun K hK => ?_)
          ·
            refine goes_ Try.func11 (by kernel_rfl) rfl #[.agg (hwC (.slice A n c) (.slice B m d) r), .agg #[.int .i64 kd, .int .i64 bank, .int .i64 cell, .string b], .agg #[.bool cut, .int .i64 fb, .bool noise]] (by rfl) rfl rfl ?hargs ((rdo_at kd bank cell b cut fb noise bk1 fl1 v1 s1 q (fun k hk => H3.out.dom k (.inl hk)) ((H3.out.at 1 rfl).imp fun _ h => h.1) ((H3.out.at 1 rfl).imp fun _ h => h.2) hn I0.out.okb I0.out.okf E1.out E2.out E3.out E4.out E5.out).mono ?_)
            case hargs => first | rfl | (go_simp; done) | kernel_rfl
            rintro e w4 ⟨A1, c1, hs1, B1, d1, rfl, hb⟩
            refine ⟨_, rfl, ?_⟩
            have H4 := Aside0.mk (H3.out.callS hb (fun _ hk => .inl hk))
            have WS := Aside0.mk (Nat.le_of_lt (H3.out.lt 2 rfl))
            clear hb
            refine hK.out _ _ ⟨H4.out.blk 0 rfl, H4.out.blk 2 rfl, HX.out _ H4.out.bel⟩ (fun hHeld => ?_)
            clear hK K
            refine norm_ (a' := ?_) ?_ ?_
            rotate_left
            · show Act.put _ (some 37) _ = _
              simp only [Act.put, List.setIfInBounds_toArray, List.set_cons_zero, List.set_cons_succ, i64_w, i32_w]
              rfl
            refine pure_ (i := 7) (N := (some 30)) (v := ?_) (a' := ?_) #[true, true, true, true, true, true, true, true, false, false, false, true, false, false, false, false] rfl rfl (by kernel_rfl) (fun _ _ _ h => h) (Or.inl ⟨by rfl, ?_⟩) ?_ ?_
            rotate_left
            · intro w'
              go_simp
              try with_reducible rfl
            rotate_left
            · simp only [Act.put, List.setIfInBounds_toArray, List.set_cons_zero, List.set_cons_succ, i64_w, i32_w]
              rfl
            refine pure_ (i := 8) (N := (some 38)) (v := ?_) (a' := ?_) #[true, true, true, true, true, true, true, true, true, false, false, true, false, false, false, false] rfl rfl (by kernel_rfl) (fun _ _ _ h => h) (Or.inl ⟨by rfl, ?_⟩) ?_ ?_
            rotate_left
            · intro w'
              go_simp
              try with_reducible rfl
            rotate_left
            · simp only [Act.put, List.setIfInBounds_toArray, List.set_cons_zero, List.set_cons_succ, i64_w, i32_w]
              rfl
            refine pure_ (i := 9) (N := (some 39)) (v := ?_) (a' := ?_) #[true, true, true, true, true, true, true, true, true, true, false, true, false, false, false, false] rfl rfl (by kernel_rfl) (fun _ _ _ h => h) (Or.inl ⟨by rfl, ?_⟩) ?_ ?_
            rotate_left
            · intro w'
              go_simp
              try with_reducible rfl
            rotate_left
            · simp only [Act.put, List.setIfInBounds_toArray, List.set_cons_zero, List.set_cons_succ, i64_w, i32_w]
              rfl
            refine pure_ (i := 10) (N := (some 40)) (v := ?_) (a' := ?_) #[true, true, true, true, true, true, true, true, true, true, true, true, false, false, false, false] rfl rfl (by kernel_rfl) (fun _ _ _ h => h) (Or.inl ⟨by rfl, ?_⟩) ?_ ?_
            rotate_left
            · intro w'
              go_simp
              try with_reducible rfl
            rotate_left
            · simp only [Act.put, List.setIfInBounds_toArray, List.set_cons_zero, List.set_cons_succ, i64_w, i32_w]
              rfl
            refine one_ (i := 12) (N := (some 13)) #[true, true, true, true, true, true, true, true, true, true, true, true, true, false, false, false] rfl rfl (by kernel_rfl) (by decide) (fun K hK => ?_)
            refine value_ (w1 := ?_) (v := ?_) (by rfl) rfl ?_ ?_
            rotate_left 2
            · go_simp
              constructor
              · rfl
              · rfl
            have H5 := Aside0.mk (H4.out.alloc_ (q := w4.heap.size) (by simp) #[.int .i64 0, .string ⟨#[]⟩] 40)
            refine hK.out _ _ ⟨H5.out.blk 0 rfl, H5.out.blk 2 rfl, HX.out _ H5.out.bel⟩ (fun hHeld => ?_)
            clear hK K
            refine norm_ (a' := ?_) ?_ ?_
            rotate_left
            · show Act.put _ (some 13) _ = _
              simp only [Act.put, List.setIfInBounds_toArray, List.set_cons_zero, List.set_cons_succ, i64_w, i32_w]
              rfl
            refine one_ (i := 13) (N := none) #[true, true, true, true, true, true, true, true, true, true, true, true, true, true, false, false] rfl rfl (by kernel_rfl) (by decide) (fun K hK => ?_)
            refine skip_ (by rfl) rfl (store_row (ty := 31) (p := .tmp 12) (q := .tmp 38) _ _ _ (hwC (.slice A1 n c1) (.slice B1 m d1) r) rfl rfl rfl (H5.out.blk 3 rfl) (by kernel_rfl) rfl (by kernel_rfl)) ?_
            have H6 := Aside0.mk (H5.out.setRow 3 rfl (hwC (.slice A1 n c1) (.slice B1 m d1) r))
            refine hK.out _ _ ⟨H6.out.blk 0 rfl, H6.out.blk 2 rfl, HX.out _ H6.out.bel⟩ (fun hHeld => ?_)
            clear hK K
            refine one_ (i := 14) (N := none) #[true, true, true, true, true, true, true, true, true, true, true, true, true, true, true, false] rfl rfl (by kernel_rfl) (by decide) (fun K hK => ?_)
            refine skip_ (by rfl) rfl (store_row (ty := 40) (p := .tmp 13) (q := .tmp 39) _ _ _ #[.int .i64 v1, .string s1] rfl rfl rfl (H6.out.blk 4 rfl) (by kernel_rfl) rfl (by kernel_rfl)) ?_
            have H7 := Aside0.mk (H6.out.setRow 4 rfl #[.int .i64 v1, .string s1])
            refine hK.out _ _ ⟨H7.out.blk 0 rfl, H7.out.blk 2 rfl, HX.out _ H7.out.bel⟩ (fun hHeld => ?_)
            clear hK K
            refine pure_ (i := 15) (N := (some 14)) (v := ?_) (a' := ?_) #[true, true, true, true, true, true, true, true, true, true, true, true, true, true, true, true] rfl rfl (by kernel_rfl) (fun _ _ _ h => h) (Or.inl ⟨by rfl, ?_⟩) ?_ ?_
            rotate_left
            · intro w'
              go_simp
              try with_reducible rfl
            rotate_left
            · simp only [Act.put, List.setIfInBounds_toArray, List.set_cons_zero, List.set_cons_succ, i64_w, i32_w]
              rfl
            exact REST ⟨_, _, A1, c1, hs1, B1, d1, _, _⟩ _ ⟨⟨H7.out.pick [0, 1, 2, 3, 4] _ rfl (by decide), WS.out⟩⟩
          ·
            refine value_ (w1 := ?_) (v := ?_) (by rfl) rfl ?_ ?_
            rotate_left 2
            · go_simp
              constructor
              · rfl
              · rfl
            have H4 := Aside0.mk (H3.out.alloc_ (q := y1.heap.size + 1) (by simp) #[.int .i64 0, .string ⟨#[]⟩] 40)
            refine hK.out _ _ ⟨H4.out.blk 0 rfl, H4.out.blk 2 rfl, HX.out _ H4.out.bel⟩ (fun hHeld => ?_)
            clear hK K
            refine norm_ (a' := ?_) ?_ ?_
            rotate_left
            · show Act.put _ (some 13) _ = _
              simp only [Act.put, List.setIfInBounds_toArray, List.set_cons_zero, List.set_cons_succ, i64_w, i32_w]
              rfl
            refine one_ (i := 6) (N := (some 37)) #[true, true, true, true, true, true, true, false, false, false, false, true, true, false, false, false] rfl rfl (by kernel_rfl) (by decide) (fun K hK => ?_)
            refine goes_ Try.func11 (by kernel_rfl) rfl #[.agg (hwC (.slice A n c) (.slice B m d) r), .agg #[.int .i64 kd, .int .i64 bank, .int .i64 cell, .string b], .agg #[.bool cut, .int .i64 fb, .bool noise]] (by rfl) rfl rfl ?hargs ((rdo_at kd bank cell b cut fb noise bk1 fl1 v1 s1 q (fun k hk => H4.out.dom k (.inl hk)) ((H4.out.at 1 rfl).imp fun _ h => h.1) ((H4.out.at 1 rfl).imp fun _ h => h.2) hn I0.out.okb I0.out.okf E1.out E2.out E3.out E4.out E5.out).mono ?_)
            case hargs => first | rfl | (go_simp; done) | kernel_rfl
            rintro e w5 ⟨A1, c1, hs1, B1, d1, rfl, hb⟩
            refine ⟨_, rfl, ?_⟩
            have H5 := Aside0.mk (H4.out.callS hb (fun _ hk => .inl hk))
            have WS := Aside0.mk (Nat.le_of_lt (H4.out.lt 2 rfl))
            clear hb
            refine hK.out _ _ ⟨H5.out.blk 0 rfl, H5.out.blk 2 rfl, HX.out _ H5.out.bel⟩ (fun hHeld => ?_)
            clear hK K
            refine norm_ (a' := ?_) ?_ ?_
            rotate_left
            · show Act.put _ (some 37) _ = _
              simp only [Act.put, List.setIfInBounds_toArray, List.set_cons_zero, List.set_cons_succ, i64_w, i32_w]
              rfl
            refine pure_ (i := 7) (N := (some 30)) (v := ?_) (a' := ?_) #[true, true, true, true, true, true, true, true, false, false, false, true, true, false, false, false] rfl rfl (by kernel_rfl) (fun _ _ _ h => h) (Or.inl ⟨by rfl, ?_⟩) ?_ ?_
            rotate_left
            · intro w'
              go_simp
              try with_reducible rfl
            rotate_left
            · simp only [Act.put, List.setIfInBounds_toArray, List.set_cons_zero, List.set_cons_succ, i64_w, i32_w]
              rfl
            refine pure_ (i := 8) (N := (some 38)) (v := ?_) (a' := ?_) #[true, true, true, true, true, true, true, true, true, false, false, true, true, false, false, false] rfl rfl (by kernel_rfl) (fun _ _ _ h => h) (Or.inl ⟨by rfl, ?_⟩) ?_ ?_
            rotate_left
            · intro w'
              go_simp
              try with_reducible rfl
            rotate_left
            · simp only [Act.put, List.setIfInBounds_toArray, List.set_cons_zero, List.set_cons_succ, i64_w, i32_w]
              rfl
            refine pure_ (i := 9) (N := (some 39)) (v := ?_) (a' := ?_) #[true, true, true, true, true, true, true, true, true, true, false, true, true, false, false, false] rfl rfl (by kernel_rfl) (fun _ _ _ h => h) (Or.inl ⟨by rfl, ?_⟩) ?_ ?_
            rotate_left
            · intro w'
              go_simp
              try with_reducible rfl
            rotate_left
            · simp only [Act.put, List.setIfInBounds_toArray, List.set_cons_zero, List.set_cons_succ, i64_w, i32_w]
              rfl
            refine pure_ (i := 10) (N := (some 40)) (v := ?_) (a' := ?_) #[true, true, true, true, true, true, true, true, true, true, true, true, true, false, false, false] rfl rfl (by kernel_rfl) (fun _ _ _ h => h) (Or.inl ⟨by rfl, ?_⟩) ?_ ?_
            rotate_left
            · intro w'
              go_simp
              try with_reducible rfl
            rotate_left
            · simp only [Act.put, List.setIfInBounds_toArray, List.set_cons_zero, List.set_cons_succ, i64_w, i32_w]
              rfl
            refine one_ (i := 13) (N := none) #[true, true, true, true, true, true, true, true, true, true, true, true, true, true, false, false] rfl rfl (by kernel_rfl) (by decide) (fun K hK => ?_)
            refine skip_ (by rfl) rfl (store_row (ty := 31) (p := .tmp 12) (q := .tmp 38) _ _ _ (hwC (.slice A1 n c1) (.slice B1 m d1) r) rfl rfl rfl (H5.out.blk 3 rfl) (by kernel_rfl) rfl (by kernel_rfl)) ?_
            have H6 := Aside0.mk (H5.out.setRow 3 rfl (hwC (.slice A1 n c1) (.slice B1 m d1) r))
            refine hK.out _ _ ⟨H6.out.blk 0 rfl, H6.out.blk 2 rfl, HX.out _ H6.out.bel⟩ (fun hHeld => ?_)
            clear hK K
            refine one_ (i := 14) (N := none) #[true, true, true, true, true, true, true, true, true, true, true, true, true, true, true, false] rfl rfl (by kernel_rfl) (by decide) (fun K hK => ?_)
            refine skip_ (by rfl) rfl (store_row (ty := 40) (p := .tmp 13) (q := .tmp 39) _ _ _ #[.int .i64 v1, .string s1] rfl rfl rfl (H6.out.blk 4 rfl) (by kernel_rfl) rfl (by kernel_rfl)) ?_
            have H7 := Aside0.mk (H6.out.setRow 4 rfl #[.int .i64 v1, .string s1])
            refine hK.out _ _ ⟨H7.out.blk 0 rfl, H7.out.blk 2 rfl, HX.out _ H7.out.bel⟩ (fun hHeld => ?_)
            clear hK K
            refine pure_ (i := 15) (N := (some 14)) (v := ?_) (a' := ?_) #[true, true, true, true, true, true, true, true, true, true, true, true, true, true, true, true] rfl rfl (by kernel_rfl) (fun _ _ _ h => h) (Or.inl ⟨by rfl, ?_⟩) ?_ ?_
            rotate_left
            · intro w'
              go_simp
              try with_reducible rfl
            rotate_left
            · simp only [Act.put, List.setIfInBounds_toArray, List.set_cons_zero, List.set_cons_succ, i64_w, i32_w]
              rfl
            exact REST ⟨_, _, A1, c1, hs1, B1, d1, _, _⟩ _ ⟨⟨H7.out.pick [0, 1, 2, 3, 4] _ rfl (by decide), WS.out⟩⟩
        ·
          refine value_ (w1 := ?_) (v := ?_) (by rfl) rfl ?_ ?_
          rotate_left 2
          · go_simp
            constructor
            · rfl
            · rfl
          have H3 := Aside0.mk (H2.out.drew.alloc_ (q := y1.heap.size) (by simp) #[.int .i64 0, .string ⟨#[]⟩] 40)
          refine hK.out _ _ ⟨H3.out.blk 0 rfl, H3.out.blk 2 rfl, HX.out _ H3.out.bel⟩ (fun hHeld => ?_)
          clear hK K
          refine norm_ (a' := ?_) ?_ ?_
          rotate_left
          · show Act.put _ (some 13) _ = _
            simp only [Act.put, List.setIfInBounds_toArray, List.set_cons_zero, List.set_cons_succ, i64_w, i32_w]
            rfl
          refine two_ (i := 6) (j := 11) (Ni := (some 37)) (Nj := (some 12)) #[true, true, true, true, true, true, true, false, false, false, false, false, true, false, false, false] #[true, true, true, true, true, true, false, false, false, false, false, true, true, false, false, false] rfl rfl rfl rfl (by kernel_rfl) (by decide) (by decide) (fun K hK => ?_) (fun K hK => ?_)
          ·
            refine goes_ Try.func11 (by kernel_rfl) rfl #[.agg (hwC (.slice A n c) (.slice B m d) r), .agg #[.int .i64 kd, .int .i64 bank, .int .i64 cell, .string b], .agg #[.bool cut, .int .i64 fb, .bool noise]] (by rfl) rfl rfl ?hargs ((rdo_at kd bank cell b cut fb noise bk1 fl1 v1 s1 q (fun k hk => H3.out.dom k (.inl hk)) ((H3.out.at 1 rfl).imp fun _ h => h.1) ((H3.out.at 1 rfl).imp fun _ h => h.2) hn I0.out.okb I0.out.okf E1.out E2.out E3.out E4.out E5.out).mono ?_)
            case hargs => first | rfl | (go_simp; done) | kernel_rfl
            rintro e w4 ⟨A1, c1, hs1, B1, d1, rfl, hb⟩
            refine ⟨_, rfl, ?_⟩
            have H4 := Aside0.mk (H3.out.callS hb (fun _ hk => .inl hk))
            have WS := Aside0.mk (Nat.le_of_lt (H3.out.lt 2 rfl))
            clear hb
            refine hK.out _ _ ⟨H4.out.blk 0 rfl, H4.out.blk 2 rfl, HX.out _ H4.out.bel⟩ (fun hHeld => ?_)
            clear hK K
            refine norm_ (a' := ?_) ?_ ?_
            rotate_left
            · show Act.put _ (some 37) _ = _
              simp only [Act.put, List.setIfInBounds_toArray, List.set_cons_zero, List.set_cons_succ, i64_w, i32_w]
              rfl
            refine pure_ (i := 7) (N := (some 30)) (v := ?_) (a' := ?_) #[true, true, true, true, true, true, true, true, false, false, false, false, true, false, false, false] rfl rfl (by kernel_rfl) (fun _ _ _ h => h) (Or.inl ⟨by rfl, ?_⟩) ?_ ?_
            rotate_left
            · intro w'
              go_simp
              try with_reducible rfl
            rotate_left
            · simp only [Act.put, List.setIfInBounds_toArray, List.set_cons_zero, List.set_cons_succ, i64_w, i32_w]
              rfl
            refine pure_ (i := 8) (N := (some 38)) (v := ?_) (a' := ?_) #[true, true, true, true, true, true, true, true, true, false, false, false, true, false, false, false] rfl rfl (by kernel_rfl) (fun _ _ _ h => h) (Or.inl ⟨by rfl, ?_⟩) ?_ ?_
            rotate_left
            · intro w'
              go_simp
              try with_reducible rfl
            rotate_left
            · simp only [Act.put, List.setIfInBounds_toArray, List.set_cons_zero, List.set_cons_succ, i64_w, i32_w]
              rfl
            refine pure_ (i := 9) (N := (some 39)) (v := ?_) (a' := ?_) #[true, true, true, true, true, true, true, true, true, true, false, false, true, false, false, false] rfl rfl (by kernel_rfl) (fun _ _ _ h => h) (Or.inl ⟨by rfl, ?_⟩) ?_ ?_
            rotate_left
            · intro w'
              go_simp
              try with_reducible rfl
            rotate_left
            · simp only [Act.put, List.setIfInBounds_toArray, List.set_cons_zero, List.set_cons_succ, i64_w, i32_w]
              rfl
            refine pure_ (i := 10) (N := (some 40)) (v := ?_) (a' := ?_) #[true, true, true, true, true, true, true, true, true, true, true, false, true, false, false, false] rfl rfl (by kernel_rfl) (fun _ _ _ h => h) (Or.inl ⟨by rfl, ?_⟩) ?_ ?_
            rotate_left
            · intro w'
              go_simp
              try with_reducible rfl
            rotate_left
            · simp only [Act.put, List.setIfInBounds_toArray, List.set_cons_zero, List.set_cons_succ, i64_w, i32_w]
              rfl
            refine one_ (i := 11) (N := (some 12)) #[true, true, true, true, true, true, true, true, true, true, true, true, true, false, false, false] rfl rfl (by kernel_rfl) (by decide) (fun K hK => ?_)
            refine value_ (w1 := ?_) (v := ?_) (by rfl) rfl ?_ ?_
            rotate_left 2
            · go_simp
              constructor
              · rfl
              · rfl
            have H5 := Aside0.mk (H4.out.alloc_ (q := w4.heap.size) (by simp) #[.slice none 0 0, .slice none 0 0, .int .u8 0, .int .u8 0, .int .u8 0, .int .u8 0, .int .u8 0, .int .u8 0, .int .u8 0, .int .u8 0, .int .u8 0, .int .u8 0, .int .u8 0, .int .u8 0, .int .u8 0, .int .u8 0, .int .u8 0, .int .u8 0] 31)
            refine hK.out _ _ ⟨H5.out.blk 0 rfl, H5.out.blk 2 rfl, HX.out _ H5.out.bel⟩ (fun hHeld => ?_)
            clear hK K
            refine norm_ (a' := ?_) ?_ ?_
            rotate_left
            · show Act.put _ (some 12) _ = _
              simp only [Act.put, List.setIfInBounds_toArray, List.set_cons_zero, List.set_cons_succ, i64_w, i32_w]
              rfl
            refine one_ (i := 13) (N := none) #[true, true, true, true, true, true, true, true, true, true, true, true, true, true, false, false] rfl rfl (by kernel_rfl) (by decide) (fun K hK => ?_)
            refine skip_ (by rfl) rfl (store_row (ty := 31) (p := .tmp 12) (q := .tmp 38) _ _ _ (hwC (.slice A1 n c1) (.slice B1 m d1) r) rfl rfl rfl (H5.out.blk 4 rfl) (by kernel_rfl) rfl (by kernel_rfl)) ?_
            have H6 := Aside0.mk (H5.out.setRow 4 rfl (hwC (.slice A1 n c1) (.slice B1 m d1) r))
            refine hK.out _ _ ⟨H6.out.blk 0 rfl, H6.out.blk 2 rfl, HX.out _ H6.out.bel⟩ (fun hHeld => ?_)
            clear hK K
            refine one_ (i := 14) (N := none) #[true, true, true, true, true, true, true, true, true, true, true, true, true, true, true, false] rfl rfl (by kernel_rfl) (by decide) (fun K hK => ?_)
            refine skip_ (by rfl) rfl (store_row (ty := 40) (p := .tmp 13) (q := .tmp 39) _ _ _ #[.int .i64 v1, .string s1] rfl rfl rfl (H6.out.blk 3 rfl) (by kernel_rfl) rfl (by kernel_rfl)) ?_
            have H7 := Aside0.mk (H6.out.setRow 3 rfl #[.int .i64 v1, .string s1])
            refine hK.out _ _ ⟨H7.out.blk 0 rfl, H7.out.blk 2 rfl, HX.out _ H7.out.bel⟩ (fun hHeld => ?_)
            clear hK K
            refine pure_ (i := 15) (N := (some 14)) (v := ?_) (a' := ?_) #[true, true, true, true, true, true, true, true, true, true, true, true, true, true, true, true] rfl rfl (by kernel_rfl) (fun _ _ _ h => h) (Or.inl ⟨by rfl, ?_⟩) ?_ ?_
            rotate_left
            · intro w'
              go_simp
              try with_reducible rfl
            rotate_left
            · simp only [Act.put, List.setIfInBounds_toArray, List.set_cons_zero, List.set_cons_succ, i64_w, i32_w]
              rfl
            exact REST ⟨_, _, A1, c1, hs1, B1, d1, _, _⟩ _ ⟨⟨H7.out.pick [0, 1, 2, 4, 3] _ rfl (by decide), WS.out⟩⟩
          ·
            refine value_ (w1 := ?_) (v := ?_) (by rfl) rfl ?_ ?_
            rotate_left 2
            · go_simp
              constructor
              · rfl
              · rfl
            have H4 := Aside0.mk (H3.out.alloc_ (q := y1.heap.size + 1) (by simp) #[.slice none 0 0, .slice none 0 0, .int .u8 0, .int .u8 0, .int .u8 0, .int .u8 0, .int .u8 0, .int .u8 0, .int .u8 0, .int .u8 0, .int .u8 0, .int .u8 0, .int .u8 0, .int .u8 0, .int .u8 0, .int .u8 0, .int .u8 0, .int .u8 0] 31)
            refine hK.out _ _ ⟨H4.out.blk 0 rfl, H4.out.blk 2 rfl, HX.out _ H4.out.bel⟩ (fun hHeld => ?_)
            clear hK K
            refine norm_ (a' := ?_) ?_ ?_
            rotate_left
            · show Act.put _ (some 12) _ = _
              simp only [Act.put, List.setIfInBounds_toArray, List.set_cons_zero, List.set_cons_succ, i64_w, i32_w]
              rfl
            refine one_ (i := 6) (N := (some 37)) #[true, true, true, true, true, true, true, false, false, false, false, true, true, false, false, false] rfl rfl (by kernel_rfl) (by decide) (fun K hK => ?_)
            refine goes_ Try.func11 (by kernel_rfl) rfl #[.agg (hwC (.slice A n c) (.slice B m d) r), .agg #[.int .i64 kd, .int .i64 bank, .int .i64 cell, .string b], .agg #[.bool cut, .int .i64 fb, .bool noise]] (by rfl) rfl rfl ?hargs ((rdo_at kd bank cell b cut fb noise bk1 fl1 v1 s1 q (fun k hk => H4.out.dom k (.inl hk)) ((H4.out.at 1 rfl).imp fun _ h => h.1) ((H4.out.at 1 rfl).imp fun _ h => h.2) hn I0.out.okb I0.out.okf E1.out E2.out E3.out E4.out E5.out).mono ?_)
            case hargs => first | rfl | (go_simp; done) | kernel_rfl
            rintro e w5 ⟨A1, c1, hs1, B1, d1, rfl, hb⟩
            refine ⟨_, rfl, ?_⟩
            have H5 := Aside0.mk (H4.out.callS hb (fun _ hk => .inl hk))
            have WS := Aside0.mk (Nat.le_of_lt (H4.out.lt 2 rfl))
            clear hb
            refine hK.out _ _ ⟨H5.out.blk 0 rfl, H5.out.blk 2 rfl, HX.out _ H5.out.bel⟩ (fun hHeld => ?_)
            clear hK K
            refine norm_ (a' := ?_) ?_ ?_
            rotate_left
            · show Act.put _ (some 37) _ = _
              simp only [Act.put, List.setIfInBounds_toArray, List.set_cons_zero, List.set_cons_succ, i64_w, i32_w]
              rfl
            refine pure_ (i := 7) (N := (some 30)) (v := ?_) (a' := ?_) #[true, true, true, true, true, true, true, true, false, false, false, true, true, false, false, false] rfl rfl (by kernel_rfl) (fun _ _ _ h => h) (Or.inl ⟨by rfl, ?_⟩) ?_ ?_
            rotate_left
            · intro w'
              go_simp
              try with_reducible rfl
            rotate_left
            · simp only [Act.put, List.setIfInBounds_toArray, List.set_cons_zero, List.set_cons_succ, i64_w, i32_w]
              rfl
            refine pure_ (i := 8) (N := (some 38)) (v := ?_) (a' := ?_) #[true, true, true, true, true, true, true, true, true, false, false, true, true, false, false, false] rfl rfl (by kernel_rfl) (fun _ _ _ h => h) (Or.inl ⟨by rfl, ?_⟩) ?_ ?_
            rotate_left
            · intro w'
              go_simp
              try with_reducible rfl
            rotate_left
            · simp only [Act.put, List.setIfInBounds_toArray, List.set_cons_zero, List.set_cons_succ, i64_w, i32_w]
              rfl
            refine pure_ (i := 9) (N := (some 39)) (v := ?_) (a' := ?_) #[true, true, true, true, true, true, true, true, true, true, false, true, true, false, false, false] rfl rfl (by kernel_rfl) (fun _ _ _ h => h) (Or.inl ⟨by rfl, ?_⟩) ?_ ?_
            rotate_left
            · intro w'
              go_simp
              try with_reducible rfl
            rotate_left
            · simp only [Act.put, List.setIfInBounds_toArray, List.set_cons_zero, List.set_cons_succ, i64_w, i32_w]
              rfl
            refine pure_ (i := 10) (N := (some 40)) (v := ?_) (a' := ?_) #[true, true, true, true, true, true, true, true, true, true, true, true, true, false, false, false] rfl rfl (by kernel_rfl) (fun _ _ _ h => h) (Or.inl ⟨by rfl, ?_⟩) ?_ ?_
            rotate_left
            · intro w'
              go_simp
              try with_reducible rfl
            rotate_left
            · simp only [Act.put, List.setIfInBounds_toArray, List.set_cons_zero, List.set_cons_succ, i64_w, i32_w]
              rfl
            refine one_ (i := 13) (N := none) #[true, true, true, true, true, true, true, true, true, true, true, true, true, true, false, false] rfl rfl (by kernel_rfl) (by decide) (fun K hK => ?_)
            refine skip_ (by rfl) rfl (store_row (ty := 31) (p := .tmp 12) (q := .tmp 38) _ _ _ (hwC (.slice A1 n c1) (.slice B1 m d1) r) rfl rfl rfl (H5.out.blk 4 rfl) (by kernel_rfl) rfl (by kernel_rfl)) ?_
            have H6 := Aside0.mk (H5.out.setRow 4 rfl (hwC (.slice A1 n c1) (.slice B1 m d1) r))
            refine hK.out _ _ ⟨H6.out.blk 0 rfl, H6.out.blk 2 rfl, HX.out _ H6.out.bel⟩ (fun hHeld => ?_)
            clear hK K
            refine one_ (i := 14) (N := none) #[true, true, true, true, true, true, true, true, true, true, true, true, true, true, true, false] rfl rfl (by kernel_rfl) (by decide) (fun K hK => ?_)
            refine skip_ (by rfl) rfl (store_row (ty := 40) (p := .tmp 13) (q := .tmp 39) _ _ _ #[.int .i64 v1, .string s1] rfl rfl rfl (H6.out.blk 3 rfl) (by kernel_rfl) rfl (by kernel_rfl)) ?_
            have H7 := Aside0.mk (H6.out.setRow 3 rfl #[.int .i64 v1, .string s1])
            refine hK.out _ _ ⟨H7.out.blk 0 rfl, H7.out.blk 2 rfl, HX.out _ H7.out.bel⟩ (fun hHeld => ?_)
            clear hK K
            refine pure_ (i := 15) (N := (some 14)) (v := ?_) (a' := ?_) #[true, true, true, true, true, true, true, true, true, true, true, true, true, true, true, true] rfl rfl (by kernel_rfl) (fun _ _ _ h => h) (Or.inl ⟨by rfl, ?_⟩) ?_ ?_
            rotate_left
            · intro w'
              go_simp
              try with_reducible rfl
            rotate_left
            · simp only [Act.put, List.setIfInBounds_toArray, List.set_cons_zero, List.set_cons_succ, i64_w, i32_w]
              rfl
            exact REST ⟨_, _, A1, c1, hs1, B1, d1, _, _⟩ _ ⟨⟨H7.out.pick [0, 1, 2, 4, 3] _ rfl (by decide), WS.out⟩⟩
    · obtain rfl : k = l.length := by omega
      go_wp2_with (first | ((with_reducible refine gate_dst (N := 55) rfl ?_); refine loadRowL_ (ty := 31) _ rfl rfl rfl _ _ _ _ _ rfl (H0.out.blk 0 rfl) Try.underlying31 rfl (by kernel_rfl) ?_) | ((with_reducible refine gate_store (t := 31) (p := 6) rfl ?_); refine storeRowSt_ (ty := 31) rfl rfl rfl (hwC (.slice A n c) (.slice B m d) r) H0.out 1 rfl rfl rfl (by kernel_rfl) rfl (by kernel_rfl) ?_; intro y5 h_; have H6 := Aside0.mk (h_.as [(w.heap.size, (hwC (.slice A n c) (.slice B m d) r), 31), (w.heap.size + 1, (hwC (.slice A n c) (.slice B m d) r), 31)] rfl); clear h_))
      refine bodyPost_ret (results_ctt rfl _ _ (w.heap.size + 1) 31 (hwC (.slice A n c) (.slice B m d) r) (0, 0) _ rfl (H6.out.blk 1 rfl) Try.underlying31 rfl (by kernel_rfl)) rfl ?_
      have RUN := I0.out.run
      rw [List.drop_length] at RUN
      subst RUN
      exact ⟨_, _, _, _, _, _, _, rfl, I0.out.fin0 H6.out (((H6.out.sureNew 1 rfl).imp fun _ h => h.here).and ((H6.out.sureNew 0 rfl).imp fun _ h => RowsOf.of_C (Kd.R_reads' h).2.2 rfl rrK_V))⟩
end Go.Proofs.Ytkfhekocbfednaa.Dv
end
