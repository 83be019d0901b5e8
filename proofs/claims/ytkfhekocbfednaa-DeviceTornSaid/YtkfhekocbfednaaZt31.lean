/- Part of the proof of deviceTorn_holds: what later parts use. -/
import Derived.Test.YtkfhekocbfednaaZt0
import Derived.Test.YtkfhekocbfednaaZt1
import Derived.Test.YtkfhekocbfednaaZt2
import Derived.Test.YtkfhekocbfednaaZt3
import Derived.Test.YtkfhekocbfednaaZt4
import Derived.Test.YtkfhekocbfednaaZt5
import Derived.Test.YtkfhekocbfednaaZt6
import Derived.Test.YtkfhekocbfednaaZt7
import Derived.Test.YtkfhekocbfednaaZt8
import Derived.Test.YtkfhekocbfednaaZt9
import Derived.Test.YtkfhekocbfednaaZt10
import Derived.Test.YtkfhekocbfednaaZt11
import Derived.Test.YtkfhekocbfednaaZt12
import Derived.Test.YtkfhekocbfednaaZt13
import Derived.Test.YtkfhekocbfednaaZt14
import Derived.Test.YtkfhekocbfednaaZt15
import Derived.Test.YtkfhekocbfednaaZt16
import Derived.Test.YtkfhekocbfednaaZt17
import Derived.Test.YtkfhekocbfednaaZt18
import Derived.Test.YtkfhekocbfednaaZt19
import Derived.Test.YtkfhekocbfednaaZt20
import Derived.Test.YtkfhekocbfednaaZt21
import Derived.Test.YtkfhekocbfednaaZt22
import Derived.Test.YtkfhekocbfednaaZt23
import Derived.Test.YtkfhekocbfednaaZt24
import Derived.Test.YtkfhekocbfednaaZt25
import Derived.Test.YtkfhekocbfednaaZt26
import Derived.Test.YtkfhekocbfednaaZt28
import Derived.Test.YtkfhekocbfednaaZt29
import Derived.Test.YtkfhekocbfednaaZt30
import Derived.Laws.StructEq
section
namespace Go.Proofs.Ytkfhekocbfednaa.Dv
set_option linter.unusedVariables false
set_option linter.unusedSimpArgs false
open Go.RowKit Go.Proofs.Ytkfhekocbfednaa Go.Proofs.YtkfhekocbfednaaW.PrintWords Go.Proofs.YtkfhekocbfednaaW.PrintLast Go.Proofs.YtkfhekocbfednaaW.PrintMore
open Go.Proofs.Ytkfhekocbfednaa.Fu Go.Proofs.Ytkfhekocbfednaa.Fl
set_option maxRecDepth 100000 in
set_option maxHeartbeats 64000000 in
theorem dall_any {A : Option Addr} {n c : Nat} {hs : List Hdr} {bk : List (List Int)} {B : Option Addr} {m d : Nat} {fl : List ByteArray} {w : World} {S0 : Nat → Prop} (r : Nat → Int) {C : Option Addr} {cc : Nat} {l : List Acc} {C' : Option Addr} {cc' : Nat} {f : List Flt} {nl nf : Nat}
    (hd : ∀ k, S0 k → k < w.heap.size) (hF : Sure S0 w (fun w => Fu w A n c hs bk ∧ Fl w B m d fl)) (hl : RowsOf accV 4 w C l) (hf : RowsOf fltV 3 w C' f) (hn : n ≤ 1000) (hbk : OkBk bk) (hfl : OkFl fl) (hlen : l.length ≤ 1000) (hnl : l.length = nl) (hnf : f.length = nf)
    {R : AllR} (hR : allR f l 0 bk fl [] = R) :
    Calls Try.prog 16 #[.agg (hwC (.slice A n c) (.slice B m d) r), .slice C nl cc, .slice C' nf cc'] w (AllRes S0 n m r R w) := by
  subst hnl hnf
  have H0 := Aside0.mk ((St.enter1 hd hF).alloc2 (hwC (.slice A n c) (.slice B m d) r) 31 #[.slice none 0 0, .slice none 0 0, .int .u8 0, .int .u8 0, .int .u8 0, .int .u8 0, .int .u8 0, .int .u8 0, .int .u8 0, .int .u8 0, .int .u8 0, .int .u8 0, .int .u8 0, .int .u8 0, .int .u8 0, .int .u8 0, .int .u8 0, .int .u8 0] 31)
  have HL := Aside0.mk (fun W hb => hl.below hb : ∀ W, Below w.heap.size w W → RowsOf accV 4 W C l)
  have HFT := Aside0.mk (fun W hb => hf.below hb : ∀ W, Below w.heap.size w W → RowsOf fltV 3 W C' f)
  have hfmax := hf.1
  have I0 := Aside0.mk (⟨hR, rfl, hbk, hfl, fun _ hk => .inl hk, H0.out, Kd.R_nil _ _ _ _ _, fun k hk => by simp [Value.ownBlock] at hk⟩ : AllInv w _ S0 n m r l f R (.slice none 0 0) 0 A c hs B d bk fl [] S0)
  clear hd hF hl hf hR hbk hfl H0
  go_enter Try.func16, Try.ntmps16
  go_wp2
  go_loopw [9, 18] (fun v i wr => ∃ (k : Nat) (A : Option Addr) (c : Nat) (hs : List Hdr) (B : Option Addr) (d : Nat) (bk : List (List Int)) (fl : List ByteArray) (out : List RR) (S : Nat → Prop), k ≤ l.length ∧ i = .int .i64 k ∧ Aside0 (AllInv w wr S0 n m r l f R v k A c hs B d bk fl out S)) (fun _ i _ => l.length - (intOf i).toNat)
  case atStart => exact ⟨0, A, c, hs, B, d, bk, fl, [], S0, by omega, rfl, I0⟩
  case round =>
    clear I0
    obtain ⟨k, A, c, hs, B, d, bk, fl, out, S, hk, rfl, I0⟩ := hrel
    obtain ⟨C1, cc1, rfl⟩ := Kd.R_slice I0.out.row
    have H0 := Aside0.mk I0.out.round
    by_cases hlt : k < l.length
    · obtain ⟨⟨kd, bank, cell, b⟩, ha⟩ : ∃ a, l[k]? = some a := ⟨_, List.getElem?_eq_getElem hlt⟩
      have hdrop : l.drop k = (kd, bank, cell, b) :: l.drop (k + 1) := by rw [List.drop_eq_getElem_cons hlt]; congr 1; rw [List.getElem?_eq_getElem hlt] at ha; exact Option.some.inj ha
      obtain ⟨ad, rfl, -⟩ := (HL.out _ H0.out.bel).at k ha
      have HX := Aside0.mk (fun W hb => by obtain ⟨_, e, h⟩ := (HL.out W hb).at k ha; cases e; exact h : ∀ W, Below w.heap.size w W → ∀ j v, (#[.int .i64 kd, .int .i64 bank, .int .i64 cell, .string b] : Array Value)[j]? = some v → W.cell? ((ad.add (k * 4)).add j) = some v)
      obtain ⟨⟨cut, fb, noise⟩, hft⟩ : ∃ y, ftAt f k = y := ⟨_, rfl⟩
      obtain ⟨bk1, hE1⟩ : ∃ y, doBk bk fl kd bank cell b cut = y := ⟨_, rfl⟩
      obtain ⟨fl1, hE2⟩ : ∃ y, doFl bk fl kd bank cell b cut fb = y := ⟨_, rfl⟩
      obtain ⟨v1, hE3⟩ : ∃ y, doV bk fl kd bank cell b cut noise = y := ⟨_, rfl⟩
      obtain ⟨s1, hE4⟩ : ∃ y, doS bk fl kd bank cell b cut = y := ⟨_, rfl⟩
      obtain ⟨q, hE5⟩ : ∃ y, doE bk fl kd bank cell b = y := ⟨_, rfl⟩
      have E1 := Aside0.mk hE1
      have E2 := Aside0.mk hE2
      have E3 := Aside0.mk hE3
      have E4 := Aside0.mk hE4
      have E5 := Aside0.mk hE5
      have FT := Aside0.mk hft
      have HD := Aside0.mk hdrop
      have OK1 := Aside0.mk (hE1 ▸ I0.out.okb.doBk fl kd bank cell b cut)
      have OK2 := Aside0.mk (hE2 ▸ I0.out.okf.doFl bk kd bank cell b cut fb)
      have LK := Aside0.mk I0.out.len
      clear hE1 hE2 hE3 hE4 hE5 hdrop ha
      rcases Decidable.em (¬ q = 0) with hq0 | hq0
      · have hq : (q == 0) = false := beq_eq_false_iff_ne.2 hq0
        by_cases hfk : k < f.length
        case' pos =>
          have hfa : f[k]? = some (cut, fb, noise) := by
            have := FT.out
            unfold ftAt at this
            rw [List.getElem?_eq_getElem hfk]
            simpa [List.getD, hfk] using this
          obtain ⟨ad', rfl, -⟩ := (HFT.out _ H0.out.bel).at k hfa
          have HY := Aside0.mk (fun W hb => by obtain ⟨_, e, h⟩ := (HFT.out W hb).at k hfa; cases e; exact h : ∀ W, Below w.heap.size w W → ∀ j v, (#[.bool cut, .int .i64 fb, .bool noise] : Array Value)[j]? = some v → W.cell? ((ad'.add (k * 3)).add j) = some v)
          clear hfa
          go_upto_region 8 with (first | ((with_reducible refine gate_dst (N := 22) rfl ?_); refine loadElL_ (ty := 33) _ rfl rfl rfl _ #[.int .i64 kd, .int .i64 bank, .int .i64 cell, .string b] _ rfl (HX.out _ H0.out.bel) Try.underlying33 rfl (by kernel_rfl) ?_) | ((with_reducible refine gate_store (t := 33) (p := 11) rfl ?_); refine storeRowSt_ (ty := 33) rfl rfl rfl #[.int .i64 kd, .int .i64 bank, .int .i64 cell, .string b] (H0.out.alloc #[.int .i64 0, .int .i64 0, .int .i64 0, .string ⟨#[]⟩] 33) 2 rfl rfl rfl (by kernel_rfl) rfl (by kernel_rfl) ?_; intro x1 h_; have H1 := Aside0.mk (h_.as [(w.heap.size, (hwC (.slice A n c) (.slice B m d) r), 31), (w.heap.size + 1, #[.slice none 0 0, .slice none 0 0, .int .u8 0, .int .u8 0, .int .u8 0, .int .u8 0, .int .u8 0, .int .u8 0, .int .u8 0, .int .u8 0, .int .u8 0, .int .u8 0, .int .u8 0, .int .u8 0, .int .u8 0, .int .u8 0, .int .u8 0, .int .u8 0], 31), (wr.heap.size, #[.int .i64 kd, .int .i64 bank, .int .i64 cell, .string b], 33)] rfl); clear h_) | ((with_reducible refine gate_dst (N := 30) rfl ?_); refine loadElL_ (ty := 35) _ rfl rfl rfl _ #[.bool cut, .int .i64 fb, .bool noise] _ rfl (HY.out _ (H1.out.alloc #[.bool false, .int .i64 0, .bool false] 35).bel) Try.underlying35 rfl (by kernel_rfl) ?_) | ((with_reducible refine gate_store (t := 35) (p := 12) rfl ?_); refine storeRowSt_ (ty := 35) rfl rfl rfl #[.bool cut, .int .i64 fb, .bool noise] (H1.out.alloc #[.bool false, .int .i64 0, .bool false] 35) 3 rfl rfl rfl (by kernel_rfl) rfl (by kernel_rfl) ?_; intro y1 h_; have H2 := Aside0.mk (h_.as [(w.heap.size, (hwC (.slice A n c) (.slice B m d) r), 31), (w.heap.size + 1, #[.slice none 0 0, .slice none 0 0, .int .u8 0, .int .u8 0, .int .u8 0, .int .u8 0, .int .u8 0, .int .u8 0, .int .u8 0, .int .u8 0, .int .u8 0, .int .u8 0, .int .u8 0, .int .u8 0, .int .u8 0, .int .u8 0, .int .u8 0, .int .u8 0], 31), (wr.heap.size, #[.int .i64 kd, .int .i64 bank, .int .i64 cell, .string b], 33), (x1.heap.size, _, 35)] rfl); clear h_))
        case' neg =>
          have hfz : ftAt f k = (false, 0, false) := by simp [ftAt, List.getD, List.getElem?_eq_none (Nat.le_of_not_lt hfk)]
          obtain ⟨rfl, rfl, rfl⟩ : cut = false ∧ fb = 0 ∧ noise = false := by have := FT.out; rw [hfz] at this; simpa using this.symm
          clear hfz
          go_upto_region 8 with (first | ((with_reducible refine gate_dst (N := 22) rfl ?_); refine loadElL_ (ty := 33) _ rfl rfl rfl _ #[.int .i64 kd, .int .i64 bank, .int .i64 cell, .string b] _ rfl (HX.out _ H0.out.bel) Try.underlying33 rfl (by kernel_rfl) ?_) | ((with_reducible refine gate_store (t := 33) (p := 11) rfl ?_); refine storeRowSt_ (ty := 33) rfl rfl rfl #[.int .i64 kd, .int .i64 bank, .int .i64 cell, .string b] (H0.out.alloc #[.int .i64 0, .int .i64 0, .int .i64 0, .string ⟨#[]⟩] 33) 2 rfl rfl rfl (by kernel_rfl) rfl (by kernel_rfl) ?_; intro x1 h_; have H1 := Aside0.mk (h_.as [(w.heap.size, (hwC (.slice A n c) (.slice B m d) r), 31), (w.heap.size + 1, #[.slice none 0 0, .slice none 0 0, .int .u8 0, .int .u8 0, .int .u8 0, .int .u8 0, .int .u8 0, .int .u8 0, .int .u8 0, .int .u8 0, .int .u8 0, .int .u8 0, .int .u8 0, .int .u8 0, .int .u8 0, .int .u8 0, .int .u8 0, .int .u8 0], 31), (wr.heap.size, #[.int .i64 kd, .int .i64 bank, .int .i64 cell, .string b], 33)] rfl); clear h_; have H2 := Aside0.mk (H1.out.alloc #[.bool false, .int .i64 0, .bool false] 35)))
        all_goals
          have WS := Aside0.mk (Nat.le_of_lt (H2.out.lt 2 rfl))
          go_wp2_with (first | ((with_reducible refine gate_dst (N := 32) rfl ?_); refine loadRowL_ (ty := 31) _ rfl rfl rfl _ _ _ _ _ rfl (H2.out.blk 0 rfl) Try.underlying31 rfl (by kernel_rfl) ?_) | ((with_reducible refine gate_dst (N := 33) rfl ?_); refine loadRowL_ (ty := 33) _ rfl rfl rfl _ _ _ _ _ rfl (H2.out.blk 2 rfl) Try.underlying33 rfl (by kernel_rfl) ?_) | ((with_reducible refine gate_dst (N := 34) rfl ?_); refine loadRowL_ (ty := 35) _ rfl rfl rfl _ _ _ _ _ rfl (H2.out.blk 3 rfl) Try.underlying35 rfl (by kernel_rfl) ?_) | (go_at_call 10; refine (do_at kd bank cell b _ _ _ bk1 fl1 v1 s1 q (fun k hk => H2.out.dom k (.inl hk)) (H2.out.at 1 rfl) hn I0.out.okb I0.out.okf E1.out E2.out E3.out E4.out E5.out).mono ?_; rintro e u1 ⟨A1, c1, hs1, B1, d1, rfl, hb⟩; have G1 := Aside0.mk (H2.out.callS hb (fun _ hk => .inl hk)); clear hb) | ((with_reducible refine gate_store (t := 31) (p := 13) rfl ?_); refine storeRowSt_ (ty := 31) rfl rfl rfl (hwC (.slice A1 n c1) (.slice B1 m d1) r) (G1.out.alloc2 #[.slice none 0 0, .slice none 0 0, .int .u8 0, .int .u8 0, .int .u8 0, .int .u8 0, .int .u8 0, .int .u8 0, .int .u8 0, .int .u8 0, .int .u8 0, .int .u8 0, .int .u8 0, .int .u8 0, .int .u8 0, .int .u8 0, .int .u8 0, .int .u8 0] 31 #[.int .i64 0, .string ⟨#[]⟩] 40) 4 rfl rfl rfl (by kernel_rfl) rfl (by kernel_rfl) ?_; intro y2 h_; have H3 := Aside0.mk h_; clear h_) | ((with_reducible refine gate_store (t := 40) (p := 14) rfl ?_); refine storeRowSt_ (ty := 40) rfl rfl rfl #[.int .i64 v1, .string s1] H3.out 5 rfl rfl rfl (by kernel_rfl) rfl (by kernel_rfl) ?_; intro y3 h_; have H4 := Aside0.mk (h_.as [(w.heap.size, (hwC (.slice A n c) (.slice B m d) r), 31), (w.heap.size + 1, #[.slice none 0 0, .slice none 0 0, .int .u8 0, .int .u8 0, .int .u8 0, .int .u8 0, .int .u8 0, .int .u8 0, .int .u8 0, .int .u8 0, .int .u8 0, .int .u8 0, .int .u8 0, .int .u8 0, .int .u8 0, .int .u8 0, .int .u8 0, .int .u8 0], 31), (wr.heap.size, #[.int .i64 kd, .int .i64 bank, .int .i64 cell, .string b], 33), (x1.heap.size, _, 35), (u1.heap.size, (hwC (.slice A1 n c1) (.slice B1 m d1) r), 31), (u1.heap.size + 1, #[.int .i64 v1, .string s1], 40)] rfl); clear h_) | ((with_reducible refine gate_dst (N := 41) rfl ?_); refine loadRowL_ (ty := 31) _ rfl rfl rfl _ _ _ _ _ rfl (H4.out.blk 0 rfl) Try.underlying31 rfl (by kernel_rfl) ?_) | ((with_reducible refine gate_store (t := 31) (p := 6) rfl ?_); refine storeRowSt_ (ty := 31) rfl rfl rfl (hwC (.slice A n c) (.slice B m d) r) H4.out 1 rfl rfl rfl (by kernel_rfl) rfl (by kernel_rfl) ?_; intro y4 h_; have H5 := Aside0.mk (h_.as [(w.heap.size, (hwC (.slice A n c) (.slice B m d) r), 31), (w.heap.size + 1, (hwC (.slice A n c) (.slice B m d) r), 31), (wr.heap.size, #[.int .i64 kd, .int .i64 bank, .int .i64 cell, .string b], 33), (x1.heap.size, _, 35), (u1.heap.size, (hwC (.slice A1 n c1) (.slice B1 m d1) r), 31), (u1.heap.size + 1, #[.int .i64 v1, .string s1], 40)] rfl); clear h_))
          refine bodyPost_ret (results_ctt rfl _ _ (w.heap.size + 1) 31 (hwC (.slice A n c) (.slice B m d) r) (0, 0) _ rfl (H5.out.blk 1 rfl) Try.underlying31 rfl (by kernel_rfl)) rfl ?_
          have RUN := I0.out.run
          rw [HD.out, allR_err E5.out hq0] at RUN
          subst RUN
          exact ⟨_, _, _, _, _, _, _, rfl, I0.out.fin H5.out WS.out (((H5.out.sureNew 2 rfl).imp fun _ h => h.here).and ((H5.out.sureNew 1 rfl).imp fun _ h => RowsOf.of_C (Kd.R_reads' h).2.2 rfl rrK_V))⟩
      obtain rfl : q = 0 := Decidable.not_not.1 hq0
      cases cut with
      | true =>
        by_cases hfk : k < f.length
        case' pos =>
          have hfa : f[k]? = some (true, fb, noise) := by
            have := FT.out
            unfold ftAt at this
            rw [List.getElem?_eq_getElem hfk]
            simpa [List.getD, hfk] using this
          obtain ⟨ad', rfl, -⟩ := (HFT.out _ H0.out.bel).at k hfa
          have HY := Aside0.mk (fun W hb => by obtain ⟨_, e, h⟩ := (HFT.out W hb).at k hfa; cases e; exact h : ∀ W, Below w.heap.size w W → ∀ j v, (#[.bool true, .int .i64 fb, .bool noise] : Array Value)[j]? = some v → W.cell? ((ad'.add (k * 3)).add j) = some v)
          clear hfa
          go_upto_region 8 with (first | ((with_reducible refine gate_dst (N := 22) rfl ?_); refine loadElL_ (ty := 33) _ rfl rfl rfl _ #[.int .i64 kd, .int .i64 bank, .int .i64 cell, .string b] _ rfl (HX.out _ H0.out.bel) Try.underlying33 rfl (by kernel_rfl) ?_) | ((with_reducible refine gate_store (t := 33) (p := 11) rfl ?_); refine storeRowSt_ (ty := 33) rfl rfl rfl #[.int .i64 kd, .int .i64 bank, .int .i64 cell, .string b] (H0.out.alloc #[.int .i64 0, .int .i64 0, .int .i64 0, .string ⟨#[]⟩] 33) 2 rfl rfl rfl (by kernel_rfl) rfl (by kernel_rfl) ?_; intro x1 h_; have H1 := Aside0.mk (h_.as [(w.heap.size, (hwC (.slice A n c) (.slice B m d) r), 31), (w.heap.size + 1, #[.slice none 0 0, .slice none 0 0, .int .u8 0, .int .u8 0, .int .u8 0, .int .u8 0, .int .u8 0, .int .u8 0, .int .u8 0, .int .u8 0, .int .u8 0, .int .u8 0, .int .u8 0, .int .u8 0, .int .u8 0, .int .u8 0, .int .u8 0, .int .u8 0], 31), (wr.heap.size, #[.int .i64 kd, .int .i64 bank, .int .i64 cell, .string b], 33)] rfl); clear h_) | ((with_reducible refine gate_dst (N := 30) rfl ?_); refine loadElL_ (ty := 35) _ rfl rfl rfl _ #[.bool true, .int .i64 fb, .bool noise] _ rfl (HY.out _ (H1.out.alloc #[.bool false, .int .i64 0, .bool false] 35).bel) Try.underlying35 rfl (by kernel_rfl) ?_) | ((with_reducible refine gate_store (t := 35) (p := 12) rfl ?_); refine storeRowSt_ (ty := 35) rfl rfl rfl #[.bool true, .int .i64 fb, .bool noise] (H1.out.alloc #[.bool false, .int .i64 0, .bool false] 35) 3 rfl rfl rfl (by kernel_rfl) rfl (by kernel_rfl) ?_; intro y1 h_; have H2 := Aside0.mk (h_.as [(w.heap.size, (hwC (.slice A n c) (.slice B m d) r), 31), (w.heap.size + 1, #[.slice none 0 0, .slice none 0 0, .int .u8 0, .int .u8 0, .int .u8 0, .int .u8 0, .int .u8 0, .int .u8 0, .int .u8 0, .int .u8 0, .int .u8 0, .int .u8 0, .int .u8 0, .int .u8 0, .int .u8 0, .int .u8 0, .int .u8 0, .int .u8 0], 31), (wr.heap.size, #[.int .i64 kd, .int .i64 bank, .int .i64 cell, .string b], 33), (x1.heap.size, _, 35)] rfl); clear h_))
        case' neg =>
          have hfz : ftAt f k = (false, 0, false) := by simp [ftAt, List.getD, List.getElem?_eq_none (Nat.le_of_not_lt hfk)]
          have := FT.out; rw [hfz] at this; cases this
        all_goals
          have WS := Aside0.mk (Nat.le_of_lt (H2.out.lt 2 rfl))
          go_wp2_with (first | ((with_reducible refine gate_dst (N := 32) rfl ?_); refine loadRowL_ (ty := 31) _ rfl rfl rfl _ _ _ _ _ rfl (H2.out.blk 0 rfl) Try.underlying31 rfl (by kernel_rfl) ?_) | ((with_reducible refine gate_dst (N := 33) rfl ?_); refine loadRowL_ (ty := 33) _ rfl rfl rfl _ _ _ _ _ rfl (H2.out.blk 2 rfl) Try.underlying33 rfl (by kernel_rfl) ?_) | ((with_reducible refine gate_dst (N := 34) rfl ?_); refine loadRowL_ (ty := 35) _ rfl rfl rfl _ _ _ _ _ rfl (H2.out.blk 3 rfl) Try.underlying35 rfl (by kernel_rfl) ?_) | (go_at_call 10; refine (do_at kd bank cell b _ _ _ bk1 fl1 v1 s1 0 (fun k hk => H2.out.dom k (.inl hk)) (H2.out.at 1 rfl) hn I0.out.okb I0.out.okf E1.out E2.out E3.out E4.out E5.out).mono ?_; rintro e u1 ⟨A1, c1, hs1, B1, d1, rfl, hb⟩; have G1 := Aside0.mk (H2.out.callS hb (fun _ hk => .inl hk)); clear hb) | ((with_reducible refine gate_store (t := 31) (p := 13) rfl ?_); refine storeRowSt_ (ty := 31) rfl rfl rfl (hwC (.slice A1 n c1) (.slice B1 m d1) r) (G1.out.alloc2 #[.slice none 0 0, .slice none 0 0, .int .u8 0, .int .u8 0, .int .u8 0, .int .u8 0, .int .u8 0, .int .u8 0, .int .u8 0, .int .u8 0, .int .u8 0, .int .u8 0, .int .u8 0, .int .u8 0, .int .u8 0, .int .u8 0, .int .u8 0, .int .u8 0] 31 #[.int .i64 0, .string ⟨#[]⟩] 40) 4 rfl rfl rfl (by kernel_rfl) rfl (by kernel_rfl) ?_; intro y2 h_; have H3 := Aside0.mk h_; clear h_) | ((with_reducible refine gate_store (t := 40) (p := 14) rfl ?_); refine storeRowSt_ (ty := 40) rfl rfl rfl #[.int .i64 v1, .string s1] H3.out 5 rfl rfl rfl (by kernel_rfl) rfl (by kernel_rfl) ?_; intro y3 h_; have H4 := Aside0.mk (h_.as [(w.heap.size, (hwC (.slice A n c) (.slice B m d) r), 31), (w.heap.size + 1, #[.slice none 0 0, .slice none 0 0, .int .u8 0, .int .u8 0, .int .u8 0, .int .u8 0, .int .u8 0, .int .u8 0, .int .u8 0, .int .u8 0, .int .u8 0, .int .u8 0, .int .u8 0, .int .u8 0, .int .u8 0, .int .u8 0, .int .u8 0, .int .u8 0], 31), (wr.heap.size, #[.int .i64 kd, .int .i64 bank, .int .i64 cell, .string b], 33), (x1.heap.size, _, 35), (u1.heap.size, (hwC (.slice A1 n c1) (.slice B1 m d1) r), 31), (u1.heap.size + 1, #[.int .i64 v1, .string s1], 40)] rfl); clear h_) | ((with_reducible refine gate_dst (N := 44) rfl ?_); refine loadRowL_ (ty := 31) _ rfl rfl rfl _ _ _ _ _ rfl (H4.out.blk 4 rfl) Try.underlying31 rfl (by kernel_rfl) ?_) | ((with_reducible refine gate_store (t := 31) (p := 3) rfl ?_); refine storeRowSt_ (ty := 31) rfl rfl rfl (hwC (.slice A1 n c1) (.slice B1 m d1) r) H4.out 0 rfl rfl rfl (by kernel_rfl) rfl (by kernel_rfl) ?_; intro y4 h_; have H5 := Aside0.mk (h_.as [(w.heap.size, (hwC (.slice A1 n c1) (.slice B1 m d1) r), 31), (w.heap.size + 1, #[.slice none 0 0, .slice none 0 0, .int .u8 0, .int .u8 0, .int .u8 0, .int .u8 0, .int .u8 0, .int .u8 0, .int .u8 0, .int .u8 0, .int .u8 0, .int .u8 0, .int .u8 0, .int .u8 0, .int .u8 0, .int .u8 0, .int .u8 0, .int .u8 0], 31), (wr.heap.size, #[.int .i64 kd, .int .i64 bank, .int .i64 cell, .string b], 33), (x1.heap.size, _, 35), (u1.heap.size, (hwC (.slice A1 n c1) (.slice B1 m d1) r), 31), (u1.heap.size + 1, #[.int .i64 v1, .string s1], 40)] rfl); clear h_; have kc := H5.out.cell 3 rfl 0 rfl) | ((with_reducible refine gate_dst (N := 52) rfl ?_); refine loadRowL_ (ty := 31) _ rfl rfl rfl _ _ _ _ _ rfl (H5.out.blk 0 rfl) Try.underlying31 rfl (by kernel_rfl) ?_) | ((with_reducible refine gate_store (t := 31) (p := 6) rfl ?_); refine storeRowSt_ (ty := 31) rfl rfl rfl (hwC (.slice A1 n c1) (.slice B1 m d1) r) H5.out 1 rfl rfl rfl (by kernel_rfl) rfl (by kernel_rfl) ?_; intro y5 h_; have H6 := Aside0.mk (h_.as [(w.heap.size, (hwC (.slice A1 n c1) (.slice B1 m d1) r), 31), (w.heap.size + 1, (hwC (.slice A1 n c1) (.slice B1 m d1) r), 31), (wr.heap.size, #[.int .i64 kd, .int .i64 bank, .int .i64 cell, .string b], 33), (x1.heap.size, _, 35), (u1.heap.size, (hwC (.slice A1 n c1) (.slice B1 m d1) r), 31), (u1.heap.size + 1, #[.int .i64 v1, .string s1], 40)] rfl); clear h_ kc))
          refine bodyPost_ret (results_ctt rfl _ _ (w.heap.size + 1) 31 (hwC (.slice A1 n c1) (.slice B1 m d1) r) (0, 0) _ rfl (H6.out.blk 1 rfl) Try.underlying31 rfl (by kernel_rfl)) rfl ?_
          have RUN := I0.out.run
          rw [HD.out, allR_cut FT.out E5.out E1.out E2.out] at RUN
          subst RUN
          exact ⟨_, _, _, _, _, _, _, rfl, I0.out.fin H6.out WS.out (((H6.out.sureNew 0 rfl).imp fun _ h => h.here).and ((H6.out.sureNew 1 rfl).imp fun _ h => RowsOf.of_C (Kd.R_reads' h).2.2 rfl rrK_V))⟩
      | false =>
        by_cases hfk : k < f.length
        case' pos =>
          have hfa : f[k]? = some (false, fb, noise) := by
            have := FT.out
            unfold ftAt at this
            rw [List.getElem?_eq_getElem hfk]
            simpa [List.getD, hfk] using this
          obtain ⟨ad', rfl, -⟩ := (HFT.out _ H0.out.bel).at k hfa
          have HY := Aside0.mk (fun W hb => by obtain ⟨_, e, h⟩ := (HFT.out W hb).at k hfa; cases e; exact h : ∀ W, Below w.heap.size w W → ∀ j v, (#[.bool false, .int .i64 fb, .bool noise] : Array Value)[j]? = some v → W.cell? ((ad'.add (k * 3)).add j) = some v)
          clear hfa
          go_upto_region 8 with (first | ((with_reducible refine gate_dst (N := 22) rfl ?_); refine loadElL_ (ty := 33) _ rfl rfl rfl _ #[.int .i64 kd, .int .i64 bank, .int .i64 cell, .string b] _ rfl (HX.out _ H0.out.bel) Try.underlying33 rfl (by kernel_rfl) ?_) | ((with_reducible refine gate_store (t := 33) (p := 11) rfl ?_); refine storeRowSt_ (ty := 33) rfl rfl rfl #[.int .i64 kd, .int .i64 bank, .int .i64 cell, .string b] (H0.out.alloc #[.int .i64 0, .int .i64 0, .int .i64 0, .string ⟨#[]⟩] 33) 2 rfl rfl rfl (by kernel_rfl) rfl (by kernel_rfl) ?_; intro x1 h_; have H1 := Aside0.mk (h_.as [(w.heap.size, (hwC (.slice A n c) (.slice B m d) r), 31), (w.heap.size + 1, #[.slice none 0 0, .slice none 0 0, .int .u8 0, .int .u8 0, .int .u8 0, .int .u8 0, .int .u8 0, .int .u8 0, .int .u8 0, .int .u8 0, .int .u8 0, .int .u8 0, .int .u8 0, .int .u8 0, .int .u8 0, .int .u8 0, .int .u8 0, .int .u8 0], 31), (wr.heap.size, #[.int .i64 kd, .int .i64 bank, .int .i64 cell, .string b], 33)] rfl); clear h_) | ((with_reducible refine gate_dst (N := 30) rfl ?_); refine loadElL_ (ty := 35) _ rfl rfl rfl _ #[.bool false, .int .i64 fb, .bool noise] _ rfl (HY.out _ (H1.out.alloc #[.bool false, .int .i64 0, .bool false] 35).bel) Try.underlying35 rfl (by kernel_rfl) ?_) | ((with_reducible refine gate_store (t := 35) (p := 12) rfl ?_); refine storeRowSt_ (ty := 35) rfl rfl rfl #[.bool false, .int .i64 fb, .bool noise] (H1.out.alloc #[.bool false, .int .i64 0, .bool false] 35) 3 rfl rfl rfl (by kernel_rfl) rfl (by kernel_rfl) ?_; intro y1 h_; have H2 := Aside0.mk (h_.as [(w.heap.size, (hwC (.slice A n c) (.slice B m d) r), 31), (w.heap.size + 1, #[.slice none 0 0, .slice none 0 0, .int .u8 0, .int .u8 0, .int .u8 0, .int .u8 0, .int .u8 0, .int .u8 0, .int .u8 0, .int .u8 0, .int .u8 0, .int .u8 0, .int .u8 0, .int .u8 0, .int .u8 0, .int .u8 0, .int .u8 0, .int .u8 0], 31), (wr.heap.size, #[.int .i64 kd, .int .i64 bank, .int .i64 cell, .string b], 33), (x1.heap.size, _, 35)] rfl); clear h_))
        case' neg =>
          have hfz : ftAt f k = (false, 0, false) := by simp [ftAt, List.getD, List.getElem?_eq_none (Nat.le_of_not_lt hfk)]
          obtain ⟨rfl, rfl⟩ : fb = 0 ∧ noise = false := by have := FT.out; rw [hfz] at this; simpa using this.symm
          clear hfz
          go_upto_region 8 with (first | ((with_reducible refine gate_dst (N := 22) rfl ?_); refine loadElL_ (ty := 33) _ rfl rfl rfl _ #[.int .i64 kd, .int .i64 bank, .int .i64 cell, .string b] _ rfl (HX.out _ H0.out.bel) Try.underlying33 rfl (by kernel_rfl) ?_) | ((with_reducible refine gate_store (t := 33) (p := 11) rfl ?_); refine storeRowSt_ (ty := 33) rfl rfl rfl #[.int .i64 kd, .int .i64 bank, .int .i64 cell, .string b] (H0.out.alloc #[.int .i64 0, .int .i64 0, .int .i64 0, .string ⟨#[]⟩] 33) 2 rfl rfl rfl (by kernel_rfl) rfl (by kernel_rfl) ?_; intro x1 h_; have H1 := Aside0.mk (h_.as [(w.heap.size, (hwC (.slice A n c) (.slice B m d) r), 31), (w.heap.size + 1, #[.slice none 0 0, .slice none 0 0, .int .u8 0, .int .u8 0, .int .u8 0, .int .u8 0, .int .u8 0, .int .u8 0, .int .u8 0, .int .u8 0, .int .u8 0, .int .u8 0, .int .u8 0, .int .u8 0, .int .u8 0, .int .u8 0, .int .u8 0, .int .u8 0], 31), (wr.heap.size, #[.int .i64 kd, .int .i64 bank, .int .i64 cell, .string b], 33)] rfl); clear h_; have H2 := Aside0.mk (H1.out.alloc #[.bool false, .int .i64 0, .bool false] 35)))
        all_goals
          have WS := Aside0.mk (Nat.le_of_lt (H2.out.lt 2 rfl))
          go_wp2_with (first | ((with_reducible refine gate_dst (N := 32) rfl ?_); refine loadRowL_ (ty := 31) _ rfl rfl rfl _ _ _ _ _ rfl (H2.out.blk 0 rfl) Try.underlying31 rfl (by kernel_rfl) ?_) | ((with_reducible refine gate_dst (N := 33) rfl ?_); refine loadRowL_ (ty := 33) _ rfl rfl rfl _ _ _ _ _ rfl (H2.out.blk 2 rfl) Try.underlying33 rfl (by kernel_rfl) ?_) | ((with_reducible refine gate_dst (N := 34) rfl ?_); refine loadRowL_ (ty := 35) _ rfl rfl rfl _ _ _ _ _ rfl (H2.out.blk 3 rfl) Try.underlying35 rfl (by kernel_rfl) ?_) | (go_at_call 10; refine (do_at kd bank cell b _ _ _ bk1 fl1 v1 s1 0 (fun k hk => H2.out.dom k (.inl hk)) (H2.out.at 1 rfl) hn I0.out.okb I0.out.okf E1.out E2.out E3.out E4.out E5.out).mono ?_; rintro e u1 ⟨A1, c1, hs1, B1, d1, rfl, hb⟩; have G1 := Aside0.mk (H2.out.callS hb (fun _ hk => .inl hk)); clear hb) | ((with_reducible refine gate_store (t := 31) (p := 13) rfl ?_); refine storeRowSt_ (ty := 31) rfl rfl rfl (hwC (.slice A1 n c1) (.slice B1 m d1) r) (G1.out.alloc2 #[.slice none 0 0, .slice none 0 0, .int .u8 0, .int .u8 0, .int .u8 0, .int .u8 0, .int .u8 0, .int .u8 0, .int .u8 0, .int .u8 0, .int .u8 0, .int .u8 0, .int .u8 0, .int .u8 0, .int .u8 0, .int .u8 0, .int .u8 0, .int .u8 0] 31 #[.int .i64 0, .string ⟨#[]⟩] 40) 4 rfl rfl rfl (by kernel_rfl) rfl (by kernel_rfl) ?_; intro y2 h_; have H3 := Aside0.mk h_; clear h_) | ((with_reducible refine gate_store (t := 40) (p := 14) rfl ?_); refine storeRowSt_ (ty := 40) rfl rfl rfl #[.int .i64 v1, .string s1] H3.out 5 rfl rfl rfl (by kernel_rfl) rfl (by kernel_rfl) ?_; intro y3 h_; have H4 := Aside0.mk (h_.as [(w.heap.size, (hwC (.slice A n c) (.slice B m d) r), 31), (w.heap.size + 1, #[.slice none 0 0, .slice none 0 0, .int .u8 0, .int .u8 0, .int .u8 0, .int .u8 0, .int .u8 0, .int .u8 0, .int .u8 0, .int .u8 0, .int .u8 0, .int .u8 0, .int .u8 0, .int .u8 0, .int .u8 0, .int .u8 0, .int .u8 0, .int .u8 0], 31), (wr.heap.size, #[.int .i64 kd, .int .i64 bank, .int .i64 cell, .string b], 33), (x1.heap.size, _, 35), (u1.heap.size, (hwC (.slice A1 n c1) (.slice B1 m d1) r), 31), (u1.heap.size + 1, #[.int .i64 v1, .string s1], 40)] rfl); clear h_) | ((with_reducible refine gate_dst (N := 44) rfl ?_); refine loadRowL_ (ty := 31) _ rfl rfl rfl _ _ _ _ _ rfl (H4.out.blk 4 rfl) Try.underlying31 rfl (by kernel_rfl) ?_) | ((with_reducible refine gate_store (t := 31) (p := 3) rfl ?_); refine storeRowSt_ (ty := 31) rfl rfl rfl (hwC (.slice A1 n c1) (.slice B1 m d1) r) H4.out 0 rfl rfl rfl (by kernel_rfl) rfl (by kernel_rfl) ?_; intro y4 h_; have H5 := Aside0.mk (h_.as [(w.heap.size, (hwC (.slice A1 n c1) (.slice B1 m d1) r), 31), (w.heap.size + 1, #[.slice none 0 0, .slice none 0 0, .int .u8 0, .int .u8 0, .int .u8 0, .int .u8 0, .int .u8 0, .int .u8 0, .int .u8 0, .int .u8 0, .int .u8 0, .int .u8 0, .int .u8 0, .int .u8 0, .int .u8 0, .int .u8 0, .int .u8 0, .int .u8 0], 31), (wr.heap.size, #[.int .i64 kd, .int .i64 bank, .int .i64 cell, .string b], 33), (x1.heap.size, _, 35), (u1.heap.size, (hwC (.slice A1 n c1) (.slice B1 m d1) r), 31), (u1.heap.size + 1, #[.int .i64 v1, .string s1], 40)] rfl); clear h_; have kc := H5.out.cell 3 rfl 0 rfl) | ((with_reducible refine gate_dst (N := 48) rfl ?_); refine loadRowL_ (ty := 40) _ rfl rfl rfl _ _ _ _ _ rfl (H5.out.blk 5 rfl) Try.underlying40 rfl (by kernel_rfl) ?_) | (at_builtin; refine Kd.R_append rrK (w0 := y4) (w.heap.size + 1 + 1) rfl (.tmp 47) (.tmp 49) 51 40 (.agg #[.int .i64 0, .string ⟨#[]⟩]) 24 rfl Try.underlying51 info_rr rfl (by decide) (by decide) (.slice C1 out.length cc1) out (v1, s1) [.int .i64 v1, .string s1] (fun _ => True) (fun _ => False) rfl rfl (rr_M _ _ _ _ _) (fun _ hk => hk.elim) (fun _ _ => trivial) (H5.out.at 1 rfl) (Below.refl _ _) (by have := H5.out.lt 1 rfl; omega) (by have := LK.out; omega) ?_; intro v2 w2 ho hb hg hat; clear kc; have RO := Aside0.mk ho; have GR := Aside0.mk hg; have AT := Aside0.mk hat; clear ho hb hg hat))
          go_roundw
          case rel =>
            have RUN := I0.out.run
            rw [HD.out, allR_go FT.out E5.out E1.out E2.out E3.out E4.out] at RUN
            exact ⟨k + 1, A1, c1, hs1, B1, d1, bk1, fl1, out ++ [(v1, s1)], _, by omega, by go_num, ⟨I0.out.next (os := [(wr.heap.size, #[.int .i64 kd, .int .i64 bank, .int .i64 cell, .string b], 33), (x1.heap.size, _, 35), (u1.heap.size, (hwC (.slice A1 n c1) (.slice B1 m d1) r), 31), (u1.heap.size + 1, #[.int .i64 v1, .string s1], 40)]) H5.out WS.out GR.out RO.out AT.out RUN (by simp [LK.out]) OK1.out OK2.out⟩⟩
          case measure => simp [intOf]; omega
    · obtain rfl : k = l.length := by omega
      go_wp2_with (first | ((with_reducible refine gate_dst (N := 52) rfl ?_); refine loadRowL_ (ty := 31) _ rfl rfl rfl _ _ _ _ _ rfl (H0.out.blk 0 rfl) Try.underlying31 rfl (by kernel_rfl) ?_) | ((with_reducible refine gate_store (t := 31) (p := 6) rfl ?_); refine storeRowSt_ (ty := 31) rfl rfl rfl (hwC (.slice A n c) (.slice B m d) r) H0.out 1 rfl rfl rfl (by kernel_rfl) rfl (by kernel_rfl) ?_; intro y5 h_; have H6 := Aside0.mk (h_.as [(w.heap.size, (hwC (.slice A n c) (.slice B m d) r), 31), (w.heap.size + 1, (hwC (.slice A n c) (.slice B m d) r), 31)] rfl); clear h_))
      refine bodyPost_ret (results_ctt rfl _ _ (w.heap.size + 1) 31 (hwC (.slice A n c) (.slice B m d) r) (0, 0) _ rfl (H6.out.blk 1 rfl) Try.underlying31 rfl (by kernel_rfl)) rfl ?_
      have RUN := I0.out.run
      rw [List.drop_length] at RUN
      subst RUN
      exact ⟨_, _, _, _, _, _, _, rfl, I0.out.fin0 H6.out (((H6.out.sureNew 1 rfl).imp fun _ h => h.here).and ((H6.out.sureNew 0 rfl).imp fun _ h => RowsOf.of_C (Kd.R_reads' h).2.2 rfl rrK_V))⟩
end Go.Proofs.Ytkfhekocbfednaa.Dv
end
