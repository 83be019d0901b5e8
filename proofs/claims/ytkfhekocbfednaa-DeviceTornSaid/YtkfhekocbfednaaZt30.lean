/- Part of the proof of deviceTorn_holds: what later parts use. -/
import Derived.Test.YtkfhekocbfednaaZt0
import Derived.Test.YtkfhekocbfednaaZt1
import Derived.Test.YtkfhekocbfednaaZt2
import Derived.Test.YtkfhekocbfednaaZt3
import Derived.Test.YtkfhekocbfednaaZt4
import Derived.Test.YtkfhekocbfednaaZt5
import Derived.Test.YtkfhekocbfednaaZt6
import Derived.Test.YtkfhekocbfednaaZt7
import Derived.Test.YtkfhekocbfednaaZt8
import Derived.Test.YtkfhekocbfednaaZt9
import Derived.Test.YtkfhekocbfednaaZt10
import Derived.Test.YtkfhekocbfednaaZt11
import Derived.Test.YtkfhekocbfednaaZt12
import Derived.Test.YtkfhekocbfednaaZt13
import Derived.Test.YtkfhekocbfednaaZt14
import Derived.Test.YtkfhekocbfednaaZt15
import Derived.Test.YtkfhekocbfednaaZt16
import Derived.Test.YtkfhekocbfednaaZt17
import Derived.Test.YtkfhekocbfednaaZt18
import Derived.Test.YtkfhekocbfednaaZt19
import Derived.Test.YtkfhekocbfednaaZt20
import Derived.Test.YtkfhekocbfednaaZt21
import Derived.Test.YtkfhekocbfednaaZt22
import Derived.Test.YtkfhekocbfednaaZt23
import Derived.Test.YtkfhekocbfednaaZt24
import Derived.Test.YtkfhekocbfednaaZt25
import Derived.Test.YtkfhekocbfednaaZt26
import Derived.Test.YtkfhekocbfednaaZt28
import Derived.Test.YtkfhekocbfednaaZt29
import Derived.Laws.StructEq
section
namespace Go.Proofs.Ytkfhekocbfednaa.Dv
set_option linter.unusedVariables false
set_option linter.unusedSimpArgs false
open Go.RowKit Go.Proofs.Ytkfhekocbfednaa Go.Proofs.YtkfhekocbfednaaW.PrintWords Go.Proofs.YtkfhekocbfednaaW.PrintLast Go.Proofs.YtkfhekocbfednaaW.PrintMore
open Go.Proofs.Ytkfhekocbfednaa.Fu Go.Proofs.Ytkfhekocbfednaa.Fl
section
variable {w0 w w' y y' : World} {S S' Sp : Nat → Prop} {ds : List (World → Prop)} {os os' : List Blk}
theorem _root_.Go.Proofs.Ytkfhekocbfednaa.St.callS (h : St w0 Sp ds os w) {q : World → Prop} (hb : Back S w w' q) (hs : ∀ k, S k → Sp k) :
    St w0 (fun k => Sp k ∨ (w.heap.size ≤ k ∧ k < w'.heap.size)) ((fun w1 => Sure (fun k => S k ∨ (w.heap.size ≤ k ∧ k < w'.heap.size)) w1 q) :: ds) os w' := by
  have h1 := h.call (w' := w') (q := fun _ => True) ⟨hb.bel, fun _ _ => trivial⟩
  refine (h1.add (q := fun w1 => Sure (fun k => S k ∨ (w.heap.size ≤ k ∧ k < w'.heap.size)) w1 q) ?_).drop fun p hp => ?_
  · exact fun w2 h2 => hb.sure.move fun k hk => h2 k (hk.imp (hs k) id)
  · rcases List.mem_cons.1 hp with rfl | hp
    · exact List.mem_cons_self
    · exact List.mem_cons_of_mem _ (List.mem_cons_of_mem _ hp)
theorem _root_.Go.Proofs.Ytkfhekocbfednaa.St.more (h : St w0 S ds os w) (hs : ∀ k, S k → Sp k) (hd : ∀ k, Sp k → k < w.heap.size) (ho : ∀ x ∈ os, ¬ Sp x.1) : St w0 Sp (ds.map fun p w1 => Sure S w1 p) os w :=
  ⟨h.bel, hd, fun p hp => by
    obtain ⟨q, hq, rfl⟩ := List.mem_map.1 hp
    exact fun w2 h2 => (h.sures q hq).move fun k hk => h2 k (hs k hk), fun x hx => ⟨(h.own x hx).1, ho x hx, (h.own x hx).2.2⟩, h.apart⟩
theorem _root_.Go.Proofs.Ytkfhekocbfednaa.St.regrow (h : St w0 Sp ds (os ++ os') y) (i : Nat) {q : World → Prop} (hi : ds[i]? = some (fun w1 => Sure S w1 q)) {row : Option Nat} (hg : y.grownBy y' row) (hs : ∀ k, S k → Sp k)
    (hr : ∀ k, row = some k → w0.heap.size ≤ k ∧ ¬ S k ∧ ∀ x ∈ os, x.1 ≠ k) : St w0 S [q] os y' := by
  have hq : Sure S y q := h.at i hi
  have h1 : St w0 S [q] os y := ⟨h.bel, fun k hk => h.dom k (hs k hk), fun p hp => by rw [List.mem_singleton.1 hp]; exact hq,
    fun x hx => ⟨(h.low.own x hx).1, fun hk => (h.low.own x hx).2.1 (hs _ hk), (h.low.own x hx).2.2⟩, h.low.apart⟩
  exact h1.grown hg hr
end
theorem rrK_own {e base : Nat} {w : World} {ok : Nat → Prop} {v : Value} {xs : List RR} (h : rrK.R e w base ok v xs) : rrK.R e w base (fun k => v.ownBlock = some k) v xs := by
  refine ⟨fun k hk => hk, h.2.imp_ fun p c hp => ?_⟩
  obtain ⟨c0, c1, rfl, h0, h1⟩ := hp
  exact ⟨c0, c1, rfl, h0, h1⟩
theorem sure_rr {e base : Nat} {w : World} {ok : Nat → Prop} {v : Value} {xs : List RR} (h : rrK.R e w base ok v xs) : Sure (fun k => v.ownBlock = some k) w (fun w1 => rrK.R e w1 base (fun _ => True) v xs) :=
  fun w2 h2 => Kd.R_mono (Kd.R_move (rrK_own h) h2) fun _ _ => trivial
structure AllInv (w wr : World) (S0 : Nat → Prop) (n m : Nat) (r : Nat → Int) (l : List Acc) (f : List Flt) (R : AllR) (v : Value) (k : Nat) (A : Option Addr) (c : Nat) (hs : List Hdr) (B : Option Addr) (d : Nat) (bk : List (List Int)) (fl : List ByteArray) (out : List RR) (S : Nat → Prop) : Prop where
  run : allR f (l.drop k) k bk fl out = R
  len : out.length = k
  okb : OkBk bk
  okf : OkFl fl
  sub : ∀ x, S x → S0 x ∨ w.heap.size ≤ x
  st : St w S [fun w => Fu w A n c hs bk ∧ Fl w B m d fl] [(w.heap.size, hwC (.slice A n c) (.slice B m d) r, 31), (w.heap.size + 1, #[.slice none 0 0, .slice none 0 0, .int .u8 0, .int .u8 0, .int .u8 0, .int .u8 0, .int .u8 0, .int .u8 0, .int .u8 0, .int .u8 0, .int .u8 0, .int .u8 0, .int .u8 0, .int .u8 0, .int .u8 0, .int .u8 0, .int .u8 0, .int .u8 0], 31)] wr
  row : rrK.R 40 wr (w.heap.size + 1 + 1) (fun _ => True) v out
  apart : ∀ k, v.ownBlock = some k → ¬ S k
section
variable {w wr : World} {S0 : Nat → Prop} {n m : Nat} {r : Nat → Int} {l : List Acc} {f : List Flt} {R : AllR} {v : Value} {k : Nat} {A : Option Addr} {c : Nat} {hs : List Hdr} {B : Option Addr} {d : Nat} {bk : List (List Int)} {fl : List ByteArray} {out : List RR} {S : Nat → Prop}
theorem AllInv.round (h : AllInv w wr S0 n m r l f R v k A c hs B d bk fl out S) : St w (fun k => S k ∨ v.ownBlock = some k) [fun w1 => rrK.R 40 w1 (w.heap.size + 1 + 1) (fun _ => True) v out, fun w1 => Sure S w1 (fun w => Fu w A n c hs bk ∧ Fl w B m d fl)]
    [(w.heap.size, hwC (.slice A n c) (.slice B m d) r, 31), (w.heap.size + 1, #[.slice none 0 0, .slice none 0 0, .int .u8 0, .int .u8 0, .int .u8 0, .int .u8 0, .int .u8 0, .int .u8 0, .int .u8 0, .int .u8 0, .int .u8 0, .int .u8 0, .int .u8 0, .int .u8 0, .int .u8 0, .int .u8 0, .int .u8 0, .int .u8 0], 31)] wr := by
  have h1 := h.st.more (Sp := fun k => S k ∨ v.ownBlock = some k) (fun _ hk => .inl hk) (fun k hk => hk.elim (h.st.dom k) (Kd.R_lt h.row k)) (fun x hx hk => by
    rcases hk with hk | hk
    · exact (h.st.own x hx).2.1 hk
    · have hb := Kd.R_base h.row _ hk
      rcases List.mem_cons.1 hx with rfl | hx
      · dsimp only at hb; omega
      · rw [List.mem_singleton.1 hx] at hb; dsimp only at hb; omega)
  exact h1.add (fun w2 h2 => (sure_rr h.row) w2 fun k hk => h2 k (.inr hk))
theorem AllInv.fin (h : AllInv w wr S0 n m r l f R v k A c hs B d bk fl out S) {y : World} {z z' : Nat} {ds : List (World → Prop)} {os : List Blk} (H : St w (fun k => (S k ∨ v.ownBlock = some k) ∨ (z ≤ k ∧ k < z')) ds os y) (hz : wr.heap.size ≤ z) {q : World → Prop}
    (hq : Sure (fun k => ((S k ∨ v.ownBlock = some k) ∨ (z ≤ k ∧ k < z')) ∨ (w.heap.size ≤ k ∧ k < y.heap.size)) y q) : Back S0 w y q :=
  H.done hq fun x hx => by
    have hs := h.st.bel.size
    rcases hx with (hx | hx) | hx
    · exact h.sub x hx
    · have := Kd.R_base h.row x hx; exact .inr (by omega)
    · exact .inr (by omega)
theorem AllInv.fin0 (h : AllInv w wr S0 n m r l f R v k A c hs B d bk fl out S) {y : World} {ds : List (World → Prop)} {os : List Blk} (H : St w (fun k => S k ∨ v.ownBlock = some k) ds os y) {q : World → Prop}
    (hq : Sure (fun k => (S k ∨ v.ownBlock = some k) ∨ (w.heap.size ≤ k ∧ k < y.heap.size)) y q) : Back S0 w y q :=
  H.done hq fun x hx => by
    rcases hx with hx | hx
    · exact h.sub x hx
    · have := Kd.R_base h.row x hx; exact .inr (by omega)
theorem AllInv.next (h : AllInv w wr S0 n m r l f R v k A c hs B d bk fl out S) {y y' : World} {z z' : Nat} {v2 : Value} {ds : List (World → Prop)} {os : List Blk} {A1 : Option Addr} {c1 : Nat} {hs1 : List Hdr} {B1 : Option Addr} {d1 : Nat} {bk1 : List (List Int)} {fl1 : List ByteArray} {out1 : List RR}
    (H : St w (fun k => (S k ∨ v.ownBlock = some k) ∨ (z ≤ k ∧ k < z')) ((fun w1 => Sure (fun k => S k ∨ (z ≤ k ∧ k < z')) w1 (fun w => Fu w A1 n c1 hs1 bk1 ∧ Fl w B1 m d1 fl1)) :: ds)
      ([(w.heap.size, hwC (.slice A1 n c1) (.slice B1 m d1) r, 31), (w.heap.size + 1, #[.slice none 0 0, .slice none 0 0, .int .u8 0, .int .u8 0, .int .u8 0, .int .u8 0, .int .u8 0, .int .u8 0, .int .u8 0, .int .u8 0, .int .u8 0, .int .u8 0, .int .u8 0, .int .u8 0, .int .u8 0, .int .u8 0, .int .u8 0, .int .u8 0], 31)] ++ os) y) (hz : wr.heap.size ≤ z) (hg : y.grownBy y' v.ownBlock) (hR : rrK.R 40 y' (w.heap.size + 1 + 1) (fun _ => True) v2 out1)
    (hat : v2.ownBlock = v.ownBlock ∨ ∃ b, v2.ownBlock = some b ∧ y.heap.size ≤ b) (run : allR f (l.drop (k + 1)) (k + 1) bk1 fl1 out1 = R) (len : out1.length = k + 1) (okb : OkBk bk1) (okf : OkFl fl1) :
    AllInv w y' S0 n m r l f R v2 (k + 1) A1 c1 hs1 B1 d1 bk1 fl1 out1 (fun k => S k ∨ (z ≤ k ∧ k < z')) := by
  have hne : ∀ k, v.ownBlock = some k → ¬ (S k ∨ (z ≤ k ∧ k < z')) := by
    rintro k hk (h1 | h1)
    · exact h.apart k hk h1
    · have := Kd.R_lt h.row k hk; omega
  refine ⟨run, len, okb, okf, ?_, ?_, hR, ?_⟩
  · rintro x (hx | hx)
    · exact h.sub x hx
    · have := h.st.bel.size; exact .inr (by omega)
  · refine H.regrow 0 rfl hg (fun x hx => hx.elim (fun h => .inl (.inl h)) .inr) fun x hx => ?_
    have h1 := Kd.R_base h.row x hx
    refine ⟨by omega, hne x hx, fun p hp => ?_⟩
    rcases List.mem_cons.1 hp with rfl | hp
    · dsimp only; omega
    · rw [List.mem_singleton.1 hp]; dsimp only; omega
  · intro x hx
    rcases hat with e | ⟨b, e, hb⟩
    · exact hne x (e ▸ hx)
    · rintro hs
      have h1 := H.dom x (hs.elim (fun h => .inl (.inl h)) .inr)
      rw [hx] at e
      injection e with e
      omega
end
theorem allR_err {f : List Flt} {ls : List Acc} {k : Nat} {bk : List (List Int)} {fl : List ByteArray} {out : List RR} {kd bank cell q : Int} {b : ByteArray} (hE : doE bk fl kd bank cell b = q) (hq : ¬ q = 0) : allR f ((kd, bank, cell, b) :: ls) k bk fl out = (bk, fl, out, q) := by
  simp [allR, hE, hq]
theorem allR_cut {f : List Flt} {ls : List Acc} {k : Nat} {bk bk1 : List (List Int)} {fl fl1 : List ByteArray} {out : List RR} {kd bank cell fb : Int} {b : ByteArray} {noise : Bool} (hf : ftAt f k = (true, fb, noise)) (hE : doE bk fl kd bank cell b = 0)
    (h1 : doBk bk fl kd bank cell b true = bk1) (h2 : doFl bk fl kd bank cell b true fb = fl1) : allR f ((kd, bank, cell, b) :: ls) k bk fl out = (bk1, fl1, out, 0) := by
  simp [allR, hE, hf, h1, h2]
theorem allR_go {f : List Flt} {ls : List Acc} {k : Nat} {bk bk1 : List (List Int)} {fl fl1 : List ByteArray} {out : List RR} {kd bank cell fb v1 : Int} {b s1 : ByteArray} {noise : Bool} (hf : ftAt f k = (false, fb, noise)) (hE : doE bk fl kd bank cell b = 0)
    (h1 : doBk bk fl kd bank cell b false = bk1) (h2 : doFl bk fl kd bank cell b false fb = fl1) (h3 : doV bk fl kd bank cell b false noise = v1) (h4 : doS bk fl kd bank cell b false = s1) :
    allR f ((kd, bank, cell, b) :: ls) k bk fl out = allR f ls (k + 1) bk1 fl1 (out ++ [(v1, s1)]) := by
  simp [allR, hE, hf, h1, h2, h3, h4]
theorem info_rr : (Try.prog.info? 40).map (fun i => (i.zero, i.size, i.bytes)) = some (some (.agg #[.int .i64 0, .string ⟨#[]⟩]), 2, 24) := by kernel_rfl
theorem rr_M (w : World) (base : Nat) (ok : Nat → Prop) (v : Int) (s : ByteArray) : rrK.M w base ok (v, s) [.int .i64 v, .string s] := ⟨[.int .i64 v], [.string s], rfl, rfl, rfl⟩
end Go.Proofs.Ytkfhekocbfednaa.Dv
end
