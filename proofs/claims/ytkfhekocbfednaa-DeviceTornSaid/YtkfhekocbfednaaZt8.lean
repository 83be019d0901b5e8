/- Part of the proof of deviceTorn_holds: what later parts use. -/
import Derived.Test.YtkfhekocbfednaaZt0
import Derived.Test.YtkfhekocbfednaaZt1
import Derived.Test.YtkfhekocbfednaaZt2
import Derived.Test.YtkfhekocbfednaaZt3
import Derived.Test.YtkfhekocbfednaaZt4
import Derived.Test.YtkfhekocbfednaaZt5
import Derived.Test.YtkfhekocbfednaaZt6
import Derived.Test.YtkfhekocbfednaaZt7
import Derived.WalkKit
import Derived.OneCell
section
namespace Go.Proofs.Ytkfhekocbfednaa
set_option linter.unusedVariables false
set_option linter.unusedSimpArgs false
open Go.RowKit Go.Proofs.YtkfhekocbfednaaW.PrintWords Go.Proofs.YtkfhekocbfednaaW.PrintMore
theorem blk_of {w w1 : World} {g : Nat} {o : Obj} (hb : Below w.heap.size w w1) (h : w.heap[g]? = some o) : w1.heap[g]? = some o := (hb.block g (blk_lt h)).trans h
theorem below_more {w w1 w2 : World} (h : Below w.heap.size w w1) (k : Below w1.heap.size w1 w2) : Below w.heap.size w w2 := below_then h h.size k
def Sure (S : Nat → Prop) (w : World) (p : World → Prop) : Prop := ∀ w', (∀ k, S k → w'.heap[k]? = w.heap[k]?) → p w'
theorem Sure.here {S : Nat → Prop} {w : World} {p : World → Prop} (h : Sure S w p) : p w := h w fun _ _ => rfl
theorem Sure.move {S : Nat → Prop} {w w' : World} {p : World → Prop} (h : Sure S w p) (hm : ∀ k, S k → w'.heap[k]? = w.heap[k]?) : Sure S w' p :=
  fun w2 h2 => h w2 fun k hk => (h2 k hk).trans (hm k hk)
theorem Sure.mono {S S' : Nat → Prop} {w : World} {p : World → Prop} (h : Sure S w p) (hs : ∀ k, S k → S' k) : Sure S' w p :=
  fun w2 h2 => h w2 fun k hk => h2 k (hs k hk)
theorem Sure.imp {S : Nat → Prop} {w : World} {p q : World → Prop} (h : Sure S w p) (hq : ∀ w, p w → q w) : Sure S w q := fun w2 h2 => hq _ (h w2 h2)
theorem Sure.and {S : Nat → Prop} {w : World} {p q : World → Prop} (h : Sure S w p) (k : Sure S w q) : Sure S w (fun w => p w ∧ q w) := fun w2 h2 => ⟨h w2 h2, k w2 h2⟩
theorem Sure.below {S : Nat → Prop} {w w' : World} {p : World → Prop} (h : Sure S w p) (hd : ∀ k, S k → k < w.heap.size) (hb : Below w.heap.size w w') : Sure S w' p :=
  h.move fun k hk => hb.block k (hd k hk)
structure Back (S : Nat → Prop) (w w' : World) (q : World → Prop) : Prop where
  bel : Below w.heap.size w w'
  sure : Sure (fun k => S k ∨ (w.heap.size ≤ k ∧ k < w'.heap.size)) w' q
theorem Back.imp {S : Nat → Prop} {w w' : World} {p q : World → Prop} (h : Back S w w' p) (hq : ∀ w, p w → q w) : Back S w w' q := ⟨h.bel, h.sure.imp hq⟩
theorem Back.mono {S S' : Nat → Prop} {w w' : World} {p : World → Prop} (h : Back S w w' p) (hs : ∀ k, S k → S' k) : Back S' w w' p :=
  ⟨h.bel, h.sure.mono fun k hk => hk.imp (hs k) id⟩
theorem Back.none {S : Nat → Prop} {w w' : World} (h : Below w.heap.size w w') : Back S w w' (fun _ => True) := ⟨h, fun _ _ => trivial⟩
theorem Back.row {α : Type} {d : Kd α} {e : Nat} {S : Nat → Prop} {w w' : World} {ok : Nat → Prop} {A : Option Addr} {n c : Nat} {xs : List α} (hb : Below w.heap.size w w')
    (h : d.R e w' w.heap.size ok (.slice A n c) xs) : Back S w w' (fun w => d.C w A xs.length xs) :=
  ⟨hb, fun w2 h2 => by
    have h3 := Kd.Q_move (Kd.Q_bound (Kd.Q_of_R h)) (w1 := w2) (fun k hk => h2 k (.inr ⟨hk.2.1, hk.2.2.1⟩))
    exact (Kd.Q_reads' h3).2.2⟩
abbrev Blk := Nat × Array Value × TypeId
structure St (w0 : World) (S : Nat → Prop) (ds : List (World → Prop)) (os : List Blk) (w : World) : Prop where
  bel : Below w0.heap.size w0 w
  dom : ∀ k, S k → k < w.heap.size
  sures : ∀ p ∈ ds, Sure S w p
  own : ∀ x ∈ os, w.heap[x.1]? = some (.cells x.2.1 x.2.2 (0, 0)) ∧ ¬ S x.1 ∧ w0.heap.size ≤ x.1
  apart : (os.map (·.1)).Nodup
section
variable {w0 w w' : World} {S S' : Nat → Prop} {ds ds' : List (World → Prop)} {os : List Blk}
theorem St.enter (hd : ∀ k, S k → k < w.heap.size) (hs : ∀ p ∈ ds, Sure S w p) : St w S ds [] w :=
  ⟨Below.refl _ _, hd, hs, (fun x hx => by cases hx), by simp⟩
theorem St.enter0 (w : World) : St w (fun _ => False) [] [] w := St.enter (fun _ h => h.elim) (fun p hp => by cases hp)
theorem St.enter1 {p : World → Prop} (hd : ∀ k, S k → k < w.heap.size) (h : Sure S w p) : St w S [p] [] w :=
  St.enter hd (fun q hq => by rw [List.mem_singleton.1 hq]; exact h)
theorem St.enter2 {p q : World → Prop} (hd : ∀ k, S k → k < w.heap.size) (h : Sure S w p) (k : Sure S w q) : St w S [p, q] [] w :=
  St.enter hd (fun r hr => by
    rcases List.mem_cons.1 hr with rfl | hr
    · exact h
    · rw [List.mem_singleton.1 hr]; exact k)
theorem St.sure (h : St w0 S ds os w) (i : Nat) {p : World → Prop} (hi : ds[i]? = some p) : Sure S w p := h.sures p (List.mem_of_getElem? hi)
theorem St.at (h : St w0 S ds os w) (i : Nat) {p : World → Prop} (hi : ds[i]? = some p) : p w := (h.sure i hi).here
theorem St.blk (h : St w0 S ds os w) (i : Nat) {g : Nat} {cs : Array Value} {t : TypeId} (hi : os[i]? = some (g, cs, t)) : w.heap[g]? = some (.cells cs t (0, 0)) :=
  (h.own _ (List.mem_of_getElem? hi)).1
theorem St.base (h : St w0 S ds os w) (i : Nat) {g : Nat} {cs : Array Value} {t : TypeId} (hi : os[i]? = some (g, cs, t)) : w0.heap.size ≤ g :=
  (h.own _ (List.mem_of_getElem? hi)).2.2
theorem St.cell (h : St w0 S ds os w) (i : Nat) {g : Nat} {cs : Array Value} {t : TypeId} (hi : os[i]? = some (g, cs, t)) (j : Nat) {v : Value} (hj : cs[j]? = some v) : w.cell? ⟨g, j, none⟩ = some v :=
  (blk_cell (h.blk i hi) j).trans hj
theorem St.ne (h : St w0 S ds os w) (i j : Nat) {g g' : Nat} {cs cs' : Array Value} {t t' : TypeId} (hi : os[i]? = some (g, cs, t)) (hj : os[j]? = some (g', cs', t')) (hij : i ≠ j) : g ≠ g' := by
  intro e
  have h1 : (os.map (·.1))[i]? = some g := by rw [List.getElem?_map, hi]; rfl
  have h2 : (os.map (·.1))[j]? = some g := by rw [List.getElem?_map, hj, e]; rfl
  have hlt : i < (os.map (·.1)).length := by simpa using (List.getElem?_eq_some_iff.1 hi).1
  exact hij ((List.getElem?_inj hlt h.apart).1 (h1.trans h2.symm))
theorem St.free (h : St w0 S ds os w) (i : Nat) {g : Nat} {cs : Array Value} {t : TypeId} (hi : os[i]? = some (g, cs, t)) (j : Nat) : w.frozen? ⟨g, j, none⟩ = false := blk_frozen (h.blk i hi) j
theorem St.lt (h : St w0 S ds os w) (i : Nat) {g : Nat} {cs : Array Value} {t : TypeId} (hi : os[i]? = some (g, cs, t)) : g < w.heap.size := blk_lt (h.blk i hi)
theorem St.step (h : St w0 S ds os w) (hb : Below w.heap.size w w') : St w0 S ds os w' :=
  ⟨below_more h.bel hb, fun k hk => Nat.lt_of_lt_of_le (h.dom k hk) hb.size, fun p hp => (h.sures p hp).below h.dom hb,
    fun x hx => ⟨blk_of hb (h.own x hx).1, (h.own x hx).2⟩, h.apart⟩
theorem St.drew (h : St w0 S ds os w) : St w0 S ds os w.drew := h.step (below_drew (Below.refl _ _))
theorem St.other (h : St w0 S ds os w) (o : Obj) : St w0 S ds os (w.alloc o) := h.step (below_alloc (Below.refl _ _) o)
theorem St.alloc (h : St w0 S ds os w) (cs : Array Value) (t : TypeId) : St w0 S ds (os ++ [(w.heap.size, cs, t)]) (w.alloc (.cells cs t)) := by
  have h1 := h.other (.cells cs t)
  refine ⟨h1.bel, h1.dom, h1.sures, fun x hx => ?_, ?_⟩
  · rcases List.mem_append.1 hx with hx | hx
    · exact h1.own x hx
    · rw [List.mem_singleton.1 hx]
      exact ⟨heap_alloc_new w _, fun hk => Nat.lt_irrefl _ (h.dom _ hk), h.bel.size⟩
  · rw [List.map_append]
    refine List.nodup_append.2 ⟨h.apart, by simp, ?_⟩
    intro a ha b hb e
    rw [List.mem_singleton.1 hb] at e
    obtain ⟨x, hx, rfl⟩ := List.mem_map.1 ha
    have := blk_lt (h.own x hx).1
    simp at e
    omega
theorem St.alloc2 (h : St w0 S ds os w) (c1 : Array Value) (t1 : TypeId) (c2 : Array Value) (t2 : TypeId) :
    St w0 S ds (os ++ [(w.heap.size, c1, t1), (w.heap.size + 1, c2, t2)]) ((w.alloc (.cells c1 t1)).alloc (.cells c2 t2)) := by
  have := (h.alloc c1 t1).alloc c2 t2
  simpa using this
theorem St.alloc3 (h : St w0 S ds os w) (c1 : Array Value) (t1 : TypeId) (c2 : Array Value) (t2 : TypeId) (c3 : Array Value) (t3 : TypeId) :
    St w0 S ds (os ++ [(w.heap.size, c1, t1), (w.heap.size + 1, c2, t2), (w.heap.size + 1 + 1, c3, t3)]) (((w.alloc (.cells c1 t1)).alloc (.cells c2 t2)).alloc (.cells c3 t3)) := by
  have := (h.alloc2 c1 t1 c2 t2).alloc c3 t3
  simpa using this
theorem St.alloc4 (h : St w0 S ds os w) (c1 : Array Value) (t1 : TypeId) (c2 : Array Value) (t2 : TypeId) (c3 : Array Value) (t3 : TypeId) (c4 : Array Value) (t4 : TypeId) :
    St w0 S ds (os ++ [(w.heap.size, c1, t1), (w.heap.size + 1, c2, t2), (w.heap.size + 1 + 1, c3, t3), (w.heap.size + 1 + 1 + 1, c4, t4)]) ((((w.alloc (.cells c1 t1)).alloc (.cells c2 t2)).alloc (.cells c3 t3)).alloc (.cells c4 t4)) := by
  have := (h.alloc3 c1 t1 c2 t2 c3 t3).alloc c4 t4
  simpa using this
theorem St.alloc5 (h : St w0 S ds os w) (c1 : Array Value) (t1 : TypeId) (c2 : Array Value) (t2 : TypeId) (c3 : Array Value) (t3 : TypeId) (c4 : Array Value) (t4 : TypeId) (c5 : Array Value) (t5 : TypeId) :
    St w0 S ds (os ++ [(w.heap.size, c1, t1), (w.heap.size + 1, c2, t2), (w.heap.size + 1 + 1, c3, t3), (w.heap.size + 1 + 1 + 1, c4, t4), (w.heap.size + 1 + 1 + 1 + 1, c5, t5)])
      (((((w.alloc (.cells c1 t1)).alloc (.cells c2 t2)).alloc (.cells c3 t3)).alloc (.cells c4 t4)).alloc (.cells c5 t5)) := by
  have := (h.alloc4 c1 t1 c2 t2 c3 t3 c4 t4).alloc c5 t5
  simpa using this
theorem St.set (h : St w0 S ds os w) (i : Nat) {g : Nat} {cs : Array Value} {t : TypeId} (hi : os[i]? = some (g, cs, t)) (j : Nat) (v : Value) :
    St w0 S ds (os.set i (g, cs.setIfInBounds j v, t)) (w.setCell ⟨g, j, none⟩ v) := by
  have hg := h.own _ (List.mem_of_getElem? hi)
  have hlt : i < os.length := (List.getElem?_eq_some_iff.1 hi).1
  have hfar : ∀ k, k ≠ g → (w.setCell ⟨g, j, none⟩ v).heap[k]? = w.heap[k]? := fun k hk => Below.heap_setCell w ⟨g, j, none⟩ v k hk
  refine ⟨h.bel.setCell hg.2.2 _, fun k hk => ?_, fun p hp => ?_, fun x hx => ?_, ?_⟩
  · have := h.dom k hk
    simpa [World.setCell] using this
  · exact (h.sures p hp).move fun k hk => hfar k fun e => hg.2.1 (e ▸ hk)
  · rcases List.mem_iff_getElem?.1 hx with ⟨m, hm⟩
    rw [List.getElem?_set] at hm
    by_cases e : i = m
    · rw [if_pos e, if_pos hlt] at hm
      injection hm with hm
      subst hm
      exact ⟨blk_set hg.1 j v, hg.2⟩
    · rw [if_neg e] at hm
      have hx' := h.own x (List.mem_of_getElem? hm)
      have hne : x.1 ≠ g := by
        intro e'
        have h1 : (os.map (·.1))[i]? = some g := by rw [List.getElem?_map, hi]; rfl
        have h2 : (os.map (·.1))[m]? = some g := by rw [List.getElem?_map, hm]; simp [e']
        have := (List.getElem?_inj (by simpa using hlt) h.apart).1 (h1.trans h2.symm)
        exact e this
      exact ⟨by rw [hfar _ hne]; exact hx'.1, hx'.2⟩
  · have : (os.set i (g, cs.setIfInBounds j v, t)).map (·.1) = os.map (·.1) := by
      apply List.ext_getElem?
      intro m
      rw [List.getElem?_map, List.getElem?_map, List.getElem?_set]
      by_cases e : i = m
      · subst e; rw [if_pos rfl, if_pos hlt, hi]; rfl
      · rw [if_neg e]
    rw [this]; exact h.apart
theorem St.call (h : St w0 S ds os w) {q : World → Prop} (hb : Back S w w' q) : St w0 (fun k => S k ∨ (w.heap.size ≤ k ∧ k < w'.heap.size)) (q :: ds) os w' := by
  have h1 := h.step hb.bel
  refine ⟨h1.bel, fun k hk => hk.elim (h1.dom k) (·.2), fun p hp => ?_, fun x hx => ?_, h1.apart⟩
  · rcases List.mem_cons.1 hp with rfl | hp
    · exact hb.sure
    · exact (h1.sures p hp).mono fun k hk => .inl hk
  · refine ⟨(h1.own x hx).1, ?_, (h1.own x hx).2.2⟩
    have := blk_lt (h.own x hx).1
    rintro (hk | hk)
    · exact (h1.own x hx).2.1 hk
    · omega
theorem St.adopt (h : St w0 S ds os w) (hb : Below w.heap.size w w') {g : Nat} {cs : Array Value} {t : TypeId} (hg : w'.heap[g]? = some (.cells cs t (0, 0))) (hn : w.heap.size ≤ g) :
    St w0 S ds (os ++ [(g, cs, t)]) w' := by
  have h1 := h.step hb
  refine ⟨h1.bel, h1.dom, h1.sures, fun x hx => ?_, ?_⟩
  · rcases List.mem_append.1 hx with hx | hx
    · exact h1.own x hx
    · rw [List.mem_singleton.1 hx]
      exact ⟨hg, fun hk => by have := h.dom _ hk; simp at this; omega, Nat.le_trans h.bel.size hn⟩
  · rw [List.map_append]
    refine List.nodup_append.2 ⟨h.apart, by simp, ?_⟩
    intro a ha b hb e
    rw [List.mem_singleton.1 hb] at e
    obtain ⟨x, hx, rfl⟩ := List.mem_map.1 ha
    have := blk_lt (h.own x hx).1
    simp at e
    omega
theorem St.take (h : St w0 S ds os w) {g : Nat} {cs : Array Value} {t : TypeId} (hg : w.heap[g]? = some (.cells cs t (0, 0))) (hb : w0.heap.size ≤ g) (hS : ¬ S g) (hne : ∀ x ∈ os, x.1 ≠ g) : St w0 S ds (os ++ [(g, cs, t)]) w := by
  refine ⟨h.bel, h.dom, h.sures, fun x hx => ?_, ?_⟩
  · rcases List.mem_append.1 hx with hx | hx
    · exact h.own x hx
    · rw [List.mem_singleton.1 hx]
      exact ⟨hg, hS, hb⟩
  · rw [List.map_append]
    refine List.nodup_append.2 ⟨h.apart, by simp, ?_⟩
    intro a ha b hb e
    rw [List.mem_singleton.1 hb] at e
    obtain ⟨x, hx, rfl⟩ := List.mem_map.1 ha
    exact hne x hx e
theorem St.grown (h : St w0 S ds os w) {row : Option Nat} (hg : w.grownBy w' row) (hr : ∀ k, row = some k → w0.heap.size ≤ k ∧ ¬ S k ∧ ∀ x ∈ os, x.1 ≠ k) : St w0 S ds os w' := by
  have hk : ∀ k, k < w.heap.size → some k ≠ row → w'.heap[k]? = w.heap[k]? := fun k hk hn => hg.block k hk hn
  refine ⟨h.bel.grown hg h.bel.size fun k e => (hr k e).1, fun k hk' => Nat.lt_of_lt_of_le (h.dom k hk') hg.size, fun p hp => (h.sures p hp).move fun k hs => hk k (h.dom k hs) fun e => (hr k e.symm).2.1 hs, fun x hx => ⟨?_, (h.own x hx).2⟩, h.apart⟩
  rw [hk _ (blk_lt (h.own x hx).1) fun e => (hr _ e.symm).2.2 x hx rfl]
  exact (h.own x hx).1
theorem R_set {α : Type} {d : Kd α} {e base : Nat} {w : World} {ok : Nat → Prop} {v : Value} {xs : List α} (h : d.R e w base ok v xs) {g : Nat} (hg : g < base) (j : Nat) (u : Value) : d.R e (w.setCell ⟨g, j, none⟩ u) base ok v xs :=
  Kd.R_mono (Kd.R_far (Kd.R_bound h) (fun k hk e => by have h1 := hk.2.1; have h2 : k = g := e; omega) u) fun _ hk => hk.1
theorem St.sureBlk (h : St w0 S ds os w) (i : Nat) {g : Nat} {cs : Array Value} {t : TypeId} (hi : os[i]? = some (g, cs, t)) :
    Sure (fun k => S k ∨ (w0.heap.size ≤ k ∧ k < w.heap.size)) w (fun w => w.heap[g]? = some (.cells cs t (0, 0))) :=
  fun w2 h2 => (h2 g (.inr ⟨h.base i hi, h.lt i hi⟩)).trans (h.blk i hi)
theorem St.sureNew (h : St w0 S ds os w) (i : Nat) {p : World → Prop} (hi : ds[i]? = some p) : Sure (fun k => S k ∨ (w0.heap.size ≤ k ∧ k < w.heap.size)) w p := (h.sure i hi).mono fun _ hk => .inl hk
theorem St.done (h : St w0 S ds os w) {q : World → Prop} (hq : Sure (fun k => S k ∨ (w0.heap.size ≤ k ∧ k < w.heap.size)) w q) {S0 : Nat → Prop} (hS : ∀ k, S k → S0 k ∨ w0.heap.size ≤ k) : Back S0 w0 w q :=
  ⟨h.bel, hq.mono fun k hk => by
    rcases hk with hk | hk
    · exact (hS k hk).imp id fun h2 => ⟨h2, h.dom k hk⟩
    · exact .inr hk⟩
theorem St.done' (h : St w0 S ds os w) {q : World → Prop} (hq : Sure (fun k => S k ∨ (w0.heap.size ≤ k ∧ k < w.heap.size)) w q) : Back S w0 w q := h.done hq fun _ hk => .inl hk
theorem St.drop (h : St w0 S ds os w) (hd : ∀ p ∈ ds', p ∈ ds) : St w0 S ds' os w := ⟨h.bel, h.dom, fun p hp => h.sures p (hd p hp), h.own, h.apart⟩
theorem St.add (h : St w0 S ds os w) {q : World → Prop} (hq : Sure S w q) : St w0 S (q :: ds) os w :=
  ⟨h.bel, h.dom, fun p hp => by rcases List.mem_cons.1 hp with rfl | hp; exact hq; exact h.sures p hp, h.own, h.apart⟩
theorem St.only (h : St w0 S ds os w) : St w0 S ds [] w := ⟨h.bel, h.dom, h.sures, (fun x hx => by cases hx), by simp⟩
end
theorem set_get {cs : Array Value} {i : Nat} {v : Value} (h : i < cs.size) : (cs.setIfInBounds i v)[i]? = some v := by simp [h]
def rowBlk {α : Type} (enc : α → Value) (xs : List α) (rest : List Value) : Array Value := (xs.map enc ++ rest).toArray
section
variable {α : Type} {enc : α → Value} {h1 : ∀ x, (enc x).oneCell' = true}
theorem rowBlk_get (xs : List α) (rest : List Value) (d : α) (i : Nat) (hi : i < xs.length) : (rowBlk enc xs rest)[i]? = some (enc (xs.getD i d)) := by
  simp [rowBlk, List.getElem?_append, hi, List.getD]
theorem rowBlk_size (xs : List α) (rest : List Value) : (rowBlk enc xs rest).size = xs.length + rest.length := by simp [rowBlk]
theorem rowBlk_set (xs : List α) (rest : List Value) (i : Nat) (y : α) (hi : i < xs.length) : (rowBlk enc xs rest).setIfInBounds i (enc y) = rowBlk enc (xs.set i y) rest := by
  simp [rowBlk, List.set_append, hi, List.map_set]
theorem C_of_rowBlk {w : World} {g : Nat} {t : TypeId} {xs : List α} {rest : List Value} (h : w.heap[g]? = some (.cells (rowBlk enc xs rest) t (0, 0))) (hn : xs.length ≤ 9223372036854775807) :
    (Kd.scalar enc h1).C w (some ⟨g, 0, none⟩) xs.length xs := by
  refine ⟨rfl, hn, fun _ => ⟨_, rfl, fun j p hj => ⟨[enc p], rfl, rfl, fun i u hu => ?_⟩⟩⟩
  obtain ⟨hl, hp⟩ := List.getElem?_eq_some_iff.1 hj
  cases i with
  | zero =>
    have : enc p = u := by simpa using hu
    subst this
    rw [add_plain, blk_cell h]
    simp [Kd.scalar, rowBlk, List.getElem?_append, hl, hp]
  | succ i => simp at hu
theorem row_of_R {e base n c g : Nat} {ok : Nat → Prop} {w : World} {xs : List α} (h : (Kd.scalar enc h1).R e w base ok (.slice (some ⟨g, 0, none⟩) n c) xs) :
    ∃ rest, w.heap[g]? = some (.cells (rowBlk enc xs rest) e (0, 0)) ∧ base ≤ g ∧ n = xs.length ∧ xs.length ≤ c ∧ c = xs.length + rest.length := by
  obtain ⟨h2, h3⟩ := Kd.own_of_R h
  rcases h3 with ⟨h3, _⟩ | ⟨g', cap, cur, hv, hb, hh, h5, _, h7, h8⟩
  · cases h3
  · cases hv
    rw [Nat.mul_one] at h7 h8
    refine ⟨cur.toList.drop xs.length, ?_, hb, rfl, h5, by simp only [List.length_drop, Array.length_toList]; omega⟩
    rw [hh]
    have : cur = rowBlk enc xs (cur.toList.drop xs.length) := by
      apply Array.ext'
      show cur.toList = xs.map enc ++ cur.toList.drop xs.length
      rw [show xs.map enc = encs enc xs from rfl, ← h8, List.take_append_drop]
    rw [← this]
end
end Go.Proofs.Ytkfhekocbfednaa
namespace Go.Proofs.Ytkfhekocbfednaa
set_option linter.unusedVariables false
set_option linter.unusedSimpArgs false
open Go.RowKit Go.Proofs.YtkfhekocbfednaaW.PrintWords Go.Proofs.YtkfhekocbfednaaW.PrintMore
structure Upd (w w' : World) (g : Nat) : Prop where
  os : w'.os = w.os
  tape : w'.tape = w.tape
  output : w'.output = w.output
  size : w.heap.size ≤ w'.heap.size
  block : ∀ k, k < w.heap.size → k ≠ g → w'.heap[k]? = w.heap[k]?
theorem Upd.set {w w' : World} {g : Nat} (h : Upd w w' g) (j : Nat) (v : Value) : Upd w (w'.setCell ⟨g, j, none⟩ v) g :=
  ⟨h.os, h.tape, h.output, by have := h.size; simpa [World.setCell] using this, fun k hk hn => (Below.heap_setCell w' ⟨g, j, none⟩ v k hn).trans (h.block k hk hn)⟩
theorem Upd.below {w w' w2 : World} {g : Nat} (h : Upd w w' g) (k : Below w'.heap.size w' w2) : Upd w w2 g :=
  ⟨k.os.trans h.os, k.tape.trans h.tape, k.output.trans h.output, Nat.le_trans h.size k.size, fun q hq hn => (k.block q (Nat.lt_of_lt_of_le hq h.size)).trans (h.block q hq hn)⟩
end Go.Proofs.Ytkfhekocbfednaa
namespace Go.Proofs.Ytkfhekocbfednaa
set_option linter.unusedVariables false
set_option linter.unusedSimpArgs false
open Go.RowKit Go.Proofs.YtkfhekocbfednaaW.PrintWords Go.Proofs.YtkfhekocbfednaaW.PrintMore
theorem heap_three (w : World) (a b c : Obj) : (((w.alloc a).alloc b).alloc c).drew.heap.size = w.heap.size + 1 + 1 + 1 := by simp
theorem max2_max (k k' : IntKind) (x y : Int) : Builtin.max2 (.int k x) (.int k' y) = pure (.int k (max x y)) := by
  rw [max2_int]; congr 2; rw [Int.max_def]; split <;> split <;> omega
theorem min2_min (k k' : IntKind) (x y : Int) : Builtin.min2 (.int k x) (.int k' y) = pure (.int k (min x y)) := by
  rw [min2_int]; congr 2; rw [Int.min_def]; split <;> split <;> omega
section
variable {w0 w w' : World} {S : Nat → Prop} {ds : List (World → Prop)} {os l : List Blk}
theorem inR {x : Blk} {k : Nat} (h : l[k]? = some x) : (os ++ l)[os.length + k]? = some x := by
  rw [List.getElem?_append_right (by omega), Nat.add_sub_cancel_left]; exact h
theorem inL {x : Blk} {k : Nat} (h : os[k]? = some x) : (os ++ l)[k]? = some x := by
  rw [List.getElem?_append_left (List.getElem?_eq_some_iff.1 h).1]; exact h
theorem St.low (h : St w0 S ds (os ++ l) w) : St w0 S ds os w :=
  ⟨h.bel, h.dom, h.sures, fun x hx => h.own x (List.mem_append_left _ hx), by have := h.apart; rw [List.map_append] at this; exact (List.nodup_append.1 this).1⟩
theorem St.allocR (h : St w0 S ds (os ++ l) w) (cs : Array Value) (t : TypeId) : St w0 S ds (os ++ (l ++ [(w.heap.size, cs, t)])) (w.alloc (.cells cs t)) := by
  have := h.alloc cs t; rw [List.append_assoc] at this; exact this
theorem St.allocR_ (h : St w0 S ds (os ++ l) w) {q : Nat} (hq : w.heap.size = q) (cs : Array Value) (t : TypeId) : St w0 S ds (os ++ (l ++ [(q, cs, t)])) (w.alloc (.cells cs t)) := hq ▸ h.allocR cs t
theorem St.setR (h : St w0 S ds (os ++ l) w) (k : Nat) {g : Nat} {cs : Array Value} {t : TypeId} (hk : l[k]? = some (g, cs, t)) (j : Nat) (v : Value) :
    St w0 S ds (os ++ l.set k (g, cs.setIfInBounds j v, t)) (w.setCell ⟨g, j, none⟩ v) := by
  have := h.set _ (inR hk) j v
  rw [List.set_append_right _ _ (by omega), Nat.add_sub_cancel_left] at this; exact this
theorem St.setL (h : St w0 S ds (os ++ l) w) (k : Nat) {g : Nat} {cs : Array Value} {t : TypeId} (hk : os[k]? = some (g, cs, t)) (j : Nat) (v : Value) :
    St w0 S ds (os.set k (g, cs.setIfInBounds j v, t) ++ l) (w.setCell ⟨g, j, none⟩ v) := by
  have := h.set _ (inL hk) j v
  rw [List.set_append_left _ _ (List.getElem?_eq_some_iff.1 hk).1] at this; exact this
theorem St.neLR (h : St w0 S ds (os ++ l) w) (i k : Nat) {g g' : Nat} {cs cs' : Array Value} {t t' : TypeId} (hi : os[i]? = some (g, cs, t)) (hk : l[k]? = some (g', cs', t')) : g ≠ g' :=
  h.ne _ _ (inL hi) (inR hk) (by have := (List.getElem?_eq_some_iff.1 hi).1; omega)
end
end Go.Proofs.Ytkfhekocbfednaa
namespace Go.Proofs.Ytkfhekocbfednaa
set_option linter.unusedVariables false
set_option linter.unusedSimpArgs false
open Go.RowKit Go.Proofs.YtkfhekocbfednaaW.PrintWords Go.Proofs.YtkfhekocbfednaaW.PrintMore
section
variable {P : Program} {ops : Array Oper} {Q : Exit → Act → World → Prop}
theorem load_row {oi : Oper} {a : Act} {w : World} {ty : TypeId} {p : Operand} (g : Nat) (t : TypeId) (cs : Array Value) (fr : Nat × Nat) (d : TypeDesc) (hop : oi.op = .load ty p) (hp : a.eval p = .pointer (some ⟨g, 0, none⟩))
    (hg : w.heap[g]? = some (.cells cs t fr)) (hu : P.underlying ty = some d) (hd : (match d with | .struct _ | .array _ _ => true | _ => false) = true) (hi : (P.info? ty).map (·.size) = some cs.size) :
    (execOp a.eval oi).run P w = .ok (.value (.agg cs)) w := by
  unfold execOp
  simp [hop, hp, Instr.loadAt, Instr.sureAddr, run_loadVar_row w g t ty cs fr d hg hu hd hi]
theorem store_row {oi : Oper} {a : Act} {w : World} {ty : TypeId} {p q : Operand} (g : Nat) (t : TypeId) (old cs : Array Value) (hop : oi.op = .store ty p q) (hp : a.eval p = .pointer (some ⟨g, 0, none⟩)) (hq : a.eval q = .agg cs)
    (hg : w.heap[g]? = some (.cells old t (0, 0))) (hi : (P.info? ty).map (·.size) = some cs.size) (ho : old.size = cs.size) (h1 : cs.all (·.oneCell') = true) :
    (execOp a.eval oi).run P w = .ok .skip (w.setRow g cs) := by
  unfold execOp
  simp [hop, hp, hq, Instr.storeAt, Instr.sureAddr, run_storeVar_row w g t ty old cs hg hi ho h1]
theorem loadRowL_ {rest : List Oper} {oi : Oper} {a : Act} {w : World} {ty : TypeId} {p : Operand} (N : Option Tmp) (hd' : oi.dst = N) (hgd : oi.guard = none) (hop : oi.op = .load ty p) (g : Nat) (t : TypeId) (cs : Array Value) (fr : Nat × Nat) (d : TypeDesc) (hp : a.eval p = .pointer (some ⟨g, 0, none⟩))
    (hg : w.heap[g]? = some (.cells cs t fr)) (hu : P.underlying ty = some d) (hd : (match d with | .struct _ | .array _ _ => true | _ => false) = true) (hi : (P.info? ty).map (·.size) = some cs.size)
    (h : wpList P ops Q rest (a.put N (.agg cs)) w) : wpList P ops Q (oi :: rest) a w := by
  refine wpList_plain hgd fun K hK => ?_
  unfold Oper.wp
  rw [load_row g t cs fr d hop hp hg hu hd hi]
  subst hd'
  exact hK _ _ h
theorem storeRowL_ {rest : List Oper} {oi : Oper} {a : Act} {w : World} {ty : TypeId} {p q : Operand} (hop : oi.op = .store ty p q) (hd' : oi.dst = none) (hgd : oi.guard = none) (g : Nat) (t : TypeId) (old cs : Array Value) (hp : a.eval p = .pointer (some ⟨g, 0, none⟩)) (hq : a.eval q = .agg cs)
    (hg : w.heap[g]? = some (.cells old t (0, 0))) (hi : (P.info? ty).map (·.size) = some cs.size) (ho : old.size = cs.size) (h1 : cs.all (·.oneCell') = true)
    (h : wpList P ops Q rest a (w.setRow g cs)) : wpList P ops Q (oi :: rest) a w := by
  refine wpList_plain hgd fun K hK => ?_
  unfold Oper.wp
  rw [store_row g t old cs hop hp hq hg hi ho h1]
  show K (a.put oi.dst undef) _
  rw [hd']
  exact hK _ _ h
end
section
variable {w0 w w' : World} {S : Nat → Prop} {ds : List (World → Prop)} {os l : List Blk}
theorem St.alloc_ (h : St w0 S ds os w) {q : Nat} (hq : w.heap.size = q) (cs : Array Value) (t : TypeId) : St w0 S ds (os ++ [(q, cs, t)]) (w.alloc (.cells cs t)) := hq ▸ h.alloc cs t
theorem St.setRow (h : St w0 S ds os w) (i : Nat) {g : Nat} {cs : Array Value} {t : TypeId} (hi : os[i]? = some (g, cs, t)) (cs' : Array Value) :
    St w0 S ds (os.set i (g, cs', t)) (w.setRow g cs') := by
  have hg := h.own _ (List.mem_of_getElem? hi)
  have hlt : i < os.length := (List.getElem?_eq_some_iff.1 hi).1
  have hfar : ∀ k, k ≠ g → (w.setRow g cs').heap[k]? = w.heap[k]? := fun k hk => setRow_other w g k cs' hk
  refine ⟨⟨h.bel.os, h.bel.tape, h.bel.output, by rw [setRow_size]; exact h.bel.size, fun k hk => (hfar k (by have := hg.2.2; dsimp only at this; omega)).trans (h.bel.block k hk)⟩, fun k hk => ?_, fun p hp => ?_, fun x hx => ?_, ?_⟩
  · rw [setRow_size]; exact h.dom k hk
  · exact (h.sures p hp).move fun k hk => hfar k fun e => hg.2.1 (e ▸ hk)
  · rcases List.mem_iff_getElem?.1 hx with ⟨m, hm⟩
    rw [List.getElem?_set] at hm
    by_cases e : i = m
    · rw [if_pos e, if_pos hlt] at hm
      injection hm with hm
      subst hm
      exact ⟨setRow_heap w g cs cs' t (0, 0) hg.1, hg.2⟩
    · rw [if_neg e] at hm
      have hx' := h.own x (List.mem_of_getElem? hm)
      have hne : x.1 ≠ g := fun e' => h.ne m i (g := x.1) (cs := x.2.1) (t := x.2.2) hm hi (Ne.symm e) e'
      exact ⟨by rw [hfar _ hne]; exact hx'.1, hx'.2⟩
  · have : (os.set i (g, cs', t)).map (·.1) = os.map (·.1) := by
      apply List.ext_getElem?
      intro m
      rw [List.getElem?_map, List.getElem?_map, List.getElem?_set]
      by_cases e : i = m
      · subst e; rw [if_pos rfl, if_pos hlt, hi]; rfl
      · rw [if_neg e]
    rw [this]; exact h.apart
end
end Go.Proofs.Ytkfhekocbfednaa
namespace Go.Proofs.Ytkfhekocbfednaa
set_option linter.unusedVariables false
set_option linter.unusedSimpArgs false
open Go.RowKit Go.Proofs.YtkfhekocbfednaaW.PrintWords Go.Proofs.YtkfhekocbfednaaW.PrintMore
section
variable {P : Program} {ops : Array Oper} {Q : Exit → Act → World → Prop} {w0 : World} {S : Nat → Prop} {ds : List (World → Prop)} {os : List Blk}
theorem storeRowSt_ {rest : List Oper} {oi : Oper} {a : Act} {w : World} {ty : TypeId} {p q : Operand} (hop : oi.op = .store ty p q) (hd' : oi.dst = none) (hgd : oi.guard = none) (cs : Array Value) (H : St w0 S ds os w) (i : Nat) {g : Nat} {t : TypeId} {old : Array Value}
    (hi : os[i]? = some (g, old, t)) (hp : a.eval p = .pointer (some ⟨g, 0, none⟩)) (hq : a.eval q = .agg cs)
    (hz : (P.info? ty).map (·.size) = some cs.size) (ho : old.size = cs.size) (h1 : cs.all (·.oneCell') = true)
    (h : ∀ w', St w0 S ds (os.set i (g, cs, t)) w' → wpList P ops Q rest a w') : wpList P ops Q (oi :: rest) a w :=
  storeRowL_ hop hd' hgd g t old cs hp hq (H.blk i hi) hz ho h1 (h _ (H.setRow i hi cs))
end
end Go.Proofs.Ytkfhekocbfednaa
end
