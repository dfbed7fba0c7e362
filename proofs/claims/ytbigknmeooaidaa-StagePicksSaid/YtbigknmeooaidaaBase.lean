/-
  Plain words for heaps, used by every walk: which blocks a call may write, what a slice reads as, what a slice of the call's own holds; the built-in append in one law. No program in sight.
-/
import Derived.WalkKit
import Derived.WalkSpells
import Derived.WalkLawsBesides
import Derived.Lib.Hide
import Derived.Deep.QuietTactic
import Derived.BigQuiet
import Derived.Deep.DeepCutAuto
import Derived.Deep.CutBlock
import Derived.Deep.LoopGhost
import Derived.Deep.RegionWith
namespace Go.Proofs.Ytbigknmeooaidaa
open Go Go.RowKit
set_option linter.unusedVariables false
set_option linter.unusedSimpArgs false

/-- From w to w' no old block outside S has turned. -/
structure Keep (w w' : World) (S : Nat → Prop) : Prop where
  os : w'.os = w.os
  tape : w'.tape = w.tape
  output : w'.output = w.output
  size : w.heap.size ≤ w'.heap.size
  block : ∀ k, k < w.heap.size → ¬ S k → w'.heap[k]? = w.heap[k]?

def Nope : Nat → Prop := fun _ => False
/-- The blocks that are there in w', and were not in w. -/
def New (w w' : World) : Nat → Prop := fun i => w.heap.size ≤ i ∧ i < w'.heap.size

theorem Keep.refl (w : World) (S : Nat → Prop) : Keep w w S := ⟨rfl, rfl, rfl, Nat.le_refl _, fun _ _ _ => rfl⟩
theorem Keep.trans {a b c : World} {S T : Nat → Prop} (h : Keep a b S) (k : Keep b c T) (hT : ∀ i, T i → S i ∨ a.heap.size ≤ i) : Keep a c S :=
  ⟨k.os.trans h.os, k.tape.trans h.tape, k.output.trans h.output, Nat.le_trans h.size k.size, fun i hi hS =>
    (k.block i (Nat.lt_of_lt_of_le hi h.size) (fun ht => (hT i ht).elim hS (fun h => by omega))).trans (h.block i hi hS)⟩
theorem Keep.mono {a b : World} {S T : Nat → Prop} (h : Keep a b S) (hT : ∀ i, S i → T i ∨ a.heap.size ≤ i) : Keep a b T :=
  ⟨h.os, h.tape, h.output, h.size, fun i hi hn => h.block i hi (fun hs => (hT i hs).elim hn (fun h => by omega))⟩
theorem Keep.drew {a w : World} {S : Nat → Prop} (h : Keep a w S) : Keep a w.drew S := ⟨h.os, h.tape, h.output, h.size, h.block⟩
theorem Keep.drewN {a w : World} {S : Nat → Prop} (h : Keep a w S) (n : Nat) : Keep a (w.drewN n) S := ⟨h.os, h.tape, h.output, h.size, h.block⟩
theorem Keep.alloc {a w : World} {S : Nat → Prop} (h : Keep a w S) (o : Obj) : Keep a (w.alloc o) S :=
  ⟨h.os, h.tape, h.output, by have := h.size; simp; omega, fun k hk hS => (Below.heap_alloc w o k (Nat.lt_of_lt_of_le hk h.size)).trans (h.block k hk hS)⟩
theorem Keep.setCell {a w : World} {S : Nat → Prop} (h : Keep a w S) {p : Addr} (hp : S p.block ∨ a.heap.size ≤ p.block) (u : Value) : Keep a (w.setCell p u) S :=
  ⟨h.os, h.tape, h.output, by have := h.size; simpa [World.setCell] using this, fun k hk hS => (Below.heap_setCell w p u k (by rintro rfl; exact hp.elim hS (fun h => by omega))).trans (h.block k hk hS)⟩
theorem Keep.setRow {a w : World} {S : Nat → Prop} (h : Keep a w S) {g : Nat} (hp : S g ∨ a.heap.size ≤ g) (cs : Array Value) : Keep a (w.setRow g cs) S :=
  ⟨h.os, h.tape, h.output, by have := h.size; simpa using this, fun k hk hS => (setRow_other w g k cs (by rintro rfl; exact hp.elim hS (fun h => by omega))).trans (h.block k hk hS)⟩
theorem Keep.grown {a w w' : World} {S : Nat → Prop} (h : Keep a w S) {row : Option Nat} (hg : w.grownBy w' row) (hr : ∀ k, row = some k → S k ∨ a.heap.size ≤ k) : Keep a w' S :=
  ⟨hg.os.trans h.os, hg.tape.trans h.tape, hg.output.trans h.output, Nat.le_trans h.size hg.size, fun k hk hS =>
    (hg.block k (Nat.lt_of_lt_of_le hk h.size) (fun e => (hr k e.symm).elim hS (fun h => by omega))).trans (h.block k hk hS)⟩
theorem Keep.below {w w' : World} (h : Keep w w' Nope) : Below w.heap.size w w' := ⟨h.os, h.tape, h.output, h.size, fun k hk => h.block k hk (fun f => f)⟩
theorem Keep.belowAt {a b : World} {S : Nat → Prop} {B : Nat} (h : Keep a b S) (hS : ∀ i, S i → B ≤ i) (hB : B ≤ a.heap.size) : Below B a b :=
  ⟨h.os, h.tape, h.output, h.size, fun k hk => h.block k (by omega) (fun f => by have := hS k f; omega)⟩
theorem Keep.ofBelow {a b : World} {B : Nat} (h : Below B a b) : Keep a b (fun i => B ≤ i) := ⟨h.os, h.tape, h.output, h.size, fun k _ hS => h.block k (by omega)⟩
theorem Keep.cell {w w' : World} {S : Nat → Prop} (h : Keep w w' S) {p : Addr} {v : Value} (hc : w.cell? p = some v) (hS : ¬ S p.block) : w'.cell? p = some v :=
  (World.cell?_of_block (h.block p.block (World.block_lt_of_cell? w p hc) hS)).trans hc

/-- Block b is a row of cells that may be written. -/
def Blk (w : World) (b : Nat) (cs : Array Value) (t : TypeId) : Prop := w.heap[b]? = some (.cells cs t (0, 0))
theorem Blk.lt {w : World} {b : Nat} {cs : Array Value} {t : TypeId} (h : Blk w b cs t) : b < w.heap.size := (Array.getElem?_eq_some_iff.1 h).1
theorem Blk.cell {w : World} {b : Nat} {cs : Array Value} {t : TypeId} (h : Blk w b cs t) (j : Nat) : w.cell? ⟨b, j, none⟩ = cs[j]? := cell_of_row w b j cs t _ h
theorem Blk.frozen {w : World} {b : Nat} {cs : Array Value} {t : TypeId} (h : Blk w b cs t) (j : Nat) : w.frozen? ⟨b, j, none⟩ = false := frozen_of_row w b j cs t h
theorem Blk.setCell {w : World} {b : Nat} {cs : Array Value} {t : TypeId} (h : Blk w b cs t) (j : Nat) (u : Value) : Blk (w.setCell ⟨b, j, none⟩ u) b (cs.setIfInBounds j u) t := heap_setCell_same w b j cs t u h
theorem Blk.other {w : World} {b : Nat} {cs : Array Value} {t : TypeId} (h : Blk w b cs t) {p : Addr} (hp : b ≠ p.block) (u : Value) : Blk (w.setCell p u) b cs t := (Below.heap_setCell w p u b hp).trans h
theorem Blk.keep {w w' : World} {S : Nat → Prop} {b : Nat} {cs : Array Value} {t : TypeId} (h : Blk w b cs t) (hk : Keep w w' S) (hS : ¬ S b) : Blk w' b cs t := (hk.block b h.lt hS).trans h
theorem Blk.alloc {w : World} {b : Nat} {cs : Array Value} {t : TypeId} (h : Blk w b cs t) (o : Obj) : Blk (w.alloc o) b cs t := h.keep (Keep.alloc (Keep.refl w Nope) o) (fun f => f)
theorem Blk.drew {w : World} {b : Nat} {cs : Array Value} {t : TypeId} (h : Blk w b cs t) : Blk w.drew b cs t := h
theorem Blk.new (w : World) (cs : Array Value) (t : TypeId) : Blk (w.alloc (.cells cs t)) w.heap.size cs t := heap_alloc_new w _
theorem Blk.ne {w : World} {b c : Nat} {cs ds : Array Value} {t u : TypeId} (h : Blk w b cs t) (k : Blk w c ds u) (htu : t ≠ u) : b ≠ c := by
  rintro rfl
  have := Option.some.inj (h.symm.trans k)
  injection this with _ h2 _
  exact htu h2

/-- v is a slice of n elements that reads as the flat values xs, in blocks of S. -/
def Rd (S : Nat → Prop) (w : World) (v : Value) (n : Nat) (xs : List Value) : Prop :=
  ∃ a c, v = .slice a n c ∧ n ≤ c ∧ c ≤ maxLen ∧ (a = none → n = 0 ∧ c = 0) ∧
    ∀ j u, xs[j]? = some u → ∃ b o, a = some ⟨b, o, none⟩ ∧ S b ∧ w.cell? ⟨b, o + j, none⟩ = some u
theorem Rd.keep {S T : Nat → Prop} {w w' : World} {v : Value} {n : Nat} {xs : List Value} (h : Rd S w v n xs) (hk : Keep w w' T) (hd : ∀ i, S i → T i → False) : Rd S w' v n xs := by
  obtain ⟨a, c, rfl, h1, h2, h3, h4⟩ := h
  refine ⟨a, c, rfl, h1, h2, h3, fun j u hu => ?_⟩
  obtain ⟨b, o, rfl, hb, hc⟩ := h4 j u hu
  exact ⟨b, o, rfl, hb, hk.cell hc (hd b hb)⟩
theorem Rd.mono {S T : Nat → Prop} {w : World} {v : Value} {n : Nat} {xs : List Value} (h : Rd S w v n xs) (hT : ∀ i, S i → T i) : Rd T w v n xs := by
  obtain ⟨a, c, rfl, h1, h2, h3, h4⟩ := h
  refine ⟨a, c, rfl, h1, h2, h3, fun j u hu => ?_⟩
  obtain ⟨b, o, rfl, hb, hc⟩ := h4 j u hu
  exact ⟨b, o, rfl, hT b hb, hc⟩

/-- v is a slice of the call's own (its row, if any, lies in a block of S), of n elements of type e, each of 'size' cells; it holds xs. -/
def Own (S : Nat → Prop) (w : World) (e : TypeId) (size : Nat) (v : Value) (n : Nat) (xs : List Value) : Prop :=
  w.ownsRow 0 e size v n xs ∧ ∀ g, v.ownBlock = some g → S g
theorem Own.nil (S : Nat → Prop) (w : World) (e : TypeId) (size : Nat) : Own S w e size (.slice none 0 0) 0 [] := ⟨World.ownsRow_nil w 0 e size, fun g h => by simp [Value.ownBlock] at h⟩
theorem Own.keep {S T : Nat → Prop} {w w' : World} {e : TypeId} {size : Nat} {v : Value} {n : Nat} {xs : List Value} (h : Own S w e size v n xs) (hk : Keep w w' T) (hd : ∀ i, S i → T i → False) : Own S w' e size v n xs := by
  refine ⟨⟨h.1.1, ?_⟩, h.2⟩
  rcases h.1.2 with hn | ⟨g, cap, cur, rfl, hb, hg, r⟩
  · exact .inl hn
  · exact .inr ⟨g, cap, cur, rfl, hb, (hk.block g (Array.getElem?_eq_some_iff.1 hg).1 (fun ht => hd g (h.2 g rfl) ht)).trans hg, r⟩
theorem Own.mono {S T : Nat → Prop} {w : World} {e : TypeId} {size : Nat} {v : Value} {n : Nat} {xs : List Value} (h : Own S w e size v n xs) (hT : ∀ i, S i → T i) : Own T w e size v n xs := ⟨h.1, fun g hg => hT g (h.2 g hg)⟩
theorem Own.len {S : Nat → Prop} {w : World} {e : TypeId} {size : Nat} {v : Value} {n : Nat} {xs : List Value} (h : Own S w e size v n xs) : xs.length = n * size := h.1.1
/-- What it looks like: nil, or the head of a row. -/
theorem Own.view {S : Nat → Prop} {w : World} {e : TypeId} {size : Nat} {v : Value} {n : Nat} {xs : List Value} (h : Own S w e size v n xs) :
    (v = .slice none 0 0 ∧ n = 0 ∧ xs = []) ∨ ∃ g cap cur, v = .slice (some ⟨g, 0, none⟩) n cap ∧ S g ∧ Blk w g cur e ∧ n ≤ cap ∧ cap ≤ maxLen ∧ cur.size = cap * size ∧ cur.toList.take (n * size) = xs := by
  rcases h.1.2 with ⟨hn, h0⟩ | ⟨g, cap, cur, rfl, hb, hg, r1, r2, r3, r4⟩
  · exact .inl ⟨hn, h0, List.eq_nil_of_length_eq_zero (by rw [h.1.1, h0, Nat.zero_mul])⟩
  · exact .inr ⟨g, cap, cur, rfl, h.2 g rfl, hg, r1, r2, r3, r4⟩
theorem Own.form {S : Nat → Prop} {w : World} {e : TypeId} {size : Nat} {v : Value} {n : Nat} {xs : List Value} (h : Own S w e size v n xs) : ∃ a c, v = .slice a n c := by
  rcases h.view with ⟨rfl, rfl, rfl⟩ | ⟨g, cap, cur, rfl, _⟩
  · exact ⟨_, _, rfl⟩
  · exact ⟨_, _, rfl⟩
theorem Own.tight {S : Nat → Prop} {w : World} {e : TypeId} {size : Nat} {v : Value} {n : Nat} {xs : List Value} (h : Own S w e size v n xs) : Own (fun i => S i ∧ i < w.heap.size) w e size v n xs :=
  ⟨h.1, fun g hg => ⟨h.2 g hg, (h.1.lt g hg).2⟩⟩
theorem Own.new {w w' : World} {e : TypeId} {size : Nat} {v : Value} {n : Nat} {xs : List Value} (h : Own (fun i => w.heap.size ≤ i) w' e size v n xs) : Own (New w w') w' e size v n xs := h.tight
theorem Own.rd {S : Nat → Prop} {w : World} {e : TypeId} {size : Nat} {v : Value} {n : Nat} {xs : List Value} (h : Own S w e size v n xs) : Rd S w v n xs := by
  rcases h.view with ⟨rfl, rfl, rfl⟩ | ⟨g, cap, cur, rfl, hS, hb, r1, r2, r3, r4⟩
  · exact ⟨none, 0, rfl, Nat.le_refl _, Nat.zero_le _, fun _ => ⟨rfl, rfl⟩, fun j u hu => by simp at hu⟩
  · refine ⟨_, cap, rfl, r1, r2, fun hx => by simp at hx, fun j u hu => ⟨g, 0, rfl, hS, ?_⟩⟩
    rw [Nat.zero_add, hb.cell j]
    rw [← r4, List.getElem?_take] at hu
    split at hu
    · simpa using hu
    · cases hu

theorem Rd.alloc {S : Nat → Prop} {w : World} {v : Value} {n : Nat} {xs : List Value} (h : Rd S w v n xs) (o : Obj) : Rd S (w.alloc o) v n xs :=
  h.keep (Keep.alloc (Keep.refl w Nope) o) (fun _ _ f => f)
theorem Rd.drew {S : Nat → Prop} {w : World} {v : Value} {n : Nat} {xs : List Value} (h : Rd S w v n xs) : Rd S w.drew v n xs := h
theorem Own.alloc {S : Nat → Prop} {w : World} {e : TypeId} {size : Nat} {v : Value} {n : Nat} {xs : List Value} (h : Own S w e size v n xs) (o : Obj) : Own S (w.alloc o) e size v n xs :=
  h.keep (Keep.alloc (Keep.refl w Nope) o) (fun _ _ f => f)
theorem Own.drew {S : Nat → Prop} {w : World} {e : TypeId} {size : Nat} {v : Value} {n : Nat} {xs : List Value} (h : Own S w e size v n xs) : Own S w.drew e size v n xs := h
/-- A slice literal, laid as a new block. -/
theorem Own.lit {S : Nat → Prop} (w : World) (e : TypeId) (size n : Nat) (cs : Array Value) (hn : n ≤ maxLen) (hc : cs.size = n * size) (hS : S w.heap.size) :
    Own S (w.alloc (.cells cs e)) e size (.slice (some ⟨w.heap.size, 0, none⟩) n n) n cs.toList :=
  ⟨⟨by simpa using hc, .inr ⟨w.heap.size, n, cs, rfl, Nat.zero_le _, heap_alloc_new w _, Nat.le_refl _, hn, hc, by rw [← hc, ← Array.length_toList]; exact List.take_length⟩⟩, fun g hg => by simp [Value.ownBlock] at hg; exact hg ▸ hS⟩

/-- A row with at least one element: its block, its cells, what a store does to it. -/
theorem Own.head {S : Nat → Prop} {w : World} {e : TypeId} {size : Nat} {a : Option Addr} {n c : Nat} {xs : List Value} (h : Own S w e size (.slice a n c) n xs) (hn : 0 < n) :
    ∃ g, a = some ⟨g, 0, none⟩ ∧ S g ∧ g < w.heap.size ∧ (∀ j, w.frozen? ⟨g, j, none⟩ = false) ∧ (∀ j, j < n * size → w.cell? ⟨g, j, none⟩ = xs[j]?) ∧
      ∀ j u, Own S (w.setCell ⟨g, j, none⟩ u) e size (.slice a n c) n (xs.set j u) := by
  rcases h.view with ⟨_, h0, _⟩ | ⟨g, cap, cur, hv, hS, hb, _⟩
  · omega
  · injection hv with h1 _ h3
    subst h1; subst h3
    exact ⟨g, rfl, hS, hb.lt, fun j => h.1.frozenAt j, fun j hj => h.1.cellAt j hj, fun j u => ⟨(h.1.stored j u).1, h.2⟩⟩
theorem Own.cap {S : Nat → Prop} {w : World} {e : TypeId} {size : Nat} {a : Option Addr} {n c : Nat} {xs : List Value} (h : Own S w e size (.slice a n c) n xs) : n ≤ c ∧ c ≤ maxLen := by
  obtain ⟨a', c', he, h1, h2, _⟩ := h.rd
  injection he with _ _ h3
  subst h3
  exact ⟨h1, h2⟩
theorem Own.blkNe {S : Nat → Prop} {w : World} {e t : TypeId} {size g : Nat} {n c : Nat} {xs : List Value} {b : Nat} {cs : Array Value} (h : Own S w e size (.slice (some ⟨g, 0, none⟩) n c) n xs) (hb : Blk w b cs t) (hne : t ≠ e) : b ≠ g := by
  rcases h.view with ⟨hv, _⟩ | ⟨g', cap, cur, hv, hS, hb', _⟩
  · injection hv with h1
    cases h1
  · injection hv with h1
    injection h1 with h1
    injection h1 with h1
    subst h1
    exact hb.ne hb' hne
/-- A store elsewhere. -/
theorem Own.other {S : Nat → Prop} {w : World} {e : TypeId} {size : Nat} {v : Value} {n : Nat} {xs : List Value} (h : Own S w e size v n xs) {p : Addr} (hp : v.ownBlock ≠ some p.block) (u : Value) : Own S (w.setCell p u) e size v n xs := by
  refine ⟨⟨h.1.1, ?_⟩, h.2⟩
  rcases h.1.2 with hn | ⟨g, cap, cur, rfl, hb, hg, r⟩
  · exact .inl hn
  · exact .inr ⟨g, cap, cur, rfl, hb, (Below.heap_setCell w p u g (fun e => hp (by simp [Value.ownBlock, e]))).trans hg, r⟩

/-- The block of a slice's own row. -/
def rowS (v : Value) : Nat → Prop := fun i => v.ownBlock = some i
theorem Own.row {S : Nat → Prop} {w : World} {e : TypeId} {size : Nat} {v : Value} {n : Nat} {xs : List Value} (h : Own S w e size v n xs) : Own (rowS v) w e size v n xs := ⟨h.1, fun _ hg => hg⟩
theorem Own.rowIn {S : Nat → Prop} {w : World} {e : TypeId} {size : Nat} {v : Value} {n : Nat} {xs : List Value} (h : Own S w e size v n xs) : ∀ i, rowS v i → S i := h.2
theorem Own.rowNe {S : Nat → Prop} {w : World} {e t : TypeId} {size : Nat} {v : Value} {n : Nat} {xs : List Value} {b : Nat} {cs : Array Value} (h : Own S w e size v n xs) (hb : Blk w b cs t) (hne : t ≠ e) : ¬ rowS v b := by
  intro hr
  rcases h.view with ⟨rfl, _⟩ | ⟨g, cap, cur, rfl, hS, hb', _⟩
  · simp [rowS, Value.ownBlock] at hr
  · simp [rowS, Value.ownBlock] at hr
    exact hb.ne hb' hne hr.symm

/-- The cell of an element of a slice that is only read. -/
theorem Rd.at {S : Nat → Prop} {w : World} {a : Option Addr} {n m c : Nat} {xs : List Value} (h : Rd S w (.slice a n c) m xs) (hx : 0 < xs.length) :
    ∃ b o, a = some ⟨b, o, none⟩ ∧ S b ∧ ∀ j, j < xs.length → w.cell? ⟨b, o + j, none⟩ = xs[j]? := by
  obtain ⟨a', c', he, _, _, _, h4⟩ := h
  injection he with e1 e2 e3
  subst e1
  obtain ⟨b, o, rfl, hb, _⟩ := h4 0 _ (List.getElem?_eq_getElem hx)
  refine ⟨b, o, rfl, hb, fun j hj => ?_⟩
  obtain ⟨b', o', he', _, hc⟩ := h4 j _ (List.getElem?_eq_getElem hj)
  injection he' with he'
  injection he' with e1 e2
  subst e1; subst e2
  rw [hc, List.getElem?_eq_getElem hj]
theorem Rd.below {S : Nat → Prop} {w w' : World} {v : Value} {n B : Nat} {xs : List Value} (h : Rd S w v n xs) (hk : Below B w w') (hd : ∀ i, S i → i < B) : Rd S w' v n xs := by
  obtain ⟨a, c, rfl, h1, h2, h3, h4⟩ := h
  refine ⟨a, c, rfl, h1, h2, h3, fun j u hu => ?_⟩
  obtain ⟨b, o, rfl, hb, hc⟩ := h4 j u hu
  exact ⟨b, o, rfl, hb, (hk.cell (p := ⟨b, o + j, none⟩) (hd b hb)).trans hc⟩
/-- It answers true, and nothing old has turned. -/
def RetTrue (w : World) (en : Ending) (w' : World) : Prop := en = .returned (.bool true) ∧ Below w.heap.size w w'
/-- The facts on a slice type of the program: t is []e; an element takes 'size' cells, 'bytes' bytes. -/
structure SlTy (P : Program) (t e : TypeId) (size bytes : Nat) : Prop where
  ht : P.underlying t = some (.slice e)
  hi : ∃ i z, P.info? e = some i ∧ i.zero = some z ∧ i.size = size ∧ i.bytes = bytes ∧ z.cells.size = size
  pos : 0 < size
theorem SlTy.mk' {P : Program} {t e : TypeId} {size bytes : Nat} (z : Value) (ht : P.underlying t = some (.slice e)) (h : (P.info? e).map (fun i => (i.zero, i.size, i.bytes)) = some (some z, size, bytes)) (hz : z.cells.size = size) (hp : 0 < size) : SlTy P t e size bytes := by
  obtain ⟨i, h1, h2, h3, h4⟩ := info_parts h
  exact ⟨ht, ⟨i, z, h1, h2, h3, h4, hz⟩, hp⟩

/-- What the built-in append leaves: the slice with the new values behind; written is its own row, or a new one. -/
theorem run_app {P : Program} {t e : TypeId} {size bytes : Nat} (hT : SlTy P t e size bytes) (ty : TypeId) {S S2 : Nat → Prop} {w : World} {v x : Value} {n m : Nat} {xs news : List Value}
    (hown : Own S w e size v n xs) (hx : Rd S2 w x m news) (hl : news.length = m * size) (h1 : ∀ u ∈ news, u.oneCell' = true) (hbytes : (n + m) * bytes ≤ 140737488355328) (hlen : n + m ≤ maxLen) :
    ∃ v' w', (Builtin.append_ #[t, t] ty #[v, x]).run P w = .ok v' w' ∧ Own (fun i => S i ∨ w.heap.size ≤ i) w' e size v' (n + m) (xs ++ news) ∧ Keep w w' S ∧
      (v' = .slice none 0 0 ↔ v = .slice none 0 0 ∧ m = 0) := by
  obtain ⟨ht, ⟨i, z, hi, hz, hsize, hby, hzs⟩, hsz⟩ := hT
  obtain ⟨a, c, rfl, hmc, hcm, hnil, hcells⟩ := hx
  subst hsize
  subst hby
  have hsmall : n + m ≤ 9223372036854775807 := by simp only [maxLen] at hlen; omega
  have hxl := hown.len
  have hlen' : (xs ++ news).length = (n + m) * i.size := by rw [List.length_append, hxl, hl, Nat.add_mul]
  by_cases hm : m = 0
  · subst hm
    have hn : news = [] := List.eq_nil_of_length_eq_zero (by simpa using hl)
    subst hn
    refine ⟨v, w, ?_, by simpa using hown.mono (fun i h => .inl h), Keep.refl w S, by simp⟩
    rcases hown.view with ⟨rfl, rfl, rfl⟩ | ⟨g, cap, cur, rfl, hS, hb, r1, r2, r3, r4⟩
    · cases a <;> simp [Builtin.append_, run_underlying ht, sizeOf, typeInfo, hi, Builtin.lenOf, Builtin.firstCells, loadCells, loadCellsFrom]
    · cases a <;> simp [Builtin.append_, run_underlying ht, sizeOf, typeInfo, hi, Builtin.lenOf, Builtin.firstCells, loadCells, loadCellsFrom, r1, storeCells]
  · have hpos : 0 < news.length := by rw [hl]; exact Nat.mul_pos (by omega) hsz
    obtain ⟨b, o, rfl, _, _⟩ := hcells 0 _ (List.getElem?_eq_getElem hpos)
    have hnews : ∀ j u, news[j]? = some u → w.cell? ((⟨b, o, none⟩ : Addr).add j) = some u := by
      intro j u hu
      obtain ⟨b', o', he, _, hc⟩ := hcells j u hu
      injection he with he
      injection he with e1 e2
      subst e1; subst e2
      unfold Addr.add
      split
      · rename_i hj; subst hj; simpa using hc
      · exact hc
    have grown : ∀ (old : Nat), old < n + m →
        Own (fun i => S i ∨ w.heap.size ≤ i) (w.drew.alloc (.cells (xs.toArray ++ news.toArray ++ Builtin.zeroCells z.cells (grownCap w (n + m) old e - (n + m))) e)) e i.size
          (.slice (some ⟨w.heap.size, 0, none⟩) (n + m) (grownCap w (n + m) old e)) (n + m) (xs ++ news) := by
      intro old ho
      have hge := grownCap_ge w (n + m) old e
      have hcm' : grownCap w (n + m) old e ≤ maxLen := grownCap_le_maxLen w (n + m) old e hlen
      refine ⟨⟨hlen', .inr ⟨w.heap.size, _, _, rfl, Nat.zero_le _, heap_alloc_new w.drew _, hge, hcm', ?_, ?_⟩⟩, fun g hg => ?_⟩
      · simp only [Array.size_append, List.size_toArray, size_zeroCells, hzs, hxl, hl, ← Nat.add_mul]
        congr 1
        omega
      · simp only [Array.toList_append, List.append_assoc]
        rw [← List.append_assoc, ← hlen']
        exact List.take_left
      · simp [Value.ownBlock] at hg
        exact .inr (by omega)
    rcases hown.view with ⟨rfl, rfl, rfl⟩ | ⟨g, cap, cur, rfl, hS, hb, r1, r2, r3, r4⟩
    · have hr := run_append_nil (P := P) w t ty e i z ht hi hz ⟨b, o, none⟩ m c news hl hnews (by omega) (by omega) (by have hb := hbytes; simp only [Nat.zero_add] at hb; omega)
      have hgr := grown 0 (by omega)
      simp only [Nat.zero_add, List.nil_append] at hgr ⊢
      refine ⟨_, _, hr, by simpa using hgr, (Keep.refl w S).drew.alloc _, by simp [hm]⟩
    · by_cases hroom : n + m ≤ cap
      · have hfit : n * i.size + news.length ≤ cur.size := by rw [hl, r3, ← Nat.add_mul]; exact Nat.mul_le_mul_right _ hroom
        have hr := run_append_room (P := P) w t ty e i ht hi g n cap cur hb ⟨b, o, none⟩ m c news hl hnews h1 hroom hfit
        refine ⟨_, _, hr, ⟨⟨hlen', .inr ⟨g, cap, _, rfl, Nat.zero_le _, setRow_heap w g cur _ e _ hb, hroom, r2, ?_, ?_⟩⟩, fun g' hg' => ?_⟩, (Keep.refl w S).setRow (.inl hS) _, by simp⟩
        · simp only [List.size_toArray, List.length_append, List.length_take, List.length_drop, Array.length_toList]
          omega
        · rw [r4, ← hlen']
          exact List.take_left
        · simp [Value.ownBlock] at hg'
          subst hg'
          exact .inl hS
      · have holds : ∀ j u, xs[j]? = some u → w.cell? ((⟨g, 0, none⟩ : Addr).add j) = some u := hown.1.cells (g := g) rfl
        have hr := run_append_grow (P := P) w t ty e i z ht hi hz ⟨g, 0, none⟩ n cap xs hxl holds ⟨b, o, none⟩ m c news hl hnews (by omega) (by omega) (growslice_fits (by omega) hbytes)
        exact ⟨_, _, hr, grown cap (by omega), (Keep.refl w S).drew.alloc _, by simp⟩

/-- What the walk is left with behind an append: s and news came in, y went out. -/
structure App (S : Nat → Prop) (w w' : World) (e : TypeId) (size : Nat) (v y : Value) (n m k : Nat) (xs news : List Value) : Prop where
  own : Own (fun i => S i ∨ New w w' i) w' e size y k (xs ++ news)
  num : k = n + m
  keep : Keep w w' S
  nil : y = .slice none 0 0 ↔ v = .slice none 0 0 ∧ m = 0

/-- The law for the walk: 'append(s, x...)'. -/
theorem wpList_app {P : Program} {t e : TypeId} {size bytes : Nat} (hT : SlTy P t e size bytes) {ops : Array Oper} {rest : List Oper} {o : Oper} {a : Act} {w : World} {Q : Exit → Act → World → Prop} (hgd : o.guard = none) (s x : Operand)
    (ho : o.op = .call { callee := .builtin .append, args := #[s, x], argTypes := #[t, t] })
    {S S2 : Nat → Prop} {v y : Value} {n m : Nat} {xs news : List Value} (hs : a.eval s = v) (hy : a.eval x = y)
    (hown : Own S w e size v n xs) (hx : Rd S2 w y m news) (hl : news.length = m * size) (h1 : ∀ u ∈ news, u.oneCell' = true) (hbytes : (n + m) * bytes ≤ 140737488355328) (hlen : n + m ≤ maxLen)
    (h : ∀ a' k c' w', App S w w' e size v (.slice a' k c') n m k xs news → wpList P ops Q rest (a.put o.dst (.slice a' k c')) w') : wpList P ops Q (o :: rest) a w := by
  refine wpList_plain hgd fun K hK => ?_
  obtain ⟨v', w', hr, h2, h3, h4⟩ := run_app hT o.type hown hx hl h1 hbytes hlen
  obtain ⟨a', c', rfl⟩ := h2.form
  unfold Oper.wp execOp
  simp only [ho, resolve, invoke, builtin, Sem.run_bind, Sem.run_pure, Result.andThen_ok, List.map_toArray, List.map_cons, List.map_nil, hs, hy, hr]
  exact hK _ _ (h a' _ c' w' ⟨h2.tight.mono (fun i hi => hi.1.elim .inl (fun h => .inr ⟨h, hi.2⟩)), rfl, h3, h4⟩)

/-- A mask of p ones. -/
theorem and_mask (x : Int) (p : Nat) (m : Int) (hp : p ≤ 62) (hm : m = ((2 ^ p - 1 : Nat) : Int)) : bits .and .i64 x m = x % ((2 ^ p : Nat) : Int) := by
  subst hm
  have hpow : (2 : Nat) ^ p ≤ 2 ^ 62 := Nat.pow_le_pow_right (by decide) hp
  have hpos : 0 < (2 : Nat) ^ p := Nat.pow_pos (by decide)
  show IntKind.i64.wrap (((BitVec.ofInt 64 x &&& BitVec.ofInt 64 ((2 ^ p - 1 : Nat) : Int)).toNat : Nat) : Int) = _
  have h1 : (BitVec.ofInt 64 ((2 ^ p - 1 : Nat) : Int)).toNat = 2 ^ p - 1 := by
    rw [BitVec.toNat_ofInt]
    rw [Int.emod_eq_of_lt (by omega) (by omega)]
    simp
  have h2 : (BitVec.ofInt 64 x &&& BitVec.ofInt 64 ((2 ^ p - 1 : Nat) : Int)).toNat = (x % 2 ^ 64).toNat % 2 ^ p := by
    rw [BitVec.toNat_and, h1, Nat.and_two_pow_sub_one_eq_mod, BitVec.toNat_ofInt]
    rfl
  rw [h2]
  have h3 : (((x % 2 ^ 64).toNat % 2 ^ p : Nat) : Int) = x % ((2 ^ p : Nat) : Int) := by
    rw [Int.natCast_emod, Int.toNat_of_nonneg (Int.emod_nonneg _ (by decide))]
    have h64 : (2 : Nat) ^ 64 = 2 ^ p * 2 ^ (64 - p) := by rw [← Nat.pow_add]; congr 1; omega
    exact Int.emod_emod_of_dvd x ⟨((2 ^ (64 - p) : Nat) : Int), by exact_mod_cast h64⟩
  rw [h3]
  have h4 := Int.emod_nonneg x (show ((2 ^ p : Nat) : Int) ≠ 0 by omega)
  have h5 := Int.emod_lt_of_pos x (show (0 : Int) < ((2 ^ p : Nat) : Int) by omega)
  exact IntWalk.i64_in _ (by omega)
/-- A place out of any number: 'x & 0xffff % n'. -/
theorem and_mod (x : Int) (n : Nat) (hn : 0 < n) : ∃ k : Nat, (bits .and .i64 x 65535).tmod (n : Int) = (k : Int) ∧ k < n := by
  have h := and_mask x 16 65535 (by decide) rfl
  have h0 := Int.emod_nonneg x (show ((2 ^ 16 : Nat) : Int) ≠ 0 by decide)
  rw [h]
  have h1 : (x % ((2 ^ 16 : Nat) : Int)).tmod (n : Int) = (x % ((2 ^ 16 : Nat) : Int)) % (n : Int) := Int.tmod_eq_emod_of_nonneg h0
  rw [h1]
  have h2 := Int.emod_nonneg (x % ((2 ^ 16 : Nat) : Int)) (show (n : Int) ≠ 0 by omega)
  have h3 := Int.emod_lt_of_pos (x % ((2 ^ 16 : Nat) : Int)) (show (0 : Int) < n by omega)
  exact ⟨((x % ((2 ^ 16 : Nat) : Int)) % (n : Int)).toNat, by omega, by omega⟩

end Go.Proofs.Ytbigknmeooaidaa
