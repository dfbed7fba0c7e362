/-
  Plain words for heaps, used by every walk: which blocks a call may write, what a slice reads as, what a slice of the call's own holds; the built-in append in one law. No program in sight; What a call owns: claims on blocks, apart from one another; what a call, a store, an allocation does to them. No program in sight; Elements of one size laid flat into a list of cells. No program in sight; Words of sixty-four bits: the program's, as numbers.
-/
import Derived.WalkKit
import Derived.WalkSpells
import Derived.WalkLawsBesides
import Derived.Lib.Hide
import Derived.Deep.QuietTactic
import Derived.BigQuiet
import Derived.Deep.DeepCutAuto
import Derived.Deep.CutBlock
import Derived.Deep.LoopGhost
import Derived.Deep.RegionWith
import Derived.Test.YtkiikblpgppmkaaGreatDoorProg
namespace Go.Proofs.YtkiikblpgppmkaaGreatDoor
open Go Go.RowKit
set_option linter.unusedVariables false
set_option linter.unusedSimpArgs false

/-- From w to w' no old block outside S has turned. -/
structure Keep (w w' : World) (S : Nat → Prop) : Prop where
  os : w'.os = w.os
  tape : w'.tape = w.tape
  output : w'.output = w.output
  size : w.heap.size ≤ w'.heap.size
  block : ∀ k, k < w.heap.size → ¬ S k → w'.heap[k]? = w.heap[k]?

def Nope : Nat → Prop := fun _ => False
/-- The blocks that are there in w', and were not in w. -/
def New (w w' : World) : Nat → Prop := fun i => w.heap.size ≤ i ∧ i < w'.heap.size

theorem Keep.refl (w : World) (S : Nat → Prop) : Keep w w S := ⟨rfl, rfl, rfl, Nat.le_refl _, fun _ _ _ => rfl⟩
theorem Keep.trans {a b c : World} {S T : Nat → Prop} (h : Keep a b S) (k : Keep b c T) (hT : ∀ i, T i → S i ∨ a.heap.size ≤ i) : Keep a c S :=
  ⟨k.os.trans h.os, k.tape.trans h.tape, k.output.trans h.output, Nat.le_trans h.size k.size, fun i hi hS =>
    (k.block i (Nat.lt_of_lt_of_le hi h.size) (fun ht => (hT i ht).elim hS (fun h => by omega))).trans (h.block i hi hS)⟩
theorem Keep.mono {a b : World} {S T : Nat → Prop} (h : Keep a b S) (hT : ∀ i, S i → T i ∨ a.heap.size ≤ i) : Keep a b T :=
  ⟨h.os, h.tape, h.output, h.size, fun i hi hn => h.block i hi (fun hs => (hT i hs).elim hn (fun h => by omega))⟩
theorem Keep.drew {a w : World} {S : Nat → Prop} (h : Keep a w S) : Keep a w.drew S := ⟨h.os, h.tape, h.output, h.size, h.block⟩
theorem Keep.drewN {a w : World} {S : Nat → Prop} (h : Keep a w S) (n : Nat) : Keep a (w.drewN n) S := ⟨h.os, h.tape, h.output, h.size, h.block⟩
theorem Keep.alloc {a w : World} {S : Nat → Prop} (h : Keep a w S) (o : Obj) : Keep a (w.alloc o) S :=
  ⟨h.os, h.tape, h.output, by have := h.size; simp; omega, fun k hk hS => (Below.heap_alloc w o k (Nat.lt_of_lt_of_le hk h.size)).trans (h.block k hk hS)⟩
theorem Keep.setCell {a w : World} {S : Nat → Prop} (h : Keep a w S) {p : Addr} (hp : S p.block ∨ a.heap.size ≤ p.block) (u : Value) : Keep a (w.setCell p u) S :=
  ⟨h.os, h.tape, h.output, by have := h.size; simpa [World.setCell] using this, fun k hk hS => (Below.heap_setCell w p u k (by rintro rfl; exact hp.elim hS (fun h => by omega))).trans (h.block k hk hS)⟩
theorem Keep.setRow {a w : World} {S : Nat → Prop} (h : Keep a w S) {g : Nat} (hp : S g ∨ a.heap.size ≤ g) (cs : Array Value) : Keep a (w.setRow g cs) S :=
  ⟨h.os, h.tape, h.output, by have := h.size; simpa using this, fun k hk hS => (setRow_other w g k cs (by rintro rfl; exact hp.elim hS (fun h => by omega))).trans (h.block k hk hS)⟩
theorem Keep.grown {a w w' : World} {S : Nat → Prop} (h : Keep a w S) {row : Option Nat} (hg : w.grownBy w' row) (hr : ∀ k, row = some k → S k ∨ a.heap.size ≤ k) : Keep a w' S :=
  ⟨hg.os.trans h.os, hg.tape.trans h.tape, hg.output.trans h.output, Nat.le_trans h.size hg.size, fun k hk hS =>
    (hg.block k (Nat.lt_of_lt_of_le hk h.size) (fun e => (hr k e.symm).elim hS (fun h => by omega))).trans (h.block k hk hS)⟩
theorem Keep.below {w w' : World} (h : Keep w w' Nope) : Below w.heap.size w w' := ⟨h.os, h.tape, h.output, h.size, fun k hk => h.block k hk (fun f => f)⟩
theorem Keep.belowAt {a b : World} {S : Nat → Prop} {B : Nat} (h : Keep a b S) (hS : ∀ i, S i → B ≤ i) (hB : B ≤ a.heap.size) : Below B a b :=
  ⟨h.os, h.tape, h.output, h.size, fun k hk => h.block k (by omega) (fun f => by have := hS k f; omega)⟩
theorem Keep.ofBelow {a b : World} {B : Nat} (h : Below B a b) : Keep a b (fun i => B ≤ i) := ⟨h.os, h.tape, h.output, h.size, fun k _ hS => h.block k (by omega)⟩
theorem Keep.cell {w w' : World} {S : Nat → Prop} (h : Keep w w' S) {p : Addr} {v : Value} (hc : w.cell? p = some v) (hS : ¬ S p.block) : w'.cell? p = some v :=
  (World.cell?_of_block (h.block p.block (World.block_lt_of_cell? w p hc) hS)).trans hc

/-- Block b is a row of cells that may be written. -/
def Blk (w : World) (b : Nat) (cs : Array Value) (t : TypeId) : Prop := w.heap[b]? = some (.cells cs t (0, 0))
theorem Blk.lt {w : World} {b : Nat} {cs : Array Value} {t : TypeId} (h : Blk w b cs t) : b < w.heap.size := (Array.getElem?_eq_some_iff.1 h).1
theorem Blk.cell {w : World} {b : Nat} {cs : Array Value} {t : TypeId} (h : Blk w b cs t) (j : Nat) : w.cell? ⟨b, j, none⟩ = cs[j]? := cell_of_row w b j cs t _ h
theorem Blk.frozen {w : World} {b : Nat} {cs : Array Value} {t : TypeId} (h : Blk w b cs t) (j : Nat) : w.frozen? ⟨b, j, none⟩ = false := frozen_of_row w b j cs t h
theorem Blk.setCell {w : World} {b : Nat} {cs : Array Value} {t : TypeId} (h : Blk w b cs t) (j : Nat) (u : Value) : Blk (w.setCell ⟨b, j, none⟩ u) b (cs.setIfInBounds j u) t := heap_setCell_same w b j cs t u h
theorem Blk.other {w : World} {b : Nat} {cs : Array Value} {t : TypeId} (h : Blk w b cs t) {p : Addr} (hp : b ≠ p.block) (u : Value) : Blk (w.setCell p u) b cs t := (Below.heap_setCell w p u b hp).trans h
theorem Blk.keep {w w' : World} {S : Nat → Prop} {b : Nat} {cs : Array Value} {t : TypeId} (h : Blk w b cs t) (hk : Keep w w' S) (hS : ¬ S b) : Blk w' b cs t := (hk.block b h.lt hS).trans h
theorem Blk.alloc {w : World} {b : Nat} {cs : Array Value} {t : TypeId} (h : Blk w b cs t) (o : Obj) : Blk (w.alloc o) b cs t := h.keep (Keep.alloc (Keep.refl w Nope) o) (fun f => f)
theorem Blk.drew {w : World} {b : Nat} {cs : Array Value} {t : TypeId} (h : Blk w b cs t) : Blk w.drew b cs t := h
theorem Blk.new (w : World) (cs : Array Value) (t : TypeId) : Blk (w.alloc (.cells cs t)) w.heap.size cs t := heap_alloc_new w _
theorem Blk.ne {w : World} {b c : Nat} {cs ds : Array Value} {t u : TypeId} (h : Blk w b cs t) (k : Blk w c ds u) (htu : t ≠ u) : b ≠ c := by
  rintro rfl
  have := Option.some.inj (h.symm.trans k)
  injection this with _ h2 _
  exact htu h2

/-- v is a slice of n elements that reads as the flat values xs, in blocks of S. -/
def Rd (S : Nat → Prop) (w : World) (v : Value) (n : Nat) (xs : List Value) : Prop :=
  ∃ a c, v = .slice a n c ∧ n ≤ c ∧ c ≤ maxLen ∧ (a = none → n = 0 ∧ c = 0) ∧
    ∀ j u, xs[j]? = some u → ∃ b o, a = some ⟨b, o, none⟩ ∧ S b ∧ w.cell? ⟨b, o + j, none⟩ = some u
theorem Rd.keep {S T : Nat → Prop} {w w' : World} {v : Value} {n : Nat} {xs : List Value} (h : Rd S w v n xs) (hk : Keep w w' T) (hd : ∀ i, S i → T i → False) : Rd S w' v n xs := by
  obtain ⟨a, c, rfl, h1, h2, h3, h4⟩ := h
  refine ⟨a, c, rfl, h1, h2, h3, fun j u hu => ?_⟩
  obtain ⟨b, o, rfl, hb, hc⟩ := h4 j u hu
  exact ⟨b, o, rfl, hb, hk.cell hc (hd b hb)⟩
theorem Rd.mono {S T : Nat → Prop} {w : World} {v : Value} {n : Nat} {xs : List Value} (h : Rd S w v n xs) (hT : ∀ i, S i → T i) : Rd T w v n xs := by
  obtain ⟨a, c, rfl, h1, h2, h3, h4⟩ := h
  refine ⟨a, c, rfl, h1, h2, h3, fun j u hu => ?_⟩
  obtain ⟨b, o, rfl, hb, hc⟩ := h4 j u hu
  exact ⟨b, o, rfl, hT b hb, hc⟩

/-- v is a slice of the call's own (its row, if any, lies in a block of S), of n elements of type e, each of 'size' cells; it holds xs. -/
def Own (S : Nat → Prop) (w : World) (e : TypeId) (size : Nat) (v : Value) (n : Nat) (xs : List Value) : Prop :=
  w.ownsRow 0 e size v n xs ∧ ∀ g, v.ownBlock = some g → S g
theorem Own.nil (S : Nat → Prop) (w : World) (e : TypeId) (size : Nat) : Own S w e size (.slice none 0 0) 0 [] := ⟨World.ownsRow_nil w 0 e size, fun g h => by simp [Value.ownBlock] at h⟩
theorem Own.keep {S T : Nat → Prop} {w w' : World} {e : TypeId} {size : Nat} {v : Value} {n : Nat} {xs : List Value} (h : Own S w e size v n xs) (hk : Keep w w' T) (hd : ∀ i, S i → T i → False) : Own S w' e size v n xs := by
  refine ⟨⟨h.1.1, ?_⟩, h.2⟩
  rcases h.1.2 with hn | ⟨g, cap, cur, rfl, hb, hg, r⟩
  · exact .inl hn
  · exact .inr ⟨g, cap, cur, rfl, hb, (hk.block g (Array.getElem?_eq_some_iff.1 hg).1 (fun ht => hd g (h.2 g rfl) ht)).trans hg, r⟩
theorem Own.mono {S T : Nat → Prop} {w : World} {e : TypeId} {size : Nat} {v : Value} {n : Nat} {xs : List Value} (h : Own S w e size v n xs) (hT : ∀ i, S i → T i) : Own T w e size v n xs := ⟨h.1, fun g hg => hT g (h.2 g hg)⟩
theorem Own.len {S : Nat → Prop} {w : World} {e : TypeId} {size : Nat} {v : Value} {n : Nat} {xs : List Value} (h : Own S w e size v n xs) : xs.length = n * size := h.1.1
/-- What it looks like: nil, or the head of a row. -/
theorem Own.view {S : Nat → Prop} {w : World} {e : TypeId} {size : Nat} {v : Value} {n : Nat} {xs : List Value} (h : Own S w e size v n xs) :
    (v = .slice none 0 0 ∧ n = 0 ∧ xs = []) ∨ ∃ g cap cur, v = .slice (some ⟨g, 0, none⟩) n cap ∧ S g ∧ Blk w g cur e ∧ n ≤ cap ∧ cap ≤ maxLen ∧ cur.size = cap * size ∧ cur.toList.take (n * size) = xs := by
  rcases h.1.2 with ⟨hn, h0⟩ | ⟨g, cap, cur, rfl, hb, hg, r1, r2, r3, r4⟩
  · exact .inl ⟨hn, h0, List.eq_nil_of_length_eq_zero (by rw [h.1.1, h0, Nat.zero_mul])⟩
  · exact .inr ⟨g, cap, cur, rfl, h.2 g rfl, hg, r1, r2, r3, r4⟩
theorem Own.form {S : Nat → Prop} {w : World} {e : TypeId} {size : Nat} {v : Value} {n : Nat} {xs : List Value} (h : Own S w e size v n xs) : ∃ a c, v = .slice a n c := by
  rcases h.view with ⟨rfl, rfl, rfl⟩ | ⟨g, cap, cur, rfl, _⟩
  · exact ⟨_, _, rfl⟩
  · exact ⟨_, _, rfl⟩
theorem Own.tight {S : Nat → Prop} {w : World} {e : TypeId} {size : Nat} {v : Value} {n : Nat} {xs : List Value} (h : Own S w e size v n xs) : Own (fun i => S i ∧ i < w.heap.size) w e size v n xs :=
  ⟨h.1, fun g hg => ⟨h.2 g hg, (h.1.lt g hg).2⟩⟩
theorem Own.new {w w' : World} {e : TypeId} {size : Nat} {v : Value} {n : Nat} {xs : List Value} (h : Own (fun i => w.heap.size ≤ i) w' e size v n xs) : Own (New w w') w' e size v n xs := h.tight
theorem Own.rd {S : Nat → Prop} {w : World} {e : TypeId} {size : Nat} {v : Value} {n : Nat} {xs : List Value} (h : Own S w e size v n xs) : Rd S w v n xs := by
  rcases h.view with ⟨rfl, rfl, rfl⟩ | ⟨g, cap, cur, rfl, hS, hb, r1, r2, r3, r4⟩
  · exact ⟨none, 0, rfl, Nat.le_refl _, Nat.zero_le _, fun _ => ⟨rfl, rfl⟩, fun j u hu => by simp at hu⟩
  · refine ⟨_, cap, rfl, r1, r2, fun hx => by simp at hx, fun j u hu => ⟨g, 0, rfl, hS, ?_⟩⟩
    rw [Nat.zero_add, hb.cell j]
    rw [← r4, List.getElem?_take] at hu
    split at hu
    · simpa using hu
    · cases hu

theorem Rd.alloc {S : Nat → Prop} {w : World} {v : Value} {n : Nat} {xs : List Value} (h : Rd S w v n xs) (o : Obj) : Rd S (w.alloc o) v n xs :=
  h.keep (Keep.alloc (Keep.refl w Nope) o) (fun _ _ f => f)
theorem Rd.drew {S : Nat → Prop} {w : World} {v : Value} {n : Nat} {xs : List Value} (h : Rd S w v n xs) : Rd S w.drew v n xs := h
theorem Own.alloc {S : Nat → Prop} {w : World} {e : TypeId} {size : Nat} {v : Value} {n : Nat} {xs : List Value} (h : Own S w e size v n xs) (o : Obj) : Own S (w.alloc o) e size v n xs :=
  h.keep (Keep.alloc (Keep.refl w Nope) o) (fun _ _ f => f)
theorem Own.drew {S : Nat → Prop} {w : World} {e : TypeId} {size : Nat} {v : Value} {n : Nat} {xs : List Value} (h : Own S w e size v n xs) : Own S w.drew e size v n xs := h
/-- A slice literal, laid as a new block. -/
theorem Own.lit {S : Nat → Prop} (w : World) (e : TypeId) (size n : Nat) (cs : Array Value) (hn : n ≤ maxLen) (hc : cs.size = n * size) (hS : S w.heap.size) :
    Own S (w.alloc (.cells cs e)) e size (.slice (some ⟨w.heap.size, 0, none⟩) n n) n cs.toList :=
  ⟨⟨by simpa using hc, .inr ⟨w.heap.size, n, cs, rfl, Nat.zero_le _, heap_alloc_new w _, Nat.le_refl _, hn, hc, by rw [← hc, ← Array.length_toList]; exact List.take_length⟩⟩, fun g hg => by simp [Value.ownBlock] at hg; exact hg ▸ hS⟩

/-- A row with at least one element: its block, its cells, what a store does to it. -/
theorem Own.head {S : Nat → Prop} {w : World} {e : TypeId} {size : Nat} {a : Option Addr} {n c : Nat} {xs : List Value} (h : Own S w e size (.slice a n c) n xs) (hn : 0 < n) :
    ∃ g, a = some ⟨g, 0, none⟩ ∧ S g ∧ g < w.heap.size ∧ (∀ j, w.frozen? ⟨g, j, none⟩ = false) ∧ (∀ j, j < n * size → w.cell? ⟨g, j, none⟩ = xs[j]?) ∧
      ∀ j u, Own S (w.setCell ⟨g, j, none⟩ u) e size (.slice a n c) n (xs.set j u) := by
  rcases h.view with ⟨_, h0, _⟩ | ⟨g, cap, cur, hv, hS, hb, _⟩
  · omega
  · injection hv with h1 _ h3
    subst h1; subst h3
    exact ⟨g, rfl, hS, hb.lt, fun j => h.1.frozenAt j, fun j hj => h.1.cellAt j hj, fun j u => ⟨(h.1.stored j u).1, h.2⟩⟩
theorem Own.cap {S : Nat → Prop} {w : World} {e : TypeId} {size : Nat} {a : Option Addr} {n c : Nat} {xs : List Value} (h : Own S w e size (.slice a n c) n xs) : n ≤ c ∧ c ≤ maxLen := by
  obtain ⟨a', c', he, h1, h2, _⟩ := h.rd
  injection he with _ _ h3
  subst h3
  exact ⟨h1, h2⟩
theorem Own.blkNe {S : Nat → Prop} {w : World} {e t : TypeId} {size g : Nat} {n c : Nat} {xs : List Value} {b : Nat} {cs : Array Value} (h : Own S w e size (.slice (some ⟨g, 0, none⟩) n c) n xs) (hb : Blk w b cs t) (hne : t ≠ e) : b ≠ g := by
  rcases h.view with ⟨hv, _⟩ | ⟨g', cap, cur, hv, hS, hb', _⟩
  · injection hv with h1
    cases h1
  · injection hv with h1
    injection h1 with h1
    injection h1 with h1
    subst h1
    exact hb.ne hb' hne
/-- A store elsewhere. -/
theorem Own.other {S : Nat → Prop} {w : World} {e : TypeId} {size : Nat} {v : Value} {n : Nat} {xs : List Value} (h : Own S w e size v n xs) {p : Addr} (hp : v.ownBlock ≠ some p.block) (u : Value) : Own S (w.setCell p u) e size v n xs := by
  refine ⟨⟨h.1.1, ?_⟩, h.2⟩
  rcases h.1.2 with hn | ⟨g, cap, cur, rfl, hb, hg, r⟩
  · exact .inl hn
  · exact .inr ⟨g, cap, cur, rfl, hb, (Below.heap_setCell w p u g (fun e => hp (by simp [Value.ownBlock, e]))).trans hg, r⟩

/-- The block of a slice's own row. -/
def rowS (v : Value) : Nat → Prop := fun i => v.ownBlock = some i
theorem Own.row {S : Nat → Prop} {w : World} {e : TypeId} {size : Nat} {v : Value} {n : Nat} {xs : List Value} (h : Own S w e size v n xs) : Own (rowS v) w e size v n xs := ⟨h.1, fun _ hg => hg⟩
theorem Own.rowIn {S : Nat → Prop} {w : World} {e : TypeId} {size : Nat} {v : Value} {n : Nat} {xs : List Value} (h : Own S w e size v n xs) : ∀ i, rowS v i → S i := h.2
theorem Own.rowNe {S : Nat → Prop} {w : World} {e t : TypeId} {size : Nat} {v : Value} {n : Nat} {xs : List Value} {b : Nat} {cs : Array Value} (h : Own S w e size v n xs) (hb : Blk w b cs t) (hne : t ≠ e) : ¬ rowS v b := by
  intro hr
  rcases h.view with ⟨rfl, _⟩ | ⟨g, cap, cur, rfl, hS, hb', _⟩
  · simp [rowS, Value.ownBlock] at hr
  · simp [rowS, Value.ownBlock] at hr
    exact hb.ne hb' hne hr.symm

/-- The cell of an element of a slice that is only read. -/
theorem Rd.at {S : Nat → Prop} {w : World} {a : Option Addr} {n m c : Nat} {xs : List Value} (h : Rd S w (.slice a n c) m xs) (hx : 0 < xs.length) :
    ∃ b o, a = some ⟨b, o, none⟩ ∧ S b ∧ ∀ j, j < xs.length → w.cell? ⟨b, o + j, none⟩ = xs[j]? := by
  obtain ⟨a', c', he, _, _, _, h4⟩ := h
  injection he with e1 e2 e3
  subst e1
  obtain ⟨b, o, rfl, hb, _⟩ := h4 0 _ (List.getElem?_eq_getElem hx)
  refine ⟨b, o, rfl, hb, fun j hj => ?_⟩
  obtain ⟨b', o', he', _, hc⟩ := h4 j _ (List.getElem?_eq_getElem hj)
  injection he' with he'
  injection he' with e1 e2
  subst e1; subst e2
  rw [hc, List.getElem?_eq_getElem hj]
theorem Rd.below {S : Nat → Prop} {w w' : World} {v : Value} {n B : Nat} {xs : List Value} (h : Rd S w v n xs) (hk : Below B w w') (hd : ∀ i, S i → i < B) : Rd S w' v n xs := by
  obtain ⟨a, c, rfl, h1, h2, h3, h4⟩ := h
  refine ⟨a, c, rfl, h1, h2, h3, fun j u hu => ?_⟩
  obtain ⟨b, o, rfl, hb, hc⟩ := h4 j u hu
  exact ⟨b, o, rfl, hb, (hk.cell (p := ⟨b, o + j, none⟩) (hd b hb)).trans hc⟩
/-- It answers true, and nothing old has turned. -/
def RetTrue (w : World) (en : Ending) (w' : World) : Prop := en = .returned (.bool true) ∧ Below w.heap.size w w'
/-- The facts on a slice type of the program: t is []e; an element takes 'size' cells, 'bytes' bytes. -/
structure SlTy (P : Program) (t e : TypeId) (size bytes : Nat) : Prop where
  ht : P.underlying t = some (.slice e)
  hi : ∃ i z, P.info? e = some i ∧ i.zero = some z ∧ i.size = size ∧ i.bytes = bytes ∧ z.cells.size = size
  pos : 0 < size
theorem SlTy.mk' {P : Program} {t e : TypeId} {size bytes : Nat} (z : Value) (ht : P.underlying t = some (.slice e)) (h : (P.info? e).map (fun i => (i.zero, i.size, i.bytes)) = some (some z, size, bytes)) (hz : z.cells.size = size) (hp : 0 < size) : SlTy P t e size bytes := by
  obtain ⟨i, h1, h2, h3, h4⟩ := info_parts h
  exact ⟨ht, ⟨i, z, h1, h2, h3, h4, hz⟩, hp⟩

/-- What the built-in append leaves: the slice with the new values behind; written is its own row, or a new one. -/
theorem run_app {P : Program} {t e : TypeId} {size bytes : Nat} (hT : SlTy P t e size bytes) (ty : TypeId) {S S2 : Nat → Prop} {w : World} {v x : Value} {n m : Nat} {xs news : List Value}
    (hown : Own S w e size v n xs) (hx : Rd S2 w x m news) (hl : news.length = m * size) (h1 : ∀ u ∈ news, u.oneCell' = true) (hbytes : (n + m) * bytes ≤ 140737488355328) (hlen : n + m ≤ maxLen) :
    ∃ v' w', (Builtin.append_ #[t, t] ty #[v, x]).run P w = .ok v' w' ∧ Own (fun i => S i ∨ w.heap.size ≤ i) w' e size v' (n + m) (xs ++ news) ∧ Keep w w' S ∧
      (v' = .slice none 0 0 ↔ v = .slice none 0 0 ∧ m = 0) := by
  obtain ⟨ht, ⟨i, z, hi, hz, hsize, hby, hzs⟩, hsz⟩ := hT
  obtain ⟨a, c, rfl, hmc, hcm, hnil, hcells⟩ := hx
  subst hsize
  subst hby
  have hsmall : n + m ≤ 9223372036854775807 := by simp only [maxLen] at hlen; omega
  have hxl := hown.len
  have hlen' : (xs ++ news).length = (n + m) * i.size := by rw [List.length_append, hxl, hl, Nat.add_mul]
  by_cases hm : m = 0
  · subst hm
    have hn : news = [] := List.eq_nil_of_length_eq_zero (by simpa using hl)
    subst hn
    refine ⟨v, w, ?_, by simpa using hown.mono (fun i h => .inl h), Keep.refl w S, by simp⟩
    rcases hown.view with ⟨rfl, rfl, rfl⟩ | ⟨g, cap, cur, rfl, hS, hb, r1, r2, r3, r4⟩
    · cases a <;> simp [Builtin.append_, run_underlying ht, sizeOf, typeInfo, hi, Builtin.lenOf, Builtin.firstCells, loadCells, loadCellsFrom]
    · cases a <;> simp [Builtin.append_, run_underlying ht, sizeOf, typeInfo, hi, Builtin.lenOf, Builtin.firstCells, loadCells, loadCellsFrom, r1, storeCells]
  · have hpos : 0 < news.length := by rw [hl]; exact Nat.mul_pos (by omega) hsz
    obtain ⟨b, o, rfl, _, _⟩ := hcells 0 _ (List.getElem?_eq_getElem hpos)
    have hnews : ∀ j u, news[j]? = some u → w.cell? ((⟨b, o, none⟩ : Addr).add j) = some u := by
      intro j u hu
      obtain ⟨b', o', he, _, hc⟩ := hcells j u hu
      injection he with he
      injection he with e1 e2
      subst e1; subst e2
      unfold Addr.add
      split
      · rename_i hj; subst hj; simpa using hc
      · exact hc
    have grown : ∀ (old : Nat), old < n + m →
        Own (fun i => S i ∨ w.heap.size ≤ i) (w.drew.alloc (.cells (xs.toArray ++ news.toArray ++ Builtin.zeroCells z.cells (grownCap w (n + m) old e - (n + m))) e)) e i.size
          (.slice (some ⟨w.heap.size, 0, none⟩) (n + m) (grownCap w (n + m) old e)) (n + m) (xs ++ news) := by
      intro old ho
      have hge := grownCap_ge w (n + m) old e
      have hcm' : grownCap w (n + m) old e ≤ maxLen := grownCap_le_maxLen w (n + m) old e hlen
      refine ⟨⟨hlen', .inr ⟨w.heap.size, _, _, rfl, Nat.zero_le _, heap_alloc_new w.drew _, hge, hcm', ?_, ?_⟩⟩, fun g hg => ?_⟩
      · simp only [Array.size_append, List.size_toArray, size_zeroCells, hzs, hxl, hl, ← Nat.add_mul]
        congr 1
        omega
      · simp only [Array.toList_append, List.append_assoc]
        rw [← List.append_assoc, ← hlen']
        exact List.take_left
      · simp [Value.ownBlock] at hg
        exact .inr (by omega)
    rcases hown.view with ⟨rfl, rfl, rfl⟩ | ⟨g, cap, cur, rfl, hS, hb, r1, r2, r3, r4⟩
    · have hr := run_append_nil (P := P) w t ty e i z ht hi hz ⟨b, o, none⟩ m c news hl hnews (by omega) (by omega) (by have hb := hbytes; simp only [Nat.zero_add] at hb; omega)
      have hgr := grown 0 (by omega)
      simp only [Nat.zero_add, List.nil_append] at hgr ⊢
      refine ⟨_, _, hr, by simpa using hgr, (Keep.refl w S).drew.alloc _, by simp [hm]⟩
    · by_cases hroom : n + m ≤ cap
      · have hfit : n * i.size + news.length ≤ cur.size := by rw [hl, r3, ← Nat.add_mul]; exact Nat.mul_le_mul_right _ hroom
        have hr := run_append_room (P := P) w t ty e i ht hi g n cap cur hb ⟨b, o, none⟩ m c news hl hnews h1 hroom hfit
        refine ⟨_, _, hr, ⟨⟨hlen', .inr ⟨g, cap, _, rfl, Nat.zero_le _, setRow_heap w g cur _ e _ hb, hroom, r2, ?_, ?_⟩⟩, fun g' hg' => ?_⟩, (Keep.refl w S).setRow (.inl hS) _, by simp⟩
        · simp only [List.size_toArray, List.length_append, List.length_take, List.length_drop, Array.length_toList]
          omega
        · rw [r4, ← hlen']
          exact List.take_left
        · simp [Value.ownBlock] at hg'
          subst hg'
          exact .inl hS
      · have holds : ∀ j u, xs[j]? = some u → w.cell? ((⟨g, 0, none⟩ : Addr).add j) = some u := hown.1.cells (g := g) rfl
        have hr := run_append_grow (P := P) w t ty e i z ht hi hz ⟨g, 0, none⟩ n cap xs hxl holds ⟨b, o, none⟩ m c news hl hnews (by omega) (by omega) (growslice_fits (by omega) hbytes)
        exact ⟨_, _, hr, grown cap (by omega), (Keep.refl w S).drew.alloc _, by simp⟩

/-- What the walk is left with behind an append: s and news came in, y went out. -/
structure App (S : Nat → Prop) (w w' : World) (e : TypeId) (size : Nat) (v y : Value) (n m k : Nat) (xs news : List Value) : Prop where
  own : Own (fun i => S i ∨ New w w' i) w' e size y k (xs ++ news)
  num : k = n + m
  keep : Keep w w' S
  nil : y = .slice none 0 0 ↔ v = .slice none 0 0 ∧ m = 0

/-- The law for the walk: 'append(s, x...)'. -/
theorem wpList_app {P : Program} {t e : TypeId} {size bytes : Nat} (hT : SlTy P t e size bytes) {ops : Array Oper} {rest : List Oper} {o : Oper} {a : Act} {w : World} {Q : Exit → Act → World → Prop} (hgd : o.guard = none) (s x : Operand)
    (ho : o.op = .call { callee := .builtin .append, args := #[s, x], argTypes := #[t, t] })
    {S S2 : Nat → Prop} {v y : Value} {n m : Nat} {xs news : List Value} (hs : a.eval s = v) (hy : a.eval x = y)
    (hown : Own S w e size v n xs) (hx : Rd S2 w y m news) (hl : news.length = m * size) (h1 : ∀ u ∈ news, u.oneCell' = true) (hbytes : (n + m) * bytes ≤ 140737488355328) (hlen : n + m ≤ maxLen)
    (h : ∀ a' k c' w', App S w w' e size v (.slice a' k c') n m k xs news → wpList P ops Q rest (a.put o.dst (.slice a' k c')) w') : wpList P ops Q (o :: rest) a w := by
  refine wpList_plain hgd fun K hK => ?_
  obtain ⟨v', w', hr, h2, h3, h4⟩ := run_app hT o.type hown hx hl h1 hbytes hlen
  obtain ⟨a', c', rfl⟩ := h2.form
  unfold Oper.wp execOp
  simp only [ho, resolve, invoke, builtin, Sem.run_bind, Sem.run_pure, Result.andThen_ok, List.map_toArray, List.map_cons, List.map_nil, hs, hy, hr]
  exact hK _ _ (h a' _ c' w' ⟨h2.tight.mono (fun i hi => hi.1.elim .inl (fun h => .inr ⟨h, hi.2⟩)), rfl, h3, h4⟩)

/-- A mask of p ones. -/
theorem and_mask (x : Int) (p : Nat) (m : Int) (hp : p ≤ 62) (hm : m = ((2 ^ p - 1 : Nat) : Int)) : bits .and .i64 x m = x % ((2 ^ p : Nat) : Int) := by
  subst hm
  have hpow : (2 : Nat) ^ p ≤ 2 ^ 62 := Nat.pow_le_pow_right (by decide) hp
  have hpos : 0 < (2 : Nat) ^ p := Nat.pow_pos (by decide)
  show IntKind.i64.wrap (((BitVec.ofInt 64 x &&& BitVec.ofInt 64 ((2 ^ p - 1 : Nat) : Int)).toNat : Nat) : Int) = _
  have h1 : (BitVec.ofInt 64 ((2 ^ p - 1 : Nat) : Int)).toNat = 2 ^ p - 1 := by
    rw [BitVec.toNat_ofInt]
    rw [Int.emod_eq_of_lt (by omega) (by omega)]
    simp
  have h2 : (BitVec.ofInt 64 x &&& BitVec.ofInt 64 ((2 ^ p - 1 : Nat) : Int)).toNat = (x % 2 ^ 64).toNat % 2 ^ p := by
    rw [BitVec.toNat_and, h1, Nat.and_two_pow_sub_one_eq_mod, BitVec.toNat_ofInt]
    rfl
  rw [h2]
  have h3 : (((x % 2 ^ 64).toNat % 2 ^ p : Nat) : Int) = x % ((2 ^ p : Nat) : Int) := by
    rw [Int.natCast_emod, Int.toNat_of_nonneg (Int.emod_nonneg _ (by decide))]
    have h64 : (2 : Nat) ^ 64 = 2 ^ p * 2 ^ (64 - p) := by rw [← Nat.pow_add]; congr 1; omega
    exact Int.emod_emod_of_dvd x ⟨((2 ^ (64 - p) : Nat) : Int), by exact_mod_cast h64⟩
  rw [h3]
  have h4 := Int.emod_nonneg x (show ((2 ^ p : Nat) : Int) ≠ 0 by omega)
  have h5 := Int.emod_lt_of_pos x (show (0 : Int) < ((2 ^ p : Nat) : Int) by omega)
  exact IntWalk.i64_in _ (by omega)
/-- A place out of any number: 'x & 0xffff % n'. -/
theorem and_mod (x : Int) (n : Nat) (hn : 0 < n) : ∃ k : Nat, (bits .and .i64 x 65535).tmod (n : Int) = (k : Int) ∧ k < n := by
  have h := and_mask x 16 65535 (by decide) rfl
  have h0 := Int.emod_nonneg x (show ((2 ^ 16 : Nat) : Int) ≠ 0 by decide)
  rw [h]
  have h1 : (x % ((2 ^ 16 : Nat) : Int)).tmod (n : Int) = (x % ((2 ^ 16 : Nat) : Int)) % (n : Int) := Int.tmod_eq_emod_of_nonneg h0
  rw [h1]
  have h2 := Int.emod_nonneg (x % ((2 ^ 16 : Nat) : Int)) (show (n : Int) ≠ 0 by omega)
  have h3 := Int.emod_lt_of_pos (x % ((2 ^ 16 : Nat) : Int)) (show (0 : Int) < n by omega)
  exact ⟨((x % ((2 ^ 16 : Nat) : Int)) % (n : Int)).toNat, by omega, by omega⟩

end Go.Proofs.YtkiikblpgppmkaaGreatDoor

namespace Go.Proofs.YtkiikblpgppmkaaGreatDoor
open Go Go.RowKit
set_option linter.unusedVariables false
set_option linter.unusedSimpArgs false

/-- A claim on some blocks of a world; a write elsewhere leaves it. -/
structure Asr where
  at' : World → (Nat → Prop) → Prop
  keep : ∀ {w w' : World} {F T : Nat → Prop}, at' w F → Keep w w' T → (∀ i, F i → T i → False) → at' w' F
  mono : ∀ {w : World} {F G : Nat → Prop}, at' w F → (∀ i, F i → G i) → at' w G

/-- Block b is a row of cells of the call's own. -/
def blkA (b : Nat) (cs : Array Value) (t : TypeId) : Asr :=
  ⟨fun w F => Blk w b cs t ∧ F b, fun h hk hd => ⟨h.1.keep hk (hd b h.2), h.2⟩, fun h hG => ⟨h.1, hG _ h.2⟩⟩
/-- A slice of the call's own. -/
def slA (e : TypeId) (size : Nat) (v : Value) (n : Nat) (xs : List Value) : Asr :=
  ⟨fun w F => Own F w e size v n xs, fun h hk hd => h.keep hk hd, fun h hG => h.mono hG⟩
/-- Nothing. -/
def empA : Asr := ⟨fun _ _ => True, fun _ _ _ => trivial, fun _ _ => trivial⟩
def pureA (p : Prop) : Asr := ⟨fun _ _ => p, fun h _ _ => h, fun h _ => h⟩
def exA {α : Type} (f : α → Asr) : Asr :=
  ⟨fun w F => ∃ a, (f a).at' w F, fun ⟨a, h⟩ hk hd => ⟨a, (f a).keep h hk hd⟩, fun ⟨a, h⟩ hG => ⟨a, (f a).mono h hG⟩⟩

/-- Several claims, in blocks apart from one another, all in F. -/
def starAt (l : List Asr) (w : World) (F : Nat → Prop) : Prop :=
  ∃ G : Nat → Nat → Prop, (∀ (i : Nat) (A : Asr), l[i]? = some A → A.at' w (G i)) ∧ (∀ i x, G i x → F x) ∧ (∀ i j x, G i x → G j x → i = j)
def starA (l : List Asr) : Asr :=
  ⟨starAt l, fun ⟨G, h1, h2, h3⟩ hk hd => ⟨G, fun i A hi => A.keep (h1 i A hi) hk (fun x hx ht => hd x (h2 i x hx) ht), h2, h3⟩,
    fun ⟨G, h1, h2, h3⟩ hG => ⟨G, h1, fun i x hx => hG x (h2 i x hx), h3⟩⟩

/-- One claim is opened: what is left of the others stands through whatever is done in its blocks, and in new ones. -/
theorem starAt.opens {l : List Asr} {w : World} {F : Nat → Prop} (h : starAt l w F) (hlt : ∀ x, F x → x < w.heap.size) (i : Nat) {A : Asr} (hi : l[i]? = some A) :
    ∃ G : Nat → Prop, A.at' w G ∧ (∀ x, G x → F x) ∧
      (∀ (w' : World) (B : Asr), Keep w w' G → B.at' w' (fun x => G x ∨ New w w' x) → starAt (l.set i B) w' (fun x => F x ∨ New w w' x)) ∧
      (∀ (w' : World) (B C : Asr), Keep w w' G → starAt [B, C] w' (fun x => G x ∨ New w w' x) → starAt (l.set i B ++ [C]) w' (fun x => F x ∨ New w w' x)) := by
  obtain ⟨G, h1, h2, h3⟩ := h
  have hil : i < l.length := (List.getElem?_eq_some_iff.1 hi).1
  refine ⟨G i, h1 i A hi, h2 i, fun w' B hk hB => ?_, fun w' B C hk hBC => ?_⟩
  · refine ⟨fun j x => if j = i then G i x ∨ New w w' x else G j x, fun j C hj => ?_, fun j x hx => ?_, fun j k x hj hk' => ?_⟩
    · by_cases e : j = i
      · subst e
        rw [List.getElem?_set_self hil] at hj
        cases hj
        simpa using hB
      · rw [List.getElem?_set_ne (fun e' => e e'.symm)] at hj
        have := C.keep (h1 j C hj) hk (fun x hx hx' => e (h3 j i x hx hx'))
        simpa [e] using this
    · by_cases e : j = i
      · subst e
        simp at hx
        exact hx.imp (h2 j x) id
      · simp [e] at hx
        exact .inl (h2 j x hx)
    · by_cases e : j = i <;> by_cases e' : k = i
      · omega
      · subst e
        simp [e'] at hj hk'
        rcases hj with hj | hj
        · exact (h3 _ _ x hj hk')
        · have := hlt x (h2 k x hk'); have := hj.1; omega
      · subst e'
        simp [e] at hj hk'
        rcases hk' with hk' | hk'
        · exact (h3 _ _ x hj hk')
        · have := hlt x (h2 j x hj); have := hk'.1; omega
      · simp [e, e'] at hj hk'
        exact h3 j k x hj hk'
  · obtain ⟨K, k1, k2, k3⟩ := hBC
    refine ⟨fun j x => if j = i then K 0 x else if j = l.length then K 1 x else if j < l.length then G j x else False, fun j D hj => ?_, fun j x hx => ?_, fun j k x hj hk' => ?_⟩
    · by_cases e : j = i
      · subst e
        rw [List.getElem?_append_left (by simpa using hil), List.getElem?_set_self hil] at hj
        cases hj
        simpa using k1 0 _ rfl
      · by_cases e2 : j = l.length
        · subst e2
          rw [List.getElem?_append_right (by simp)] at hj
          simp at hj
          subst hj
          simpa [e] using k1 1 _ rfl
        · have hjl : j < l.length := by
            have := (List.getElem?_eq_some_iff.1 hj).1
            simp at this
            omega
          rw [List.getElem?_append_left (by simpa using hjl), List.getElem?_set_ne (fun e' => e e'.symm)] at hj
          have := D.keep (h1 j D hj) hk (fun x hx hx' => e (h3 j i x hx hx'))
          simpa [e, e2, hjl] using this
    · by_cases e : j = i
      · simp [e] at hx
        exact (k2 0 x hx).imp (h2 i x) id
      · by_cases e2 : j = l.length
        · subst e2
          simp [e] at hx
          exact (k2 1 x hx).imp (h2 i x) id
        · simp [e, e2] at hx
          exact .inl (h2 j x hx.2)
    · have hG : ∀ j a, j ≠ i → G j x → K a x → False := fun j a hj hx hK => by
        rcases k2 a x hK with h | h
        · exact hj (h3 j i x hx h)
        · have := hlt x (h2 j x hx); have := h.1; omega
      have h01 : K 0 x → K 1 x → False := fun a b => by have := k3 0 1 x a b; omega
      have hli : ¬ l.length = i := by omega
      by_cases e : j = i <;> by_cases e' : k = i <;> by_cases e2 : j = l.length <;> by_cases e2' : k = l.length <;> simp [e, e', e2, e2', hli] at hj hk' <;> first | omega | exact (h01 hj hk').elim | exact (h01 hk' hj).elim | skip
      all_goals first
        | (exfalso; first | exact hG k 0 e' hk'.2 hj | exact hG j 0 e hj.2 hk' | exact hG k 1 e' hk'.2 hj | exact hG j 1 e hj.2 hk' | (simp_all; done) | omega)
        | exact h3 j k x hj.2 hk'.2
        | skip

theorem starAt.set {l : List Asr} {w w' : World} {F : Nat → Prop} (h : starAt l w F) (hk : Keep w w' Nope) : starAt l w' F := (starA l).keep h hk (fun _ _ f => f)
theorem starAt.snoc {l : List Asr} {w : World} {F F2 : Nat → Prop} (h : starAt l w F) {A : Asr} (hA : A.at' w F2) (hd : ∀ x, F x → F2 x → False) : starAt (l ++ [A]) w (fun x => F x ∨ F2 x) := by
  obtain ⟨G, h1, h2, h3⟩ := h
  refine ⟨fun j x => if j = l.length then F2 x else if j < l.length then G j x else False, fun j D hj => ?_, fun j x hx => ?_, fun j k x hj hk' => ?_⟩
  · by_cases e2 : j = l.length
    · subst e2
      rw [List.getElem?_append_right (Nat.le_refl _)] at hj
      simp at hj
      subst hj
      simpa using hA
    · have hjl : j < l.length := by
        have := (List.getElem?_eq_some_iff.1 hj).1
        simp at this
        omega
      rw [List.getElem?_append_left hjl] at hj
      simpa [e2, hjl] using h1 j D hj
  · by_cases e2 : j = l.length
    · subst e2
      simp at hx
      exact .inr hx
    · simp [e2] at hx
      exact .inl (h2 j x hx.2)
  · by_cases e : j = l.length <;> by_cases e' : k = l.length <;> simp [e, e'] at hj hk'
    · omega
    · exact (hd x (h2 k x hk'.2) hj).elim
    · exact (hd x (h2 j x hj.2) hk').elim
    · exact h3 j k x hj.2 hk'.2
theorem starAt.drop {l : List Asr} {w : World} {F : Nat → Prop} (h : starAt l w F) (i : Nat) : starAt (l.set i empA) w F := by
  obtain ⟨G, h1, h2, h3⟩ := h
  refine ⟨G, fun j D hj => ?_, h2, h3⟩
  by_cases e : i = j
  · subst e
    have hil := (List.getElem?_eq_some_iff.1 hj).1
    simp at hil
    rw [List.getElem?_set_self hil] at hj
    cases hj
    trivial
  · rw [List.getElem?_set_ne e] at hj
    exact h1 j D hj

/-- The claims of a call that began at w0: all in blocks that are new since, and nothing old has turned. -/
structure St (w0 w : World) (l : List Asr) : Prop where
  bel : Below w0.heap.size w0 w
  own : starAt l w (fun x => w0.heap.size ≤ x ∧ x < w.heap.size)

theorem St.start (w : World) : St w w [] := ⟨Below.refl _ _, ⟨fun _ _ => False, fun _ _ hi => by simp at hi, fun _ _ f => f.elim, fun _ _ _ f => f.elim⟩⟩
theorem St.le {w0 w : World} {l : List Asr} (h : St w0 w l) : w0.heap.size ≤ w.heap.size := h.bel.size
theorem St.keep {w0 w w' : World} {l : List Asr} (h : St w0 w l) (hk : Keep w w' Nope) : St w0 w' l :=
  ⟨h.bel.trans (hk.belowAt (B := w0.heap.size) (fun i f => f.elim) h.le), (starA l).mono (h.own.set hk) (fun x hx => ⟨hx.1, Nat.lt_of_lt_of_le hx.2 hk.size⟩)⟩
theorem St.opens {w0 w : World} {l : List Asr} (h : St w0 w l) (i : Nat) {A : Asr} (hi : l[i]? = some A) :
    ∃ G : Nat → Prop, A.at' w G ∧ (∀ x, G x → w0.heap.size ≤ x ∧ x < w.heap.size) ∧
      (∀ (w' : World) (B : Asr), Keep w w' G → B.at' w' (fun x => G x ∨ New w w' x) → St w0 w' (l.set i B)) ∧
      (∀ (w' : World) (B C : Asr), Keep w w' G → starAt [B, C] w' (fun x => G x ∨ New w w' x) → St w0 w' (l.set i B ++ [C])) := by
  obtain ⟨G, h1, h2, h3, h4⟩ := h.own.opens (fun x hx => hx.2) i hi
  have hb : ∀ w', Keep w w' G → Below w0.heap.size w0 w' := fun w' hk => h.bel.trans (hk.belowAt (B := w0.heap.size) (fun x hx => (h2 x hx).1) h.le)
  have hm : ∀ w', Keep w w' G → ∀ x, (w0.heap.size ≤ x ∧ x < w.heap.size) ∨ New w w' x → w0.heap.size ≤ x ∧ x < w'.heap.size := fun w' hk x hx => by
    rcases hx with hx | hx
    · exact ⟨hx.1, Nat.lt_of_lt_of_le hx.2 hk.size⟩
    · exact ⟨Nat.le_trans h.le hx.1, hx.2⟩
  exact ⟨G, h1, h2, fun w' B hk hB => ⟨hb w' hk, (starA _).mono (h3 w' B hk hB) (hm w' hk)⟩, fun w' B C hk hB => ⟨hb w' hk, (starA _).mono (h4 w' B C hk hB) (hm w' hk)⟩⟩
theorem St.get {w0 w : World} {l : List Asr} (h : St w0 w l) (i : Nat) {A : Asr} (hi : l[i]? = some A) : ∃ G : Nat → Prop, A.at' w G ∧ (∀ x, G x → w0.heap.size ≤ x ∧ x < w.heap.size) :=
  let ⟨G, h1, h2, _⟩ := h.opens i hi
  ⟨G, h1, h2⟩
/-- A new claim, in new blocks. -/
theorem St.add {w0 w w' : World} {l : List Asr} (h : St w0 w l) (hk : Keep w w' Nope) {A : Asr} (hA : A.at' w' (New w w')) : St w0 w' (l ++ [A]) := by
  have h' := h.keep hk
  have h0 := h.le
  have : starAt l w' (fun x => w0.heap.size ≤ x ∧ x < w.heap.size) := h.own.set hk
  refine ⟨h'.bel, (starA _).mono (this.snoc hA (fun x hx hy => by have := hx.2; have := hy.1; omega)) (fun x hx => ?_)⟩
  rcases hx with hx | hx
  · exact ⟨hx.1, Nat.lt_of_lt_of_le hx.2 hk.size⟩
  · exact ⟨Nat.le_trans h0 hx.1, hx.2⟩
theorem St.alloc {w0 w : World} {l : List Asr} (h : St w0 w l) (o : Obj) : St w0 (w.alloc o) l := h.keep ((Keep.refl w Nope).alloc o)
theorem St.drew {w0 w : World} {l : List Asr} (h : St w0 w l) : St w0 w.drew l := h.keep ((Keep.refl w Nope).drew)
theorem St.drewN {w0 w : World} {l : List Asr} (h : St w0 w l) (n : Nat) : St w0 (w.drewN n) l := h.keep ((Keep.refl w Nope).drewN n)
/-- A new row of cells. -/
theorem St.box {w0 w : World} {l : List Asr} (h : St w0 w l) (cs : Array Value) (t : TypeId) : St w0 (w.alloc (.cells cs t)) (l ++ [blkA w.heap.size cs t]) :=
  h.add ((Keep.refl w Nope).alloc _) ⟨Blk.new w cs t, Nat.le_refl _, by simp⟩
/-- A new slice literal. -/
theorem St.lit {w0 w : World} {l : List Asr} (h : St w0 w l) (e : TypeId) (size n : Nat) (cs : Array Value) (hn : n ≤ maxLen) (hc : cs.size = n * size) :
    St w0 (w.alloc (.cells cs e)) (l ++ [slA e size (.slice (some ⟨w.heap.size, 0, none⟩) n n) n cs.toList]) :=
  h.add ((Keep.refl w Nope).alloc _) (Own.lit w e size n cs hn hc ⟨Nat.le_refl _, by simp⟩)
/-- A cell is written. -/
theorem St.write {w0 w : World} {l : List Asr} (h : St w0 w l) (i : Nat) {b : Nat} {cs : Array Value} {t : TypeId} (hi : l[i]? = some (blkA b cs t)) (j : Nat) (u : Value) :
    St w0 (w.setCell ⟨b, j, none⟩ u) (l.set i (blkA b (cs.setIfInBounds j u) t)) := by
  obtain ⟨G, h1, h2, h3, _⟩ := h.opens i hi
  exact h3 _ (blkA b (cs.setIfInBounds j u) t) ((Keep.refl w G).setCell (p := ⟨b, j, none⟩) (.inl h1.2) u) ⟨h1.1.setCell j u, .inl h1.2⟩
theorem St.blk {w0 w : World} {l : List Asr} (h : St w0 w l) (i : Nat) {b : Nat} {cs : Array Value} {t : TypeId} (hi : l[i]? = some (blkA b cs t)) : Blk w b cs t := (h.get i hi).choose_spec.1.1
theorem St.ge {w0 w : World} {l : List Asr} (h : St w0 w l) (i : Nat) {b : Nat} {cs : Array Value} {t : TypeId} (hi : l[i]? = some (blkA b cs t)) : w0.heap.size ≤ b := by
  obtain ⟨G, h1, h2⟩ := h.get i hi
  exact (h2 b h1.2).1
/-- A slice of the call's own, read. -/
theorem St.rd {w0 w : World} {l : List Asr} (h : St w0 w l) (i : Nat) {e : TypeId} {size n : Nat} {v : Value} {xs : List Value} (hi : l[i]? = some (slA e size v n xs)) :
    ∃ G : Nat → Prop, Own G w e size v n xs ∧ Rd G w v n xs ∧ ∀ x, G x → w0.heap.size ≤ x ∧ x < w.heap.size := by
  obtain ⟨G, h1, h2⟩ := h.get i hi
  exact ⟨G, h1, Own.rd h1, h2⟩
/-- A cell of a slice of the call's own is written. -/
theorem St.store {w0 w : World} {l : List Asr} (h : St w0 w l) (i : Nat) {e : TypeId} {size n c : Nat} {a : Option Addr} {xs : List Value} (hi : l[i]? = some (slA e size (.slice a n c) n xs)) (hn : 0 < n) :
    ∃ g, a = some ⟨g, 0, none⟩ ∧ g < w.heap.size ∧ (∀ j, w.frozen? ⟨g, j, none⟩ = false) ∧ (∀ j, j < n * size → w.cell? ⟨g, j, none⟩ = xs[j]?) ∧
      ∀ j u, St w0 (w.setCell ⟨g, j, none⟩ u) (l.set i (slA e size (.slice a n c) n (xs.set j u))) := by
  obtain ⟨G, h1, h2, h3, _⟩ := h.opens i hi
  obtain ⟨g, rfl, hG, hlt, hf, hc, hs⟩ := Own.head h1 hn
  exact ⟨g, rfl, hlt, hf, hc, fun j u => h3 _ (slA e size (.slice (some ⟨g, 0, none⟩) n c) n (xs.set j u)) ((Keep.refl w G).setCell (p := ⟨g, j, none⟩) (.inl hG) u) ((hs j u).mono (fun _ h => .inl h))⟩
/-- Behind an append to a slice of the call's own. -/
theorem St.apped {w0 w w' : World} {l : List Asr} {G : Nat → Prop} {e : TypeId} {size n m k : Nat} {v y : Value} {xs news : List Value} {i : Nat}
    (hup : ∀ (w' : World) (B : Asr), Keep w w' G → B.at' w' (fun x => G x ∨ New w w' x) → St w0 w' (l.set i B)) (ha : App G w w' e size v y n m k xs news) : St w0 w' (l.set i (slA e size y k (xs ++ news))) :=
  hup w' (slA e size y k (xs ++ news)) ha.keep ha.own
theorem St.empty {w0 w : World} {l : List Asr} (h : St w0 w l) (i : Nat) : St w0 w (l.set i empA) := ⟨h.bel, h.own.drop i⟩
/-- The last claims are let go. -/
theorem St.take {w0 w : World} {l : List Asr} (h : St w0 w l) (n : Nat) : St w0 w (l.take n) := by
  obtain ⟨hb, G, h1, h2, h3⟩ := h
  refine ⟨hb, G, fun i A hi => ?_, h2, h3⟩
  rw [List.getElem?_take] at hi
  split at hi
  · exact h1 i A hi
  · cases hi
/-- Claims are put into another order, some are let go. -/
theorem St.pick {w0 w : World} {l l' : List Asr} (h : St w0 w l) (f : Nat → Nat) (hf : ∀ i j, i < l'.length → j < l'.length → f i = f j → i = j) (he : ∀ (i : Nat) (A : Asr), l'[i]? = some A → l[f i]? = some A) : St w0 w l' := by
  obtain ⟨hb, G, h1, h2, h3⟩ := h
  refine ⟨hb, fun i x => i < l'.length ∧ G (f i) x, fun i A hi => ?_, fun i x hx => h2 _ x hx.2, fun i j x hi hj => hf i j hi.1 hj.1 (h3 _ _ x hi.2 hj.2)⟩
  exact A.mono (h1 (f i) A (he i A hi)) (fun x hx => ⟨(List.getElem?_eq_some_iff.1 hi).1, hx⟩)
/-- A claim says less, or the same in other words. -/
theorem St.weaken {w0 w : World} {l : List Asr} (h : St w0 w l) (i : Nat) {A B : Asr} (hi : l[i]? = some A) (hAB : ∀ (G : Nat → Prop), A.at' w G → B.at' w G) : St w0 w (l.set i B) := by
  obtain ⟨G, h1, _, h3, _⟩ := h.opens i hi
  exact h3 w B (Keep.refl w G) (B.mono (hAB G h1) (fun _ hx => .inl hx))
/-- At the end. -/
theorem St.ret {w0 w : World} {l : List Asr} (h : St w0 w l) : RetTrue w0 (.returned (.bool true)) w := ⟨rfl, h.bel⟩

theorem mid_get (a b c x : Asr) (M T : List Asr) (k : Nat) (hM : M.length = k) : ((a :: b :: c :: (M ++ [x])) ++ T)[k + 3]? = some x := by
  subst hM
  simp
theorem mid_set (a b c x y : Asr) (M T : List Asr) (k : Nat) (hM : M.length = k) : ((a :: b :: c :: (M ++ [x])) ++ T).set (k + 3) y = (a :: b :: c :: (M ++ [y])) ++ T := by
  subst hM
  simp
theorem mid_last (a b c x y : Asr) (M : List Asr) (k : Nat) (hM : M.length = k) : ((a :: b :: c :: (M ++ [x])) ++ [y])[k + 4]? = some y := by
  subst hM
  rw [List.getElem?_append_right (by simp)]
  simp
theorem mid_take (a b c x : Asr) (M T : List Asr) (k : Nat) (hM : M.length = k) : ((a :: b :: c :: (M ++ [x])) ++ T).take (k + 4) = a :: b :: c :: (M ++ [x]) := by
  subst hM
  exact List.take_left' (by simp)
end Go.Proofs.YtkiikblpgppmkaaGreatDoor

namespace Go.Proofs.YtkiikblpgppmkaaGreatDoor
open Go Go.RowKit
set_option linter.unusedVariables false
set_option linter.unusedSimpArgs false
/-- Elements of one size, flat: which cell is which. -/
theorem flat_get {α : Type} (cells : α → List Value) (size : Nat) (hs : ∀ x, (cells x).length = size) : ∀ (l : List α) (k j : Nat) (x : α), l[k]? = some x → j < size → (l.flatMap cells)[k * size + j]? = (cells x)[j]?
  | [], k, j, x, h, _ => by simp at h
  | a :: l, 0, j, x, h, hj => by
    simp at h
    subst h
    simp only [Nat.zero_mul, Nat.zero_add, List.flatMap_cons]
    rw [List.getElem?_append_left (by rw [hs]; exact hj)]
  | a :: l, k + 1, j, x, h, hj => by
    simp at h
    have := flat_get cells size hs l k j x h hj
    rw [List.flatMap_cons, List.getElem?_append_right (by rw [hs, Nat.add_mul]; omega), hs, ← this]
    congr 1
    rw [Nat.add_mul]
    omega
theorem flat_length {α : Type} (cells : α → List Value) (size : Nat) (hs : ∀ x, (cells x).length = size) (l : List α) : (l.flatMap cells).length = l.length * size := by
  induction l with
  | nil => simp
  | cons a l ih => simp only [List.flatMap_cons, List.length_append, hs, ih, List.length_cons, Nat.add_mul]; omega

/-- An element's cells, as the walk addresses them. -/
theorem Rd.elem {α : Type} {S : Nat → Prop} {w : World} {a : Option Addr} {n m c : Nat} {cells : α → List Value} {size : Nat} {l : List α} {k : Nat} {x : α} (h : Rd S w (.slice a n c) m (l.flatMap cells)) (hs : ∀ x, (cells x).length = size) (hp : 0 < size) (hk : l[k]? = some x) :
    ∃ b o, a = some ⟨b, o, none⟩ ∧ S b ∧ ∀ j, j < size → w.cell? ⟨b, o + k * size + j, none⟩ = (cells x)[j]? := by
  have hkl : k < l.length := (List.getElem?_eq_some_iff.1 hk).1
  have hm : ∀ j, j < size → k * size + j < l.length * size := fun j hj => by
    have : (k + 1) * size ≤ l.length * size := Nat.mul_le_mul_right _ (by omega)
    rw [Nat.add_mul] at this
    omega
  obtain ⟨b, o, ha, hb, hc⟩ := h.at (by rw [flat_length cells size hs]; have := hm 0 hp; omega)
  refine ⟨b, o, ha, hb, fun j hj => ?_⟩
  rw [Nat.add_assoc, hc (k * size + j) (by rw [flat_length cells size hs]; exact hm j hj), flat_get cells size hs l k j x hk hj]
theorem flat_drop {α : Type} (cells : α → List Value) (size : Nat) (hlen : ∀ x, (cells x).length = size) : ∀ (l : List α) (m : Nat), (l.flatMap cells).drop (m * size) = (l.drop m).flatMap cells
  | [], m => by simp
  | a :: t, 0 => by simp
  | a :: t, m + 1 => by
    simp only [List.flatMap_cons, List.drop_succ_cons]
    rw [show (m + 1) * size = (cells a).length + m * size by rw [hlen, Nat.add_mul]; omega, List.drop_length_add_append, flat_drop cells size hlen t m]
end Go.Proofs.YtkiikblpgppmkaaGreatDoor

namespace Go.Proofs.YtkiikblpgppmkaaGreatDoor
open Go Go.RowKit
set_option linter.unusedVariables false
set_option linter.unusedSimpArgs false

/-- A number's bit; 0 of a number that is in none. -/
def oneW (i : Int) : Nat := if 0 ≤ i ∧ i < 64 then 2 ^ i.toNat else 0
def allW (l : List Int) : Nat := l.foldl (fun w i => w ||| oneW i) 0

theorem oneW_lt (i : Int) : oneW i < 2 ^ 64 := by
  unfold oneW
  split
  · exact Nat.pow_lt_pow_right (by decide) (by omega)
  · decide
theorem or_lt {a b : Nat} (ha : a < 2 ^ 64) (hb : b < 2 ^ 64) : a ||| b < 2 ^ 64 := Nat.or_lt_two_pow ha hb
theorem foldW_lt : ∀ (l : List Int) (w : Nat), w < 2 ^ 64 → l.foldl (fun w i => w ||| oneW i) w < 2 ^ 64
  | [], w, h => h
  | i :: l, w, h => foldW_lt l _ (or_lt h (oneW_lt i))
theorem allW_lt (l : List Int) : allW l < 2 ^ 64 := foldW_lt l 0 (by decide)
theorem allW_snoc (l : List Int) (i : Int) : allW (l ++ [i]) = allW l ||| oneW i := by simp [allW]
theorem bit_one (i : Int) (k : Nat) : (oneW i).testBit k = decide (i = k ∧ k < 64) := by
  unfold oneW
  split
  · rename_i h
    rw [Nat.testBit_two_pow]
    rw [Bool.eq_iff_iff]; simp; omega
  · rename_i h
    simp
    omega
theorem bit_all (l : List Int) (k : Nat) : (allW l).testBit k = decide ((k : Int) ∈ l ∧ k < 64) := by
  have h : ∀ (l : List Int) (w : Nat), (l.foldl (fun w i => w ||| oneW i) w).testBit k = (w.testBit k || decide ((k : Int) ∈ l ∧ k < 64)) := by
    intro l
    induction l with
    | nil => intro w; simp
    | cons i l ih =>
      intro w
      rw [List.foldl_cons, ih, Nat.testBit_or, bit_one]
      rw [Bool.eq_iff_iff]
      simp
      constructor
      · rintro ((h | h) | h)
        · exact .inl h
        · exact .inr ⟨.inl h.1.symm, h.2⟩
        · exact .inr ⟨.inr h.1, h.2⟩
      · rintro (h | ⟨h | h, h'⟩)
        · exact .inl (.inl h)
        · exact .inl (.inr ⟨h.symm, h'⟩)
        · exact .inr ⟨h, h'⟩
  rw [allW, h]
  simp

/-- The model's operations on words, as numbers. -/
theorem bits_or (a b : Nat) (ha : a < 2 ^ 64) (hb : b < 2 ^ 64) : bits .or .u64 (a : Int) (b : Int) = ((a ||| b : Nat) : Int) := by
  show IntKind.u64.wrap (((BitVec.ofInt 64 a ||| BitVec.ofInt 64 b).toNat : Nat) : Int) = _
  rw [BitVec.toNat_or, BitVec.ofInt_natCast, BitVec.ofInt_natCast, BitVec.toNat_ofNat, BitVec.toNat_ofNat, Nat.mod_eq_of_lt ha, Nat.mod_eq_of_lt hb]
  have := or_lt ha hb
  exact IntWalk.u64_in _ (by omega)
theorem bits_and (a b : Nat) (ha : a < 2 ^ 64) (hb : b < 2 ^ 64) : bits .and .u64 (a : Int) (b : Int) = ((a &&& b : Nat) : Int) := by
  show IntKind.u64.wrap (((BitVec.ofInt 64 a &&& BitVec.ofInt 64 b).toNat : Nat) : Int) = _
  rw [BitVec.toNat_and, BitVec.ofInt_natCast, BitVec.ofInt_natCast, BitVec.toNat_ofNat, BitVec.toNat_ofNat, Nat.mod_eq_of_lt ha, Nat.mod_eq_of_lt hb]
  have := Nat.and_le_left (n := a) (m := b)
  exact IntWalk.u64_in _ (by omega)

theorem bits_andnot (a b : Nat) (ha : a < 2 ^ 64) (hb : b < 2 ^ 64) : bits .andNot .u64 (a : Int) (b : Int) = 0 ↔ ∀ k, a.testBit k = true → b.testBit k = true := by
  have e : bits .andNot .u64 (a : Int) (b : Int) = IntKind.u64.wrap (((BitVec.ofNat 64 a &&& ~~~ BitVec.ofNat 64 b).toNat : Nat) : Int) := by
    show IntKind.u64.wrap (((BitVec.ofInt 64 a &&& ~~~ BitVec.ofInt 64 b).toNat : Nat) : Int) = _
    rw [BitVec.ofInt_natCast, BitVec.ofInt_natCast]
  have h1 : (BitVec.ofNat 64 a &&& ~~~ BitVec.ofNat 64 b).toNat < 2 ^ 64 := BitVec.isLt _
  rw [e, IntWalk.u64_in _ (by omega)]
  have h2 : (BitVec.ofNat 64 a &&& ~~~ BitVec.ofNat 64 b) = 0#64 ↔ ∀ k, a.testBit k = true → b.testBit k = true := by
    constructor
    · intro h k hk
      have h3 := congrArg (fun v => v.getLsbD k) h
      simp only [BitVec.getLsbD_and, BitVec.getLsbD_not, BitVec.getLsbD_ofNat, BitVec.getLsbD_zero] at h3
      have hk64 : k < 64 := by
        rcases Nat.lt_or_ge k 64 with h | h
        · exact h
        · rw [Nat.testBit_lt_two_pow (Nat.lt_of_lt_of_le ha (Nat.pow_le_pow_right (by decide) h))] at hk
          cases hk
      simpa [hk64, hk] using h3
    · intro h
      apply BitVec.eq_of_getLsbD_eq
      intro k hk
      simp only [BitVec.getLsbD_and, BitVec.getLsbD_not, BitVec.getLsbD_ofNat, BitVec.getLsbD_zero, hk, decide_true, Bool.true_and]
      cases h4 : a.testBit k
      · simp
      · simp [h k h4]
  rw [← h2]
  constructor
  · intro h
    apply BitVec.eq_of_toNat_eq
    simpa using h
  · intro h
    rw [h]
    rfl

set_option maxHeartbeats 400000 in
theorem bits_one (i : Int) (w : World) : Calls Tryz.prog 243 #[.int .i64 i] w (fun e w' => e = .returned (.int .u64 (oneW i : Nat)) ∧ w = w') := by
  by_cases h : 0 ≤ i ∧ i < 64
  · have HO := Lib.hid (show IntKind.u64.wrap (2 ^ i.toNat) = ((oneW i : Nat) : Int) by
      have h2 := oneW_lt i
      unfold oneW at h2 ⊢
      rw [if_pos h] at h2 ⊢
      rw [show (2 : Int) ^ i.toNat = ((2 ^ i.toNat : Nat) : Int) by push_cast; rfl]
      generalize 2 ^ i.toNat = q at h2 ⊢
      exact IntWalk.u64_in _ (by omega))
    obtain ⟨h1, h2⟩ := h
    go_enter Tryz.func243, Tryz.ntmps243
    go_wp2_with fail
    go_ret
    exact ⟨by rw [HO.out]; rfl, rfl⟩
  · have e : oneW i = 0 := if_neg h
    rw [e]
    by_cases h1 : i < 0
    · clear h e
      go_enter Tryz.func243, Tryz.ntmps243
      go_wp2_with fail
      go_ret
      exact ⟨rfl, rfl⟩
    · have h2 : 64 ≤ i := by omega
      clear h e
      go_enter Tryz.func243, Tryz.ntmps243
      go_wp2_with fail
      go_ret
      exact ⟨rfl, rfl⟩

/-- A slice of ints, read. -/
def ints (l : List Int) : List Value := l.map (.int .i64)
theorem ints_len (l : List Int) : (ints l).length = l.length := by simp [ints]
theorem ints_app (a b : List Int) : ints (a ++ b) = ints a ++ ints b := by simp [ints]
theorem ints_one (l : List Int) : ∀ u ∈ ints l, u.oneCell' = true := by
  intro u hu
  obtain ⟨x, _, rfl⟩ := List.mem_map.1 hu
  rfl
theorem ints_get {l : List Int} {k : Nat} {x : Int} (h : l[k]? = some x) : (ints l)[k]? = some (.int .i64 x) := by simp [ints, h]
/-- The cell of an element. -/
theorem Rd.int {S : Nat → Prop} {w : World} {v : Value} {n : Nat} {l : List Int} (h : Rd S w v n (ints l)) {k : Nat} {x : Int} (hk : l[k]? = some x) :
    ∃ b o, (∃ c, v = .slice (some ⟨b, o, none⟩) n c) ∧ S b ∧ w.cell? ⟨b, o + k, none⟩ = some (.int .i64 x) := by
  obtain ⟨a, c, rfl, _, _, _, h4⟩ := h
  obtain ⟨b, o, rfl, hb, hc⟩ := h4 k _ (ints_get hk)
  exact ⟨b, o, ⟨c, rfl⟩, hb, hc⟩

def LoopAll (w : World) (l : List Int) (g : Nat) (v3 v8 : Value) (wr : World) : Prop :=
  ∃ k : Nat, g + k = l.length ∧ v8 = .int .i64 k ∧ v3 = .int .u64 (allW (l.take k) : Nat) ∧ w = wr

set_option maxHeartbeats 1000000 in
theorem bits_all (v : Value) (l : List Int) (w : World) (S : Nat → Prop) (h : Rd S w v l.length (ints l)) :
    Calls Tryz.prog 244 #[v] w (fun e w' => e = .returned (.int .u64 (allW l : Nat)) ∧ w = w') := by
  obtain ⟨a, c, rfl, h1, h2, h3, h4⟩ := id h
  have hlen : l.length ≤ 9223372036854775807 := by unfold maxLen at h2; omega
  clear h1 h2 h3 h4
  have H := Lib.hid h; clear h
  go_enter Tryz.func244, Tryz.ntmps244
  go_wp2_with fail
  go_loopg [3, 8] l.length (fun g v3 v8 wr => LoopAll w l g v3 v8 wr)
  case atStart => exact ⟨0, rfl, rfl, rfl, rfl⟩
  case round =>
    obtain ⟨k, hk, rfl, rfl, rfl⟩ := hrel
    have hkl : k ≤ l.length := by omega
    have HK := Lib.hid hk; clear hk
    by_cases hlt : k < l.length
    · obtain ⟨x, hx⟩ : ∃ x, l[k]? = some x := ⟨_, List.getElem?_eq_getElem hlt⟩
      obtain ⟨bo, oo, ⟨c', hv⟩, _, hc0⟩ := H.out.int hx
      injection hv with hv1 hv2 hv3
      subst hv1; subst hv3
      have HT := Lib.hid (show allW (l.take (k + 1)) = allW (l.take k) ||| oneW x by rw [List.take_add_one, hx]; exact allW_snoc _ _)
      clear hx
      have HOR := Lib.hid (bits_or (allW (l.take k)) (oneW x) (allW_lt _) (oneW_lt _))
      go_wp2_with (go_at_call 243; refine (bits_one x _).mono ?_; rintro e w' ⟨rfl, rfl⟩)
      go_roundg (l.length - (k + 1))
      case measure => have := HK.out; omega
      case rel => exact ⟨k + 1, by omega, by go_num, by rw [HT.out, ← HOR.out], rfl⟩
    · have hkl' : k = l.length := by omega
      subst hkl'
      have HT := Lib.hid (show allW (l.take l.length) = allW l by rw [List.take_length])
      go_wp2_with fail
      go_ret
      exact ⟨by rw [HT.out]; rfl, rfl⟩

set_option maxHeartbeats 400000 in
theorem bits_of (v : Value) (l : List Int) (w : World) (S : Nat → Prop) (h : Rd S w v l.length (ints l)) :
    Calls Tryz.prog 329 #[v] w (fun e w' => e = .returned (.int .u64 (allW l : Nat)) ∧ w = w') := by
  have H := Lib.hid h; clear h
  go_enter Tryz.func329, Tryz.ntmps329
  go_wp2_with (go_at_call 244; refine (bits_all _ l _ S H.out).mono ?_; rintro e w' ⟨rfl, rfl⟩)
  go_ret
  exact ⟨rfl, rfl⟩

set_option maxHeartbeats 400000 in
theorem bits_with (d : Nat) (hd : d < 2 ^ 64) (v : Value) (l : List Int) (w : World) (S : Nat → Prop) (h : Rd S w v l.length (ints l)) :
    Calls Tryz.prog 203 #[.int .u64 (d : Nat), v] w (fun e w' => e = .returned (.int .u64 (d ||| allW l : Nat)) ∧ w = w') := by
  have H := Lib.hid h; clear h
  have HOR := Lib.hid (bits_or d (allW l) hd (allW_lt _)); clear hd
  go_enter Tryz.func203, Tryz.ntmps203
  go_wp2_with (go_at_call 244; refine (bits_all _ l _ S H.out).mono ?_; rintro e w' ⟨rfl, rfl⟩)
  go_ret
  exact ⟨by rw [← HOR.out]; rfl, rfl⟩

theorem and_one (d : Nat) (i : Int) : ((d &&& oneW i : Nat) : Int) = 0 ↔ (decide (0 ≤ i ∧ i < 64) && d.testBit i.toNat) = false := by
  have h1 : d &&& oneW i = 0 ↔ ∀ k, (d &&& oneW i).testBit k = false := ⟨fun h k => by rw [h]; simp, fun h => Nat.eq_of_testBit_eq (fun k => by rw [h k]; simp)⟩
  rw [show (((d &&& oneW i : Nat) : Int) = 0) = (d &&& oneW i = 0) by simp, h1]
  constructor
  · intro h
    by_cases hi : 0 ≤ i ∧ i < 64
    · have := h i.toNat
      rw [Nat.testBit_and, bit_one] at this
      have e : decide (i = (i.toNat : Int) ∧ i.toNat < 64) = true := by simp; omega
      rw [e] at this
      simpa [hi] using this
    · simp [hi]
  · intro h k
    rw [Nat.testBit_and, bit_one]
    by_cases hk : i = k ∧ k < 64
    · obtain ⟨rfl, hk⟩ := hk
      simp at h ⊢
      rw [h (by omega)]
      simp
    · simp [hk]

/-- Whether a number is in a word. -/
def hasW (d : Nat) (i : Int) : Bool := decide (0 ≤ i ∧ i < 64) && d.testBit i.toNat

set_option maxHeartbeats 400000 in
theorem bits_has (d : Nat) (hd : d < 2 ^ 64) (i : Int) (w : World) :
    Calls Tryz.prog 201 #[.int .u64 (d : Nat), .int .i64 i] w (fun e w' => e = .returned (.bool (hasW d i)) ∧ w = w') := by
  have HOR := Lib.hid (bits_and d (oneW i) hd (oneW_lt _)); clear hd
  have HI := Lib.hid (and_one d i)
  go_enter Tryz.func201, Tryz.ntmps201
  go_wp2_with (go_at_call 243; refine (bits_one i _).mono ?_; rintro e w' ⟨rfl, rfl⟩)
  go_ret
  refine ⟨?_, rfl⟩
  have h1 := HOR.out
  have h2 := HI.out
  rw [← h1] at h2
  refine congrArg (fun b => Ending.returned (.bool b)) (show (bits BinOp.and IntKind.u64 ↑d ↑(oneW i) != 0) = hasW d i from ?_)
  unfold hasW
  cases hb : (decide (0 ≤ i ∧ i < 64) && d.testBit i.toNat)
  · rw [hb] at h2; simpa using h2.2 rfl
  · rw [hb] at h2; simpa using h2
end Go.Proofs.YtkiikblpgppmkaaGreatDoor
