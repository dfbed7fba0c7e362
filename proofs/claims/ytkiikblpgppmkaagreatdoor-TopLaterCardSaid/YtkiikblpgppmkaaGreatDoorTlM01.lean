/-
  Plain words for heaps, used by every walk: which blocks a call may write, what a slice reads as, what a slice of the call's own holds; the built-in append in one law. No program in sight; Where an index is looked for first: the program's Home and the document's; Values found by sums: a table of slots, looked through from a home on. No program in sight; Values found by sums: a table is made anew; a put. No program in sight.
-/
import Derived.WalkKit
import Derived.WalkSpells
import Derived.WalkLawsBesides
import Derived.Lib.Hide
import Derived.Deep.QuietTactic
import Derived.BigQuiet
import Derived.Deep.DeepCutAuto
import Derived.Deep.CutBlock
import Derived.Deep.LoopGhost
import Derived.Deep.RegionWith
import Derived.Test.YtkiikblpgppmkaaGreatDoorProg
namespace Go.Proofs.YtkiikblpgppmkaaGreatDoor
open Go Go.RowKit
set_option linter.unusedVariables false
set_option linter.unusedSimpArgs false

/-- From w to w' no old block outside S has turned. -/
structure Keep (w w' : World) (S : Nat → Prop) : Prop where
  os : w'.os = w.os
  tape : w'.tape = w.tape
  output : w'.output = w.output
  size : w.heap.size ≤ w'.heap.size
  block : ∀ k, k < w.heap.size → ¬ S k → w'.heap[k]? = w.heap[k]?

def Nope : Nat → Prop := fun _ => False
/-- The blocks that are there in w', and were not in w. -/
def New (w w' : World) : Nat → Prop := fun i => w.heap.size ≤ i ∧ i < w'.heap.size

theorem Keep.refl (w : World) (S : Nat → Prop) : Keep w w S := ⟨rfl, rfl, rfl, Nat.le_refl _, fun _ _ _ => rfl⟩
theorem Keep.trans {a b c : World} {S T : Nat → Prop} (h : Keep a b S) (k : Keep b c T) (hT : ∀ i, T i → S i ∨ a.heap.size ≤ i) : Keep a c S :=
  ⟨k.os.trans h.os, k.tape.trans h.tape, k.output.trans h.output, Nat.le_trans h.size k.size, fun i hi hS =>
    (k.block i (Nat.lt_of_lt_of_le hi h.size) (fun ht => (hT i ht).elim hS (fun h => by omega))).trans (h.block i hi hS)⟩
theorem Keep.mono {a b : World} {S T : Nat → Prop} (h : Keep a b S) (hT : ∀ i, S i → T i ∨ a.heap.size ≤ i) : Keep a b T :=
  ⟨h.os, h.tape, h.output, h.size, fun i hi hn => h.block i hi (fun hs => (hT i hs).elim hn (fun h => by omega))⟩
theorem Keep.drew {a w : World} {S : Nat → Prop} (h : Keep a w S) : Keep a w.drew S := ⟨h.os, h.tape, h.output, h.size, h.block⟩
theorem Keep.drewN {a w : World} {S : Nat → Prop} (h : Keep a w S) (n : Nat) : Keep a (w.drewN n) S := ⟨h.os, h.tape, h.output, h.size, h.block⟩
theorem Keep.alloc {a w : World} {S : Nat → Prop} (h : Keep a w S) (o : Obj) : Keep a (w.alloc o) S :=
  ⟨h.os, h.tape, h.output, by have := h.size; simp; omega, fun k hk hS => (Below.heap_alloc w o k (Nat.lt_of_lt_of_le hk h.size)).trans (h.block k hk hS)⟩
theorem Keep.setCell {a w : World} {S : Nat → Prop} (h : Keep a w S) {p : Addr} (hp : S p.block ∨ a.heap.size ≤ p.block) (u : Value) : Keep a (w.setCell p u) S :=
  ⟨h.os, h.tape, h.output, by have := h.size; simpa [World.setCell] using this, fun k hk hS => (Below.heap_setCell w p u k (by rintro rfl; exact hp.elim hS (fun h => by omega))).trans (h.block k hk hS)⟩
theorem Keep.setRow {a w : World} {S : Nat → Prop} (h : Keep a w S) {g : Nat} (hp : S g ∨ a.heap.size ≤ g) (cs : Array Value) : Keep a (w.setRow g cs) S :=
  ⟨h.os, h.tape, h.output, by have := h.size; simpa using this, fun k hk hS => (setRow_other w g k cs (by rintro rfl; exact hp.elim hS (fun h => by omega))).trans (h.block k hk hS)⟩
theorem Keep.grown {a w w' : World} {S : Nat → Prop} (h : Keep a w S) {row : Option Nat} (hg : w.grownBy w' row) (hr : ∀ k, row = some k → S k ∨ a.heap.size ≤ k) : Keep a w' S :=
  ⟨hg.os.trans h.os, hg.tape.trans h.tape, hg.output.trans h.output, Nat.le_trans h.size hg.size, fun k hk hS =>
    (hg.block k (Nat.lt_of_lt_of_le hk h.size) (fun e => (hr k e.symm).elim hS (fun h => by omega))).trans (h.block k hk hS)⟩
theorem Keep.belowAt {a b : World} {S : Nat → Prop} {B : Nat} (h : Keep a b S) (hS : ∀ i, S i → B ≤ i) (hB : B ≤ a.heap.size) : Below B a b :=
  ⟨h.os, h.tape, h.output, h.size, fun k hk => h.block k (by omega) (fun f => by have := hS k f; omega)⟩
theorem Keep.cell {w w' : World} {S : Nat → Prop} (h : Keep w w' S) {p : Addr} {v : Value} (hc : w.cell? p = some v) (hS : ¬ S p.block) : w'.cell? p = some v :=
  (World.cell?_of_block (h.block p.block (World.block_lt_of_cell? w p hc) hS)).trans hc

/-- Block b is a row of cells that may be written. -/
def Blk (w : World) (b : Nat) (cs : Array Value) (t : TypeId) : Prop := w.heap[b]? = some (.cells cs t (0, 0))
theorem Blk.lt {w : World} {b : Nat} {cs : Array Value} {t : TypeId} (h : Blk w b cs t) : b < w.heap.size := (Array.getElem?_eq_some_iff.1 h).1
theorem Blk.cell {w : World} {b : Nat} {cs : Array Value} {t : TypeId} (h : Blk w b cs t) (j : Nat) : w.cell? ⟨b, j, none⟩ = cs[j]? := cell_of_row w b j cs t _ h
theorem Blk.frozen {w : World} {b : Nat} {cs : Array Value} {t : TypeId} (h : Blk w b cs t) (j : Nat) : w.frozen? ⟨b, j, none⟩ = false := frozen_of_row w b j cs t h
theorem Blk.setCell {w : World} {b : Nat} {cs : Array Value} {t : TypeId} (h : Blk w b cs t) (j : Nat) (u : Value) : Blk (w.setCell ⟨b, j, none⟩ u) b (cs.setIfInBounds j u) t := heap_setCell_same w b j cs t u h
theorem Blk.other {w : World} {b : Nat} {cs : Array Value} {t : TypeId} (h : Blk w b cs t) {p : Addr} (hp : b ≠ p.block) (u : Value) : Blk (w.setCell p u) b cs t := (Below.heap_setCell w p u b hp).trans h
theorem Blk.keep {w w' : World} {S : Nat → Prop} {b : Nat} {cs : Array Value} {t : TypeId} (h : Blk w b cs t) (hk : Keep w w' S) (hS : ¬ S b) : Blk w' b cs t := (hk.block b h.lt hS).trans h
theorem Blk.alloc {w : World} {b : Nat} {cs : Array Value} {t : TypeId} (h : Blk w b cs t) (o : Obj) : Blk (w.alloc o) b cs t := h.keep (Keep.alloc (Keep.refl w Nope) o) (fun f => f)
theorem Blk.drew {w : World} {b : Nat} {cs : Array Value} {t : TypeId} (h : Blk w b cs t) : Blk w.drew b cs t := h
theorem Blk.new (w : World) (cs : Array Value) (t : TypeId) : Blk (w.alloc (.cells cs t)) w.heap.size cs t := heap_alloc_new w _
theorem Blk.ne {w : World} {b c : Nat} {cs ds : Array Value} {t u : TypeId} (h : Blk w b cs t) (k : Blk w c ds u) (htu : t ≠ u) : b ≠ c := by
  rintro rfl
  have := Option.some.inj (h.symm.trans k)
  injection this with _ h2 _
  exact htu h2

/-- v is a slice of n elements that reads as the flat values xs, in blocks of S. -/
def Rd (S : Nat → Prop) (w : World) (v : Value) (n : Nat) (xs : List Value) : Prop :=
  ∃ a c, v = .slice a n c ∧ n ≤ c ∧ c ≤ maxLen ∧ (a = none → n = 0 ∧ c = 0) ∧
    ∀ j u, xs[j]? = some u → ∃ b o, a = some ⟨b, o, none⟩ ∧ S b ∧ w.cell? ⟨b, o + j, none⟩ = some u
theorem Rd.keep {S T : Nat → Prop} {w w' : World} {v : Value} {n : Nat} {xs : List Value} (h : Rd S w v n xs) (hk : Keep w w' T) (hd : ∀ i, S i → T i → False) : Rd S w' v n xs := by
  obtain ⟨a, c, rfl, h1, h2, h3, h4⟩ := h
  refine ⟨a, c, rfl, h1, h2, h3, fun j u hu => ?_⟩
  obtain ⟨b, o, rfl, hb, hc⟩ := h4 j u hu
  exact ⟨b, o, rfl, hb, hk.cell hc (hd b hb)⟩
theorem Rd.mono {S T : Nat → Prop} {w : World} {v : Value} {n : Nat} {xs : List Value} (h : Rd S w v n xs) (hT : ∀ i, S i → T i) : Rd T w v n xs := by
  obtain ⟨a, c, rfl, h1, h2, h3, h4⟩ := h
  refine ⟨a, c, rfl, h1, h2, h3, fun j u hu => ?_⟩
  obtain ⟨b, o, rfl, hb, hc⟩ := h4 j u hu
  exact ⟨b, o, rfl, hT b hb, hc⟩

/-- v is a slice of the call's own (its row, if any, lies in a block of S), of n elements of type e, each of 'size' cells; it holds xs. -/
def Own (S : Nat → Prop) (w : World) (e : TypeId) (size : Nat) (v : Value) (n : Nat) (xs : List Value) : Prop :=
  w.ownsRow 0 e size v n xs ∧ ∀ g, v.ownBlock = some g → S g
theorem Own.nil (S : Nat → Prop) (w : World) (e : TypeId) (size : Nat) : Own S w e size (.slice none 0 0) 0 [] := ⟨World.ownsRow_nil w 0 e size, fun g h => by simp [Value.ownBlock] at h⟩
theorem Own.keep {S T : Nat → Prop} {w w' : World} {e : TypeId} {size : Nat} {v : Value} {n : Nat} {xs : List Value} (h : Own S w e size v n xs) (hk : Keep w w' T) (hd : ∀ i, S i → T i → False) : Own S w' e size v n xs := by
  refine ⟨⟨h.1.1, ?_⟩, h.2⟩
  rcases h.1.2 with hn | ⟨g, cap, cur, rfl, hb, hg, r⟩
  · exact .inl hn
  · exact .inr ⟨g, cap, cur, rfl, hb, (hk.block g (Array.getElem?_eq_some_iff.1 hg).1 (fun ht => hd g (h.2 g rfl) ht)).trans hg, r⟩
theorem Own.mono {S T : Nat → Prop} {w : World} {e : TypeId} {size : Nat} {v : Value} {n : Nat} {xs : List Value} (h : Own S w e size v n xs) (hT : ∀ i, S i → T i) : Own T w e size v n xs := ⟨h.1, fun g hg => hT g (h.2 g hg)⟩
theorem Own.len {S : Nat → Prop} {w : World} {e : TypeId} {size : Nat} {v : Value} {n : Nat} {xs : List Value} (h : Own S w e size v n xs) : xs.length = n * size := h.1.1
/-- What it looks like: nil, or the head of a row. -/
theorem Own.view {S : Nat → Prop} {w : World} {e : TypeId} {size : Nat} {v : Value} {n : Nat} {xs : List Value} (h : Own S w e size v n xs) :
    (v = .slice none 0 0 ∧ n = 0 ∧ xs = []) ∨ ∃ g cap cur, v = .slice (some ⟨g, 0, none⟩) n cap ∧ S g ∧ Blk w g cur e ∧ n ≤ cap ∧ cap ≤ maxLen ∧ cur.size = cap * size ∧ cur.toList.take (n * size) = xs := by
  rcases h.1.2 with ⟨hn, h0⟩ | ⟨g, cap, cur, rfl, hb, hg, r1, r2, r3, r4⟩
  · exact .inl ⟨hn, h0, List.eq_nil_of_length_eq_zero (by rw [h.1.1, h0, Nat.zero_mul])⟩
  · exact .inr ⟨g, cap, cur, rfl, h.2 g rfl, hg, r1, r2, r3, r4⟩
theorem Own.form {S : Nat → Prop} {w : World} {e : TypeId} {size : Nat} {v : Value} {n : Nat} {xs : List Value} (h : Own S w e size v n xs) : ∃ a c, v = .slice a n c := by
  rcases h.view with ⟨rfl, rfl, rfl⟩ | ⟨g, cap, cur, rfl, _⟩
  · exact ⟨_, _, rfl⟩
  · exact ⟨_, _, rfl⟩
theorem Own.tight {S : Nat → Prop} {w : World} {e : TypeId} {size : Nat} {v : Value} {n : Nat} {xs : List Value} (h : Own S w e size v n xs) : Own (fun i => S i ∧ i < w.heap.size) w e size v n xs :=
  ⟨h.1, fun g hg => ⟨h.2 g hg, (h.1.lt g hg).2⟩⟩
theorem Own.new {w w' : World} {e : TypeId} {size : Nat} {v : Value} {n : Nat} {xs : List Value} (h : Own (fun i => w.heap.size ≤ i) w' e size v n xs) : Own (New w w') w' e size v n xs := h.tight
theorem Own.rd {S : Nat → Prop} {w : World} {e : TypeId} {size : Nat} {v : Value} {n : Nat} {xs : List Value} (h : Own S w e size v n xs) : Rd S w v n xs := by
  rcases h.view with ⟨rfl, rfl, rfl⟩ | ⟨g, cap, cur, rfl, hS, hb, r1, r2, r3, r4⟩
  · exact ⟨none, 0, rfl, Nat.le_refl _, Nat.zero_le _, fun _ => ⟨rfl, rfl⟩, fun j u hu => by simp at hu⟩
  · refine ⟨_, cap, rfl, r1, r2, fun hx => by simp at hx, fun j u hu => ⟨g, 0, rfl, hS, ?_⟩⟩
    rw [Nat.zero_add, hb.cell j]
    rw [← r4, List.getElem?_take] at hu
    split at hu
    · simpa using hu
    · cases hu

theorem Rd.alloc {S : Nat → Prop} {w : World} {v : Value} {n : Nat} {xs : List Value} (h : Rd S w v n xs) (o : Obj) : Rd S (w.alloc o) v n xs :=
  h.keep (Keep.alloc (Keep.refl w Nope) o) (fun _ _ f => f)
theorem Rd.drew {S : Nat → Prop} {w : World} {v : Value} {n : Nat} {xs : List Value} (h : Rd S w v n xs) : Rd S w.drew v n xs := h
theorem Own.alloc {S : Nat → Prop} {w : World} {e : TypeId} {size : Nat} {v : Value} {n : Nat} {xs : List Value} (h : Own S w e size v n xs) (o : Obj) : Own S (w.alloc o) e size v n xs :=
  h.keep (Keep.alloc (Keep.refl w Nope) o) (fun _ _ f => f)
/-- A slice literal, laid as a new block. -/
theorem Own.lit {S : Nat → Prop} (w : World) (e : TypeId) (size n : Nat) (cs : Array Value) (hn : n ≤ maxLen) (hc : cs.size = n * size) (hS : S w.heap.size) :
    Own S (w.alloc (.cells cs e)) e size (.slice (some ⟨w.heap.size, 0, none⟩) n n) n cs.toList :=
  ⟨⟨by simpa using hc, .inr ⟨w.heap.size, n, cs, rfl, Nat.zero_le _, heap_alloc_new w _, Nat.le_refl _, hn, hc, by rw [← hc, ← Array.length_toList]; exact List.take_length⟩⟩, fun g hg => by simp [Value.ownBlock] at hg; exact hg ▸ hS⟩

/-- A row with at least one element: its block, its cells, what a store does to it. -/
theorem Own.head {S : Nat → Prop} {w : World} {e : TypeId} {size : Nat} {a : Option Addr} {n c : Nat} {xs : List Value} (h : Own S w e size (.slice a n c) n xs) (hn : 0 < n) :
    ∃ g, a = some ⟨g, 0, none⟩ ∧ S g ∧ g < w.heap.size ∧ (∀ j, w.frozen? ⟨g, j, none⟩ = false) ∧ (∀ j, j < n * size → w.cell? ⟨g, j, none⟩ = xs[j]?) ∧
      ∀ j u, Own S (w.setCell ⟨g, j, none⟩ u) e size (.slice a n c) n (xs.set j u) := by
  rcases h.view with ⟨_, h0, _⟩ | ⟨g, cap, cur, hv, hS, hb, _⟩
  · omega
  · injection hv with h1 _ h3
    subst h1; subst h3
    exact ⟨g, rfl, hS, hb.lt, fun j => h.1.frozenAt j, fun j hj => h.1.cellAt j hj, fun j u => ⟨(h.1.stored j u).1, h.2⟩⟩
theorem Own.cap {S : Nat → Prop} {w : World} {e : TypeId} {size : Nat} {a : Option Addr} {n c : Nat} {xs : List Value} (h : Own S w e size (.slice a n c) n xs) : n ≤ c ∧ c ≤ maxLen := by
  obtain ⟨a', c', he, h1, h2, _⟩ := h.rd
  injection he with _ _ h3
  subst h3
  exact ⟨h1, h2⟩
/-- A store elsewhere. -/
theorem Own.other {S : Nat → Prop} {w : World} {e : TypeId} {size : Nat} {v : Value} {n : Nat} {xs : List Value} (h : Own S w e size v n xs) {p : Addr} (hp : v.ownBlock ≠ some p.block) (u : Value) : Own S (w.setCell p u) e size v n xs := by
  refine ⟨⟨h.1.1, ?_⟩, h.2⟩
  rcases h.1.2 with hn | ⟨g, cap, cur, rfl, hb, hg, r⟩
  · exact .inl hn
  · exact .inr ⟨g, cap, cur, rfl, hb, (Below.heap_setCell w p u g (fun e => hp (by simp [Value.ownBlock, e]))).trans hg, r⟩

/-- The block of a slice's own row. -/
def rowS (v : Value) : Nat → Prop := fun i => v.ownBlock = some i
theorem Own.row {S : Nat → Prop} {w : World} {e : TypeId} {size : Nat} {v : Value} {n : Nat} {xs : List Value} (h : Own S w e size v n xs) : Own (rowS v) w e size v n xs := ⟨h.1, fun _ hg => hg⟩
theorem Own.rowIn {S : Nat → Prop} {w : World} {e : TypeId} {size : Nat} {v : Value} {n : Nat} {xs : List Value} (h : Own S w e size v n xs) : ∀ i, rowS v i → S i := h.2
theorem Own.rowNe {S : Nat → Prop} {w : World} {e t : TypeId} {size : Nat} {v : Value} {n : Nat} {xs : List Value} {b : Nat} {cs : Array Value} (h : Own S w e size v n xs) (hb : Blk w b cs t) (hne : t ≠ e) : ¬ rowS v b := by
  intro hr
  rcases h.view with ⟨rfl, _⟩ | ⟨g, cap, cur, rfl, hS, hb', _⟩
  · simp [rowS, Value.ownBlock] at hr
  · simp [rowS, Value.ownBlock] at hr
    exact hb.ne hb' hne hr.symm

/-- The cell of an element of a slice that is only read. -/
theorem Rd.at {S : Nat → Prop} {w : World} {a : Option Addr} {n m c : Nat} {xs : List Value} (h : Rd S w (.slice a n c) m xs) (hx : 0 < xs.length) :
    ∃ b o, a = some ⟨b, o, none⟩ ∧ S b ∧ ∀ j, j < xs.length → w.cell? ⟨b, o + j, none⟩ = xs[j]? := by
  obtain ⟨a', c', he, _, _, _, h4⟩ := h
  injection he with e1 e2 e3
  subst e1
  obtain ⟨b, o, rfl, hb, _⟩ := h4 0 _ (List.getElem?_eq_getElem hx)
  refine ⟨b, o, rfl, hb, fun j hj => ?_⟩
  obtain ⟨b', o', he', _, hc⟩ := h4 j _ (List.getElem?_eq_getElem hj)
  injection he' with he'
  injection he' with e1 e2
  subst e1; subst e2
  rw [hc, List.getElem?_eq_getElem hj]
/-- It answers true, and nothing old has turned. -/
def RetTrue (w : World) (en : Ending) (w' : World) : Prop := en = .returned (.bool true) ∧ Below w.heap.size w w'
/-- The facts on a slice type of the program: t is []e; an element takes 'size' cells, 'bytes' bytes. -/
structure SlTy (P : Program) (t e : TypeId) (size bytes : Nat) : Prop where
  ht : P.underlying t = some (.slice e)
  hi : ∃ i z, P.info? e = some i ∧ i.zero = some z ∧ i.size = size ∧ i.bytes = bytes ∧ z.cells.size = size
  pos : 0 < size
theorem SlTy.mk' {P : Program} {t e : TypeId} {size bytes : Nat} (z : Value) (ht : P.underlying t = some (.slice e)) (h : (P.info? e).map (fun i => (i.zero, i.size, i.bytes)) = some (some z, size, bytes)) (hz : z.cells.size = size) (hp : 0 < size) : SlTy P t e size bytes := by
  obtain ⟨i, h1, h2, h3, h4⟩ := info_parts h
  exact ⟨ht, ⟨i, z, h1, h2, h3, h4, hz⟩, hp⟩

/-- What the built-in append leaves: the slice with the new values behind; written is its own row, or a new one. -/
theorem run_app {P : Program} {t e : TypeId} {size bytes : Nat} (hT : SlTy P t e size bytes) (ty : TypeId) {S S2 : Nat → Prop} {w : World} {v x : Value} {n m : Nat} {xs news : List Value}
    (hown : Own S w e size v n xs) (hx : Rd S2 w x m news) (hl : news.length = m * size) (h1 : ∀ u ∈ news, u.oneCell' = true) (hbytes : (n + m) * bytes ≤ 140737488355328) (hlen : n + m ≤ maxLen) :
    ∃ v' w', (Builtin.append_ #[t, t] ty #[v, x]).run P w = .ok v' w' ∧ Own (fun i => S i ∨ w.heap.size ≤ i) w' e size v' (n + m) (xs ++ news) ∧ Keep w w' S ∧
      (v' = .slice none 0 0 ↔ v = .slice none 0 0 ∧ m = 0) := by
  obtain ⟨ht, ⟨i, z, hi, hz, hsize, hby, hzs⟩, hsz⟩ := hT
  obtain ⟨a, c, rfl, hmc, hcm, hnil, hcells⟩ := hx
  subst hsize
  subst hby
  have hsmall : n + m ≤ 9223372036854775807 := by simp only [maxLen] at hlen; omega
  have hxl := hown.len
  have hlen' : (xs ++ news).length = (n + m) * i.size := by rw [List.length_append, hxl, hl, Nat.add_mul]
  by_cases hm : m = 0
  · subst hm
    have hn : news = [] := List.eq_nil_of_length_eq_zero (by simpa using hl)
    subst hn
    refine ⟨v, w, ?_, by simpa using hown.mono (fun i h => .inl h), Keep.refl w S, by simp⟩
    rcases hown.view with ⟨rfl, rfl, rfl⟩ | ⟨g, cap, cur, rfl, hS, hb, r1, r2, r3, r4⟩
    · cases a <;> simp [Builtin.append_, run_underlying ht, sizeOf, typeInfo, hi, Builtin.lenOf, Builtin.firstCells, loadCells, loadCellsFrom]
    · cases a <;> simp [Builtin.append_, run_underlying ht, sizeOf, typeInfo, hi, Builtin.lenOf, Builtin.firstCells, loadCells, loadCellsFrom, r1, storeCells]
  · have hpos : 0 < news.length := by rw [hl]; exact Nat.mul_pos (by omega) hsz
    obtain ⟨b, o, rfl, _, _⟩ := hcells 0 _ (List.getElem?_eq_getElem hpos)
    have hnews : ∀ j u, news[j]? = some u → w.cell? ((⟨b, o, none⟩ : Addr).add j) = some u := by
      intro j u hu
      obtain ⟨b', o', he, _, hc⟩ := hcells j u hu
      injection he with he
      injection he with e1 e2
      subst e1; subst e2
      unfold Addr.add
      split
      · rename_i hj; subst hj; simpa using hc
      · exact hc
    have grown : ∀ (old : Nat), old < n + m →
        Own (fun i => S i ∨ w.heap.size ≤ i) (w.drew.alloc (.cells (xs.toArray ++ news.toArray ++ Builtin.zeroCells z.cells (grownCap w (n + m) old e - (n + m))) e)) e i.size
          (.slice (some ⟨w.heap.size, 0, none⟩) (n + m) (grownCap w (n + m) old e)) (n + m) (xs ++ news) := by
      intro old ho
      have hge := grownCap_ge w (n + m) old e
      have hcm' : grownCap w (n + m) old e ≤ maxLen := grownCap_le_maxLen w (n + m) old e hlen
      refine ⟨⟨hlen', .inr ⟨w.heap.size, _, _, rfl, Nat.zero_le _, heap_alloc_new w.drew _, hge, hcm', ?_, ?_⟩⟩, fun g hg => ?_⟩
      · simp only [Array.size_append, List.size_toArray, size_zeroCells, hzs, hxl, hl, ← Nat.add_mul]
        congr 1
        omega
      · simp only [Array.toList_append, List.append_assoc]
        rw [← List.append_assoc, ← hlen']
        exact List.take_left
      · simp [Value.ownBlock] at hg
        exact .inr (by omega)
    rcases hown.view with ⟨rfl, rfl, rfl⟩ | ⟨g, cap, cur, rfl, hS, hb, r1, r2, r3, r4⟩
    · have hr := run_append_nil (P := P) w t ty e i z ht hi hz ⟨b, o, none⟩ m c news hl hnews (by omega) (by omega) (by have hb := hbytes; simp only [Nat.zero_add] at hb; omega)
      have hgr := grown 0 (by omega)
      simp only [Nat.zero_add, List.nil_append] at hgr ⊢
      refine ⟨_, _, hr, by simpa using hgr, (Keep.refl w S).drew.alloc _, by simp [hm]⟩
    · by_cases hroom : n + m ≤ cap
      · have hfit : n * i.size + news.length ≤ cur.size := by rw [hl, r3, ← Nat.add_mul]; exact Nat.mul_le_mul_right _ hroom
        have hr := run_append_room (P := P) w t ty e i ht hi g n cap cur hb ⟨b, o, none⟩ m c news hl hnews h1 hroom hfit
        refine ⟨_, _, hr, ⟨⟨hlen', .inr ⟨g, cap, _, rfl, Nat.zero_le _, setRow_heap w g cur _ e _ hb, hroom, r2, ?_, ?_⟩⟩, fun g' hg' => ?_⟩, (Keep.refl w S).setRow (.inl hS) _, by simp⟩
        · simp only [List.size_toArray, List.length_append, List.length_take, List.length_drop, Array.length_toList]
          omega
        · rw [r4, ← hlen']
          exact List.take_left
        · simp [Value.ownBlock] at hg'
          subst hg'
          exact .inl hS
      · have holds : ∀ j u, xs[j]? = some u → w.cell? ((⟨g, 0, none⟩ : Addr).add j) = some u := hown.1.cells (g := g) rfl
        have hr := run_append_grow (P := P) w t ty e i z ht hi hz ⟨g, 0, none⟩ n cap xs hxl holds ⟨b, o, none⟩ m c news hl hnews (by omega) (by omega) (growslice_fits (by omega) hbytes)
        exact ⟨_, _, hr, grown cap (by omega), (Keep.refl w S).drew.alloc _, by simp⟩

/-- What the walk is left with behind an append: s and news came in, y went out. -/
structure App (S : Nat → Prop) (w w' : World) (e : TypeId) (size : Nat) (v y : Value) (n m k : Nat) (xs news : List Value) : Prop where
  own : Own (fun i => S i ∨ New w w' i) w' e size y k (xs ++ news)
  num : k = n + m
  keep : Keep w w' S
  nil : y = .slice none 0 0 ↔ v = .slice none 0 0 ∧ m = 0

/-- The law for the walk: 'append(s, x...)'. -/
theorem wpList_app {P : Program} {t e : TypeId} {size bytes : Nat} (hT : SlTy P t e size bytes) {ops : Array Oper} {rest : List Oper} {o : Oper} {a : Act} {w : World} {Q : Exit → Act → World → Prop} (hgd : o.guard = none) (s x : Operand)
    (ho : o.op = .call { callee := .builtin .append, args := #[s, x], argTypes := #[t, t] })
    {S S2 : Nat → Prop} {v y : Value} {n m : Nat} {xs news : List Value} (hs : a.eval s = v) (hy : a.eval x = y)
    (hown : Own S w e size v n xs) (hx : Rd S2 w y m news) (hl : news.length = m * size) (h1 : ∀ u ∈ news, u.oneCell' = true) (hbytes : (n + m) * bytes ≤ 140737488355328) (hlen : n + m ≤ maxLen)
    (h : ∀ a' k c' w', App S w w' e size v (.slice a' k c') n m k xs news → wpList P ops Q rest (a.put o.dst (.slice a' k c')) w') : wpList P ops Q (o :: rest) a w := by
  refine wpList_plain hgd fun K hK => ?_
  obtain ⟨v', w', hr, h2, h3, h4⟩ := run_app hT o.type hown hx hl h1 hbytes hlen
  obtain ⟨a', c', rfl⟩ := h2.form
  unfold Oper.wp execOp
  simp only [ho, resolve, invoke, builtin, Sem.run_bind, Sem.run_pure, Result.andThen_ok, List.map_toArray, List.map_cons, List.map_nil, hs, hy, hr]
  exact hK _ _ (h a' _ c' w' ⟨h2.tight.mono (fun i hi => hi.1.elim .inl (fun h => .inr ⟨h, hi.2⟩)), rfl, h3, h4⟩)

/-- A mask of p ones. -/
theorem and_mask (x : Int) (p : Nat) (m : Int) (hp : p ≤ 62) (hm : m = ((2 ^ p - 1 : Nat) : Int)) : bits .and .i64 x m = x % ((2 ^ p : Nat) : Int) := by
  subst hm
  have hpow : (2 : Nat) ^ p ≤ 2 ^ 62 := Nat.pow_le_pow_right (by decide) hp
  have hpos : 0 < (2 : Nat) ^ p := Nat.pow_pos (by decide)
  show IntKind.i64.wrap (((BitVec.ofInt 64 x &&& BitVec.ofInt 64 ((2 ^ p - 1 : Nat) : Int)).toNat : Nat) : Int) = _
  have h1 : (BitVec.ofInt 64 ((2 ^ p - 1 : Nat) : Int)).toNat = 2 ^ p - 1 := by
    rw [BitVec.toNat_ofInt]
    rw [Int.emod_eq_of_lt (by omega) (by omega)]
    simp
  have h2 : (BitVec.ofInt 64 x &&& BitVec.ofInt 64 ((2 ^ p - 1 : Nat) : Int)).toNat = (x % 2 ^ 64).toNat % 2 ^ p := by
    rw [BitVec.toNat_and, h1, Nat.and_two_pow_sub_one_eq_mod, BitVec.toNat_ofInt]
    rfl
  rw [h2]
  have h3 : (((x % 2 ^ 64).toNat % 2 ^ p : Nat) : Int) = x % ((2 ^ p : Nat) : Int) := by
    rw [Int.natCast_emod, Int.toNat_of_nonneg (Int.emod_nonneg _ (by decide))]
    have h64 : (2 : Nat) ^ 64 = 2 ^ p * 2 ^ (64 - p) := by rw [← Nat.pow_add]; congr 1; omega
    exact Int.emod_emod_of_dvd x ⟨((2 ^ (64 - p) : Nat) : Int), by exact_mod_cast h64⟩
  rw [h3]
  have h4 := Int.emod_nonneg x (show ((2 ^ p : Nat) : Int) ≠ 0 by omega)
  have h5 := Int.emod_lt_of_pos x (show (0 : Int) < ((2 ^ p : Nat) : Int) by omega)
  exact IntWalk.i64_in _ (by omega)
end Go.Proofs.YtkiikblpgppmkaaGreatDoor

namespace Go.Proofs.YtkiikblpgppmkaaGreatDoor
open Go Go.RowKit
set_option linter.unusedVariables false
set_option linter.unusedSimpArgs false

/-- Whether an index and a size may be. -/
def mayHome (i size : Int) : Bool := decide (0 ≤ i) && (decide (i < 65536) && (decide (8 ≤ size) && (decide (size ≤ 1048576) && (bits .and .i64 size (size - 1) == 0))))
/-- The home of what may be. -/
def homeOf (i size : Int) : Int := (i * 2654435761 % 4294967296) / (4294967296 / size)
def home (i size : Int) : Int := if mayHome i size = true then homeOf i size else -1

theorem home_div (size : Int) (h2 : 8 ≤ size) (h3 : size ≤ 1048576) : 1 ≤ 4294967296 / size := (Int.le_ediv_iff_mul_le (by omega)).2 (by omega)
theorem home_bd (i size : Int) (h2 : 8 ≤ size) (h3 : size ≤ 1048576) : 0 ≤ homeOf i size ∧ homeOf i size ≤ 4294967296 := by
  unfold homeOf
  have a1 : 0 ≤ i * 2654435761 % 4294967296 := by omega
  have a2 : i * 2654435761 % 4294967296 < 4294967296 := by omega
  have a3 := home_div size h2 h3
  exact ⟨Int.ediv_nonneg a1 (by omega), Int.le_trans (Int.ediv_le_self _ a1) (by omega)⟩
theorem home_wrap (i size : Int) (h2 : 8 ≤ size) (h3 : size ≤ 1048576) : wrap64 (homeOf i size) = homeOf i size := by
  have a := home_bd i size h2 h3
  exact IntWalk.wrap64_in _ (by omega)

set_option maxHeartbeats 1000000 in
theorem hash_home_yes (i size : Int) (w : World) (h : mayHome i size = true) :
    Calls Tryz.prog 398 #[.int .i64 i, .int .i64 size] w fun e w' => e = .returned (.int .i64 (homeOf i size)) ∧ w = w' := by
  simp [mayHome] at h
  obtain ⟨h1, h2, h3, h4, h5⟩ := h
  have h6 : (bits .and .i64 size (size - 1) != 0) = false := by simp [h5]
  have h7 := home_div size h3 h4
  have HW := Lib.hid (home_wrap i size h3 h4)
  clear h5
  go_enter Tryz.func398, Tryz.ntmps398
  go_wp2_with fail
  all_goals try (exfalso; omega)
  go_ret
  refine ⟨?_, rfl⟩
  show Ending.returned (.int .i64 (wrap64 (homeOf i size))) = _
  rw [HW.out]
end Go.Proofs.YtkiikblpgppmkaaGreatDoor

namespace Go.Proofs.YtkiikblpgppmkaaGreatDoor
set_option linter.unusedVariables false
set_option linter.unusedSimpArgs false

/-- A slot. -/
structure SlotV where
  kind : Int
  idx : Int
  vk : Int
  va : Int
  vb : Int
deriving DecidableEq
def emptyS : SlotV := ⟨0, 0, 0, 0, 0⟩
def tombS : SlotV := ⟨2, 0, 0, 0, 0⟩
def sl (l : List SlotV) (p : Nat) : SlotV := l.getD p emptyS
def ps (n h d : Nat) : Nat := (h + d) % n
theorem ps_lt {n : Nat} (hn : 0 < n) (h d : Nat) : ps n h d < n := Nat.mod_lt _ hn
theorem ps_inj {n h d e : Nat} (hd : d < n) (he : e < n) (hh : h < n) (heq : ps n h d = ps n h e) : d = e := by
  unfold ps at heq
  have key : ∀ x, x < n → (h + x) % n = if h + x < n then h + x else h + x - n := fun x hx => by
    by_cases c : h + x < n
    · rw [if_pos c, Nat.mod_eq_of_lt c]
    · rw [if_neg c, Nat.mod_eq_sub_mod (by omega), Nat.mod_eq_of_lt (by omega)]
  rw [key d hd, key e he] at heq
  split at heq <;> split at heq <;> omega
/-- Each place is come to. -/
theorem ps_onto {n h p : Nat} (hp : p < n) (hh : h < n) : ∃ d, d < n ∧ ps n h d = p := by
  by_cases c : h ≤ p
  · exact ⟨p - h, by omega, by unfold ps; rw [show h + (p - h) = p by omega]; exact Nat.mod_eq_of_lt hp⟩
  · exact ⟨p + n - h, by omega, by unfold ps; rw [show h + (p + n - h) = p + n by omega, Nat.add_mod_right]; exact Nat.mod_eq_of_lt hp⟩

theorem sl_set_same {l : List SlotV} {p : Nat} (hp : p < l.length) (x : SlotV) : sl (l.set p x) p = x := by
  unfold sl
  rw [List.getD_eq_getElem?_getD, List.getElem?_set_self hp]
  rfl
theorem sl_set_ne {l : List SlotV} {p q : Nat} (h : p ≠ q) (x : SlotV) : sl (l.set p x) q = sl l q := by
  unfold sl
  rw [List.getD_eq_getElem?_getD, List.getElem?_set_ne h, ← List.getD_eq_getElem?_getD]
theorem sl_get {l : List SlotV} {p : Nat} (hp : p < l.length) : l[p]? = some (sl l p) := by
  unfold sl
  rw [List.getD_eq_getElem?_getD, List.getElem?_eq_getElem hp]
  rfl

/-- How many slots are of a kind. -/
def cntK (k : Int) : List SlotV → Nat
  | [] => 0
  | s :: t => (if s.kind = k then 1 else 0) + cntK k t
theorem cntK_le (k : Int) : ∀ l : List SlotV, cntK k l ≤ l.length
  | [] => Nat.le_refl _
  | s :: t => by
    have := cntK_le k t
    simp only [cntK, List.length_cons]
    split <;> omega
theorem cntK_set (k : Int) (x : SlotV) : ∀ (l : List SlotV) (p : Nat), p < l.length → cntK k (l.set p x) + (if (sl l p).kind = k then 1 else 0) = cntK k l + (if x.kind = k then 1 else 0)
  | [], p, h => by simp at h
  | s :: t, 0, _ => by
    simp only [List.set_cons_zero, cntK, sl, List.getD_cons_zero]
    omega
  | s :: t, p + 1, h => by
    have ih := cntK_set k x t p (by simpa using h)
    have e : sl (s :: t) (p + 1) = sl t p := rfl
    rw [List.set_cons_succ, cntK, cntK, e]
    omega
theorem cntK_app (k : Int) : ∀ (a b : List SlotV), cntK k (a ++ b) = cntK k a + cntK k b
  | [], b => by simp [cntK]
  | s :: t, b => by simp only [List.cons_append, cntK, cntK_app k t b]; omega
theorem cntK_rep (k : Int) (x : SlotV) (n : Nat) : cntK k (List.replicate n x) = if x.kind = k then n else 0 := by
  induction n with
  | zero => simp [cntK]
  | succ n ih =>
    rw [List.replicate_succ, cntK, ih]
    split <;> omega
/-- The kinds of a table add up. -/
theorem cntK_sum : ∀ (l : List SlotV), (∀ s ∈ l, s.kind = 0 ∨ s.kind = 1 ∨ s.kind = 2) → cntK 0 l + cntK 1 l + cntK 2 l = l.length
  | [], _ => rfl
  | s :: t, h => by
    have ih := cntK_sum t (fun x hx => h x (List.mem_cons_of_mem _ hx))
    simp only [cntK, List.length_cons]
    rcases h s (List.mem_cons_self ..) with e | e | e <;> simp [e] <;> omega
theorem cntK_pos {k : Int} : ∀ {l : List SlotV}, 0 < cntK k l → ∃ p, p < l.length ∧ (sl l p).kind = k
  | [], h => by simp [cntK] at h
  | s :: t, h => by
    by_cases e : s.kind = k
    · exact ⟨0, by simp, by simpa [sl] using e⟩
    · simp only [cntK, if_neg e, Nat.zero_add] at h
      obtain ⟨p, h1, h2⟩ := cntK_pos h
      exact ⟨p + 1, by simpa using h1, by simpa [sl] using h2⟩

/-- The search: fuel, how far it has come, the first slot that was left. -/
def probe (l : List SlotV) (i : Int) (h : Nat) : Nat → Nat → Int → Int × Int
  | 0, _, free => (-1, free)
  | f + 1, d, free =>
    if (sl l (ps l.length h d)).kind = 0 then (-1, if free < 0 then (ps l.length h d : Int) else free)
    else if (sl l (ps l.length h d)).kind = 1 ∧ (sl l (ps l.length h d)).idx = i then ((ps l.length h d : Int), -1)
    else probe l i h f (d + 1) (if (sl l (ps l.length h d)).kind = 2 ∧ free < 0 then (ps l.length h d : Int) else free)

/-- Where the search does not end. -/
def goOn (l : List SlotV) (i : Int) (h d : Nat) : Prop := (sl l (ps l.length h d)).kind ≠ 0 ∧ ¬ ((sl l (ps l.length h d)).kind = 1 ∧ (sl l (ps l.length h d)).idx = i)
/-- The first slot that was left, up to d. -/
def freeOk (l : List SlotV) (h d : Nat) (free : Int) : Prop := free = -1 ∨ ∃ q, q < d ∧ free = (ps l.length h q : Int) ∧ (sl l (ps l.length h q)).kind = 2
theorem freeOk_next {l : List SlotV} {h d : Nat} {free : Int} (hf : freeOk l h d free) : freeOk l h (d + 1) (if (sl l (ps l.length h d)).kind = 2 ∧ free < 0 then (ps l.length h d : Int) else free) := by
  split
  · rename_i c
    exact .inr ⟨d, by omega, rfl, c.1⟩
  · rcases hf with e | ⟨q, h1, h2, h3⟩
    · exact .inl e
    · exact .inr ⟨q, by omega, h2, h3⟩

theorem probe_ends {l : List SlotV} {i : Int} {h : Nat} : ∀ (f d : Nat) (free : Int), d + f = l.length → (∀ e, e < d → goOn l i h e) → freeOk l h d free → (∃ D, d ≤ D ∧ D < l.length ∧ ¬ goOn l i h D) →
    (∃ D, D < l.length ∧ (∀ e, e < D → goOn l i h e) ∧ (sl l (ps l.length h D)).kind = 1 ∧ (sl l (ps l.length h D)).idx = i ∧ probe l i h f d free = ((ps l.length h D : Int), -1)) ∨
    (∃ D q, D < l.length ∧ q ≤ D ∧ (∀ e, e < D → goOn l i h e) ∧ (sl l (ps l.length h D)).kind = 0 ∧ (q = D ∨ (sl l (ps l.length h q)).kind = 2) ∧ probe l i h f d free = (-1, (ps l.length h q : Int)))
  | 0, d, free, hd, _, _, ⟨D, h1, h2, _⟩ => by omega
  | f + 1, d, free, hd, hgo, hfree, ⟨D, h1, h2, h3⟩ => by
    by_cases c0 : (sl l (ps l.length h d)).kind = 0
    · refine .inr ?_
      rcases hfree with e | ⟨q, q1, q2, q3⟩
      · refine ⟨d, d, by omega, Nat.le_refl _, hgo, c0, .inl rfl, ?_⟩
        rw [probe, if_pos c0, if_pos (by omega)]
      · refine ⟨d, q, by omega, by omega, hgo, c0, .inr q3, ?_⟩
        rw [probe, if_pos c0, if_neg (by omega), q2]
    · by_cases c1 : (sl l (ps l.length h d)).kind = 1 ∧ (sl l (ps l.length h d)).idx = i
      · refine .inl ⟨d, by omega, hgo, c1.1, c1.2, ?_⟩
        rw [probe, if_neg c0, if_pos c1]
      · have hgd : goOn l i h d := ⟨c0, c1⟩
        have hne : d ≠ D := fun e => h3 (e ▸ hgd)
        have ih := probe_ends f (d + 1) (if (sl l (ps l.length h d)).kind = 2 ∧ free < 0 then (ps l.length h d : Int) else free) (by omega) (fun e he => by
          by_cases e' : e = d
          · exact e' ▸ hgd
          · exact hgo e (by omega)) (freeOk_next hfree) ⟨D, by omega, h2, h3⟩
        rw [probe, if_neg c0, if_neg c1]
        exact ih

section
variable (hm : Nat → Int → Nat)
def findS (l : List SlotV) (i : Int) : Int × Int := probe l i (hm l.length i) l.length 0 (-1)

/-- Each full slot is found on its way from its home. -/
def Path (l : List SlotV) : Prop := ∀ p, p < l.length → (sl l p).kind = 1 → ∃ D, D < l.length ∧ ps l.length (hm l.length (sl l p).idx) D = p ∧ ∀ d, d < D → goOn l (sl l p).idx (hm l.length (sl l p).idx) d
def wfS (s : SlotV) : Prop := s = emptyS ∨ s = tombS ∨ (s.kind = 1 ∧ 0 ≤ s.idx ∧ s.idx < 65536)
structure HTab (l : List SlotV) : Prop where
  home : ∀ i : Int, 0 ≤ i → i < 65536 → hm l.length i < l.length
  wf : ∀ p, p < l.length → wfS (sl l p)
  path : Path hm l
  room : 4 * (cntK 1 l + cntK 2 l) ≤ 3 * l.length
  pos : 0 < l.length
/-- Index i has value v. -/
def Has (l : List SlotV) (i vk va vb : Int) : Prop := ∃ p, p < l.length ∧ sl l p = ⟨1, i, vk, va, vb⟩

variable {hm}
theorem HTab.kinds {l : List SlotV} (h : ∀ p, p < l.length → wfS (sl l p)) : ∀ s ∈ l, s.kind = 0 ∨ s.kind = 1 ∨ s.kind = 2 := by
  intro s hs
  obtain ⟨p, hp, rfl⟩ := List.getElem_of_mem hs
  have e : sl l p = l[p] := by unfold sl; simp [hp]
  rcases h p hp with h | h | h
  · rw [← e, h]; exact .inl rfl
  · rw [← e, h]; exact .inr (.inr rfl)
  · rw [← e]; exact .inr (.inl h.1)
theorem HTab.gap {l : List SlotV} (h : HTab hm l) : ∃ p, p < l.length ∧ (sl l p).kind = 0 := by
  refine cntK_pos ?_
  have h1 := cntK_sum l (HTab.kinds h.wf)
  have h2 := h.room
  have h3 := h.pos
  omega
/-- What the search answers. -/
theorem HTab.find {l : List SlotV} (h : HTab hm l) (i : Int) (hi : 0 ≤ i ∧ i < 65536) :
    (∃ D, D < l.length ∧ (∀ e, e < D → goOn l i (hm l.length i) e) ∧ (sl l (ps l.length (hm l.length i) D)).kind = 1 ∧ (sl l (ps l.length (hm l.length i) D)).idx = i ∧ findS hm l i = ((ps l.length (hm l.length i) D : Int), -1)) ∨
    (∃ D q, D < l.length ∧ q ≤ D ∧ (∀ e, e < D → goOn l i (hm l.length i) e) ∧ (sl l (ps l.length (hm l.length i) D)).kind = 0 ∧ (q = D ∨ (sl l (ps l.length (hm l.length i) q)).kind = 2) ∧ findS hm l i = (-1, (ps l.length (hm l.length i) q : Int))) := by
  obtain ⟨p, hp, hk⟩ := h.gap
  obtain ⟨d, hd, he⟩ := ps_onto hp (h.home i hi.1 hi.2)
  exact probe_ends l.length 0 (-1) (by omega) (fun e he => by omega) (.inl rfl) ⟨d, by omega, hd, fun hg => hg.1 (by rw [he]; exact hk)⟩
theorem HTab.uniq {l : List SlotV} (h : HTab hm l) {p q : Nat} (hp : p < l.length) (hq : q < l.length) (h1 : (sl l p).kind = 1) (h2 : (sl l q).kind = 1) (he : (sl l p).idx = (sl l q).idx) : p = q := by
  obtain ⟨D, a1, a2, a3⟩ := h.path p hp h1
  obtain ⟨E, b1, b2, b3⟩ := h.path q hq h2
  rw [he] at a2 a3
  rcases Nat.lt_trichotomy D E with c | c | c
  · exact absurd ⟨by rw [a2]; exact h1, by rw [a2]; exact he⟩ (b3 D c).2
  · subst c; exact a2.symm.trans b2
  · exact absurd ⟨by rw [b2]; exact h2, by rw [b2]⟩ (a3 E c).2
/-- Nothing found: it is not there. -/
theorem HTab.none {l : List SlotV} (h : HTab hm l) {i : Int} {D : Nat} (hD : D < l.length) (hgo : ∀ e, e < D → goOn l i (hm l.length i) e) (hk : (sl l (ps l.length (hm l.length i) D)).kind = 0) :
    ∀ p, p < l.length → (sl l p).kind = 1 → (sl l p).idx ≠ i := by
  intro p hp h1 he
  obtain ⟨E, b1, b2, b3⟩ := h.path p hp h1
  rw [he] at b2 b3
  rcases Nat.lt_trichotomy D E with c | c | c
  · exact (b3 D c).1 hk
  · subst c; rw [b2, h1] at hk; cases hk
  · exact (hgo E c).2 ⟨by rw [b2]; exact h1, by rw [b2]; exact he⟩

/-- A slot is written: what stays of the ways. -/
theorem goOn_set {l : List SlotV} {p : Nat} {x : SlotV} {i : Int} {h d : Nat} (hp : p < l.length) (hx : x.kind ≠ 0) (hi : ¬ (x.kind = 1 ∧ x.idx = i)) (hg : goOn l i h d) : goOn (l.set p x) i h d := by
  unfold goOn at *
  rw [List.length_set]
  by_cases e : p = ps l.length h d
  · rw [← e, sl_set_same hp]
    exact ⟨hx, hi⟩
  · rw [sl_set_ne e]
    exact hg
theorem HTab.setFull {l : List SlotV} (h : HTab hm l) {i : Int} (hi : 0 ≤ i ∧ i < 65536) {q : Nat} (vk va vb : Int) (hq : q < l.length)
    (hgo : ∀ e, e < q → goOn l i (hm l.length i) e) (hk : (sl l (ps l.length (hm l.length i) q)).kind ≠ 1 ∨ (sl l (ps l.length (hm l.length i) q)).idx = i)
    (hno : ∀ p, p < l.length → p ≠ ps l.length (hm l.length i) q → (sl l p).kind = 1 → (sl l p).idx ≠ i) :
    Path hm (l.set (ps l.length (hm l.length i) q) ⟨1, i, vk, va, vb⟩) := by
  have hP := ps_lt h.pos (hm l.length i) q
  intro p hp h1
  rw [List.length_set] at hp
  by_cases e : p = ps l.length (hm l.length i) q
  · rw [e, sl_set_same hP]
    refine ⟨q, by rw [List.length_set]; exact hq, by rw [List.length_set], fun d hd => ?_⟩
    unfold goOn
    simp only [List.length_set]
    have hne : ps l.length (hm l.length i) q ≠ ps l.length (hm l.length i) d := fun e' => by
      have := ps_inj hq (by omega) (h.home i hi.1 hi.2) e'
      omega
    rw [sl_set_ne hne]
    exact hgo d hd
  · rw [sl_set_ne (fun e' => e e'.symm)] at h1 ⊢
    obtain ⟨D, a1, a2, a3⟩ := h.path p hp h1
    simp only [List.length_set]
    refine ⟨D, a1, a2, fun d hd => ?_⟩
    exact goOn_set hP (by simp) (fun hx => hno p hp e h1 hx.2.symm) (a3 d hd)
theorem HTab.setTomb {l : List SlotV} (h : HTab hm l) {p : Nat} (hp : p < l.length) : Path hm (l.set p tombS) := by
  intro q hq h1
  rw [List.length_set] at hq
  by_cases e : q = p
  · subst e
    rw [sl_set_same hp] at h1
    cases h1
  · rw [sl_set_ne (fun e' => e e'.symm)] at h1 ⊢
    obtain ⟨D, a1, a2, a3⟩ := h.path q hq h1
    simp only [List.length_set]
    exact ⟨D, a1, a2, fun d hd => goOn_set hp (by decide) (fun hx => by cases hx.1) (a3 d hd)⟩
theorem wf_set {l : List SlotV} (h : ∀ p, p < l.length → wfS (sl l p)) {q : Nat} {x : SlotV} (hx : wfS x) : ∀ p, p < (l.set q x).length → wfS (sl (l.set q x) p) := by
  intro p hp
  rw [List.length_set] at hp
  by_cases e : p = q
  · subst e; rw [sl_set_same hp]; exact hx
  · rw [sl_set_ne (fun e' => e e'.symm)]; exact h p hp
/-- What is there is found; what is not is not. -/
theorem HTab.has {l : List SlotV} (h : HTab hm l) {i : Int} {p : Nat} (hp : p < l.length) (h1 : (sl l p).kind = 1) (h2 : (sl l p).idx = i) (vk va vb : Int) : Has l i vk va vb ↔ vk = (sl l p).vk ∧ va = (sl l p).va ∧ vb = (sl l p).vb := by
  constructor
  · rintro ⟨q, hq, e⟩
    have := h.uniq hp hq h1 (by rw [e]) (by rw [h2, e])
    subst this
    rw [e]
    exact ⟨rfl, rfl, rfl⟩
  · rintro ⟨rfl, rfl, rfl⟩
    refine ⟨p, hp, ?_⟩
    cases e : sl l p
    simp only [e] at h1 h2
    subst h1; subst h2
    rfl
theorem has_set {l : List SlotV} {q : Nat} (hq : q < l.length) (x : SlotV) (i vk va vb : Int) (hni : (sl l q).kind = 1 → (sl l q).idx ≠ i) :
    Has (l.set q x) i vk va vb ↔ x = ⟨1, i, vk, va, vb⟩ ∨ Has l i vk va vb := by
  constructor
  · rintro ⟨p, hp, e⟩
    rw [List.length_set] at hp
    by_cases c : q = p
    · subst c; rw [sl_set_same hp] at e; exact .inl e
    · rw [sl_set_ne c] at e; exact .inr ⟨p, hp, e⟩
  · rintro (e | ⟨p, hp, e⟩)
    · exact ⟨q, by rw [List.length_set]; exact hq, by rw [sl_set_same hq]; exact e⟩
    · by_cases c : q = p
      · subst c; exact absurd (by rw [e]) (hni (by rw [e]))
      · exact ⟨p, by rw [List.length_set]; exact hp, by rw [sl_set_ne c]; exact e⟩

/-- A new index goes into the slot that the search tells. -/
def insS (hm : Nat → Int → Nat) (l : List SlotV) (i vk va vb : Int) : List SlotV := l.set (findS hm l i).2.toNat ⟨1, i, vk, va, vb⟩
/-- What an insert does. -/
theorem HTab.ins {l : List SlotV} (h : HTab hm l) {i : Int} (hi : 0 ≤ i ∧ i < 65536) (vk va vb : Int) (hno : ∀ p, p < l.length → (sl l p).kind = 1 → (sl l p).idx ≠ i) (hroom : 4 * (cntK 1 l + cntK 2 l + 1) ≤ 3 * l.length) :
    ∃ q, q < l.length ∧ findS hm l i = (-1, (q : Int)) ∧ (sl l q).kind ≠ 1 ∧ insS hm l i vk va vb = l.set q ⟨1, i, vk, va, vb⟩ ∧ HTab hm (insS hm l i vk va vb) ∧ cntK 1 (insS hm l i vk va vb) = cntK 1 l + 1 ∧
      cntK 2 (insS hm l i vk va vb) + (if (sl l q).kind = 2 then 1 else 0) = cntK 2 l ∧
      (∀ j a b c, Has (insS hm l i vk va vb) j a b c ↔ (j = i ∧ a = vk ∧ b = va ∧ c = vb) ∨ Has l j a b c) := by
  rcases h.find i hi with ⟨D, hD, hgo, k1, k2, _⟩ | ⟨D, q, hD, hqD, hgo, hk, hq, hf⟩
  · exact absurd k2 (hno _ (ps_lt h.pos _ _) k1)
  · have hP := ps_lt h.pos (hm l.length i) q
    have hk1 : (sl l (ps l.length (hm l.length i) q)).kind ≠ 1 := by
      rcases hq with e | e
      · rw [e, hk]; decide
      · rw [e]; decide
    have e : insS hm l i vk va vb = l.set (ps l.length (hm l.length i) q) ⟨1, i, vk, va, vb⟩ := by
      unfold insS
      rw [hf]
      rfl
    have c1 := cntK_set 1 ⟨1, i, vk, va, vb⟩ l _ hP
    have c2 := cntK_set 2 ⟨1, i, vk, va, vb⟩ l _ hP
    rw [if_neg hk1] at c1
    simp only [if_true, if_neg (show ¬ (1 : Int) = 2 by decide)] at c1 c2
    refine ⟨_, hP, hf, hk1, e, ?_, by rw [e]; omega, by rw [e]; omega, fun j a b c => ?_⟩
    · rw [e]
      refine ⟨by rw [List.length_set]; exact h.home, wf_set h.wf (.inr (.inr ⟨rfl, hi⟩)), ?_, ?_, by rw [List.length_set]; exact h.pos⟩
      · exact h.setFull hi vk va vb (by omega) (fun x hx => hgo x (by omega)) (.inl hk1) (fun p hp _ => hno p hp)
      · rw [List.length_set]; omega
    · rw [e, has_set hP _ _ _ _ _ (fun hx => absurd hx hk1)]
      constructor
      · rintro (e | e)
        · injection e with _ e1 e2 e3 e4
          exact .inl ⟨e1.symm, e2.symm, e3.symm, e4.symm⟩
        · exact .inr e
      · rintro (⟨rfl, rfl, rfl, rfl⟩ | e)
        · exact .inl rfl
        · exact .inr e
/-- A value is put where the index is. -/
theorem HTab.upd {l : List SlotV} (h : HTab hm l) {i : Int} (hi : 0 ≤ i ∧ i < 65536) (vk va vb : Int) {D : Nat} (hD : D < l.length) (hgo : ∀ e, e < D → goOn l i (hm l.length i) e) (k1 : (sl l (ps l.length (hm l.length i) D)).kind = 1) (k2 : (sl l (ps l.length (hm l.length i) D)).idx = i) :
    HTab hm (l.set (ps l.length (hm l.length i) D) ⟨1, i, vk, va, vb⟩) ∧ cntK 1 (l.set (ps l.length (hm l.length i) D) ⟨1, i, vk, va, vb⟩) = cntK 1 l ∧ cntK 2 (l.set (ps l.length (hm l.length i) D) ⟨1, i, vk, va, vb⟩) = cntK 2 l ∧
      (∀ j a b c, Has (l.set (ps l.length (hm l.length i) D) ⟨1, i, vk, va, vb⟩) j a b c ↔ (j = i ∧ a = vk ∧ b = va ∧ c = vb) ∨ (j ≠ i ∧ Has l j a b c)) := by
  have hP := ps_lt h.pos (hm l.length i) D
  have c1 := cntK_set 1 ⟨1, i, vk, va, vb⟩ l _ hP
  have c2 := cntK_set 2 ⟨1, i, vk, va, vb⟩ l _ hP
  rw [k1] at c1 c2
  simp only [if_true, if_neg (show ¬ (1 : Int) = 2 by decide)] at c1 c2
  refine ⟨⟨by rw [List.length_set]; exact h.home, wf_set h.wf (.inr (.inr ⟨rfl, hi⟩)), h.setFull hi vk va vb hD hgo (.inr k2) (fun p hp hne h1 he => hne (h.uniq hp hP h1 k1 (he.trans k2.symm))), by rw [List.length_set]; have := h.room; omega, by rw [List.length_set]; exact h.pos⟩, by omega, by omega, fun j a b c => ?_⟩
  by_cases hj : j = i
  · subst hj
    constructor
    · rintro ⟨p, hp, e⟩
      rw [List.length_set] at hp
      by_cases c : ps l.length (hm l.length j) D = p
      · subst c
        rw [sl_set_same hp] at e
        injection e with _ _ e2 e3 e4
        exact .inl ⟨rfl, e2.symm, e3.symm, e4.symm⟩
      · rw [sl_set_ne c] at e
        exact absurd (h.uniq hP hp k1 (by rw [e]) (by rw [k2, e])) c
    · rintro (⟨_, rfl, rfl, rfl⟩ | ⟨hne, _⟩)
      · exact ⟨_, by rw [List.length_set]; exact hP, sl_set_same hP _⟩
      · exact absurd rfl hne
  · rw [has_set hP _ _ _ _ _ (fun _ he => hj (he.symm.trans k2))]
    constructor
    · rintro (e | e)
      · injection e with _ e1
        exact absurd e1.symm hj
      · exact .inr ⟨hj, e⟩
    · rintro (⟨rfl, _⟩ | ⟨_, e⟩)
      · exact absurd rfl hj
      · exact .inr e
/-- An index is taken away. -/
theorem HTab.del {l : List SlotV} (h : HTab hm l) {i : Int} {p : Nat} (hp : p < l.length) (k1 : (sl l p).kind = 1) (k2 : (sl l p).idx = i) :
    HTab hm (l.set p tombS) ∧ cntK 1 (l.set p tombS) + 1 = cntK 1 l ∧ cntK 2 (l.set p tombS) = cntK 2 l + 1 ∧ (∀ j a b c, Has (l.set p tombS) j a b c ↔ j ≠ i ∧ Has l j a b c) := by
  have c1 := cntK_set 1 tombS l p hp
  have c2 := cntK_set 2 tombS l p hp
  rw [k1] at c1 c2
  simp [tombS] at c1 c2
  refine ⟨⟨by rw [List.length_set]; exact h.home, wf_set h.wf (.inr (.inl rfl)), h.setTomb hp, by rw [List.length_set]; have := h.room; simp only [tombS]; omega, by rw [List.length_set]; exact h.pos⟩, by simp only [tombS]; omega, by simp only [tombS]; omega, fun j a b c => ?_⟩
  constructor
  · rintro ⟨q, hq, e⟩
    rw [List.length_set] at hq
    by_cases c : p = q
    · subst c; rw [sl_set_same hq] at e; cases e
    · rw [sl_set_ne c] at e
      refine ⟨fun hj => c (h.uniq hp hq k1 (by rw [e]) (by rw [k2, e]; exact hj.symm)), q, hq, e⟩
  · rintro ⟨hj, q, hq, e⟩
    have c : p ≠ q := fun c => by subst c; rw [e] at k2; exact hj k2
    exact ⟨q, by rw [List.length_set]; exact hq, by rw [sl_set_ne c]; exact e⟩
/-- A new table. -/
theorem HTab.new (n : Nat) (hn : 0 < n) (hh : ∀ i : Int, 0 ≤ i → i < 65536 → hm n i < n) : HTab hm (List.replicate n emptyS) ∧ cntK 1 (List.replicate n emptyS) = 0 ∧ cntK 2 (List.replicate n emptyS) = 0 ∧ ∀ j a b c, ¬ Has (List.replicate n emptyS) j a b c := by
  have hs : ∀ p, p < n → sl (List.replicate n emptyS) p = emptyS := fun p hp => by unfold sl; simp [hp]
  have c1 : cntK 1 (List.replicate n emptyS) = 0 := by rw [cntK_rep]; rfl
  have c2 : cntK 2 (List.replicate n emptyS) = 0 := by rw [cntK_rep]; rfl
  refine ⟨⟨by simpa using hh, fun p hp => .inl (hs p (by simpa using hp)), fun p hp h1 => ?_, by rw [c1, c2]; simp, by simpa using hn⟩, c1, c2, fun j a b c => ?_⟩
  · rw [hs p (by simpa using hp)] at h1; cases h1
  · rintro ⟨p, hp, e⟩
    rw [hs p (by simpa using hp)] at e
    cases e
end
end Go.Proofs.YtkiikblpgppmkaaGreatDoor

namespace Go.Proofs.YtkiikblpgppmkaaGreatDoor
set_option linter.unusedVariables false
set_option linter.unusedSimpArgs false

section
variable {hm : Nat → Int → Nat}
/-- A slot of the old table is gone through. -/
def addS (hm : Nat → Int → Nat) (t : List SlotV) (s : SlotV) : List SlotV := if s.kind = 1 then insS hm t s.idx s.vk s.va s.vb else t
def rebK (hm : Nat → Int → Nat) (n : Nat) (l : List SlotV) (k : Nat) : List SlotV := (l.take k).foldl (addS hm) (List.replicate n emptyS)
theorem rebK_succ (n : Nat) (l : List SlotV) (k : Nat) (hk : k < l.length) : rebK hm n l (k + 1) = addS hm (rebK hm n l k) (sl l k) := by
  unfold rebK
  rw [List.take_add_one, sl_get hk, List.foldl_append]
  rfl
theorem cntK_take_succ (j : Int) (l : List SlotV) (k : Nat) (hk : k < l.length) : cntK j (l.take (k + 1)) = cntK j (l.take k) + if (sl l k).kind = j then 1 else 0 := by
  rw [List.take_add_one, sl_get hk, cntK_app]
  rfl
theorem cntK_take_le (j : Int) (l : List SlotV) (k : Nat) : cntK j (l.take k) ≤ cntK j l := by
  have h : cntK j l = cntK j (l.take k) + cntK j (l.drop k) := by rw [← cntK_app, List.take_append_drop]
  omega
theorem insS_length (l : List SlotV) (i vk va vb : Int) : (insS hm l i vk va vb).length = l.length := by simp [insS]
theorem slot_eta (s : SlotV) (h : s.kind = 1) : s = ⟨1, s.idx, s.vk, s.va, s.vb⟩ := by
  cases s
  simp only at h
  subst h
  rfl
structure Reb (hm : Nat → Int → Nat) (n : Nat) (l : List SlotV) (k : Nat) : Prop where
  tab : HTab hm (rebK hm n l k)
  len : (rebK hm n l k).length = n
  full : cntK 1 (rebK hm n l k) = cntK 1 (l.take k)
  left : cntK 2 (rebK hm n l k) = 0
  has : ∀ j a b c, Has (rebK hm n l k) j a b c ↔ ∃ p, p < k ∧ p < l.length ∧ sl l p = ⟨1, j, a, b, c⟩
/-- What the next slot does. -/
theorem Reb.next {l : List SlotV} (h : HTab hm l) {n : Nat} (hroom : 4 * cntK 1 l ≤ 3 * n) {k : Nat} (r : Reb hm n l k) (hk : k < l.length) (h1 : (sl l k).kind = 1) :
    (0 ≤ (sl l k).idx ∧ (sl l k).idx < 65536) ∧ (∀ p, p < (rebK hm n l k).length → (sl (rebK hm n l k) p).kind = 1 → (sl (rebK hm n l k) p).idx ≠ (sl l k).idx) ∧
      4 * (cntK 1 (rebK hm n l k) + cntK 2 (rebK hm n l k) + 1) ≤ 3 * (rebK hm n l k).length := by
  refine ⟨?_, fun p hp hp1 he => ?_, ?_⟩
  · rcases h.wf k hk with e | e | e
    · rw [e] at h1; cases h1
    · rw [e] at h1; cases h1
    · exact e.2
  · obtain ⟨q, q1, q2, q3⟩ := (r.has _ _ _ _).1 ⟨p, hp, slot_eta _ hp1⟩
    have := h.uniq q2 hk (by rw [q3]) h1 (by rw [q3]; exact he)
    omega
  · have c1 := cntK_take_succ 1 l k hk
    rw [if_pos h1] at c1
    have c2 := cntK_take_le 1 l (k + 1)
    rw [r.full, r.left, r.len]
    omega
theorem Reb.start (l : List SlotV) {n : Nat} (hn : 0 < n) (hh : ∀ i : Int, 0 ≤ i → i < 65536 → hm n i < n) : Reb hm n l 0 := by
  obtain ⟨t1, t2, t3, t4⟩ := HTab.new (hm := hm) n hn hh
  refine ⟨t1, by simp [rebK], by simp [rebK, t2, cntK], t3, fun j a b c => ?_⟩
  constructor
  · intro h; exact absurd h (t4 j a b c)
  · rintro ⟨p, hp, _⟩; omega
theorem Reb.succ {l : List SlotV} (h : HTab hm l) {n : Nat} (hroom : 4 * cntK 1 l ≤ 3 * n) {k : Nat} (r : Reb hm n l k) (hk : k < l.length) : Reb hm n l (k + 1) := by
  have c1 := cntK_take_succ 1 l k hk
  by_cases h1 : (sl l k).kind = 1
  · obtain ⟨n1, n2, n3⟩ := Reb.next h hroom r hk h1
    obtain ⟨q, q1, q2, q3, q4, q5, q6, q7, q8⟩ := r.tab.ins n1 (sl l k).vk (sl l k).va (sl l k).vb n2 n3
    have e : rebK hm n l (k + 1) = insS hm (rebK hm n l k) (sl l k).idx (sl l k).vk (sl l k).va (sl l k).vb := by
      rw [rebK_succ n l k hk, addS, if_pos h1]
    rw [if_pos h1] at c1
    refine ⟨by rw [e]; exact q5, by rw [e, insS_length, r.len], by rw [e, q6, r.full, c1], by rw [e]; have := r.left; omega, fun j a b c => ?_⟩
    rw [e, q8]
    constructor
    · rintro (⟨rfl, rfl, rfl, rfl⟩ | hh)
      · exact ⟨k, by omega, hk, slot_eta _ h1⟩
      · obtain ⟨p, p1, p2, p3⟩ := (r.has _ _ _ _).1 hh
        exact ⟨p, by omega, p2, p3⟩
    · rintro ⟨p, p1, p2, p3⟩
      by_cases e : p = k
      · subst e
        rw [p3]
        exact .inl ⟨rfl, rfl, rfl, rfl⟩
      · exact .inr ((r.has _ _ _ _).2 ⟨p, by omega, p2, p3⟩)
  · have e : rebK hm n l (k + 1) = rebK hm n l k := by rw [rebK_succ n l k hk, addS, if_neg h1]
    rw [if_neg h1] at c1
    refine ⟨by rw [e]; exact r.tab, by rw [e]; exact r.len, by rw [e, r.full, c1]; rfl, by rw [e]; exact r.left, fun j a b c => ?_⟩
    rw [e, r.has]
    constructor
    · rintro ⟨p, p1, p2, p3⟩; exact ⟨p, by omega, p2, p3⟩
    · rintro ⟨p, p1, p2, p3⟩
      by_cases e : p = k
      · subst e; rw [p3] at h1; exact absurd rfl h1
      · exact ⟨p, by omega, p2, p3⟩
theorem Reb.all {l : List SlotV} (h : HTab hm l) {n : Nat} (hn : 0 < n) (hh : ∀ i : Int, 0 ≤ i → i < 65536 → hm n i < n) (hroom : 4 * cntK 1 l ≤ 3 * n) : ∀ k, k ≤ l.length → Reb hm n l k
  | 0, _ => Reb.start l hn hh
  | k + 1, hk => (Reb.all h hn hh hroom k (by omega)).succ h hroom (by omega)

/-- The size of a table that is made anew. -/
def newN (l : List SlotV) : Nat := if 2 * (cntK 1 l + 1) > l.length then 2 * l.length else l.length
/-- Room for one more. -/
def growS (hm : Nat → Int → Nat) (l : List SlotV) : List SlotV := if 4 * (cntK 1 l + cntK 2 l + 1) ≤ 3 * l.length then l else rebK hm (newN l) l l.length
theorem newN_room {l : List SlotV} (h : HTab hm l) : 4 * (cntK 1 l + 1) ≤ 3 * newN l ∧ l.length ≤ newN l ∧ 0 < newN l ∨ l.length < 4 := by
  have h1 := h.room
  have h2 := h.pos
  unfold newN
  split
  · by_cases c : l.length < 4
    · exact .inr c
    · exact .inl ⟨by omega, by omega, by omega⟩
  · exact .inl ⟨by omega, Nat.le_refl _, h2⟩
theorem HTab.grow {l : List SlotV} (h : HTab hm l) (h8 : 8 ≤ l.length) (hh : ∀ i : Int, 0 ≤ i → i < 65536 → hm (newN l) i < newN l) :
    HTab hm (growS hm l) ∧ cntK 1 (growS hm l) = cntK 1 l ∧ 4 * (cntK 1 (growS hm l) + cntK 2 (growS hm l) + 1) ≤ 3 * (growS hm l).length ∧ (∀ j a b c, Has (growS hm l) j a b c ↔ Has l j a b c) ∧
      ((growS hm l).length = l.length ∨ ((growS hm l).length = newN l)) := by
  unfold growS
  split
  · exact ⟨h, rfl, by assumption, fun _ _ _ _ => Iff.rfl, .inl rfl⟩
  · obtain ⟨r1, r2, r3⟩ : 4 * (cntK 1 l + 1) ≤ 3 * newN l ∧ l.length ≤ newN l ∧ 0 < newN l := by
      rcases newN_room h with e | e
      · exact e
      · omega
    have r := Reb.all (n := newN l) h r3 hh (by omega) l.length (Nat.le_refl _)
    have hf := r.full
    rw [List.take_length] at hf
    refine ⟨r.tab, hf, by rw [hf, r.left, r.len]; omega, fun j a b c => ?_, .inr r.len⟩
    rw [r.has]
    constructor
    · rintro ⟨p, _, p2, p3⟩; exact ⟨p, p2, p3⟩
    · rintro ⟨p, p2, p3⟩; exact ⟨p, p2, p2, p3⟩

/-- A put. -/
def putS (hm : Nat → Int → Nat) (l : List SlotV) (i vk va vb : Int) : List SlotV :=
  if 0 ≤ (findS hm l i).1 then l.set (findS hm l i).1.toNat ⟨1, i, vk, va, vb⟩ else insS hm (growS hm l) i vk va vb
/-- A take. -/
def takeS (hm : Nat → Int → Nat) (l : List SlotV) (i : Int) : List SlotV := if 0 ≤ (findS hm l i).1 then l.set (findS hm l i).1.toNat tombS else l
end
end Go.Proofs.YtkiikblpgppmkaaGreatDoor
