/-
  What a call owns: claims on blocks, apart from one another; what a call, a store, an allocation does to them. No program in sight; Elements of one size laid flat into a list of cells. No program in sight; make([]T, n), said in lists; a slice of the call's own, cut; a store of one cell of an element. No program in sight; A claim that is itself several claims: taken apart, put together again. No program in sight; Words that the packages' contracts share: what a call answers. No program in sight; A region that draws its order: a load may be taken first though the region's last store writes its cell, if that store waits for the load. No program in sight; Taking an operation of a region first, in few words.
-/
import Derived.Test.YtkiikblpgppmkaaGreatDoorTlM01
import Derived.Laws.MakeOwn
import Derived.Laws.OwnMore
import Derived.Laws.CopyOwn
import Derived.Deep.RegionHeld
import Derived.StillTail
import Derived.Deep.DrawnRows
import Derived.Says
import Derived.OrdersHeld
import Derived.KernelRfl
namespace Go.Proofs.YtkiikblpgppmkaaGreatDoor
open Go Go.RowKit
set_option linter.unusedVariables false
set_option linter.unusedSimpArgs false

/-- A claim on some blocks of a world; a write elsewhere leaves it. -/
structure Asr where
  at' : World → (Nat → Prop) → Prop
  keep : ∀ {w w' : World} {F T : Nat → Prop}, at' w F → Keep w w' T → (∀ i, F i → T i → False) → at' w' F
  mono : ∀ {w : World} {F G : Nat → Prop}, at' w F → (∀ i, F i → G i) → at' w G

/-- Block b is a row of cells of the call's own. -/
def blkA (b : Nat) (cs : Array Value) (t : TypeId) : Asr :=
  ⟨fun w F => Blk w b cs t ∧ F b, fun h hk hd => ⟨h.1.keep hk (hd b h.2), h.2⟩, fun h hG => ⟨h.1, hG _ h.2⟩⟩
/-- A slice of the call's own. -/
def slA (e : TypeId) (size : Nat) (v : Value) (n : Nat) (xs : List Value) : Asr :=
  ⟨fun w F => Own F w e size v n xs, fun h hk hd => h.keep hk hd, fun h hG => h.mono hG⟩
/-- Nothing. -/
def empA : Asr := ⟨fun _ _ => True, fun _ _ _ => trivial, fun _ _ => trivial⟩
def pureA (p : Prop) : Asr := ⟨fun _ _ => p, fun h _ _ => h, fun h _ => h⟩
def exA {α : Type} (f : α → Asr) : Asr :=
  ⟨fun w F => ∃ a, (f a).at' w F, fun ⟨a, h⟩ hk hd => ⟨a, (f a).keep h hk hd⟩, fun ⟨a, h⟩ hG => ⟨a, (f a).mono h hG⟩⟩

/-- Several claims, in blocks apart from one another, all in F. -/
def starAt (l : List Asr) (w : World) (F : Nat → Prop) : Prop :=
  ∃ G : Nat → Nat → Prop, (∀ (i : Nat) (A : Asr), l[i]? = some A → A.at' w (G i)) ∧ (∀ i x, G i x → F x) ∧ (∀ i j x, G i x → G j x → i = j)
def starA (l : List Asr) : Asr :=
  ⟨starAt l, fun ⟨G, h1, h2, h3⟩ hk hd => ⟨G, fun i A hi => A.keep (h1 i A hi) hk (fun x hx ht => hd x (h2 i x hx) ht), h2, h3⟩,
    fun ⟨G, h1, h2, h3⟩ hG => ⟨G, h1, fun i x hx => hG x (h2 i x hx), h3⟩⟩

/-- One claim is opened: what is left of the others stands through whatever is done in its blocks, and in new ones. -/
theorem starAt.opens {l : List Asr} {w : World} {F : Nat → Prop} (h : starAt l w F) (hlt : ∀ x, F x → x < w.heap.size) (i : Nat) {A : Asr} (hi : l[i]? = some A) :
    ∃ G : Nat → Prop, A.at' w G ∧ (∀ x, G x → F x) ∧
      (∀ (w' : World) (B : Asr), Keep w w' G → B.at' w' (fun x => G x ∨ New w w' x) → starAt (l.set i B) w' (fun x => F x ∨ New w w' x)) ∧
      (∀ (w' : World) (B C : Asr), Keep w w' G → starAt [B, C] w' (fun x => G x ∨ New w w' x) → starAt (l.set i B ++ [C]) w' (fun x => F x ∨ New w w' x)) := by
  obtain ⟨G, h1, h2, h3⟩ := h
  have hil : i < l.length := (List.getElem?_eq_some_iff.1 hi).1
  refine ⟨G i, h1 i A hi, h2 i, fun w' B hk hB => ?_, fun w' B C hk hBC => ?_⟩
  · refine ⟨fun j x => if j = i then G i x ∨ New w w' x else G j x, fun j C hj => ?_, fun j x hx => ?_, fun j k x hj hk' => ?_⟩
    · by_cases e : j = i
      · subst e
        rw [List.getElem?_set_self hil] at hj
        cases hj
        simpa using hB
      · rw [List.getElem?_set_ne (fun e' => e e'.symm)] at hj
        have := C.keep (h1 j C hj) hk (fun x hx hx' => e (h3 j i x hx hx'))
        simpa [e] using this
    · by_cases e : j = i
      · subst e
        simp at hx
        exact hx.imp (h2 j x) id
      · simp [e] at hx
        exact .inl (h2 j x hx)
    · by_cases e : j = i <;> by_cases e' : k = i
      · omega
      · subst e
        simp [e'] at hj hk'
        rcases hj with hj | hj
        · exact (h3 _ _ x hj hk')
        · have := hlt x (h2 k x hk'); have := hj.1; omega
      · subst e'
        simp [e] at hj hk'
        rcases hk' with hk' | hk'
        · exact (h3 _ _ x hj hk')
        · have := hlt x (h2 j x hj); have := hk'.1; omega
      · simp [e, e'] at hj hk'
        exact h3 j k x hj hk'
  · obtain ⟨K, k1, k2, k3⟩ := hBC
    refine ⟨fun j x => if j = i then K 0 x else if j = l.length then K 1 x else if j < l.length then G j x else False, fun j D hj => ?_, fun j x hx => ?_, fun j k x hj hk' => ?_⟩
    · by_cases e : j = i
      · subst e
        rw [List.getElem?_append_left (by simpa using hil), List.getElem?_set_self hil] at hj
        cases hj
        simpa using k1 0 _ rfl
      · by_cases e2 : j = l.length
        · subst e2
          rw [List.getElem?_append_right (by simp)] at hj
          simp at hj
          subst hj
          simpa [e] using k1 1 _ rfl
        · have hjl : j < l.length := by
            have := (List.getElem?_eq_some_iff.1 hj).1
            simp at this
            omega
          rw [List.getElem?_append_left (by simpa using hjl), List.getElem?_set_ne (fun e' => e e'.symm)] at hj
          have := D.keep (h1 j D hj) hk (fun x hx hx' => e (h3 j i x hx hx'))
          simpa [e, e2, hjl] using this
    · by_cases e : j = i
      · simp [e] at hx
        exact (k2 0 x hx).imp (h2 i x) id
      · by_cases e2 : j = l.length
        · subst e2
          simp [e] at hx
          exact (k2 1 x hx).imp (h2 i x) id
        · simp [e, e2] at hx
          exact .inl (h2 j x hx.2)
    · have hG : ∀ j a, j ≠ i → G j x → K a x → False := fun j a hj hx hK => by
        rcases k2 a x hK with h | h
        · exact hj (h3 j i x hx h)
        · have := hlt x (h2 j x hx); have := h.1; omega
      have h01 : K 0 x → K 1 x → False := fun a b => by have := k3 0 1 x a b; omega
      have hli : ¬ l.length = i := by omega
      by_cases e : j = i <;> by_cases e' : k = i <;> by_cases e2 : j = l.length <;> by_cases e2' : k = l.length <;> simp [e, e', e2, e2', hli] at hj hk' <;> first | omega | exact (h01 hj hk').elim | exact (h01 hk' hj).elim | skip
      all_goals first
        | (exfalso; first | exact hG k 0 e' hk'.2 hj | exact hG j 0 e hj.2 hk' | exact hG k 1 e' hk'.2 hj | exact hG j 1 e hj.2 hk' | (simp_all; done) | omega)
        | exact h3 j k x hj.2 hk'.2
        | skip

theorem starAt.set {l : List Asr} {w w' : World} {F : Nat → Prop} (h : starAt l w F) (hk : Keep w w' Nope) : starAt l w' F := (starA l).keep h hk (fun _ _ f => f)
theorem starAt.snoc {l : List Asr} {w : World} {F F2 : Nat → Prop} (h : starAt l w F) {A : Asr} (hA : A.at' w F2) (hd : ∀ x, F x → F2 x → False) : starAt (l ++ [A]) w (fun x => F x ∨ F2 x) := by
  obtain ⟨G, h1, h2, h3⟩ := h
  refine ⟨fun j x => if j = l.length then F2 x else if j < l.length then G j x else False, fun j D hj => ?_, fun j x hx => ?_, fun j k x hj hk' => ?_⟩
  · by_cases e2 : j = l.length
    · subst e2
      rw [List.getElem?_append_right (Nat.le_refl _)] at hj
      simp at hj
      subst hj
      simpa using hA
    · have hjl : j < l.length := by
        have := (List.getElem?_eq_some_iff.1 hj).1
        simp at this
        omega
      rw [List.getElem?_append_left hjl] at hj
      simpa [e2, hjl] using h1 j D hj
  · by_cases e2 : j = l.length
    · subst e2
      simp at hx
      exact .inr hx
    · simp [e2] at hx
      exact .inl (h2 j x hx.2)
  · by_cases e : j = l.length <;> by_cases e' : k = l.length <;> simp [e, e'] at hj hk'
    · omega
    · exact (hd x (h2 k x hk'.2) hj).elim
    · exact (hd x (h2 j x hj.2) hk').elim
    · exact h3 j k x hj.2 hk'.2
theorem starAt.drop {l : List Asr} {w : World} {F : Nat → Prop} (h : starAt l w F) (i : Nat) : starAt (l.set i empA) w F := by
  obtain ⟨G, h1, h2, h3⟩ := h
  refine ⟨G, fun j D hj => ?_, h2, h3⟩
  by_cases e : i = j
  · subst e
    have hil := (List.getElem?_eq_some_iff.1 hj).1
    simp at hil
    rw [List.getElem?_set_self hil] at hj
    cases hj
    trivial
  · rw [List.getElem?_set_ne e] at hj
    exact h1 j D hj

/-- The claims of a call that began at w0: all in blocks that are new since, and nothing old has turned. -/
structure St (w0 w : World) (l : List Asr) : Prop where
  bel : Below w0.heap.size w0 w
  own : starAt l w (fun x => w0.heap.size ≤ x ∧ x < w.heap.size)

theorem St.start (w : World) : St w w [] := ⟨Below.refl _ _, ⟨fun _ _ => False, fun _ _ hi => by simp at hi, fun _ _ f => f.elim, fun _ _ _ f => f.elim⟩⟩
theorem St.le {w0 w : World} {l : List Asr} (h : St w0 w l) : w0.heap.size ≤ w.heap.size := h.bel.size
theorem St.keep {w0 w w' : World} {l : List Asr} (h : St w0 w l) (hk : Keep w w' Nope) : St w0 w' l :=
  ⟨h.bel.trans (hk.belowAt (B := w0.heap.size) (fun i f => f.elim) h.le), (starA l).mono (h.own.set hk) (fun x hx => ⟨hx.1, Nat.lt_of_lt_of_le hx.2 hk.size⟩)⟩
theorem St.opens {w0 w : World} {l : List Asr} (h : St w0 w l) (i : Nat) {A : Asr} (hi : l[i]? = some A) :
    ∃ G : Nat → Prop, A.at' w G ∧ (∀ x, G x → w0.heap.size ≤ x ∧ x < w.heap.size) ∧
      (∀ (w' : World) (B : Asr), Keep w w' G → B.at' w' (fun x => G x ∨ New w w' x) → St w0 w' (l.set i B)) ∧
      (∀ (w' : World) (B C : Asr), Keep w w' G → starAt [B, C] w' (fun x => G x ∨ New w w' x) → St w0 w' (l.set i B ++ [C])) := by
  obtain ⟨G, h1, h2, h3, h4⟩ := h.own.opens (fun x hx => hx.2) i hi
  have hb : ∀ w', Keep w w' G → Below w0.heap.size w0 w' := fun w' hk => h.bel.trans (hk.belowAt (B := w0.heap.size) (fun x hx => (h2 x hx).1) h.le)
  have hm : ∀ w', Keep w w' G → ∀ x, (w0.heap.size ≤ x ∧ x < w.heap.size) ∨ New w w' x → w0.heap.size ≤ x ∧ x < w'.heap.size := fun w' hk x hx => by
    rcases hx with hx | hx
    · exact ⟨hx.1, Nat.lt_of_lt_of_le hx.2 hk.size⟩
    · exact ⟨Nat.le_trans h.le hx.1, hx.2⟩
  exact ⟨G, h1, h2, fun w' B hk hB => ⟨hb w' hk, (starA _).mono (h3 w' B hk hB) (hm w' hk)⟩, fun w' B C hk hB => ⟨hb w' hk, (starA _).mono (h4 w' B C hk hB) (hm w' hk)⟩⟩
theorem St.get {w0 w : World} {l : List Asr} (h : St w0 w l) (i : Nat) {A : Asr} (hi : l[i]? = some A) : ∃ G : Nat → Prop, A.at' w G ∧ (∀ x, G x → w0.heap.size ≤ x ∧ x < w.heap.size) :=
  let ⟨G, h1, h2, _⟩ := h.opens i hi
  ⟨G, h1, h2⟩
/-- A new claim, in new blocks. -/
theorem St.add {w0 w w' : World} {l : List Asr} (h : St w0 w l) (hk : Keep w w' Nope) {A : Asr} (hA : A.at' w' (New w w')) : St w0 w' (l ++ [A]) := by
  have h' := h.keep hk
  have h0 := h.le
  have : starAt l w' (fun x => w0.heap.size ≤ x ∧ x < w.heap.size) := h.own.set hk
  refine ⟨h'.bel, (starA _).mono (this.snoc hA (fun x hx hy => by have := hx.2; have := hy.1; omega)) (fun x hx => ?_)⟩
  rcases hx with hx | hx
  · exact ⟨hx.1, Nat.lt_of_lt_of_le hx.2 hk.size⟩
  · exact ⟨Nat.le_trans h0 hx.1, hx.2⟩
theorem St.alloc {w0 w : World} {l : List Asr} (h : St w0 w l) (o : Obj) : St w0 (w.alloc o) l := h.keep ((Keep.refl w Nope).alloc o)
theorem St.drew {w0 w : World} {l : List Asr} (h : St w0 w l) : St w0 w.drew l := h.keep ((Keep.refl w Nope).drew)
theorem St.drewN {w0 w : World} {l : List Asr} (h : St w0 w l) (n : Nat) : St w0 (w.drewN n) l := h.keep ((Keep.refl w Nope).drewN n)
/-- A new row of cells. -/
theorem St.box {w0 w : World} {l : List Asr} (h : St w0 w l) (cs : Array Value) (t : TypeId) : St w0 (w.alloc (.cells cs t)) (l ++ [blkA w.heap.size cs t]) :=
  h.add ((Keep.refl w Nope).alloc _) ⟨Blk.new w cs t, Nat.le_refl _, by simp⟩
/-- A new slice literal. -/
theorem St.lit {w0 w : World} {l : List Asr} (h : St w0 w l) (e : TypeId) (size n : Nat) (cs : Array Value) (hn : n ≤ maxLen) (hc : cs.size = n * size) :
    St w0 (w.alloc (.cells cs e)) (l ++ [slA e size (.slice (some ⟨w.heap.size, 0, none⟩) n n) n cs.toList]) :=
  h.add ((Keep.refl w Nope).alloc _) (Own.lit w e size n cs hn hc ⟨Nat.le_refl _, by simp⟩)
/-- A cell is written. -/
theorem St.write {w0 w : World} {l : List Asr} (h : St w0 w l) (i : Nat) {b : Nat} {cs : Array Value} {t : TypeId} (hi : l[i]? = some (blkA b cs t)) (j : Nat) (u : Value) :
    St w0 (w.setCell ⟨b, j, none⟩ u) (l.set i (blkA b (cs.setIfInBounds j u) t)) := by
  obtain ⟨G, h1, h2, h3, _⟩ := h.opens i hi
  exact h3 _ (blkA b (cs.setIfInBounds j u) t) ((Keep.refl w G).setCell (p := ⟨b, j, none⟩) (.inl h1.2) u) ⟨h1.1.setCell j u, .inl h1.2⟩
theorem St.blk {w0 w : World} {l : List Asr} (h : St w0 w l) (i : Nat) {b : Nat} {cs : Array Value} {t : TypeId} (hi : l[i]? = some (blkA b cs t)) : Blk w b cs t := (h.get i hi).choose_spec.1.1
/-- A slice of the call's own, read. -/
theorem St.rd {w0 w : World} {l : List Asr} (h : St w0 w l) (i : Nat) {e : TypeId} {size n : Nat} {v : Value} {xs : List Value} (hi : l[i]? = some (slA e size v n xs)) :
    ∃ G : Nat → Prop, Own G w e size v n xs ∧ Rd G w v n xs ∧ ∀ x, G x → w0.heap.size ≤ x ∧ x < w.heap.size := by
  obtain ⟨G, h1, h2⟩ := h.get i hi
  exact ⟨G, h1, Own.rd h1, h2⟩
/-- A cell of a slice of the call's own is written. -/
theorem St.store {w0 w : World} {l : List Asr} (h : St w0 w l) (i : Nat) {e : TypeId} {size n c : Nat} {a : Option Addr} {xs : List Value} (hi : l[i]? = some (slA e size (.slice a n c) n xs)) (hn : 0 < n) :
    ∃ g, a = some ⟨g, 0, none⟩ ∧ g < w.heap.size ∧ (∀ j, w.frozen? ⟨g, j, none⟩ = false) ∧ (∀ j, j < n * size → w.cell? ⟨g, j, none⟩ = xs[j]?) ∧
      ∀ j u, St w0 (w.setCell ⟨g, j, none⟩ u) (l.set i (slA e size (.slice a n c) n (xs.set j u))) := by
  obtain ⟨G, h1, h2, h3, _⟩ := h.opens i hi
  obtain ⟨g, rfl, hG, hlt, hf, hc, hs⟩ := Own.head h1 hn
  exact ⟨g, rfl, hlt, hf, hc, fun j u => h3 _ (slA e size (.slice (some ⟨g, 0, none⟩) n c) n (xs.set j u)) ((Keep.refl w G).setCell (p := ⟨g, j, none⟩) (.inl hG) u) ((hs j u).mono (fun _ h => .inl h))⟩
theorem St.empty {w0 w : World} {l : List Asr} (h : St w0 w l) (i : Nat) : St w0 w (l.set i empA) := ⟨h.bel, h.own.drop i⟩
/-- The last claims are let go. -/
theorem St.take {w0 w : World} {l : List Asr} (h : St w0 w l) (n : Nat) : St w0 w (l.take n) := by
  obtain ⟨hb, G, h1, h2, h3⟩ := h
  refine ⟨hb, G, fun i A hi => ?_, h2, h3⟩
  rw [List.getElem?_take] at hi
  split at hi
  · exact h1 i A hi
  · cases hi
/-- Claims are put into another order, some are let go. -/
theorem St.pick {w0 w : World} {l l' : List Asr} (h : St w0 w l) (f : Nat → Nat) (hf : ∀ i j, i < l'.length → j < l'.length → f i = f j → i = j) (he : ∀ (i : Nat) (A : Asr), l'[i]? = some A → l[f i]? = some A) : St w0 w l' := by
  obtain ⟨hb, G, h1, h2, h3⟩ := h
  refine ⟨hb, fun i x => i < l'.length ∧ G (f i) x, fun i A hi => ?_, fun i x hx => h2 _ x hx.2, fun i j x hi hj => hf i j hi.1 hj.1 (h3 _ _ x hi.2 hj.2)⟩
  exact A.mono (h1 (f i) A (he i A hi)) (fun x hx => ⟨(List.getElem?_eq_some_iff.1 hi).1, hx⟩)
/-- A claim says less, or the same in other words. -/
theorem St.weaken {w0 w : World} {l : List Asr} (h : St w0 w l) (i : Nat) {A B : Asr} (hi : l[i]? = some A) (hAB : ∀ (G : Nat → Prop), A.at' w G → B.at' w G) : St w0 w (l.set i B) := by
  obtain ⟨G, h1, _, h3, _⟩ := h.opens i hi
  exact h3 w B (Keep.refl w G) (B.mono (hAB G h1) (fun _ hx => .inl hx))
end Go.Proofs.YtkiikblpgppmkaaGreatDoor

namespace Go.Proofs.YtkiikblpgppmkaaGreatDoor
open Go Go.RowKit
set_option linter.unusedVariables false
set_option linter.unusedSimpArgs false
/-- Elements of one size, flat: which cell is which. -/
theorem flat_get {α : Type} (cells : α → List Value) (size : Nat) (hs : ∀ x, (cells x).length = size) : ∀ (l : List α) (k j : Nat) (x : α), l[k]? = some x → j < size → (l.flatMap cells)[k * size + j]? = (cells x)[j]?
  | [], k, j, x, h, _ => by simp at h
  | a :: l, 0, j, x, h, hj => by
    simp at h
    subst h
    simp only [Nat.zero_mul, Nat.zero_add, List.flatMap_cons]
    rw [List.getElem?_append_left (by rw [hs]; exact hj)]
  | a :: l, k + 1, j, x, h, hj => by
    simp at h
    have := flat_get cells size hs l k j x h hj
    rw [List.flatMap_cons, List.getElem?_append_right (by rw [hs, Nat.add_mul]; omega), hs, ← this]
    congr 1
    rw [Nat.add_mul]
    omega
theorem flat_length {α : Type} (cells : α → List Value) (size : Nat) (hs : ∀ x, (cells x).length = size) (l : List α) : (l.flatMap cells).length = l.length * size := by
  induction l with
  | nil => simp
  | cons a l ih => simp only [List.flatMap_cons, List.length_append, hs, ih, List.length_cons, Nat.add_mul]; omega

/-- An element's cells, as the walk addresses them. -/
theorem Rd.elem {α : Type} {S : Nat → Prop} {w : World} {a : Option Addr} {n m c : Nat} {cells : α → List Value} {size : Nat} {l : List α} {k : Nat} {x : α} (h : Rd S w (.slice a n c) m (l.flatMap cells)) (hs : ∀ x, (cells x).length = size) (hp : 0 < size) (hk : l[k]? = some x) :
    ∃ b o, a = some ⟨b, o, none⟩ ∧ S b ∧ ∀ j, j < size → w.cell? ⟨b, o + k * size + j, none⟩ = (cells x)[j]? := by
  have hkl : k < l.length := (List.getElem?_eq_some_iff.1 hk).1
  have hm : ∀ j, j < size → k * size + j < l.length * size := fun j hj => by
    have : (k + 1) * size ≤ l.length * size := Nat.mul_le_mul_right _ (by omega)
    rw [Nat.add_mul] at this
    omega
  obtain ⟨b, o, ha, hb, hc⟩ := h.at (by rw [flat_length cells size hs]; have := hm 0 hp; omega)
  refine ⟨b, o, ha, hb, fun j hj => ?_⟩
  rw [Nat.add_assoc, hc (k * size + j) (by rw [flat_length cells size hs]; exact hm j hj), flat_get cells size hs l k j x hk hj]
theorem flat_drop {α : Type} (cells : α → List Value) (size : Nat) (hlen : ∀ x, (cells x).length = size) : ∀ (l : List α) (m : Nat), (l.flatMap cells).drop (m * size) = (l.drop m).flatMap cells
  | [], m => by simp
  | a :: t, 0 => by simp
  | a :: t, m + 1 => by
    simp only [List.flatMap_cons, List.drop_succ_cons]
    rw [show (m + 1) * size = (cells a).length + m * size by rw [hlen, Nat.add_mul]; omega, List.drop_length_add_append, flat_drop cells size hlen t m]
end Go.Proofs.YtkiikblpgppmkaaGreatDoor

namespace Go.Proofs.YtkiikblpgppmkaaGreatDoor
open Go Go.RowKit
set_option linter.unusedVariables false
set_option linter.unusedSimpArgs false

theorem made_flat (z : Array Value) (hz : 0 < z.size) : ∀ n, (madeCells z (n * z.size)).toList = (List.replicate n z.toList).flatten := by
  have h : ∀ n, (List.range (n * z.size)).map (fun j => z[j % z.size]!) = (List.replicate n z.toList).flatten := by
    intro n
    induction n with
    | zero => simp
    | succ n ih =>
      rw [show (n + 1) * z.size = z.size + n * z.size by rw [Nat.add_mul]; omega, List.range_add, List.map_append, List.map_map, List.replicate_succ, List.flatten_cons, ← ih]
      congr 1
      · apply List.ext_getElem
        · simp
        · intro i h1 h2
          simp at h1 h2
          simp [Nat.mod_eq_of_lt h2, h2]
      · refine List.map_congr_left fun i _ => ?_
        simp [Nat.add_mod_left]
  intro n
  simpa [madeCells] using h n

theorem run_make {P : Program} {t e : TypeId} {size bytes : Nat} (z : Value) (ht : P.underlying t = some (.slice e)) (hi : (P.info? e).map (fun i => (i.zero, i.size, i.bytes)) = some (some z, size, bytes)) (hz : z.cells.size = size) (hp : 0 < size)
    (kl kc : IntKind) (n : Nat) (hb : bytes * n ≤ 281474976710656) (hn : n ≤ maxLen) (w : World) :
    ∃ w', (Instr.makeSlice t (.int kl (n : Int)) (.int kc (n : Int))).run P w = .ok (.slice (some ⟨w.heap.size, 0, none⟩) n n) w' ∧
      Own (New w w') w' e size (.slice (some ⟨w.heap.size, 0, none⟩) n n) n (List.replicate n z.cells.toList).flatten ∧ Keep w w' Nope := by
  obtain ⟨i, h1, h2, h3, h4⟩ := info_parts hi
  obtain ⟨w', h5, h6, h7⟩ := run_make_full (P := P) w 0 t e i z size ht h1 h2 h3 kl kc n (by rw [h4]; exact hb) hn (Nat.zero_le _)
  have hk : Keep w w' Nope := (Keep.refl w Nope).grown h7 (fun k h => by cases h)
  subst hz
  rw [made_flat _ hp] at h6
  refine ⟨w', h5, ⟨h6, fun g hg => ?_⟩, hk⟩
  have e : g = w.heap.size := by simp [Value.ownBlock] at hg; exact hg.symm
  subst e
  exact ⟨Nat.le_refl _, (h6.lt _ (by simp [Value.ownBlock])).2⟩

/-- The first m of a slice of the call's own. -/
theorem Own.cut {S : Nat → Prop} {w : World} {e : TypeId} {size : Nat} {a : Option Addr} {n c : Nat} {xs : List Value} (h : Own S w e size (.slice a n c) n xs) (m : Nat) (hm : m ≤ n) : Own S w e size (.slice a m c) m (xs.take (m * size)) := by
  have hl := h.len
  rcases h.view with ⟨hv, h0, hx⟩ | ⟨g, cap, cur, hv, hS, hb, r1, r2, r3, r4⟩
  · injection hv with h1 _ h3
    subst h1; subst h3
    obtain rfl : m = 0 := by omega
    subst hx
    rw [List.take_nil]
    exact Own.nil S w e size
  · injection hv with h1 _ h3
    subst h1; subst h3
    refine ⟨⟨?_, .inr ⟨g, c, cur, rfl, Nat.zero_le _, hb, by omega, r2, r3, ?_⟩⟩, fun g' hg' => ?_⟩
    · rw [List.length_take, hl]
      exact Nat.min_eq_left (Nat.mul_le_mul_right _ hm)
    · rw [← r4, List.take_take, Nat.min_eq_left (Nat.mul_le_mul_right _ hm)]
    · simp [Value.ownBlock] at hg'
      exact hg' ▸ hS
theorem St.cut {w0 w : World} {l : List Asr} (h : St w0 w l) (i : Nat) {e : TypeId} {size n c : Nat} {a : Option Addr} {xs : List Value} (hi : l[i]? = some (slA e size (.slice a n c) n xs)) (m : Nat) (hm : m ≤ n) :
    St w0 w (l.set i (slA e size (.slice a m c) m (xs.take (m * size)))) := h.weaken i hi (fun _ hG => Own.cut hG m hm)
/-- make, in a call. -/
theorem St.make {P : Program} {w0 w : World} {l : List Asr} (h : St w0 w l) {t e : TypeId} {size bytes : Nat} (z : Value) (ht : P.underlying t = some (.slice e)) (hi : (P.info? e).map (fun i => (i.zero, i.size, i.bytes)) = some (some z, size, bytes)) (hz : z.cells.size = size) (hp : 0 < size)
    (kl kc : IntKind) (n : Nat) (hb : bytes * n ≤ 281474976710656) (hn : n ≤ maxLen) :
    ∃ w', (Instr.makeSlice t (.int kl (n : Int)) (.int kc (n : Int))).run P w = .ok (.slice (some ⟨w.heap.size, 0, none⟩) n n) w' ∧
      St w0 w' (l ++ [slA e size (.slice (some ⟨w.heap.size, 0, none⟩) n n) n (List.replicate n z.cells.toList).flatten]) := by
  obtain ⟨w', h1, h2, h3⟩ := run_make z ht hi hz hp kl kc n hb hn w
  exact ⟨w', h1, h.add h3 h2⟩

/-- One cell of one element is set. -/
theorem flat_set {α : Type} (cells : α → List Value) (size : Nat) (hlen : ∀ x, (cells x).length = size) (x : α) (j : Nat) (u : Value) (hj : j < size) : ∀ (l : List α) (k : Nat) (y : α), l[k]? = some y → cells x = (cells y).set j u → (l.flatMap cells).set (k * size + j) u = (l.set k x).flatMap cells
  | [], _, _, h, _ => by simp at h
  | a :: t, 0, y, h, he => by
    simp at h
    subst h
    simp only [List.flatMap_cons, List.set_cons_zero, Nat.zero_mul, Nat.zero_add]
    rw [List.set_append_left _ _ (by rw [hlen]; exact hj), he]
  | a :: t, k + 1, y, h, he => by
    simp only [List.flatMap_cons, List.set_cons_succ]
    rw [List.set_append_right _ _ (by rw [hlen, Nat.add_mul]; omega), hlen]
    rw [show (k + 1) * size + j - size = k * size + j by rw [Nat.add_mul]; omega]
    rw [flat_set cells size hlen x j u hj t k y (by simpa using h) he]
theorem flat_take {α : Type} (cells : α → List Value) (size : Nat) (hlen : ∀ x, (cells x).length = size) : ∀ (l : List α) (m : Nat), (l.flatMap cells).take (m * size) = (l.take m).flatMap cells
  | [], m => by simp
  | a :: t, 0 => by simp
  | a :: t, m + 1 => by
    simp only [List.flatMap_cons, List.take_succ_cons]
    rw [show (m + 1) * size = (cells a).length + m * size by rw [hlen, Nat.add_mul]; omega, List.take_length_add_append, flat_take cells size hlen t m]
theorem flat_replicate {α : Type} (cells : α → List Value) (x : α) (n : Nat) : (List.replicate n x).flatMap cells = (List.replicate n (cells x)).flatten := by
  induction n with
  | zero => simp
  | succ n ih => rw [List.replicate_succ, List.flatMap_cons, ih, List.replicate_succ, List.flatten_cons]

/-- The built-in append as one operation of a region. -/
theorem step_app {P : Program} {t e : TypeId} {size bytes : Nat} (hT : SlTy P t e size bytes) {o : Oper} {a : Act} {w : World} {K : Act → World → Prop} {Q : Exit → Act → World → Prop} (s x : Operand)
    (ho : o.op = .call { callee := .builtin .append, args := #[s, x], argTypes := #[t, t] })
    {S S2 : Nat → Prop} {v y : Value} {n m : Nat} {xs news : List Value} (hs : a.eval s = v) (hy : a.eval x = y)
    (hown : Own S w e size v n xs) (hx : Rd S2 w y m news) (hl : news.length = m * size) (h1 : ∀ u ∈ news, u.oneCell' = true) (hbytes : (n + m) * bytes ≤ 140737488355328) (hlen : n + m ≤ maxLen)
    (h : ∀ a' k c' w', App S w w' e size v (.slice a' k c') n m k xs news → K (a.put o.dst (.slice a' k c')) w') : Oper.wp P o a w K Q := by
  obtain ⟨v', w', hr, h2, h3, h4⟩ := run_app hT o.type hown hx hl h1 hbytes hlen
  obtain ⟨a', c', rfl⟩ := h2.form
  unfold Oper.wp execOp
  simp only [ho, resolve, invoke, builtin, Sem.run_bind, Sem.run_pure, Result.andThen_ok, List.map_toArray, List.map_cons, List.map_nil, hs, hy, hr]
  exact h a' _ c' w' ⟨h2.tight.mono (fun i hi => hi.1.elim .inl (fun h => .inr ⟨h, hi.2⟩)), rfl, h3, h4⟩

/-- Behind an append, seen from a world that is a little older. -/
theorem app_up {wr wcur w5 : World} {G : Nat → Prop} {e : TypeId} {size n m k : Nat} {v y : Value} {xs news : List Value} (kw : Keep wr wcur Nope) (happ : App G wcur w5 e size v y n m k xs news) :
    Keep wr w5 G ∧ (slA e size y k (xs ++ news)).at' w5 (fun x => G x ∨ New wr w5 x) := by
  have hs := kw.size
  refine ⟨(kw.mono (T := G) (fun i f => f.elim)).trans happ.keep (fun i h => .inl h), happ.own.mono (fun i hi => hi.imp id (fun h => ⟨Nat.le_trans hs h.1, h.2⟩))⟩

end Go.Proofs.YtkiikblpgppmkaaGreatDoor

namespace Go.Proofs.YtkiikblpgppmkaaGreatDoor
open Go Go.RowKit
set_option linter.unusedVariables false
set_option linter.unusedSimpArgs false

/-- A claim of several parts is taken apart: the parts stand first. -/
theorem St.split {w0 w : World} {L ps : List Asr} (h : St w0 w L) (i : Nat) (hi : L[i]? = some (starA ps)) : St w0 w (ps ++ L.set i empA) := by
  obtain ⟨hb, G, h1, h2, h3⟩ := h
  obtain ⟨K, k1, k2, k3⟩ := h1 i _ hi
  refine ⟨hb, fun j x => if j < ps.length then K j x else if j - ps.length = i then False else G (j - ps.length) x, fun j A hj => ?_, fun j x hx => ?_, fun j k x hj hk => ?_⟩
  · by_cases e : j < ps.length
    · rw [List.getElem?_append_left e] at hj
      simpa [e] using k1 j A hj
    · rw [List.getElem?_append_right (by omega)] at hj
      by_cases e2 : j - ps.length = i
      · rw [e2, List.getElem?_set_self (List.getElem?_eq_some_iff.1 hi).1] at hj
        cases hj
        trivial
      · rw [List.getElem?_set_ne (fun e' => e2 e'.symm)] at hj
        simpa [e, e2] using h1 _ A hj
  · by_cases e : j < ps.length
    · simp [e] at hx
      exact h2 i x (k2 j x hx)
    · by_cases e2 : j - ps.length = i
      · simp [e, e2] at hx
      · simp [e, e2] at hx
        exact h2 _ x hx
  · by_cases e : j < ps.length <;> by_cases e' : k < ps.length
    · simp [e] at hj
      simp [e'] at hk
      exact k3 j k x hj hk
    · by_cases e2 : k - ps.length = i
      · simp [e', e2] at hk
      · simp [e] at hj
        simp [e', e2] at hk
        exact (e2 (h3 _ _ x hk (k2 j x hj))).elim
    · by_cases e2 : j - ps.length = i
      · simp [e, e2] at hj
      · simp [e, e2] at hj
        simp [e'] at hk
        exact (e2 (h3 _ _ x hj (k2 k x hk))).elim
    · by_cases e2 : j - ps.length = i
      · simp [e, e2] at hj
      · by_cases e3 : k - ps.length = i
        · simp [e', e3] at hk
        · simp [e, e2] at hj
          simp [e', e3] at hk
          have := h3 _ _ x hj hk
          omega
/-- The parts that stand first are put together. -/
theorem St.join {w0 w : World} {L ps : List Asr} (h : St w0 w (ps ++ L)) (i : Nat) (hi : i < L.length) : St w0 w (L.set i (starA ps)) := by
  obtain ⟨hb, G, h1, h2, h3⟩ := h
  refine ⟨hb, fun m x => if m = i then ∃ j, j < ps.length ∧ G j x else G (ps.length + m) x, fun j A hj => ?_, fun j x hx => ?_, fun j k x hj hk => ?_⟩
  · by_cases e : j = i
    · subst e
      rw [List.getElem?_set_self hi] at hj
      cases hj
      refine (starA ps).mono (F := fun x => ∃ j, j < ps.length ∧ G j x) ?_ (fun x hx => by simpa using hx)
      exact ⟨fun m x => m < ps.length ∧ G m x, fun m B hm => B.mono (h1 m B (by rw [List.getElem?_append_left (List.getElem?_eq_some_iff.1 hm).1]; exact hm)) (fun x hx => ⟨(List.getElem?_eq_some_iff.1 hm).1, hx⟩), fun m x hx => ⟨m, hx⟩, fun m k x hm hk => h3 m k x hm.2 hk.2⟩
    · rw [List.getElem?_set_ne (fun e' => e e'.symm)] at hj
      have := h1 (ps.length + j) A (by rw [List.getElem?_append_right (by omega), Nat.add_sub_cancel_left]; exact hj)
      simpa [e] using this
  · by_cases e : j = i
    · simp [e] at hx
      obtain ⟨m, _, hm⟩ := hx
      exact h2 m x hm
    · simp [e] at hx
      exact h2 _ x hx
  · by_cases e : j = i <;> by_cases e' : k = i
    · omega
    · simp [e] at hj
      simp [e'] at hk
      obtain ⟨m, hm, hj⟩ := hj
      have := h3 _ _ x hj hk
      omega
    · simp [e] at hj
      simp [e'] at hk
      obtain ⟨m, hm, hk⟩ := hk
      have := h3 _ _ x hj hk
      omega
    · simp [e] at hj
      simp [e'] at hk
      have := h3 _ _ x hj hk
      omega
/-- A claim of several parts that hang on something unsaid. -/
theorem St.exSplit {α : Type} {f : α → List Asr} {w0 w : World} {L : List Asr} (h : St w0 w L) (i : Nat) (hi : L[i]? = some (exA fun p => starA (f p))) : ∃ p, St w0 w (f p ++ L.set i empA) := by
  obtain ⟨G, h1, _, h3, _⟩ := h.opens i hi
  obtain ⟨p, h1⟩ := h1
  have hil := (List.getElem?_eq_some_iff.1 hi).1
  have h2 := (h3 w (starA (f p)) (Keep.refl _ _) ((starA _).mono h1 (fun _ hx => .inl hx))).split i (List.getElem?_set_self hil)
  rw [List.set_set] at h2
  exact ⟨p, h2⟩
theorem St.exJoin {α : Type} (f : α → List Asr) (p : α) {w0 w : World} {L : List Asr} (i : Nat) (hi : i < L.length) (h : St w0 w (f p ++ L.set i empA)) : St w0 w (L.set i (exA fun p => starA (f p))) := by
  have h2 := h.join i (by rw [List.length_set]; exact hi)
  rw [List.set_set] at h2
  have h3 := h2.weaken i (B := exA fun p => starA (f p)) (List.getElem?_set_self hi) (fun G hG => ⟨p, hG⟩)
  rw [List.set_set] at h3
  exact h3
/-- The same, with one claim more behind. -/
theorem St.exJoin1 {α : Type} (f : α → List Asr) (p : α) {w0 w : World} {L : List Asr} {A : Asr} (i : Nat) (hi : i < L.length) (h : St w0 w ((f p ++ L.set i empA) ++ [A])) : St w0 w (L.set i (exA fun p => starA (f p)) ++ [A]) := by
  have h1 : St w0 w (f p ++ (L ++ [A]).set i empA) := by rw [List.set_append_left _ _ hi, ← List.append_assoc]; exact h
  have h2 := St.exJoin f p (L := L ++ [A]) i (by simp; omega) h1
  rw [List.set_append_left _ _ hi] at h2
  exact h2
end Go.Proofs.YtkiikblpgppmkaaGreatDoor

namespace Go.Proofs.YtkiikblpgppmkaaGreatDoor
open Go Go.RowKit
set_option linter.unusedVariables false
set_option linter.unusedSimpArgs false

/-- It answers v, and nothing old has turned. -/
def Ret (w : World) (v : Value) (en : Ending) (w' : World) : Prop := en = .returned v ∧ Keep w w' Nope
/-- A slice of the call's own, new behind w, is handed back; nothing old has turned. -/
def RetOwn (w : World) (e : TypeId) (size : Nat) (xs : List Value) (en : Ending) (w' : World) : Prop :=
  ∃ a n c, en = .returned (.slice a n c) ∧ Own (New w w') w' e size (.slice a n c) n xs ∧ Keep w w' Nope
end Go.Proofs.YtkiikblpgppmkaaGreatDoor

namespace Go.Proofs.YtkiikblpgppmkaaGreatDoor
open Go Go.RowKit
set_option linter.unusedVariables false
set_option linter.unusedSimpArgs false

section
variable {P : Program} {ops : Array Oper} {Q : Exit → Act → World → Prop} {md : Region.Mode} {r : Nat} {S : World → Prop}

/-- Whatever order is picked from here on; S holds behind every operation, as long as number r has not come up. -/
def wpAnyM (P : Program) (md : Region.Mode) (ops : Array Oper) (Q : Exit → Act → World → Prop) (r : Nat) (S : World → Prop) : Nat → Array Bool → Act → World → Prop
  | 0, listed, a, w => Region.ready md ops listed = [] ∧ Q .normal a w
  | n + 1, listed, a, w =>
    (Region.ready md ops listed = [] → Q .normal a w) ∧
    ∀ i ∈ Region.ready md ops listed, wpOp P ops Q i (fun a' w' => ((listed.setIfInBounds i true).getD r true = false → S w') ∧ wpAnyM P md ops Q r S n (listed.setIfInBounds i true) a' w') a w

theorem wpAny_ofM : ∀ (n : Nat) (listed : Array Bool) (a : Act) (w : World), wpAnyM P md ops Q r S n listed a w → wpAny P md ops Q n listed a w
  | 0, _, _, _, h => h
  | n + 1, _, _, _, h => ⟨h.1, fun i hi => wpOp_mono (fun a' w' h' => wpAny_ofM n _ a' w' h'.2) (h.2 i hi)⟩

theorem wpAnyM_first {i : Nat} {oi : Oper} {v : Value} (hi : ops[i]? = some oi) (hsel : ∀ (j : Nat) (o : Oper) cs b, ops[j]? = some o → o.op ≠ .select cs b)
    (hQ : ∀ c a w, Q (.panic c) (a.put oi.dst v) w → Q (.panic c) a w) (hri : Region.waitsFor md ops r i = true) :
    ∀ (n : Nat) (listed : Array Bool) (a : Act) (w : World),
      (∀ j oj, ops[j]? = some oj → j ≠ i → listed.getD j true = false → (∀ e ∈ oj.after, Region.binds md e = true → e.on ≠ i) → oi.apart ops oj = true) →
      i ∈ Region.ready md ops listed → listed.getD r true = false → YieldsIf P ops S oi v a → S w →
      wpAnyM P md ops Q r S n (listed.setIfInBounds i true) (a.put oi.dst v) w → wpAnyM P md ops Q r S (n + 1) listed a w := by
  intro n
  induction n with
  | zero =>
    intro listed a w _ hr _ hy hS H
    refine ⟨fun h => (by rw [h] at hr; cases hr), fun j hj => ?_⟩
    by_cases hji : j = i
    · subst hji; exact hy.wpOp hi hS ⟨fun _ => hS, H⟩
    · have := ready_mono hj hji
      rw [H.1] at this
      cases this
  | succ n ih =>
    intro listed a w hfree hr hlr hy hS H
    refine ⟨fun h => (by rw [h] at hr; cases hr), fun j hj => ?_⟩
    by_cases hji : j = i
    · subst hji; exact hy.wpOp hi hS ⟨fun _ => hS, H⟩
    · have h1 := H.2 j (ready_mono hj hji)
      obtain ⟨hjun, oj, hoj, hall⟩ := mem_ready.1 hj
      have hpend : listed.getD i false = false := getD_both (mem_ready.1 hr).1
      have hnot : ∀ e ∈ oj.after, Region.binds md e = true → e.on ≠ i := fun e he hb heq => by
        have h1 := hall e he hb
        rw [heq, hpend] at h1
        cases h1
      obtain ⟨orr, horr, e0, he0, hb0, hon0⟩ := Region.waitsFor_spec hri
      have hrj : j ≠ r := by
        rintro rfl
        have : oj = orr := Option.some.inj (hoj.symm.trans horr)
        subst this
        exact hnot e0 he0 hb0 hon0
      have hir : i ≠ r := by
        rintro rfl
        obtain ⟨_, oi', hoi', hall'⟩ := mem_ready.1 hr
        have : oi' = orr := Option.some.inj (hoi'.symm.trans horr)
        subst this
        have h2 := hall' e0 he0 hb0
        rw [hon0, hpend] at h2
        cases h2
      have hlj : (listed.setIfInBounds j true).getD r true = false := by rw [getD_set_ne true hrj]; exact hlr
      have h2 := wpOp_putIf hoj (hfree j oj hoj hji hjun hnot) (fun cs b => hsel i oi cs b hi) (fun cs b => hsel j oj cs b hoj) hQ hy h1
      have hfree' : ∀ k ok, ops[k]? = some ok → k ≠ i → (listed.setIfInBounds j true).getD k true = false →
          (∀ e ∈ ok.after, Region.binds md e = true → e.on ≠ i) → oi.apart ops ok = true := fun k ok hk hki hun hno => by
        refine hfree k ok hk hki ?_ hno
        by_cases hjk : j = k
        · subst hjk; exact hjun
        · rw [getD_set_ne true hjk] at hun; exact hun
      refine wpOp_mono (fun a' w' h3 => ?_) h2
      have hS' : S w' := h3.2.1 (by rw [getD_set_ne true hrj, getD_set_ne true hir]; exact hlr)
      refine ⟨fun _ => hS', ih (listed.setIfInBounds j true) a' w' hfree' (ready_mono hr (Ne.symm hji)) hlj h3.1 hS' ?_⟩
      rw [Array.setIfInBounds_comm _ _ hji]
      exact h3.2.2

theorem wpAnyM_take {i : Nat} {oi : Oper} {v : Value} {n : Nat} {listed : Array Bool} {a : Act} {w : World} (hi : ops[i]? = some oi)
    (hs : Region.noSelect ops = true) (hf : Region.free md ops listed i = true) (hr : (Region.ready md ops listed).contains i = true) (hri : Region.waitsFor md ops r i = true) (hlr : listed.getD r true = false)
    (hQ : ∀ c a w, Q (.panic c) (a.put oi.dst v) w → Q (.panic c) a w) (hy : YieldsIf P ops S oi v a) (hS : S w)
    (h : wpAnyM P md ops Q r S n (listed.setIfInBounds i true) (a.put oi.dst v) w) : wpAnyM P md ops Q r S (n + 1) listed a w :=
  wpAnyM_first hi (Region.noSelect_spec hs) hQ hri n listed a w (Region.free_spec hi hf) (by simpa using hr) hlr hy hS h

/-- An operation that yields its value in whatever world is taken first: nothing is asked of S. -/
theorem wpAnyM_firstP {i : Nat} {oi : Oper} {v : Value} (hi : ops[i]? = some oi) (hsel : ∀ (j : Nat) (o : Oper) cs b, ops[j]? = some o → o.op ≠ .select cs b)
    (hQ : ∀ c a w, Q (.panic c) (a.put oi.dst v) w → Q (.panic c) a w) (hir : i ≠ r) :
    ∀ (n : Nat) (listed : Array Bool) (a : Act) (w : World),
      (∀ j oj, ops[j]? = some oj → j ≠ i → listed.getD j true = false → (∀ e ∈ oj.after, Region.binds md e = true → e.on ≠ i) → oi.apart ops oj = true) →
      i ∈ Region.ready md ops listed → YieldsIf P ops (fun _ => True) oi v a → (listed.getD r true = false → S w) →
      wpAnyM P md ops Q r S n (listed.setIfInBounds i true) (a.put oi.dst v) w → wpAnyM P md ops Q r S (n + 1) listed a w := by
  intro n
  induction n with
  | zero =>
    intro listed a w _ hr hy hS H
    refine ⟨fun h => (by rw [h] at hr; cases hr), fun j hj => ?_⟩
    by_cases hji : j = i
    · subst hji; exact hy.wpOp hi trivial ⟨fun h => hS (by rw [getD_set_ne true hir] at h; exact h), H⟩
    · have := ready_mono hj hji
      rw [H.1] at this
      cases this
  | succ n ih =>
    intro listed a w hfree hr hy hS H
    refine ⟨fun h => (by rw [h] at hr; cases hr), fun j hj => ?_⟩
    by_cases hji : j = i
    · subst hji; exact hy.wpOp hi trivial ⟨fun h => hS (by rw [getD_set_ne true hir] at h; exact h), H⟩
    · have h1 := H.2 j (ready_mono hj hji)
      obtain ⟨hjun, oj, hoj, hall⟩ := mem_ready.1 hj
      have hpend : listed.getD i false = false := getD_both (mem_ready.1 hr).1
      have hnot : ∀ e ∈ oj.after, Region.binds md e = true → e.on ≠ i := fun e he hb heq => by
        have h1 := hall e he hb
        rw [heq, hpend] at h1
        cases h1
      have h2 := wpOp_putIf hoj (hfree j oj hoj hji hjun hnot) (fun cs b => hsel i oi cs b hi) (fun cs b => hsel j oj cs b hoj) hQ hy h1
      have hfree' : ∀ k ok, ops[k]? = some ok → k ≠ i → (listed.setIfInBounds j true).getD k true = false →
          (∀ e ∈ ok.after, Region.binds md e = true → e.on ≠ i) → oi.apart ops ok = true := fun k ok hk hki hun hno => by
        refine hfree k ok hk hki ?_ hno
        by_cases hjk : j = k
        · subst hjk; exact hjun
        · rw [getD_set_ne true hjk] at hun; exact hun
      refine wpOp_mono (fun a' w' h3 => ?_) h2
      have hS' : (listed.setIfInBounds j true).getD r true = false → S w' := fun h => h3.2.1 (by
        rw [Array.setIfInBounds_comm _ _ (Ne.symm hji), getD_set_ne true hir]; exact h)
      refine ⟨hS', ih (listed.setIfInBounds j true) a' w' hfree' (ready_mono hr (Ne.symm hji)) h3.1 hS' ?_⟩
      rw [Array.setIfInBounds_comm _ _ hji]
      exact h3.2.2
theorem wpAnyM_takeP {i : Nat} {oi : Oper} {v : Value} {n : Nat} {listed : Array Bool} {a : Act} {w : World} (hi : ops[i]? = some oi)
    (hs : Region.noSelect ops = true) (hf : Region.free md ops listed i = true) (hr : (Region.ready md ops listed).contains i = true) (hir : (i == r) = false)
    (hQ : ∀ c a w, Q (.panic c) (a.put oi.dst v) w → Q (.panic c) a w) (hy : YieldsIf P ops (fun _ => True) oi v a) (hS : listed.getD r true = false → S w)
    (h : wpAnyM P md ops Q r S n (listed.setIfInBounds i true) (a.put oi.dst v) w) : wpAnyM P md ops Q r S (n + 1) listed a w :=
  wpAnyM_firstP hi (Region.noSelect_spec hs) hQ (by simpa using hir) n listed a w (Region.free_spec hi hf) (by simpa using hr) hy hS h

theorem wpAnyM_done {listed : Array Bool} {a : Act} {w : World} (hr : Region.ready md ops listed = []) (h : Q .normal a w) : ∀ n, wpAnyM P md ops Q r S n listed a w
  | 0 => ⟨hr, h⟩
  | _ + 1 => ⟨fun _ => h, by rw [hr]; simp⟩

def AllReadyM (P : Program) (md : Region.Mode) (ops : Array Oper) (Q : Exit → Act → World → Prop) (r : Nat) (S : World → Prop) (n : Nat) (listed : Array Bool) (a : Act) (w : World) (rs : List Nat) : Prop :=
  ∀ i ∈ rs, wpOp P ops Q i (fun a' w' => ((listed.setIfInBounds i true).getD r true = false → S w') ∧ wpAnyM P md ops Q r S n (listed.setIfInBounds i true) a' w') a w
theorem AllReadyM.nil {n : Nat} {listed : Array Bool} {a : Act} {w : World} : AllReadyM P md ops Q r S n listed a w [] := fun _ h => by cases h
theorem AllReadyM.cons {n : Nat} {listed : Array Bool} {a : Act} {w : World} {i : Nat} {o : Oper} {rs : List Nat} (ho : ops[i]? = some o)
    (h : ∀ K' : Act → World → Prop, Shut (∀ a w, S w → (S w → wpAnyM P md ops Q r S n (listed.setIfInBounds i true) a w) → K' a w) → if Region.wanted o (yielded ops a.tmps) = true then Oper.wp P o a w K' Q else K' (a.put o.dst undef) w)
    (hs : AllReadyM P md ops Q r S n listed a w rs) : AllReadyM P md ops Q r S n listed a w (i :: rs) := fun j hj => by
  rcases List.mem_cons.1 hj with rfl | hj
  · exact wpOp_step ho (fun K' hK => h K' (fun a w hS hW => hK a w ⟨fun _ => hS, hW hS⟩))
  · exact hs j hj
/-- Number r has come up, or comes up now: nothing is to be shown. -/
theorem AllReadyM.free {n : Nat} {listed : Array Bool} {a : Act} {w : World} {i : Nat} {o : Oper} {rs : List Nat} (ho : ops[i]? = some o) (hl : (listed.setIfInBounds i true).getD r true = true)
    (h : ∀ K' : Act → World → Prop, Shut (∀ a w, wpAnyM P md ops Q r S n (listed.setIfInBounds i true) a w → K' a w) → if Region.wanted o (yielded ops a.tmps) = true then Oper.wp P o a w K' Q else K' (a.put o.dst undef) w)
    (hs : AllReadyM P md ops Q r S n listed a w rs) : AllReadyM P md ops Q r S n listed a w (i :: rs) := fun j hj => by
  rcases List.mem_cons.1 hj with rfl | hj
  · exact wpOp_step ho (fun K' hK => h K' (fun a w hW => hK a w ⟨(fun e => by rw [hl] at e; cases e), hW⟩))
  · exact hs j hj
theorem wpAnyM_ready {rs : List Nat} {n : Nat} {listed : Array Bool} {a : Act} {w : World} (hr : Region.ready md ops listed = rs) (hne : rs ≠ [])
    (h : AllReadyM P md ops Q r S n listed a w rs) : wpAnyM P md ops Q r S (n + 1) listed a w :=
  ⟨fun h0 => absurd (hr ▸ h0) hne, hr ▸ h⟩

theorem wp_region_M {id : Nat} {a : Act} {w : World} (hm : P.follows .mixedOrders = true) (hS : S w.drew)
    (h : S w.drew → wpAnyM P .any ops Q r S ops.size (Array.replicate ops.size false) a w.drew) : (Code.region id ops true).wp P Q a w :=
  wp_region_any hm (wpAny_ofM _ _ _ _ (h hS))
end
/-- The built-in max of two numbers as one operation of a region. -/
theorem step_max {P : Program} {t t' : TypeId} {o : Oper} {a : Act} {w : World} {K : Act → World → Prop} {Q : Exit → Act → World → Prop} (x y : Operand)
    (ho : o.op = .call { callee := .builtin .max, args := #[x, y], argTypes := #[t, t'] }) {k k' : IntKind} {m n r : Int} (hx : a.eval x = .int k m) (hy : a.eval y = .int k' n) (hr : (if n > m then n else m) = r)
    (h : K (a.put o.dst (.int k r)) w) : Oper.wp P o a w K Q := by
  subst hr
  unfold Oper.wp execOp
  simp only [ho, resolve, invoke, builtin, Sem.run_bind, Sem.run_pure, Result.andThen_ok, List.map_toArray, List.map_cons, List.map_nil, hx, hy, run_max_int2]
  exact h
/-- A slice expression s[l:]: what is read through it. -/
structure CutL (size : Nat) (a a' : Option Addr) (n c l n' c' : Nat) : Prop where
  rd : ∀ (S : Nat → Prop) (w : World) (xs : List Value), xs.length = n * size → Rd S w (.slice a n c) n xs → Rd S w (.slice a' n' c') n' (xs.drop (l * size))
  num : n' + l = n
  cap : c' + l = c
  nil : a' = none → a = none
theorem cutL_of (size : Nat) (a : Option Addr) (n c l : Nat) (hl : l ≤ n) (hc : n ≤ c) : CutL size a (if c = l then a else a.map (·.add (l * size))) n c l (n - l) (c - l) := by
  refine ⟨fun S w xs hx h => ?_, by omega, by omega, fun h => ?_⟩
  · obtain ⟨a', c', he, h1, h2, h3, h4⟩ := h
    injection he with e1 _ e3
    subst e1; subst e3
    refine ⟨_, _, rfl, by omega, by omega, fun hn => ?_, fun j u hu => ?_⟩
    · have hn' : a = none := by
        split at hn
        · exact hn
        · cases a with
          | none => rfl
          | some _ => cases hn
      obtain ⟨r1, r2⟩ := h3 hn'
      omega
    · rw [List.getElem?_drop] at hu
      obtain ⟨b, o, rfl, hb, hcell⟩ := h4 _ u hu
      by_cases e : c = l
      · exfalso
        have := (List.getElem?_eq_some_iff.1 hu).1
        have : n = l := by omega
        subst this
        omega
      · refine ⟨b, o + l * size, ?_, hb, by rw [Nat.add_assoc]; exact hcell⟩
        rw [if_neg e]
        simp only [Option.map_some, Addr.add]
        split
        · rename_i h0; simp [h0]
        · rfl
  · split at h
    · exact h
    · cases a with
      | none => rfl
      | some _ => cases h
/-- s[:h], run anywhere. -/
theorem slice_h_any {P : Program} {t e : TypeId} {size bytes : Nat} (hT : SlTy P t e size bytes) (ad : Option Addr) (n c h : Nat) (k : IntKind) (hc : h ≤ c) :
    ∀ w, (Instr.sliceAt t (.slice ad n c) none (some (.int k h)) none).run P w = .ok (.slice ad h c) w := by
  intro w
  obtain ⟨ht, ⟨i, z, hi, hz, hsize, hby, hzs⟩, hsz⟩ := hT
  have hr : (Instr.slice t (.slice ad n c) none (some (.int k h)) none).run P w = .ok (.slice ad h c) w := by
    simp [Instr.slice, run_underlying ht, Instr.sliceBounds, Instr.sliceBound, asIntOf, sizeOf, typeInfo, hi, hsize, hc]
    intro _
    cases ad <;> simp [Addr.add]
  have hs : (Instr.sliceAt t (.slice ad n c) none (some (.int k h)) none).run P w = (Instr.slice t (.slice ad n c) none (some (.int k h)) none).run P w := by simp [Instr.sliceAt, run_underlying ht]
  rw [hs, hr]
theorem step_slice_l {P : Program} {t e : TypeId} {size bytes : Nat} (hT : SlTy P t e size bytes) {o : Oper} {a : Act} {w : World} {K : Act → World → Prop} {Q : Exit → Act → World → Prop} (x lo : Operand)
    (ho : o.op = .slice t x (some lo) none none) {ad : Option Addr} {n c l : Nat} {k : IntKind} (hx : a.eval x = .slice ad n c) (hlo : a.eval lo = .int k l) (hl : l ≤ n) (hc : n ≤ c)
    (h : ∀ a' n' c', CutL size ad a' n c l n' c' → K (a.put o.dst (.slice a' n' c')) w) : Oper.wp P o a w K Q := by
  obtain ⟨ht, ⟨i, z, hi, hz, hsize, hby, hzs⟩, hsz⟩ := hT
  have h1 : (l : Int) ≤ (n : Int) := by omega
  have hr : (Instr.slice t (.slice ad n c) (some (.int k l)) none none).run P w = .ok (.slice (if c = l then ad else ad.map (·.add (l * size))) (n - l) (c - l)) w := by
    simp [Instr.slice, run_underlying ht, Instr.sliceBounds, Instr.sliceBound, asIntOf, sizeOf, typeInfo, hi, hsize, hl]
  have hs : (Instr.sliceAt t (.slice ad n c) (some (.int k l)) none none).run P w = (Instr.slice t (.slice ad n c) (some (.int k l)) none none).run P w := by simp [Instr.sliceAt, run_underlying ht]
  unfold Oper.wp execOp
  simp only [ho, hx, hlo, Option.map_some, Option.map_none, Sem.run_bind, Sem.run_pure, Result.andThen_ok, hs, hr]
  exact h _ _ _ (cutL_of size ad n c l hl hc)
end Go.Proofs.YtkiikblpgppmkaaGreatDoor

namespace Go.Proofs.YtkiikblpgppmkaaGreatDoor
open Go Go.RowKit
set_option linter.unusedVariables false

variable {P : Program} {md : Region.Mode} {ops : Array Oper} {Q : Exit → Act → World → Prop} {r : Nat} {S : World → Prop}
theorem tkMP (i : Nat) (oi : Oper) (v : Value) {n : Nat} {listed : Array Bool} {a : Act} {w : World}
    (h : wpAnyM P md ops Q r S n (listed.setIfInBounds i true) (a.put oi.dst v) w)
    (hi : ops[i]? = some oi := by simp only [List.getElem?_toArray, List.getElem?_cons_succ, List.getElem?_cons_zero]; exact rfl)
    (hs : Region.noSelect ops = true := by kernel_rfl) (hf : Region.free md ops listed i = true := by kernel_rfl) (hr : (Region.ready md ops listed).contains i = true := by kernel_rfl) (hir : (i == r) = false := by kernel_rfl)
    (hQ : ∀ c a w, Q (.panic c) (a.put oi.dst v) w → Q (.panic c) a w := by first | exact fun _ _ _ h => h | exact fun _ _ _ h => (HPan.out _ _ _ h).elim)
    (hy : YieldsIf P ops (fun _ => True) oi v a := by refine Or.inl ⟨by rfl, ?_⟩; (intro w hSw; (try dsimp only at hSw); go_simp) <;> with_reducible rfl)
    (hS : listed.getD r true = false → S w := by first | exact fun _ => hHeld | exact fun h => Bool.noConfusion (show true = false from h)) : wpAnyM P md ops Q r S (n + 1) listed a w :=
  wpAnyM_takeP hi hs hf hr hir hQ hy hS h
theorem tkM (i : Nat) (oi : Oper) (v : Value) {n : Nat} {listed : Array Bool} {a : Act} {w : World}
    (h : wpAnyM P md ops Q r S n (listed.setIfInBounds i true) (a.put oi.dst v) w)
    (hi : ops[i]? = some oi := by simp only [List.getElem?_toArray, List.getElem?_cons_succ, List.getElem?_cons_zero]; exact rfl)
    (hs : Region.noSelect ops = true := by kernel_rfl) (hf : Region.free md ops listed i = true := by kernel_rfl) (hr : (Region.ready md ops listed).contains i = true := by kernel_rfl) (hri : Region.waitsFor md ops r i = true := by kernel_rfl) (hlr : listed.getD r true = false := by kernel_rfl)
    (hQ : ∀ c a w, Q (.panic c) (a.put oi.dst v) w → Q (.panic c) a w := by first | exact fun _ _ _ h => h | exact fun _ _ _ h => (HPan.out _ _ _ h).elim)
    (hy : YieldsIf P ops S oi v a := by refine Or.inl ⟨by rfl, ?_⟩; (intro w hSw; (try dsimp only at hSw); go_simp) <;> with_reducible rfl)
    (hS : S w := by assumption) : wpAnyM P md ops Q r S (n + 1) listed a w :=
  wpAnyM_take hi hs hf hr hri hlr hQ hy hS h
theorem tkP (i : Nat) {oi : Oper} {v : Value} {n : Nat} {listed l' : Array Bool} {a a' : Act} {w : World}
    (h : wpAnyM P md ops Q r S n l' a' w)
    (hi : ops[i]? = some oi := by simp only [List.getElem?_toArray, List.getElem?_cons_succ, List.getElem?_cons_zero]; exact rfl)
    (hs : Region.noSelect ops = true := by kernel_rfl) (hf : Region.free md ops listed i = true := by kernel_rfl) (hr : (Region.ready md ops listed).contains i = true := by kernel_rfl) (hir : (i == r) = false := by kernel_rfl)
    (hy : YieldsIf P ops (fun _ => True) oi v a := by refine Or.inl ⟨by rfl, ?_⟩; (intro w hSw; (try dsimp only at hSw); go_simp) <;> with_reducible rfl)
    (hQ : ∀ c a w, Q (.panic c) (a.put oi.dst v) w → Q (.panic c) a w := by first | exact fun _ _ _ h => h | exact fun _ _ _ h => (HPan.out _ _ _ h).elim)
    (hS : listed.getD r true = false → S w := by first | exact fun _ => hHeld | exact fun h => Bool.noConfusion (show true = false from h))
    (ha : a.put oi.dst v = a' := by simp only [Act.put, List.setIfInBounds_toArray, List.set_cons_zero, List.set_cons_succ]; exact rfl)
    (hl : listed.setIfInBounds i true = l' := by (try simp only [List.setIfInBounds_toArray, List.set_cons_zero, List.set_cons_succ]); exact rfl) : wpAnyM P md ops Q r S (n + 1) listed a w := by
  subst ha hl
  exact wpAnyM_takeP hi hs hf hr hir hQ hy hS h
theorem tkH (i : Nat) {oi : Oper} {v : Value} {n : Nat} {listed l' : Array Bool} {a a' : Act} {w : World}
    (h : wpAnyM P md ops Q r S n l' a' w)
    (hi : ops[i]? = some oi := by simp only [List.getElem?_toArray, List.getElem?_cons_succ, List.getElem?_cons_zero]; exact rfl)
    (hs : Region.noSelect ops = true := by kernel_rfl) (hf : Region.free md ops listed i = true := by kernel_rfl) (hr : (Region.ready md ops listed).contains i = true := by kernel_rfl) (hri : Region.waitsFor md ops r i = true := by kernel_rfl) (hlr : listed.getD r true = false := by kernel_rfl)
    (hy : YieldsIf P ops S oi v a := by refine Or.inl ⟨by rfl, ?_⟩; (intro w hSw; (try dsimp only at hSw); go_simp) <;> with_reducible rfl)
    (hQ : ∀ c a w, Q (.panic c) (a.put oi.dst v) w → Q (.panic c) a w := by first | exact fun _ _ _ h => h | exact fun _ _ _ h => (HPan.out _ _ _ h).elim)
    (hS : S w := by assumption)
    (ha : a.put oi.dst v = a' := by simp only [Act.put, List.setIfInBounds_toArray, List.set_cons_zero, List.set_cons_succ]; exact rfl)
    (hl : listed.setIfInBounds i true = l' := by (try simp only [List.setIfInBounds_toArray, List.set_cons_zero, List.set_cons_succ]); exact rfl) : wpAnyM P md ops Q r S (n + 1) listed a w := by
  subst ha hl
  exact wpAnyM_take hi hs hf hr hri hlr hQ hy hS h
theorem tkF (i : Nat) {o : Oper} {n : Nat} {listed : Array Bool} {a : Act} {w : World}
    (h : ∀ K' : Act → World → Prop, Shut (∀ a w, wpAnyM P md ops Q r S n (listed.setIfInBounds i true) a w → K' a w) → if Region.wanted o (yielded ops a.tmps) = true then Oper.wp P o a w K' Q else K' (a.put o.dst undef) w)
    (ho : ops[i]? = some o := by simp only [List.getElem?_toArray, List.getElem?_cons_succ, List.getElem?_cons_zero]; exact rfl)
    (hl : (listed.setIfInBounds i true).getD r true = true := by kernel_rfl) (hr : Region.ready md ops listed = [i] := by kernel_rfl) : wpAnyM P md ops Q r S (n + 1) listed a w :=
  wpAnyM_ready hr (by simp) (AllReadyM.free ho hl h AllReadyM.nil)
theorem tkC (i : Nat) {o : Oper} {n : Nat} {listed : Array Bool} {a : Act} {w : World}
    (h : ∀ K' : Act → World → Prop, Shut (∀ a w, S w → (S w → wpAnyM P md ops Q r S n (listed.setIfInBounds i true) a w) → K' a w) → if Region.wanted o (yielded ops a.tmps) = true then Oper.wp P o a w K' Q else K' (a.put o.dst undef) w)
    (ho : ops[i]? = some o := by simp only [List.getElem?_toArray, List.getElem?_cons_succ, List.getElem?_cons_zero]; exact rfl)
    (hr : Region.ready md ops listed = [i] := by kernel_rfl) : wpAnyM P md ops Q r S (n + 1) listed a w :=
  wpAnyM_ready hr (by simp) (AllReadyM.cons ho h AllReadyM.nil)
theorem tkW (i : Nat) {oi : Oper} {v : Value} {n : Nat} {listed l' : Array Bool} {a a' : Act} {w : World}
    (h : wpAnyH P md ops Q S n l' a' w)
    (hi : ops[i]? = some oi := by simp only [List.getElem?_toArray, List.getElem?_cons_succ, List.getElem?_cons_zero]; exact rfl)
    (hs : Region.noSelect ops = true := by kernel_rfl) (hf : Region.free md ops listed i = true := by kernel_rfl) (hr : (Region.ready md ops listed).contains i = true := by kernel_rfl)
    (hy : YieldsIf P ops S oi v a := by refine Or.inl ⟨by rfl, ?_⟩; (intro w hSw; (try dsimp only at hSw); go_simp) <;> with_reducible rfl)
    (hQ : ∀ c a w, Q (.panic c) (a.put oi.dst v) w → Q (.panic c) a w := by first | exact fun _ _ _ h => h | exact fun _ _ _ h => (HPan.out _ _ _ h).elim)
    (hS : S w := by assumption)
    (ha : a.put oi.dst v = a' := by simp only [Act.put, List.setIfInBounds_toArray, List.set_cons_zero, List.set_cons_succ]; exact rfl)
    (hl : listed.setIfInBounds i true = l' := by (try simp only [List.setIfInBounds_toArray, List.set_cons_zero, List.set_cons_succ]); exact rfl) : wpAnyH P md ops Q S (n + 1) listed a w := by
  subst ha hl
  exact wpAnyH_take hi hs hf hr hQ hy hS h
end Go.Proofs.YtkiikblpgppmkaaGreatDoor
