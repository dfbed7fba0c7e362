/-
  What a call owns: claims on blocks, apart from one another; what a call, a store, an allocation does to them. No program in sight.
-/
import Derived.Test.YtbigknmeooaidaaBase
namespace Go.Proofs.Ytbigknmeooaidaa
open Go Go.RowKit
set_option linter.unusedVariables false
set_option linter.unusedSimpArgs false

/-- A claim on some blocks of a world; a write elsewhere leaves it. -/
structure Asr where
  at' : World → (Nat → Prop) → Prop
  keep : ∀ {w w' : World} {F T : Nat → Prop}, at' w F → Keep w w' T → (∀ i, F i → T i → False) → at' w' F
  mono : ∀ {w : World} {F G : Nat → Prop}, at' w F → (∀ i, F i → G i) → at' w G

/-- Block b is a row of cells of the call's own. -/
def blkA (b : Nat) (cs : Array Value) (t : TypeId) : Asr :=
  ⟨fun w F => Blk w b cs t ∧ F b, fun h hk hd => ⟨h.1.keep hk (hd b h.2), h.2⟩, fun h hG => ⟨h.1, hG _ h.2⟩⟩
/-- A slice of the call's own. -/
def slA (e : TypeId) (size : Nat) (v : Value) (n : Nat) (xs : List Value) : Asr :=
  ⟨fun w F => Own F w e size v n xs, fun h hk hd => h.keep hk hd, fun h hG => h.mono hG⟩
/-- Nothing. -/
def empA : Asr := ⟨fun _ _ => True, fun _ _ _ => trivial, fun _ _ => trivial⟩
def pureA (p : Prop) : Asr := ⟨fun _ _ => p, fun h _ _ => h, fun h _ => h⟩
def exA {α : Type} (f : α → Asr) : Asr :=
  ⟨fun w F => ∃ a, (f a).at' w F, fun ⟨a, h⟩ hk hd => ⟨a, (f a).keep h hk hd⟩, fun ⟨a, h⟩ hG => ⟨a, (f a).mono h hG⟩⟩

/-- Several claims, in blocks apart from one another, all in F. -/
def starAt (l : List Asr) (w : World) (F : Nat → Prop) : Prop :=
  ∃ G : Nat → Nat → Prop, (∀ (i : Nat) (A : Asr), l[i]? = some A → A.at' w (G i)) ∧ (∀ i x, G i x → F x) ∧ (∀ i j x, G i x → G j x → i = j)
def starA (l : List Asr) : Asr :=
  ⟨starAt l, fun ⟨G, h1, h2, h3⟩ hk hd => ⟨G, fun i A hi => A.keep (h1 i A hi) hk (fun x hx ht => hd x (h2 i x hx) ht), h2, h3⟩,
    fun ⟨G, h1, h2, h3⟩ hG => ⟨G, h1, fun i x hx => hG x (h2 i x hx), h3⟩⟩

/-- One claim is opened: what is left of the others stands through whatever is done in its blocks, and in new ones. -/
theorem starAt.opens {l : List Asr} {w : World} {F : Nat → Prop} (h : starAt l w F) (hlt : ∀ x, F x → x < w.heap.size) (i : Nat) {A : Asr} (hi : l[i]? = some A) :
    ∃ G : Nat → Prop, A.at' w G ∧ (∀ x, G x → F x) ∧
      (∀ (w' : World) (B : Asr), Keep w w' G → B.at' w' (fun x => G x ∨ New w w' x) → starAt (l.set i B) w' (fun x => F x ∨ New w w' x)) ∧
      (∀ (w' : World) (B C : Asr), Keep w w' G → starAt [B, C] w' (fun x => G x ∨ New w w' x) → starAt (l.set i B ++ [C]) w' (fun x => F x ∨ New w w' x)) := by
  obtain ⟨G, h1, h2, h3⟩ := h
  have hil : i < l.length := (List.getElem?_eq_some_iff.1 hi).1
  refine ⟨G i, h1 i A hi, h2 i, fun w' B hk hB => ?_, fun w' B C hk hBC => ?_⟩
  · refine ⟨fun j x => if j = i then G i x ∨ New w w' x else G j x, fun j C hj => ?_, fun j x hx => ?_, fun j k x hj hk' => ?_⟩
    · by_cases e : j = i
      · subst e
        rw [List.getElem?_set_self hil] at hj
        cases hj
        simpa using hB
      · rw [List.getElem?_set_ne (fun e' => e e'.symm)] at hj
        have := C.keep (h1 j C hj) hk (fun x hx hx' => e (h3 j i x hx hx'))
        simpa [e] using this
    · by_cases e : j = i
      · subst e
        simp at hx
        exact hx.imp (h2 j x) id
      · simp [e] at hx
        exact .inl (h2 j x hx)
    · by_cases e : j = i <;> by_cases e' : k = i
      · omega
      · subst e
        simp [e'] at hj hk'
        rcases hj with hj | hj
        · exact (h3 _ _ x hj hk')
        · have := hlt x (h2 k x hk'); have := hj.1; omega
      · subst e'
        simp [e] at hj hk'
        rcases hk' with hk' | hk'
        · exact (h3 _ _ x hj hk')
        · have := hlt x (h2 j x hj); have := hk'.1; omega
      · simp [e, e'] at hj hk'
        exact h3 j k x hj hk'
  · obtain ⟨K, k1, k2, k3⟩ := hBC
    refine ⟨fun j x => if j = i then K 0 x else if j = l.length then K 1 x else if j < l.length then G j x else False, fun j D hj => ?_, fun j x hx => ?_, fun j k x hj hk' => ?_⟩
    · by_cases e : j = i
      · subst e
        rw [List.getElem?_append_left (by simpa using hil), List.getElem?_set_self hil] at hj
        cases hj
        simpa using k1 0 _ rfl
      · by_cases e2 : j = l.length
        · subst e2
          rw [List.getElem?_append_right (by simp)] at hj
          simp at hj
          subst hj
          simpa [e] using k1 1 _ rfl
        · have hjl : j < l.length := by
            have := (List.getElem?_eq_some_iff.1 hj).1
            simp at this
            omega
          rw [List.getElem?_append_left (by simpa using hjl), List.getElem?_set_ne (fun e' => e e'.symm)] at hj
          have := D.keep (h1 j D hj) hk (fun x hx hx' => e (h3 j i x hx hx'))
          simpa [e, e2, hjl] using this
    · by_cases e : j = i
      · simp [e] at hx
        exact (k2 0 x hx).imp (h2 i x) id
      · by_cases e2 : j = l.length
        · subst e2
          simp [e] at hx
          exact (k2 1 x hx).imp (h2 i x) id
        · simp [e, e2] at hx
          exact .inl (h2 j x hx.2)
    · have hG : ∀ j a, j ≠ i → G j x → K a x → False := fun j a hj hx hK => by
        rcases k2 a x hK with h | h
        · exact hj (h3 j i x hx h)
        · have := hlt x (h2 j x hx); have := h.1; omega
      have h01 : K 0 x → K 1 x → False := fun a b => by have := k3 0 1 x a b; omega
      have hli : ¬ l.length = i := by omega
      by_cases e : j = i <;> by_cases e' : k = i <;> by_cases e2 : j = l.length <;> by_cases e2' : k = l.length <;> simp [e, e', e2, e2', hli] at hj hk' <;> first | omega | exact (h01 hj hk').elim | exact (h01 hk' hj).elim | skip
      all_goals first
        | (exfalso; first | exact hG k 0 e' hk'.2 hj | exact hG j 0 e hj.2 hk' | exact hG k 1 e' hk'.2 hj | exact hG j 1 e hj.2 hk' | (simp_all; done) | omega)
        | exact h3 j k x hj.2 hk'.2
        | skip

theorem starAt.set {l : List Asr} {w w' : World} {F : Nat → Prop} (h : starAt l w F) (hk : Keep w w' Nope) : starAt l w' F := (starA l).keep h hk (fun _ _ f => f)
theorem starAt.snoc {l : List Asr} {w : World} {F F2 : Nat → Prop} (h : starAt l w F) {A : Asr} (hA : A.at' w F2) (hd : ∀ x, F x → F2 x → False) : starAt (l ++ [A]) w (fun x => F x ∨ F2 x) := by
  obtain ⟨G, h1, h2, h3⟩ := h
  refine ⟨fun j x => if j = l.length then F2 x else if j < l.length then G j x else False, fun j D hj => ?_, fun j x hx => ?_, fun j k x hj hk' => ?_⟩
  · by_cases e2 : j = l.length
    · subst e2
      rw [List.getElem?_append_right (Nat.le_refl _)] at hj
      simp at hj
      subst hj
      simpa using hA
    · have hjl : j < l.length := by
        have := (List.getElem?_eq_some_iff.1 hj).1
        simp at this
        omega
      rw [List.getElem?_append_left hjl] at hj
      simpa [e2, hjl] using h1 j D hj
  · by_cases e2 : j = l.length
    · subst e2
      simp at hx
      exact .inr hx
    · simp [e2] at hx
      exact .inl (h2 j x hx.2)
  · by_cases e : j = l.length <;> by_cases e' : k = l.length <;> simp [e, e'] at hj hk'
    · omega
    · exact (hd x (h2 k x hk'.2) hj).elim
    · exact (hd x (h2 j x hj.2) hk').elim
    · exact h3 j k x hj.2 hk'.2
theorem starAt.drop {l : List Asr} {w : World} {F : Nat → Prop} (h : starAt l w F) (i : Nat) : starAt (l.set i empA) w F := by
  obtain ⟨G, h1, h2, h3⟩ := h
  refine ⟨G, fun j D hj => ?_, h2, h3⟩
  by_cases e : i = j
  · subst e
    have hil := (List.getElem?_eq_some_iff.1 hj).1
    simp at hil
    rw [List.getElem?_set_self hil] at hj
    cases hj
    trivial
  · rw [List.getElem?_set_ne e] at hj
    exact h1 j D hj

/-- The claims of a call that began at w0: all in blocks that are new since, and nothing old has turned. -/
structure St (w0 w : World) (l : List Asr) : Prop where
  bel : Below w0.heap.size w0 w
  own : starAt l w (fun x => w0.heap.size ≤ x ∧ x < w.heap.size)

theorem St.start (w : World) : St w w [] := ⟨Below.refl _ _, ⟨fun _ _ => False, fun _ _ hi => by simp at hi, fun _ _ f => f.elim, fun _ _ _ f => f.elim⟩⟩
theorem St.le {w0 w : World} {l : List Asr} (h : St w0 w l) : w0.heap.size ≤ w.heap.size := h.bel.size
theorem St.keep {w0 w w' : World} {l : List Asr} (h : St w0 w l) (hk : Keep w w' Nope) : St w0 w' l :=
  ⟨h.bel.trans (hk.belowAt (B := w0.heap.size) (fun i f => f.elim) h.le), (starA l).mono (h.own.set hk) (fun x hx => ⟨hx.1, Nat.lt_of_lt_of_le hx.2 hk.size⟩)⟩
theorem St.opens {w0 w : World} {l : List Asr} (h : St w0 w l) (i : Nat) {A : Asr} (hi : l[i]? = some A) :
    ∃ G : Nat → Prop, A.at' w G ∧ (∀ x, G x → w0.heap.size ≤ x ∧ x < w.heap.size) ∧
      (∀ (w' : World) (B : Asr), Keep w w' G → B.at' w' (fun x => G x ∨ New w w' x) → St w0 w' (l.set i B)) ∧
      (∀ (w' : World) (B C : Asr), Keep w w' G → starAt [B, C] w' (fun x => G x ∨ New w w' x) → St w0 w' (l.set i B ++ [C])) := by
  obtain ⟨G, h1, h2, h3, h4⟩ := h.own.opens (fun x hx => hx.2) i hi
  have hb : ∀ w', Keep w w' G → Below w0.heap.size w0 w' := fun w' hk => h.bel.trans (hk.belowAt (B := w0.heap.size) (fun x hx => (h2 x hx).1) h.le)
  have hm : ∀ w', Keep w w' G → ∀ x, (w0.heap.size ≤ x ∧ x < w.heap.size) ∨ New w w' x → w0.heap.size ≤ x ∧ x < w'.heap.size := fun w' hk x hx => by
    rcases hx with hx | hx
    · exact ⟨hx.1, Nat.lt_of_lt_of_le hx.2 hk.size⟩
    · exact ⟨Nat.le_trans h.le hx.1, hx.2⟩
  exact ⟨G, h1, h2, fun w' B hk hB => ⟨hb w' hk, (starA _).mono (h3 w' B hk hB) (hm w' hk)⟩, fun w' B C hk hB => ⟨hb w' hk, (starA _).mono (h4 w' B C hk hB) (hm w' hk)⟩⟩
theorem St.get {w0 w : World} {l : List Asr} (h : St w0 w l) (i : Nat) {A : Asr} (hi : l[i]? = some A) : ∃ G : Nat → Prop, A.at' w G ∧ (∀ x, G x → w0.heap.size ≤ x ∧ x < w.heap.size) :=
  let ⟨G, h1, h2, _⟩ := h.opens i hi
  ⟨G, h1, h2⟩
/-- A new claim, in new blocks. -/
theorem St.add {w0 w w' : World} {l : List Asr} (h : St w0 w l) (hk : Keep w w' Nope) {A : Asr} (hA : A.at' w' (New w w')) : St w0 w' (l ++ [A]) := by
  have h' := h.keep hk
  have h0 := h.le
  have : starAt l w' (fun x => w0.heap.size ≤ x ∧ x < w.heap.size) := h.own.set hk
  refine ⟨h'.bel, (starA _).mono (this.snoc hA (fun x hx hy => by have := hx.2; have := hy.1; omega)) (fun x hx => ?_)⟩
  rcases hx with hx | hx
  · exact ⟨hx.1, Nat.lt_of_lt_of_le hx.2 hk.size⟩
  · exact ⟨Nat.le_trans h0 hx.1, hx.2⟩
theorem St.alloc {w0 w : World} {l : List Asr} (h : St w0 w l) (o : Obj) : St w0 (w.alloc o) l := h.keep ((Keep.refl w Nope).alloc o)
theorem St.drew {w0 w : World} {l : List Asr} (h : St w0 w l) : St w0 w.drew l := h.keep ((Keep.refl w Nope).drew)
theorem St.drewN {w0 w : World} {l : List Asr} (h : St w0 w l) (n : Nat) : St w0 (w.drewN n) l := h.keep ((Keep.refl w Nope).drewN n)
/-- A new row of cells. -/
theorem St.box {w0 w : World} {l : List Asr} (h : St w0 w l) (cs : Array Value) (t : TypeId) : St w0 (w.alloc (.cells cs t)) (l ++ [blkA w.heap.size cs t]) :=
  h.add ((Keep.refl w Nope).alloc _) ⟨Blk.new w cs t, Nat.le_refl _, by simp⟩
/-- A new slice literal. -/
theorem St.lit {w0 w : World} {l : List Asr} (h : St w0 w l) (e : TypeId) (size n : Nat) (cs : Array Value) (hn : n ≤ maxLen) (hc : cs.size = n * size) :
    St w0 (w.alloc (.cells cs e)) (l ++ [slA e size (.slice (some ⟨w.heap.size, 0, none⟩) n n) n cs.toList]) :=
  h.add ((Keep.refl w Nope).alloc _) (Own.lit w e size n cs hn hc ⟨Nat.le_refl _, by simp⟩)
/-- A cell is written. -/
theorem St.write {w0 w : World} {l : List Asr} (h : St w0 w l) (i : Nat) {b : Nat} {cs : Array Value} {t : TypeId} (hi : l[i]? = some (blkA b cs t)) (j : Nat) (u : Value) :
    St w0 (w.setCell ⟨b, j, none⟩ u) (l.set i (blkA b (cs.setIfInBounds j u) t)) := by
  obtain ⟨G, h1, h2, h3, _⟩ := h.opens i hi
  exact h3 _ (blkA b (cs.setIfInBounds j u) t) ((Keep.refl w G).setCell (p := ⟨b, j, none⟩) (.inl h1.2) u) ⟨h1.1.setCell j u, .inl h1.2⟩
theorem St.blk {w0 w : World} {l : List Asr} (h : St w0 w l) (i : Nat) {b : Nat} {cs : Array Value} {t : TypeId} (hi : l[i]? = some (blkA b cs t)) : Blk w b cs t := (h.get i hi).choose_spec.1.1
theorem St.ge {w0 w : World} {l : List Asr} (h : St w0 w l) (i : Nat) {b : Nat} {cs : Array Value} {t : TypeId} (hi : l[i]? = some (blkA b cs t)) : w0.heap.size ≤ b := by
  obtain ⟨G, h1, h2⟩ := h.get i hi
  exact (h2 b h1.2).1
/-- A slice of the call's own, read. -/
theorem St.rd {w0 w : World} {l : List Asr} (h : St w0 w l) (i : Nat) {e : TypeId} {size n : Nat} {v : Value} {xs : List Value} (hi : l[i]? = some (slA e size v n xs)) :
    ∃ G : Nat → Prop, Own G w e size v n xs ∧ Rd G w v n xs ∧ ∀ x, G x → w0.heap.size ≤ x ∧ x < w.heap.size := by
  obtain ⟨G, h1, h2⟩ := h.get i hi
  exact ⟨G, h1, Own.rd h1, h2⟩
/-- A cell of a slice of the call's own is written. -/
theorem St.store {w0 w : World} {l : List Asr} (h : St w0 w l) (i : Nat) {e : TypeId} {size n c : Nat} {a : Option Addr} {xs : List Value} (hi : l[i]? = some (slA e size (.slice a n c) n xs)) (hn : 0 < n) :
    ∃ g, a = some ⟨g, 0, none⟩ ∧ g < w.heap.size ∧ (∀ j, w.frozen? ⟨g, j, none⟩ = false) ∧ (∀ j, j < n * size → w.cell? ⟨g, j, none⟩ = xs[j]?) ∧
      ∀ j u, St w0 (w.setCell ⟨g, j, none⟩ u) (l.set i (slA e size (.slice a n c) n (xs.set j u))) := by
  obtain ⟨G, h1, h2, h3, _⟩ := h.opens i hi
  obtain ⟨g, rfl, hG, hlt, hf, hc, hs⟩ := Own.head h1 hn
  exact ⟨g, rfl, hlt, hf, hc, fun j u => h3 _ (slA e size (.slice (some ⟨g, 0, none⟩) n c) n (xs.set j u)) ((Keep.refl w G).setCell (p := ⟨g, j, none⟩) (.inl hG) u) ((hs j u).mono (fun _ h => .inl h))⟩
/-- Behind an append to a slice of the call's own. -/
theorem St.apped {w0 w w' : World} {l : List Asr} {G : Nat → Prop} {e : TypeId} {size n m k : Nat} {v y : Value} {xs news : List Value} {i : Nat}
    (hup : ∀ (w' : World) (B : Asr), Keep w w' G → B.at' w' (fun x => G x ∨ New w w' x) → St w0 w' (l.set i B)) (ha : App G w w' e size v y n m k xs news) : St w0 w' (l.set i (slA e size y k (xs ++ news))) :=
  hup w' (slA e size y k (xs ++ news)) ha.keep ha.own
theorem St.empty {w0 w : World} {l : List Asr} (h : St w0 w l) (i : Nat) : St w0 w (l.set i empA) := ⟨h.bel, h.own.drop i⟩
/-- The last claims are let go. -/
theorem St.take {w0 w : World} {l : List Asr} (h : St w0 w l) (n : Nat) : St w0 w (l.take n) := by
  obtain ⟨hb, G, h1, h2, h3⟩ := h
  refine ⟨hb, G, fun i A hi => ?_, h2, h3⟩
  rw [List.getElem?_take] at hi
  split at hi
  · exact h1 i A hi
  · cases hi
/-- Claims are put into another order, some are let go. -/
theorem St.pick {w0 w : World} {l l' : List Asr} (h : St w0 w l) (f : Nat → Nat) (hf : ∀ i j, i < l'.length → j < l'.length → f i = f j → i = j) (he : ∀ (i : Nat) (A : Asr), l'[i]? = some A → l[f i]? = some A) : St w0 w l' := by
  obtain ⟨hb, G, h1, h2, h3⟩ := h
  refine ⟨hb, fun i x => i < l'.length ∧ G (f i) x, fun i A hi => ?_, fun i x hx => h2 _ x hx.2, fun i j x hi hj => hf i j hi.1 hj.1 (h3 _ _ x hi.2 hj.2)⟩
  exact A.mono (h1 (f i) A (he i A hi)) (fun x hx => ⟨(List.getElem?_eq_some_iff.1 hi).1, hx⟩)
/-- A claim says less, or the same in other words. -/
theorem St.weaken {w0 w : World} {l : List Asr} (h : St w0 w l) (i : Nat) {A B : Asr} (hi : l[i]? = some A) (hAB : ∀ (G : Nat → Prop), A.at' w G → B.at' w G) : St w0 w (l.set i B) := by
  obtain ⟨G, h1, _, h3, _⟩ := h.opens i hi
  exact h3 w B (Keep.refl w G) (B.mono (hAB G h1) (fun _ hx => .inl hx))
/-- At the end. -/
theorem St.ret {w0 w : World} {l : List Asr} (h : St w0 w l) : RetTrue w0 (.returned (.bool true)) w := ⟨rfl, h.bel⟩

theorem mid_get (a b c x : Asr) (M T : List Asr) (k : Nat) (hM : M.length = k) : ((a :: b :: c :: (M ++ [x])) ++ T)[k + 3]? = some x := by
  subst hM
  simp
theorem mid_set (a b c x y : Asr) (M T : List Asr) (k : Nat) (hM : M.length = k) : ((a :: b :: c :: (M ++ [x])) ++ T).set (k + 3) y = (a :: b :: c :: (M ++ [y])) ++ T := by
  subst hM
  simp
theorem mid_last (a b c x y : Asr) (M : List Asr) (k : Nat) (hM : M.length = k) : ((a :: b :: c :: (M ++ [x])) ++ [y])[k + 4]? = some y := by
  subst hM
  rw [List.getElem?_append_right (by simp)]
  simp
theorem mid_take (a b c x : Asr) (M T : List Asr) (k : Nat) (hM : M.length = k) : ((a :: b :: c :: (M ++ [x])) ++ T).take (k + 4) = a :: b :: c :: (M ++ [x]) := by
  subst hM
  exact List.take_left' (by simp)
end Go.Proofs.Ytbigknmeooaidaa
