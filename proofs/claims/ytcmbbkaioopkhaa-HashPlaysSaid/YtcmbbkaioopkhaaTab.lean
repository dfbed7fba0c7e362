/-
  The document's table of rows: find, get, put, take.
-/
import Derived.Test.YtcmbbkaioopkhaaHash12
namespace Go.Proofs.Ytcmbbkaioopkhaa
open Go Go.RowKit
set_option linter.unusedVariables false
set_option linter.unusedSimpArgs false

structure RowT where
  i : Int
  vk : Int
  va : Int
  vb : Int
def RowT.cells (r : RowT) : List Value := [.int .i64 r.i, .int .i64 r.vk, .int .i64 r.va, .int .i64 r.vb]
def flatR (l : List RowT) : List Value := l.flatMap RowT.cells
theorem flatR_app (a b : List RowT) : flatR (a ++ b) = flatR a ++ flatR b := by unfold flatR; rw [List.flatMap_append]
theorem flatR_one (l : List RowT) : ∀ u ∈ flatR l, u.oneCell' = true := by
  intro u hu
  obtain ⟨o, _, ho⟩ := List.mem_flatMap.1 hu
  simp [RowT.cells] at ho
  rcases ho with rfl | rfl | rfl | rfl <;> rfl
def rt (l : List RowT) (p : Nat) : RowT := l.getD p ⟨0, 0, 0, 0⟩
theorem rt_get {l : List RowT} {p : Nat} (hp : p < l.length) : l[p]? = some (rt l p) := by
  unfold rt
  rw [List.getD_eq_getElem?_getD, List.getElem?_eq_getElem hp]
  rfl
theorem slCell : SlTy Try.prog 60 103 4 32 := SlTy.mk' (.agg #[.int .i64 0, .int .i64 0, .int .i64 0, .int .i64 0]) Try.underlying60 (by kernel_rfl) rfl (by decide)
def tabPs (b : Nat) (l : List RowT) (p : Option Addr × Nat) : List Asr :=
  [blkA b #[.slice p.1 l.length p.2] 62, slA 103 4 (.slice p.1 l.length p.2) l.length (flatR l)]
def tabA (b : Nat) (l : List RowT) : Asr := exA (fun p => starA (tabPs b l p))

theorem flatR_set4 (l : List RowT) (q : Nat) (hq : q < l.length) (x vk va vb : Int) :
    ((((flatR l).set (q * 4) (.int .i64 x)).set (q * 4 + 1) (.int .i64 vk)).set (q * 4 + 2) (.int .i64 va)).set (q * 4 + 3) (.int .i64 vb) = flatR (l.set q ⟨x, vk, va, vb⟩) := by
  have f := fun (y : RowT) (j : Nat) (u : Value) (hj : j < 4) (l : List RowT) (z : RowT) (h : l[q]? = some z) (he : y.cells = z.cells.set j u) => flat_set RowT.cells 4 (fun _ => rfl) y j u hj l q z h he
  obtain ⟨s, hs⟩ : ∃ s, l[q]? = some s := ⟨_, List.getElem?_eq_getElem hq⟩
  unfold flatR
  have h1 := f ⟨x, s.vk, s.va, s.vb⟩ 0 (.int .i64 x) (by decide) l s hs rfl
  have h2 := f ⟨x, vk, s.va, s.vb⟩ 1 (.int .i64 vk) (by decide) (l.set q ⟨x, s.vk, s.va, s.vb⟩) _ (List.getElem?_set_self hq) rfl
  have h3 := f ⟨x, vk, va, s.vb⟩ 2 (.int .i64 va) (by decide) (l.set q ⟨x, vk, s.va, s.vb⟩) _ (List.getElem?_set_self hq) rfl
  have h4 := f ⟨x, vk, va, vb⟩ 3 (.int .i64 vb) (by decide) (l.set q ⟨x, vk, va, s.vb⟩) _ (List.getElem?_set_self hq) rfl
  rw [List.set_set] at h2 h3 h4
  simp only [Nat.add_zero] at h1
  rw [h1, h2, h3, h4]
theorem flatR_set3 (l : List RowT) (q : Nat) (hq : q < l.length) (vk va vb : Int) :
    (((flatR l).set (q * 4 + 1) (.int .i64 vk)).set (q * 4 + 2) (.int .i64 va)).set (q * 4 + 3) (.int .i64 vb) = flatR (l.set q ⟨(rt l q).i, vk, va, vb⟩) := by
  have f := fun (y : RowT) (j : Nat) (u : Value) (hj : j < 4) (l : List RowT) (z : RowT) (h : l[q]? = some z) (he : y.cells = z.cells.set j u) => flat_set RowT.cells 4 (fun _ => rfl) y j u hj l q z h he
  have hs := rt_get hq
  obtain ⟨s, hs'⟩ : ∃ s, rt l q = s := ⟨_, rfl⟩
  rw [hs'] at hs ⊢
  unfold flatR
  have h2 := f ⟨s.i, vk, s.va, s.vb⟩ 1 (.int .i64 vk) (by decide) l s hs rfl
  have h3 := f ⟨s.i, vk, va, s.vb⟩ 2 (.int .i64 va) (by decide) (l.set q ⟨s.i, vk, s.va, s.vb⟩) _ (List.getElem?_set_self hq) rfl
  have h4 := f ⟨s.i, vk, va, vb⟩ 3 (.int .i64 vb) (by decide) (l.set q ⟨s.i, vk, va, s.vb⟩) _ (List.getElem?_set_self hq) rfl
  rw [List.set_set] at h3 h4
  rw [h2, h3, h4]
theorem St.store4 {w0 w : World} {L : List Asr} {i g e' n c : Nat} {e : TypeId} {xs : List Value} (h : St w0 w L) (hi : L[i]? = some (slA e e' (.slice (some ⟨g, 0, none⟩) n c) n xs)) (hn : 0 < n) (j : Nat) (u0 u1 u2 u3 : Value) :
    St w0 ((((w.setCell ⟨g, j, none⟩ u0).setCell ⟨g, j + 1, none⟩ u1).setCell ⟨g, j + 2, none⟩ u2).setCell ⟨g, j + 3, none⟩ u3) (L.set i (slA e e' (.slice (some ⟨g, 0, none⟩) n c) n ((((xs.set j u0).set (j + 1) u1).set (j + 2) u2).set (j + 3) u3))) := by
  have hil := (List.getElem?_eq_some_iff.1 hi).1
  have h3 := h.store3 hi hn j u0 u1 u2
  have h4 := h3.store1 (List.getElem?_set_self hil) hn (j + 3) u3
  rw [List.set_set] at h4
  exact h4

/-- The table's rows, read. -/
theorem tab_ptr {w0 w : World} {L : List Asr} {b : Nat} {l : List RowT} (H : St w0 w L) (i : Nat) (hi : L[i]? = some (tabA b l)) : ∃ a c, w.cell? ⟨b, 0, none⟩ = some (.slice a l.length c) ∧ l.length ≤ maxLen ∧ ∃ S, Rd S w (.slice a l.length c) l.length (flatR l) := by
  obtain ⟨⟨a, c⟩, h⟩ := H.exSplit i hi
  unfold tabPs at h
  simp only at h
  have hb := h.blk 0 (b := b) rfl
  obtain ⟨S, ho, hr, _⟩ := h.rd 1 (n := l.length) rfl
  exact ⟨a, c, by simpa using hb.cell 0, by have := ho.cap; omega, S, hr⟩

def LoopTF (w : World) (l : List RowT) (g : Nat) (v5 : Value) (wr : World) : Prop :=
  ∃ k : Nat, g + k = l.length ∧ v5 = .int .i64 k ∧ wr = w

set_option maxHeartbeats 1000000 in
theorem tab_find_yes {w0 w : World} {L : List Asr} {b : Nat} {l : List RowT} (H : St w0 w L) (i : Nat) (hi : L[i]? = some (tabA b l)) (x : Int) (p : Nat) (hp : p < l.length) (hx : (rt l p).i = x) (hno : ∀ j, j < p → (rt l j).i ≠ x) :
    Calls Try.prog 53 #[.pointer (some ⟨b, 0, none⟩), .int .i64 x] w (fun e w' => e = .returned (.int .i64 p) ∧ w = w') := by
  obtain ⟨a, c, c2, hmx, S, hrd⟩ := tab_ptr H i hi
  unfold maxLen at hmx
  have HRD := Lib.hid hrd
  obtain ⟨n, hn⟩ : ∃ n, l.length = n := ⟨_, rfl⟩
  rw [hn] at c2 hmx HRD hp
  have HN := Lib.hid hn
  have HX := Lib.hid hx
  have HNO := Lib.hid hno
  clear H hi hrd hn hx hno
  go_enter Try.func53, Try.ntmps53
  go_wp2_with fail
  go_loopg [5] p (fun g v5 wr => ∃ k : Nat, g + k = p ∧ v5 = .int .i64 k ∧ wr = w)
  case atStart => exact ⟨0, by omega, rfl, rfl⟩
  case round =>
    obtain ⟨k, hk, rfl, rfl⟩ := hrel
    have hkp : k ≤ p := by omega
    have HK := Lib.hid hk; clear hk
    obtain ⟨bs, os, rfl, _, hco⟩ := HRD.out.elem (cells := RowT.cells) (size := 4) (fun _ => rfl) (by decide) (rt_get (l := l) (p := k) (by rw [HN.out]; omega))
    have hki : (k : Int) < n := by omega
    have hkd0 : decide ((k : Int) < n) = true := decide_eq_true hki
    have d3 := hco 0 (by decide)
    simp [RowT.cells] at d3
    obtain ⟨s, hs⟩ : ∃ s, (rt l k).i = s := ⟨_, rfl⟩
    rw [hs] at d3
    have HS := Lib.hid hs
    clear hs hco
    by_cases hlt : k < p
    · have e1 : (s == x) = false := by
        have := HNO.out k hlt
        rw [HS.out] at this
        exact beq_eq_false_iff_ne.2 this
      go_wp2_with fail
      go_roundg (p - (k + 1))
      case measure => have := HK.out; omega
      case rel => exact ⟨k + 1, by omega, by go_num, rfl⟩
    · obtain rfl : k = p := by omega
      obtain rfl : s = x := HS.out.symm.trans HX.out
      go_wp2_with fail
      go_ret
      exact ⟨rfl, rfl⟩

set_option maxHeartbeats 1000000 in
theorem tab_find_no {w0 w : World} {L : List Asr} {b : Nat} {l : List RowT} (H : St w0 w L) (i : Nat) (hi : L[i]? = some (tabA b l)) (x : Int) (hno : ∀ j, j < l.length → (rt l j).i ≠ x) :
    Calls Try.prog 53 #[.pointer (some ⟨b, 0, none⟩), .int .i64 x] w (fun e w' => e = .returned (.int .i64 (-1)) ∧ w = w') := by
  obtain ⟨a, c, c2, hmx, S, hrd⟩ := tab_ptr H i hi
  unfold maxLen at hmx
  have HRD := Lib.hid hrd
  obtain ⟨n, hn⟩ : ∃ n, l.length = n := ⟨_, rfl⟩
  rw [hn] at c2 hmx HRD
  have HN := Lib.hid hn
  have HNO := Lib.hid hno
  clear H hi hrd hn hno
  go_enter Try.func53, Try.ntmps53
  go_wp2_with fail
  go_loopg [5] n (fun g v5 wr => ∃ k : Nat, g + k = n ∧ v5 = .int .i64 k ∧ wr = w)
  case atStart => exact ⟨0, by omega, rfl, rfl⟩
  case round =>
    obtain ⟨k, hk, rfl, rfl⟩ := hrel
    have hkp : k ≤ n := by omega
    have HK := Lib.hid hk; clear hk
    by_cases hlt : k < n
    · obtain ⟨bs, os, rfl, _, hco⟩ := HRD.out.elem (cells := RowT.cells) (size := 4) (fun _ => rfl) (by decide) (rt_get (l := l) (p := k) (by rw [HN.out]; omega))
      have hki : (k : Int) < n := by omega
      have hkd0 : decide ((k : Int) < n) = true := decide_eq_true hki
      have d3 := hco 0 (by decide)
      simp [RowT.cells] at d3
      obtain ⟨s, hs⟩ : ∃ s, (rt l k).i = s := ⟨_, rfl⟩
      rw [hs] at d3
      have e1 : (s == x) = false := by
        have := HNO.out k (by rw [HN.out]; exact hlt)
        rw [hs] at this
        exact beq_eq_false_iff_ne.2 this
      clear hs hco
      go_wp2_with fail
      go_roundg (n - (k + 1))
      case measure => have := HK.out; omega
      case rel => exact ⟨k + 1, by omega, by go_num, rfl⟩
    · obtain rfl : k = n := by omega
      go_wp2_with fail
      go_ret
      exact ⟨rfl, rfl⟩

/-- The table laid open in one world. -/
structure TabAt (w0 w : World) (L : List Asr) (i b : Nat) (l : List RowT) (g c : Nat) : Prop where
  ptr : w.cell? ⟨b, 0, none⟩ = some (.slice (some ⟨g, 0, none⟩) l.length c)
  ptrf : w.frozen? ⟨b, 0, none⟩ = false
  cap : l.length ≤ c ∧ c ≤ maxLen
  cell : ∀ p, p < l.length → w.cell? ⟨g, p * 4, none⟩ = some (.int .i64 (rt l p).i) ∧ w.cell? ⟨g, p * 4 + 1, none⟩ = some (.int .i64 (rt l p).vk) ∧ w.cell? ⟨g, p * 4 + 2, none⟩ = some (.int .i64 (rt l p).va) ∧ w.cell? ⟨g, p * 4 + 3, none⟩ = some (.int .i64 (rt l p).vb)
  frz : ∀ j, w.frozen? ⟨g, j, none⟩ = false
  cut : ∀ p, p < l.length → ∀ x vk va vb : Int, ∀ m, m ≤ l.length → St w0 (((((w.setCell ⟨g, p * 4, none⟩ (.int .i64 x)).setCell ⟨g, p * 4 + 1, none⟩ (.int .i64 vk)).setCell ⟨g, p * 4 + 2, none⟩ (.int .i64 va)).setCell ⟨g, p * 4 + 3, none⟩ (.int .i64 vb)).setCell ⟨b, 0, none⟩ (.slice (some ⟨g, 0, none⟩) m c)) (L.set i (tabA b ((l.set p ⟨x, vk, va, vb⟩).take m)))
  put : ∀ p, p < l.length → ∀ x vk va vb : Int, St w0 ((((w.setCell ⟨g, p * 4, none⟩ (.int .i64 x)).setCell ⟨g, p * 4 + 1, none⟩ (.int .i64 vk)).setCell ⟨g, p * 4 + 2, none⟩ (.int .i64 va)).setCell ⟨g, p * 4 + 3, none⟩ (.int .i64 vb)) (L.set i (tabA b (l.set p ⟨x, vk, va, vb⟩)))
  val : ∀ p, p < l.length → ∀ vk va vb : Int, St w0 (((w.setCell ⟨g, p * 4 + 1, none⟩ (.int .i64 vk)).setCell ⟨g, p * 4 + 2, none⟩ (.int .i64 va)).setCell ⟨g, p * 4 + 3, none⟩ (.int .i64 vb)) (L.set i (tabA b (l.set p ⟨(rt l p).i, vk, va, vb⟩)))
  low : ∀ m, m ≤ l.length → St w0 (w.setCell ⟨b, 0, none⟩ (.slice (some ⟨g, 0, none⟩) m c)) (L.set i (tabA b (l.take m)))
theorem tab_open {w0 w : World} {L : List Asr} {b : Nat} {l : List RowT} (H : St w0 w L) (i : Nat) (hi : L[i]? = some (tabA b l)) (hl : 0 < l.length) : ∃ g c, TabAt w0 w L i b l g c := by
  obtain ⟨⟨a, c⟩, h⟩ := H.exSplit i hi
  have hil := (List.getElem?_eq_some_iff.1 hi).1
  unfold tabPs at h
  simp only at h
  have hb := h.blk 0 (b := b) rfl
  obtain ⟨g, rfl, hgl, hgf, hgc, _⟩ := h.store 1 (n := l.length) (a := a) (c := c) rfl hl
  have cutA : ∀ (w' : World) (l' : List RowT), l'.length = l.length → St w0 w' ([blkA b #[.slice (some ⟨g, 0, none⟩) l.length c] 62, slA 103 4 (.slice (some ⟨g, 0, none⟩) l.length c) l.length (flatR l')] ++ L.set i empA) → ∀ m, m ≤ l.length → St w0 (w'.setCell ⟨b, 0, none⟩ (.slice (some ⟨g, 0, none⟩) m c)) (L.set i (tabA b (l'.take m))) := by
    intro w' l' hl' h3 m hm
    have h4 := (h3.write 0 (b := b) rfl 0 (.slice (some ⟨g, 0, none⟩) m c)).weaken 1 (B := slA 103 4 (.slice (some ⟨g, 0, none⟩) m c) m ((flatR l').take (m * 4))) rfl (fun _ hG => Own.cut hG m hm)
    have ht : (flatR l').take (m * 4) = flatR (l'.take m) := flat_take RowT.cells 4 (fun _ => rfl) l' m
    rw [ht] at h4
    exact St.exJoin (tabPs b (l'.take m)) (some ⟨g, 0, none⟩, c) (L := L) i hil (by
      unfold tabPs
      rw [List.length_take, hl', Nat.min_eq_left hm]
      exact h4)
  refine ⟨g, c, ⟨?_, hb.frozen 0, ?_, fun p hp => ?_, hgf, fun p hp x vk va vb m hm => ?_, fun p hp x vk va vb => ?_, fun p hp vk va vb => ?_, fun m hm => cutA _ l rfl h m hm⟩⟩
  · have := hb.cell 0
    simpa using this
  · obtain ⟨_, ho, _⟩ := h.rd 1 (n := l.length) rfl
    exact ho.cap
  · have fg := fun j (hj : j < 4) => flat_get RowT.cells 4 (fun _ => rfl) l p j _ (rt_get hp) hj
    have y0 := hgc (p * 4 + 0) (by omega)
    have y1 := hgc (p * 4 + 1) (by omega)
    have y2 := hgc (p * 4 + 2) (by omega)
    have y3 := hgc (p * 4 + 3) (by omega)
    rw [show (flatR l)[p * 4 + 0]? = _ from fg 0 (by decide)] at y0
    rw [show (flatR l)[p * 4 + 1]? = _ from fg 1 (by decide)] at y1
    rw [show (flatR l)[p * 4 + 2]? = _ from fg 2 (by decide)] at y2
    rw [show (flatR l)[p * 4 + 3]? = _ from fg 3 (by decide)] at y3
    simp [RowT.cells] at y0 y1 y2 y3
    exact ⟨y0, y1, y2, y3⟩
  · have h3 := h.store4 (i := 1) rfl hl (p * 4) (.int .i64 x) (.int .i64 vk) (.int .i64 va) (.int .i64 vb)
    rw [flatR_set4 l p hp] at h3
    exact cutA _ (l.set p ⟨x, vk, va, vb⟩) (List.length_set ..) h3 m hm
  · have h3 := h.store4 (i := 1) rfl hl (p * 4) (.int .i64 x) (.int .i64 vk) (.int .i64 va) (.int .i64 vb)
    rw [flatR_set4 l p hp] at h3
    exact St.exJoin (tabPs b (l.set p ⟨x, vk, va, vb⟩)) (some ⟨g, 0, none⟩, c) (L := L) i hil (by
      unfold tabPs
      rw [List.length_set]
      exact h3)
  · have h3 := h.store3 (i := 1) rfl hl (p * 4 + 1) (.int .i64 vk) (.int .i64 va) (.int .i64 vb)
    rw [show (((flatR l).set (p * 4 + 1) (.int .i64 vk)).set (p * 4 + 1 + 1) (.int .i64 va)).set (p * 4 + 1 + 2) (.int .i64 vb) = _ from flatR_set3 l p hp vk va vb] at h3
    exact St.exJoin (tabPs b (l.set p ⟨(rt l p).i, vk, va, vb⟩)) (some ⟨g, 0, none⟩, c) (L := L) i hil (by
      unfold tabPs
      rw [List.length_set]
      exact h3)
end Go.Proofs.Ytcmbbkaioopkhaa
