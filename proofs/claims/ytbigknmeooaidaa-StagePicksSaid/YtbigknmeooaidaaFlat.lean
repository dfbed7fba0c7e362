/-
  Elements of one size laid flat into a list of cells. No program in sight.
-/
import Derived.Test.YtbigknmeooaidaaBase
namespace Go.Proofs.Ytbigknmeooaidaa
open Go Go.RowKit
set_option linter.unusedVariables false
set_option linter.unusedSimpArgs false
/-- Elements of one size, flat: which cell is which. -/
theorem flat_get {α : Type} (cells : α → List Value) (size : Nat) (hs : ∀ x, (cells x).length = size) : ∀ (l : List α) (k j : Nat) (x : α), l[k]? = some x → j < size → (l.flatMap cells)[k * size + j]? = (cells x)[j]?
  | [], k, j, x, h, _ => by simp at h
  | a :: l, 0, j, x, h, hj => by
    simp at h
    subst h
    simp only [Nat.zero_mul, Nat.zero_add, List.flatMap_cons]
    rw [List.getElem?_append_left (by rw [hs]; exact hj)]
  | a :: l, k + 1, j, x, h, hj => by
    simp at h
    have := flat_get cells size hs l k j x h hj
    rw [List.flatMap_cons, List.getElem?_append_right (by rw [hs, Nat.add_mul]; omega), hs, ← this]
    congr 1
    rw [Nat.add_mul]
    omega
theorem flat_length {α : Type} (cells : α → List Value) (size : Nat) (hs : ∀ x, (cells x).length = size) (l : List α) : (l.flatMap cells).length = l.length * size := by
  induction l with
  | nil => simp
  | cons a l ih => simp only [List.flatMap_cons, List.length_append, hs, ih, List.length_cons, Nat.add_mul]; omega

/-- An element's cells, as the walk addresses them. -/
theorem Rd.elem {α : Type} {S : Nat → Prop} {w : World} {a : Option Addr} {n m c : Nat} {cells : α → List Value} {size : Nat} {l : List α} {k : Nat} {x : α} (h : Rd S w (.slice a n c) m (l.flatMap cells)) (hs : ∀ x, (cells x).length = size) (hp : 0 < size) (hk : l[k]? = some x) :
    ∃ b o, a = some ⟨b, o, none⟩ ∧ S b ∧ ∀ j, j < size → w.cell? ⟨b, o + k * size + j, none⟩ = (cells x)[j]? := by
  have hkl : k < l.length := (List.getElem?_eq_some_iff.1 hk).1
  have hm : ∀ j, j < size → k * size + j < l.length * size := fun j hj => by
    have : (k + 1) * size ≤ l.length * size := Nat.mul_le_mul_right _ (by omega)
    rw [Nat.add_mul] at this
    omega
  obtain ⟨b, o, ha, hb, hc⟩ := h.at (by rw [flat_length cells size hs]; have := hm 0 hp; omega)
  refine ⟨b, o, ha, hb, fun j hj => ?_⟩
  rw [Nat.add_assoc, hc (k * size + j) (by rw [flat_length cells size hs]; exact hm j hj), flat_get cells size hs l k j x hk hj]
theorem flat_drop {α : Type} (cells : α → List Value) (size : Nat) (hlen : ∀ x, (cells x).length = size) : ∀ (l : List α) (m : Nat), (l.flatMap cells).drop (m * size) = (l.drop m).flatMap cells
  | [], m => by simp
  | a :: t, 0 => by simp
  | a :: t, m + 1 => by
    simp only [List.flatMap_cons, List.drop_succ_cons]
    rw [show (m + 1) * size = (cells a).length + m * size by rw [hlen, Nat.add_mul]; omega, List.drop_length_add_append, flat_drop cells size hlen t m]
end Go.Proofs.Ytbigknmeooaidaa
