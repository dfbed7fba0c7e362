/-
  make([]T, n), said in lists; a slice of the call's own, cut; a store of one cell of an element. No program in sight.
-/
import Derived.Test.YtfjamllkjofdbaaSt
import Derived.Test.YtfjamllkjofdbaaFlat
import Derived.Laws.MakeOwn
import Derived.Laws.OwnMore
namespace Go.Proofs.Ytfjamllkjofdbaa
open Go Go.RowKit

theorem made_flat (z : Array Value) (hz : 0 < z.size) : ∀ n, (madeCells z (n * z.size)).toList = (List.replicate n z.toList).flatten := by
  have h : ∀ n, (List.range (n * z.size)).map (fun j => z[j % z.size]!) = (List.replicate n z.toList).flatten := by
    intro n
    induction n with
    | zero => simp
    | succ n ih =>
      rw [show (n + 1) * z.size = z.size + n * z.size by rw [Nat.add_mul]; omega, List.range_add, List.map_append, List.map_map, List.replicate_succ, List.flatten_cons, ← ih]
      congr 1
      · apply List.ext_getElem
        · simp
        · intro i h1 h2
          simp at h1 h2
          simp [Nat.mod_eq_of_lt h2, h2]
      · refine List.map_congr_left fun i _ => ?_
        simp [Nat.add_mod_left]
  intro n
  simpa [madeCells] using h n

theorem run_make {P : Program} {t e : TypeId} {size bytes : Nat} (z : Value) (ht : P.underlying t = some (.slice e)) (hi : (P.info? e).map (fun i => (i.zero, i.size, i.bytes)) = some (some z, size, bytes)) (hz : z.cells.size = size) (hp : 0 < size)
    (kl kc : IntKind) (n : Nat) (hb : bytes * n ≤ 281474976710656) (hn : n ≤ maxLen) (w : World) :
    ∃ w', (Instr.makeSlice t (.int kl (n : Int)) (.int kc (n : Int))).run P w = .ok (.slice (some ⟨w.heap.size, 0, none⟩) n n) w' ∧
      Own (New w w') w' e size (.slice (some ⟨w.heap.size, 0, none⟩) n n) n (List.replicate n z.cells.toList).flatten ∧ Keep w w' Nope := by
  obtain ⟨i, h1, h2, h3, h4⟩ := info_parts hi
  obtain ⟨w', h5, h6, h7⟩ := run_make_full (P := P) w 0 t e i z size ht h1 h2 h3 kl kc n (by rw [h4]; exact hb) hn (Nat.zero_le _)
  have hk : Keep w w' Nope := (Keep.refl w Nope).grown h7 (fun k h => by cases h)
  subst hz
  rw [made_flat _ hp] at h6
  refine ⟨w', h5, ⟨h6, fun g hg => ?_⟩, hk⟩
  have e : g = w.heap.size := by simp [Value.ownBlock] at hg; exact hg.symm
  subst e
  exact ⟨Nat.le_refl _, (h6.lt _ (by simp [Value.ownBlock])).2⟩

/-- The first m of a slice of the call's own. -/
theorem Own.cut {S : Nat → Prop} {w : World} {e : TypeId} {size : Nat} {a : Option Addr} {n c : Nat} {xs : List Value} (h : Own S w e size (.slice a n c) n xs) (m : Nat) (hm : m ≤ n) : Own S w e size (.slice a m c) m (xs.take (m * size)) := by
  have hl := h.len
  rcases h.view with ⟨hv, h0, hx⟩ | ⟨g, cap, cur, hv, hS, hb, r1, r2, r3, r4⟩
  · injection hv with h1 _ h3
    subst h1; subst h3
    obtain rfl : m = 0 := by omega
    subst hx
    rw [List.take_nil]
    exact Own.nil S w e size
  · injection hv with h1 _ h3
    subst h1; subst h3
    refine ⟨⟨?_, .inr ⟨g, c, cur, rfl, Nat.zero_le _, hb, by omega, r2, r3, ?_⟩⟩, fun g' hg' => ?_⟩
    · rw [List.length_take, hl]
      exact Nat.min_eq_left (Nat.mul_le_mul_right _ hm)
    · rw [← r4, List.take_take, Nat.min_eq_left (Nat.mul_le_mul_right _ hm)]
    · simp [Value.ownBlock] at hg'
      exact hg' ▸ hS
theorem St.cut {w0 w : World} {l : List Asr} (h : St w0 w l) (i : Nat) {e : TypeId} {size n c : Nat} {a : Option Addr} {xs : List Value} (hi : l[i]? = some (slA e size (.slice a n c) n xs)) (m : Nat) (hm : m ≤ n) :
    St w0 w (l.set i (slA e size (.slice a m c) m (xs.take (m * size)))) := h.weaken i hi (fun _ hG => Own.cut hG m hm)
/-- make, in a call. -/
theorem St.make {P : Program} {w0 w : World} {l : List Asr} (h : St w0 w l) {t e : TypeId} {size bytes : Nat} (z : Value) (ht : P.underlying t = some (.slice e)) (hi : (P.info? e).map (fun i => (i.zero, i.size, i.bytes)) = some (some z, size, bytes)) (hz : z.cells.size = size) (hp : 0 < size)
    (kl kc : IntKind) (n : Nat) (hb : bytes * n ≤ 281474976710656) (hn : n ≤ maxLen) :
    ∃ w', (Instr.makeSlice t (.int kl (n : Int)) (.int kc (n : Int))).run P w = .ok (.slice (some ⟨w.heap.size, 0, none⟩) n n) w' ∧
      St w0 w' (l ++ [slA e size (.slice (some ⟨w.heap.size, 0, none⟩) n n) n (List.replicate n z.cells.toList).flatten]) := by
  obtain ⟨w', h1, h2, h3⟩ := run_make z ht hi hz hp kl kc n hb hn w
  exact ⟨w', h1, h.add h3 h2⟩

/-- One cell of one element is set. -/
theorem flat_set {α : Type} (cells : α → List Value) (size : Nat) (hlen : ∀ x, (cells x).length = size) (x : α) (j : Nat) (u : Value) (hj : j < size) : ∀ (l : List α) (k : Nat) (y : α), l[k]? = some y → cells x = (cells y).set j u → (l.flatMap cells).set (k * size + j) u = (l.set k x).flatMap cells
  | [], _, _, h, _ => by simp at h
  | a :: t, 0, y, h, he => by
    simp at h
    subst h
    simp only [List.flatMap_cons, List.set_cons_zero, Nat.zero_mul, Nat.zero_add]
    rw [List.set_append_left _ _ (by rw [hlen]; exact hj), he]
  | a :: t, k + 1, y, h, he => by
    simp only [List.flatMap_cons, List.set_cons_succ]
    rw [List.set_append_right _ _ (by rw [hlen, Nat.add_mul]; omega), hlen]
    rw [show (k + 1) * size + j - size = k * size + j by rw [Nat.add_mul]; omega]
    rw [flat_set cells size hlen x j u hj t k y (by simpa using h) he]
theorem flat_take {α : Type} (cells : α → List Value) (size : Nat) (hlen : ∀ x, (cells x).length = size) : ∀ (l : List α) (m : Nat), (l.flatMap cells).take (m * size) = (l.take m).flatMap cells
  | [], m => by simp
  | a :: t, 0 => by simp
  | a :: t, m + 1 => by
    simp only [List.flatMap_cons, List.take_succ_cons]
    rw [show (m + 1) * size = (cells a).length + m * size by rw [hlen, Nat.add_mul]; omega, List.take_length_add_append, flat_take cells size hlen t m]
theorem flat_replicate {α : Type} (cells : α → List Value) (x : α) (n : Nat) : (List.replicate n x).flatMap cells = (List.replicate n (cells x)).flatten := by
  induction n with
  | zero => simp
  | succ n ih => rw [List.replicate_succ, List.flatMap_cons, ih, List.replicate_succ, List.flatten_cons]
end Go.Proofs.Ytfjamllkjofdbaa
