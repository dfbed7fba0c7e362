/-
  The library's sort and compact, in the words of what a call owns.
-/
import Derived.Test.YtbigknmeooaidaaStg3
import Derived.Test.YtbigknmeooaidaaShelf2
namespace Go.Proofs.Ytbigknmeooaidaa
open Go Go.RowKit Go.Sort
set_option linter.unusedVariables false
set_option linter.unusedSimpArgs false

theorem St.grown {w0 w : World} {L : List Asr} (h : St w0 w L) (os : Array Obj) : St w0 (grow w os) L :=
  h.keep ⟨rfl, rfl, rfl, by rw [size_grow]; omega, fun k hk _ => by unfold grow; simp only; rw [Array.getElem?_append_left hk]⟩
theorem put_all {w0 w : World} {L : List Asr} {a : Option Addr} {n c : Nat} {xs ys : List Int} (H : St w0 w L) (p : Nat) (hp : L[p]? = some (slA 3 1 (.slice a n c) n (ints xs))) (hl : xs.length = n) (hn : 0 < n) (hy : ys.length = n) :
    ∃ g, a = some ⟨g, 0, none⟩ ∧ g < w.heap.size ∧ Holds (Value.int .i64) w g 0 xs.toArray ∧ ∀ q, St w0 (putRow (Value.int .i64) (Sort.ahead w q) g 0 ys.toArray) (L.set p (slA 3 1 (.slice a n c) n (ints ys))) := by
  obtain ⟨g, rfl, hgl, hgf, hgc, _⟩ := H.store p hp hn
  have hH : Holds (Value.int .i64) w g 0 xs.toArray := by
    intro j hj
    have hj' : j < xs.length := by simpa using hj
    refine ⟨?_, by rw [Nat.zero_add]; exact hgf j⟩
    rw [Nat.zero_add, hgc j (by omega), ints_get (List.getElem?_eq_getElem hj')]
    simp [hj']
  refine ⟨g, rfl, hgl, hH, fun q => ?_⟩
  rw [Lib.putRow_eq_setCells (Value.int .i64) w g 0 xs.toArray ys q hH (by simp; omega)]
  have h1 := St.setCells hn (ys.map (Value.int .i64)) 0 _ _ _ (H.drewN q) hp
  rw [setL_eq _ _ _ (by rw [ints_len]; simp; omega)] at h1
  have e : (ints xs).take 0 ++ ys.map (Value.int .i64) ++ (ints xs).drop (0 + (ys.map (Value.int .i64)).length) = ints ys := by
    rw [List.drop_of_length_le (by rw [ints_len]; simp; omega)]
    simp [ints]
  rw [e] at h1
  exact h1

/-- A row of the call's own is sorted. -/
theorem sort_int {w0 w : World} {L : List Asr} {a : Option Addr} {n c : Nat} {xs : List Int} (H : St w0 w L) (p : Nat) (hp : L[p]? = some (slA 3 1 (.slice a n c) n (ints xs))) (hl : xs.length = n) (hb : n < 4611686018427387904) :
    Calls Try.prog 40 #[.slice a n c] w (fun e w' => e = .returned (.tuple #[]) ∧ St w0 w' (L.set p (slA 3 1 (.slice a n c) n (ints (xs.mergeSort fun x y => decide (x ≤ y)))))) := by
  by_cases hn : 0 < n
  · obtain ⟨g, rfl, hgl, hH, hput⟩ := put_all (ys := xs.mergeSort fun x y => decide (x ≤ y)) H p hp hl hn (by rw [List.length_mergeSort]; exact hl)
    have hcap := (H.rd p hp).choose_spec.1.cap
    unfold maxLen at hcap
    subst hl
    refine (Try.slices_Sort_int g 0 c xs w hH hgl (by omega)).mono ?_
    rintro e w' ⟨rfl, q, os, rfl⟩
    exact ⟨rfl, (hput q).grown os⟩
  · obtain rfl : n = 0 := by omega
    obtain rfl : xs = [] := List.eq_nil_of_length_eq_zero hl
    refine (Try.slices_Sort_int_none a c w).mono ?_
    rintro e w' ⟨rfl, rfl⟩
    refine ⟨rfl, ?_⟩
    have e : L.set p (slA 3 1 (.slice a 0 c) 0 (ints (([] : List Int).mergeSort fun x y => decide (x ≤ y)))) = L := by
      apply List.ext_getElem?
      intro j
      by_cases e : p = j
      · subst e; rw [List.getElem?_set_self (List.getElem?_eq_some_iff.1 hp).1, hp]; simp
      · rw [List.getElem?_set_ne e]
    rw [e]
    exact H
theorem compact_le (zs : List Int) : (Lib.compact zs).length ≤ zs.length := by
  unfold Lib.compact Lib.compactUpTo
  rw [List.length_map]
  exact Nat.le_trans (List.length_filter_le _ _) (by simp)
theorem compact_mem {zs : List Int} {x : Int} : x ∈ Lib.compact zs ↔ x ∈ zs := by
  unfold Lib.compact Lib.compactUpTo
  simp only [List.mem_map, List.mem_filter, List.mem_range]
  constructor
  · rintro ⟨j, ⟨hj, _⟩, rfl⟩
    simp [hj]
  · intro h
    obtain ⟨j, hj, rfl⟩ := List.getElem_of_mem h
    clear h
    induction j with
    | zero => exact ⟨0, ⟨hj, by simp [Lib.keeps]⟩, by simp [hj]⟩
    | succ j ih =>
      by_cases e : zs[j + 1] = zs[j]
      · obtain ⟨i, hi⟩ := ih (by omega)
        rw [e]
        exact ⟨i, hi⟩
      · refine ⟨j + 1, ⟨hj, ?_⟩, by simp [hj]⟩
        unfold Lib.keeps
        simp [hj, show j < zs.length by omega]
        exact e
/-- Runs of equal ones of a row of the call's own are taken together. -/
theorem compact_int {w0 w : World} {L : List Asr} {a : Option Addr} {n c : Nat} {xs : List Int} (H : St w0 w L) (p : Nat) (hp : L[p]? = some (slA 3 1 (.slice a n c) n (ints xs))) (hl : xs.length = n) :
    Calls Try.prog 113 #[.slice a n c] w (fun e w' => ∃ m, m = (Lib.compact xs).length ∧ e = .returned (.slice a m c) ∧ St w0 w' (L.set p (slA 3 1 (.slice a m c) m (ints (Lib.compact xs))))) := by
  have hcap := (H.rd p hp).choose_spec.1.cap
  unfold maxLen at hcap
  have hpl := (List.getElem?_eq_some_iff.1 hp).1
  by_cases hn : 0 < n
  · have hle := compact_le xs
    obtain ⟨g, rfl, hgl, hH, hput⟩ := put_all (ys := Lib.compact xs ++ List.replicate (xs.length - (Lib.compact xs).length) 0) H p hp hl hn (by simp; omega)
    subst hl
    refine (Try.slices_Compact_int g 0 c xs w hH (by omega) hcap.1).mono ?_
    rintro e w' ⟨rfl, q, rfl⟩
    refine ⟨_, rfl, rfl, ?_⟩
    have h2 := (hput q).cut p (List.getElem?_set_self hpl) (Lib.compact xs).length hle
    rw [List.set_set] at h2
    have e : (ints (Lib.compact xs ++ List.replicate (xs.length - (Lib.compact xs).length) 0)).take ((Lib.compact xs).length * 1) = ints (Lib.compact xs) := by
      rw [ints_app, List.take_left' (by rw [ints_len]; omega)]
    rw [e] at h2
    exact h2
  · obtain rfl : n = 0 := by omega
    obtain rfl : xs = [] := List.eq_nil_of_length_eq_zero hl
    refine (Try.slices_Compact_int_empty a c w).mono ?_
    rintro e w' ⟨rfl, rfl⟩
    refine ⟨0, rfl, rfl, ?_⟩
    have e : L.set p (slA 3 1 (.slice a 0 c) 0 (ints (Lib.compact ([] : List Int)))) = L := by
      apply List.ext_getElem?
      intro j
      by_cases e : p = j
      · subst e; rw [List.getElem?_set_self hpl, hp]; rfl
      · rw [List.getElem?_set_ne e]
    rw [e]
    exact H
end Go.Proofs.Ytbigknmeooaidaa
