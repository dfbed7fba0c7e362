/-
  From the form's reading of an argument to the words of the walks: a slice that came in reads as a list of elements, each by its own cells.
-/
import Derived.Test.YtkiikblpgppmkaaGreatDoorRows
import Derived.Test.YtkiikblpgppmkaaGreatDoorTlM02
import Derived.ProofKit
import Derived.OpenShut
import Derived.ShutString
import Derived.ChangeOld
import Derived.Below
namespace Go.Proofs.YtkiikblpgppmkaaGreatDoor
open Go Go.RowKit
set_option linter.unusedVariables false
set_option linter.unusedSimpArgs false

theorem mapM_some {α β : Type} {f : α → Option β} : ∀ {l : List α} {ys : List β}, l.mapM f = some ys → ys.length = l.length ∧ ∀ (i : Nat) (x : α), l[i]? = some x → ∃ y, f x = some y ∧ ys[i]? = some y
  | [], ys, h => by
    simp at h
    subst h
    exact ⟨rfl, fun i x hx => by simp at hx⟩
  | a :: l, ys, h => by
    simp only [List.mapM_cons, Option.bind_eq_bind, Option.bind_eq_some_iff] at h
    obtain ⟨y, hy, zs, hz, he⟩ := h
    simp at he
    subst he
    obtain ⟨h1, h2⟩ := mapM_some hz
    refine ⟨by simp [h1], fun i x hx => ?_⟩
    cases i with
    | zero => simp at hx; subst hx; exact ⟨y, hy, by simp⟩
    | succ i => simp at hx; obtain ⟨y', h3, h4⟩ := h2 i x hx; exact ⟨y', h3, by simpa using h4⟩

/-- A list out of a choice at each place. -/
theorem list_of {α : Type} (P : Nat → α → Prop) : ∀ (n : Nat), (∀ i, i < n → ∃ x, P i x) → ∃ l : List α, l.length = n ∧ ∀ i x, l[i]? = some x → P i x
  | 0, _ => ⟨[], rfl, fun i x hx => by simp at hx⟩
  | n + 1, h => by
    obtain ⟨l, h1, h2⟩ := list_of P n (fun i hi => h i (by omega))
    obtain ⟨x, hx⟩ := h n (by omega)
    refine ⟨l ++ [x], by simp [h1], fun i y hy => ?_⟩
    rw [List.getElem?_append] at hy
    split at hy
    · exact h2 i y hy
    · rename_i hi
      have : i - l.length = 0 := by
        rcases Nat.eq_zero_or_pos (i - l.length) with h | h
        · exact h
        · rw [List.getElem?_eq_none (by simp; omega)] at hy; cases hy
      rw [this] at hy
      simp at hy
      subst hy
      obtain rfl : i = n := by omega
      exact hx

theorem lt_of_getElem? {α : Type} {l : List α} {k : Nat} {x : α} (h : l[k]? = some x) : k < l.length := (List.getElem?_eq_some_iff.1 h).1

section
variable {H : Type} {enc : TypeId × Value → H} {P : Program} {w : World} {base : Nat} {sp : Nat → Bool} {held : Bool}

theorem cells_some {a : Addr} {n : Nat} {row : List Value} (h : w.cells? base a n = some row) : row.length = n ∧ ∀ j, j < n → w.cell? (a.add j) = row[j]? := by
  unfold World.cells? at h
  split at h
  · obtain ⟨h1, h2⟩ := mapM_some h
    refine ⟨by simpa using h1, fun j hj => ?_⟩
    obtain ⟨y, h3, h4⟩ := h2 j j (by rw [List.getElem?_range hj])
    rw [h3, h4]
  · cases h

/-- It reads as a value of the type, at some depth. -/
def Reads (enc : TypeId × Value → H) (P : Program) (w : World) (base : Nat) (sp : Nat → Bool) (held : Bool) (t : TypeId) (cs : List Value) : Prop :=
  ∃ fuel x, DataW.trod enc P w base sp held fuel t cs = some x

theorem reads_int {t : TypeId} {k : IntKind} {cs : List Value} (ht : P.underlying t = some (.int k)) (h : Reads enc P w base sp held t cs) : ∃ n, cs = [.int k n] ∧ (Lit.int k n).wf = true := by
  obtain ⟨fuel, x, h⟩ := h
  obtain ⟨n, h1, _, h2⟩ := DataW.trod_int ht h
  exact ⟨n, h1, h2⟩
theorem reads_bool {t : TypeId} {cs : List Value} (ht : P.underlying t = some .bool) (h : Reads enc P w base sp held t cs) : ∃ b, cs = [.bool b] := by
  obtain ⟨fuel, x, h⟩ := h
  obtain ⟨n, h1, _⟩ := DataW.trod_bool ht h
  exact ⟨n, h1⟩

/-- A slice that came in: a list of elements, by their cells; 'T x' is what is known of each element. -/
theorem reads_slice {t e : TypeId} {v : Value} {α : Type} (cells : α → List Value) (size : Nat) (T : α → Prop) (ht : P.underlying t = some (.slice e)) (hsz : P.cellsOf e = size) (hlen : ∀ x, (cells x).length = size)
    (hdec : ∀ row, Reads enc P w base sp held e row → ∃ x, row = cells x ∧ T x) (h : Reads enc P w base sp held t [v]) :
    ∃ (a : Option Addr) (c : Nat) (l : List α), v = .slice a l.length c ∧ Rd (fun i => i < w.heap.size) w v l.length (l.flatMap cells) ∧ ∀ x ∈ l, T x := by
  obtain ⟨fuel, x, h⟩ := h
  rcases DataW.trod_slice ht h with ⟨hv, _⟩ | ⟨ad, len, cap, elems, rest, n, _, hv, _, _, h1, h2, h3, h4, _⟩
  · injection hv with hv
    subst hv
    exact ⟨none, 0, [], rfl, ⟨none, 0, rfl, Nat.le_refl _, Nat.zero_le _, fun _ => ⟨rfl, rfl⟩, fun j u hu => by simp at hu⟩, by simp⟩
  · injection hv with hv
    subst hv
    obtain ⟨l, hl1, hl2⟩ := list_of (fun i x => w.cells? base (ad.add (i * P.cellsOf e)) (P.cellsOf e) = some (cells x) ∧ T x) len (by
      intro i hi
      have h5 := h4 i hi
      rw [List.getElem?_eq_getElem (by omega), Option.bind_eq_some_iff] at h5
      obtain ⟨row, h6, h7⟩ := h5
      obtain ⟨y, rfl, hy⟩ := hdec row ⟨_, _, h7⟩
      exact ⟨y, h6, hy⟩)
    subst hl1
    refine ⟨some ad, cap, l, rfl, ⟨some ad, cap, rfl, h1, h2, (fun hx => (by cases hx)), fun j u hu => ?_⟩, fun y hy => ?_⟩
    · have hj : j < l.length * size := by
        have := lt_of_getElem? hu
        rwa [flat_length cells size hlen] at this
      have hpos : 0 < size := by
        rcases Nat.eq_zero_or_pos size with h | h
        · rw [h] at hj; omega
        · exact h
      have hk : j / size < l.length := Nat.div_lt_of_lt_mul (by rw [Nat.mul_comm]; exact hj)
      have hm : j % size < size := Nat.mod_lt _ hpos
      have hjj : j / size * size + j % size = j := by rw [Nat.mul_comm]; exact Nat.div_add_mod j size
      obtain ⟨hc, _⟩ := hl2 (j / size) _ (List.getElem?_eq_getElem hk)
      have h8 := (cells_some hc).2 (j % size) (by rw [hsz]; exact hm)
      have h9 := flat_get cells size hlen l (j / size) (j % size) _ (List.getElem?_eq_getElem hk) hm
      rw [hjj, hu] at h9
      rw [← h9, hsz] at h8
      have h0 := (cells_some (hl2 0 _ (List.getElem?_eq_getElem (Nat.lt_of_le_of_lt (Nat.zero_le _) hk))).1).2 0 (by rw [hsz]; exact hpos)
      rw [Nat.zero_mul] at h0
      have h0' : ∃ u0, w.cell? ad = some u0 := by
        have e : ((ad.add 0).add 0) = ad := by simp [Addr.add]
        rw [e] at h0
        exact ⟨_, h0.trans (List.getElem?_eq_getElem (by rw [hlen]; exact hpos))⟩
      obtain ⟨u0, hu0⟩ := h0'
      obtain ⟨b, o, spot⟩ := ad
      have hspot : spot = none := by
        cases spot with
        | none => rfl
        | some q => 
          unfold World.cell? at hu0
          split at hu0 <;> simp at hu0
      subst hspot
      refine ⟨b, o, rfl, World.block_lt_of_cell? w _ hu0, ?_⟩
      rw [← h8]
      congr 1
      unfold Addr.add
      by_cases e1 : j / size * size = 0
      · rw [if_pos e1]
        by_cases e2 : j % size = 0
        · rw [if_pos e2]; simp only [Addr.mk.injEq, true_and, and_true]; omega
        · rw [if_neg e2]; simp only [Addr.mk.injEq, true_and, and_true]; omega
      · rw [if_neg e1]
        by_cases e2 : j % size = 0
        · rw [if_pos e2]; simp only [Addr.mk.injEq, true_and, and_true]; omega
        · rw [if_neg e2]; simp only [Addr.mk.injEq, true_and, and_true]; omega
    · obtain ⟨i, hi, rfl⟩ := List.getElem_of_mem hy
      exact (hl2 i _ (List.getElem?_eq_getElem hi)).2
theorem reads_of_trod {t : TypeId} {v : Value} {d : DataW H} {ps : List MemPlace} (h : DataW.Trod enc P w base sp held t v d ps) : Reads enc P w base sp held t v.cells.toList := by
  obtain ⟨fuel, h⟩ := h
  exact ⟨fuel, _, h⟩
/-- The fields of a struct that came in. -/
theorem reads_struct {t : TypeId} {fs : Array Field} {cs : List Value} (ht : P.underlying t = some (.struct fs)) (h : Reads enc P w base sp held t cs) :
    cs.length = P.cellsOf t ∧ ∀ (i : Nat) (f : Field), fs[i]? = some f → Reads enc P w base sp held f.type ((cs.drop f.offset).take (P.cellsOf f.type)) := by
  obtain ⟨fuel, x, h⟩ := h
  obtain ⟨xs, n, _, _, h1, h2, h3⟩ := DataW.trod_struct ht h
  refine ⟨h1, fun i f hf => ?_⟩
  have h4 := h3 i f hf
  rw [List.getElem?_eq_getElem (by rw [h2]; exact (Array.getElem?_eq_some_iff.1 hf).1)] at h4
  exact ⟨_, _, h4⟩
end

theorem flat_ints (k : IntKind) : ∀ (l : List Int), l.flatMap (fun n => [Value.int k n]) = l.map (Value.int k)
  | [] => rfl
  | a :: l => by rw [List.flatMap_cons, List.map_cons, flat_ints k l]; rfl
/-- A list of numbers, one cell each. -/
theorem reads_ints {H : Type} {enc : TypeId × Value → H} {P : Program} {w : World} {base : Nat} {sp : Nat → Bool} {held : Bool} {t e : TypeId} {k : IntKind} {v : Value} (ht : P.underlying t = some (.slice e)) (he : P.underlying e = some (.int k)) (hsz : P.cellsOf e = 1)
    (h : Reads enc P w base sp held t [v]) :
    ∃ (a : Option Addr) (c : Nat) (l : List Int), v = .slice a l.length c ∧ Rd (fun i => i < w.heap.size) w v l.length (l.map (Value.int k)) ∧ ∀ x ∈ l, (Lit.int k x).wf = true := by
  obtain ⟨a, c, l, h1, h2, h3⟩ := reads_slice (fun n => [Value.int k n]) 1 (fun n => (Lit.int k n).wf = true) ht hsz (fun _ => rfl) (fun row hr => by
    obtain ⟨n, h1, h2⟩ := reads_int he hr
    exact ⟨n, h1, h2⟩) h
  refine ⟨a, c, l, h1, ?_, h3⟩
  rw [← flat_ints k l]
  exact h2
end Go.Proofs.YtkiikblpgppmkaaGreatDoor
