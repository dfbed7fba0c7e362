/-
  The law's own systems with what they use.
-/
import Derived.Test.YtbigknmeooaidaaStgCh
import Derived.Test.YtbigknmeooaidaaSysM
import Derived.Test.YtbigknmeooaidaaStar
namespace Go.Proofs.Ytbigknmeooaidaa
open Go Go.RowKit
set_option linter.unusedVariables false
set_option linter.unusedSimpArgs false

def rowI (r : RowV) : Asr := slA 3 1 r.v r.l.length (ints r.l)
def usePs (x : SysX) : List Asr := [rowI x.r, rowI x.w, rowI x.rr, rowI x.rw', rowI x.af]
def useA (x : SysX) : Asr := starA (usePs x)
def MadeY (v : Value) (l : List SysX) : List Asr := slA 35 8 v l.length (l.flatMap SysX.cells) :: l.map useA
def ofV (y : SysV) : SysX := ⟨nilR, nilR, nilR, nilR, false, nilV, nilV, ⟨y.af.a, y.af.c, y.aft⟩⟩
theorem ofV_cells {y : SysV} (h : y = sysOf y.af y.aft) (hn : y.af.n = y.aft.length) : (ofV y).cells = y.cells := by
  obtain ⟨a1, a2, a3, a4, a5, a6, a7, ⟨fa, fn, fc⟩, aft⟩ := y
  simp only [sysOf] at h
  injection h with h1 h2 h3 h4 h5 h6 h7
  subst h1; subst h2; subst h3; subst h4; subst h5; subst h6; subst h7
  simp only at hn
  subst hn
  rfl
theorem ofV_flat {l : List SysV} (h : ∀ y, y ∈ l → y = sysOf y.af y.aft ∧ y.af.n = y.aft.length ∧ y.aft.length ≤ 10) : (l.map ofV).flatMap SysX.cells = l.flatMap SysV.cells := by
  induction l with
  | nil => rfl
  | cons y t ih =>
    rw [List.map_cons, List.flatMap_cons, List.flatMap_cons, ih (fun z hz => h z (List.mem_cons_of_mem _ hz)), ofV_cells (h y (List.mem_cons_self ..)).1 (h y (List.mem_cons_self ..)).2.1]
theorem made_up {w wr : World} {v : Value} {l : List SysV} (h : St w wr (MadeL v l)) (hs : ∀ y, y ∈ l → y = sysOf y.af y.aft ∧ y.af.n = y.aft.length ∧ y.aft.length ≤ 10) : St w wr (MadeY v (l.map ofV)) := by
  obtain ⟨hb, G, k1, k2, k3⟩ := h
  refine ⟨hb, G, fun p A hp => ?_, k2, k3⟩
  rcases p with _ | p
  · unfold MadeY at hp
    simp at hp
    subst hp
    have := k1 0 _ rfl
    have e := ofV_flat hs
    rw [← e] at this
    exact this
  · unfold MadeY at hp
    rw [List.getElem?_cons_succ, List.map_map, List.getElem?_map] at hp
    obtain ⟨y, hy, rfl⟩ := Option.map_eq_some_iff.1 hp
    have h1 := k1 (p + 1) (afA y) (by unfold MadeL; rw [List.getElem?_cons_succ, List.getElem?_map, hy]; rfl)
    have hn := (hs y (List.mem_of_getElem? hy)).2.1
    refine ⟨fun j x => j = 4 ∧ G (p + 1) x, fun j B hj => ?_, fun j x hx => hx.2, fun i j x hi hj => hi.1.trans hj.1.symm⟩
    rcases j with _ | _ | _ | _ | _ | j
    · cases hj; exact Own.nil _ _ _ _
    · cases hj; exact Own.nil _ _ _ _
    · cases hj; exact Own.nil _ _ _ _
    · cases hj; exact Own.nil _ _ _ _
    · cases hj
      have h2 : Own (G (p + 1)) wr 3 1 y.af.v y.aft.length (ints y.aft) := h1
      unfold SlV.v at h2
      rw [hn] at h2
      exact h2.mono (fun x hx => ⟨rfl, hx⟩)
    · cases hj
/-- Read. -/
theorem made_rdx {w wr : World} {P : List Asr} {v : Value} {l : List SysX} (h : St w wr (P ++ MadeY v l)) : RdSysX (fun z => w.heap.size ≤ z ∧ z < wr.heap.size) wr v l := by
  obtain ⟨_, G, k1, k2, k3⟩ := h
  have h0 := k1 (P.length + 0) (slA 35 8 v l.length (l.flatMap SysX.cells)) (by rw [List.getElem?_append_right (by omega), Nat.add_sub_cancel_left]; rfl)
  have hu : ∀ x, x ∈ l → UseRd (fun z => w.heap.size ≤ z ∧ z < wr.heap.size) wr x ∧ Rd (fun z => w.heap.size ≤ z ∧ z < wr.heap.size) wr x.af.v x.af.l.length (ints x.af.l) := by
    intro x hx
    obtain ⟨p, hp, rfl⟩ := List.getElem_of_mem hx
    obtain ⟨G2, m1, m2, _⟩ := k1 (P.length + (p + 1)) (useA l[p]) (by rw [List.getElem?_append_right (by omega), Nat.add_sub_cancel_left]; unfold MadeY; simp [hp])
    have f : ∀ (j : Nat) (r : RowV), (usePs l[p])[j]? = some (rowI r) → Rd (fun z => w.heap.size ≤ z ∧ z < wr.heap.size) wr r.v r.l.length (ints r.l) := fun j r hj => (Own.rd (m1 j _ hj)).mono (fun z hz => k2 _ z (m2 j z hz))
    exact ⟨⟨f 0 _ rfl, f 1 _ rfl, f 2 _ rfl, f 3 _ rfl⟩, f 4 _ rfl⟩
  refine ⟨⟨?_, fun y hy => ?_⟩, fun x hx => (hu x hx).1⟩
  · rw [flatV, List.length_map]
    exact (Own.rd h0).mono (k2 _)
  · obtain ⟨x, hx, rfl⟩ := List.mem_map.1 hy
    exact ⟨rfl, (hu x hx).2⟩

/-- What a system uses is changed: of field f. -/
def SysX.row (x : SysX) (f : Nat) : RowV := match f with
  | 0 => x.r
  | 1 => x.w
  | 2 => x.rr
  | _ => x.rw'
def SysX.setRow (x : SysX) (f : Nat) (r : RowV) : SysX := match f with
  | 0 => { x with r := r }
  | 1 => { x with w := r }
  | 2 => { x with rr := r }
  | _ => { x with rw' := r }
theorem setRow_cells (x : SysX) (f : Nat) (hf : f < 4) (r : RowV) : (x.setRow f r).cells = x.cells.set f r.v := by
  match f, hf with
  | 0, _ => rfl
  | 1, _ => rfl
  | 2, _ => rfl
  | 3, _ => rfl
theorem setRow_ps (x : SysX) (f : Nat) (hf : f < 4) (r : RowV) : usePs (x.setRow f r) = (usePs x).set f (rowI r) := by
  match f, hf with
  | 0, _ => rfl
  | 1, _ => rfl
  | 2, _ => rfl
  | 3, _ => rfl
theorem setRow_af (x : SysX) (f : Nat) (r : RowV) : (x.setRow f r).af = x.af := by
  unfold SysX.setRow
  split <;> rfl
theorem row_ps (x : SysX) (f : Nat) (hf : f < 4) : (usePs x)[f]? = some (rowI (x.row f)) := by
  match f, hf with
  | 0, _ => rfl
  | 1, _ => rfl
  | 2, _ => rfl
  | 3, _ => rfl
/-- The claims laid open at system i, field f. -/
theorem made_split {w wr : World} {v : Value} {l : List SysX} (h : St w wr (MadeY v l)) (i : Nat) {x : SysX} (hx : l[i]? = some x) : St w wr (usePs x ++ (MadeY v l).set (i + 1) empA) :=
  h.split (i + 1) (by unfold MadeY; rw [List.getElem?_cons_succ, List.getElem?_map, hx]; rfl)
/-- .. and shut again, the row and the cell changed. -/
theorem made_join {w w5 : World} {v : Value} {l : List SysX} (i f : Nat) (hf : f < 4) {x : SysX} (hx : l[i]? = some x) (r : RowV)
    (h : St w w5 (((usePs x).set f (rowI r) ++ (MadeY v l).set (i + 1) empA).set 5 (slA 35 8 v l.length ((l.flatMap SysX.cells).set (i * 8 + f) r.v)))) : St w w5 (MadeY v (l.set i (x.setRow f r))) := by
  have hil := (List.getElem?_eq_some_iff.1 hx).1
  have e : ((usePs x).set f (rowI r) ++ (MadeY v l).set (i + 1) empA).set 5 (slA 35 8 v l.length ((l.flatMap SysX.cells).set (i * 8 + f) r.v)) = usePs (x.setRow f r) ++ ((MadeY v (l.set i (x.setRow f r))).set (i + 1) empA) := by
    rw [setRow_ps x f hf r, List.set_append_right _ _ (by simp [usePs])]
    congr 1
    have hl5 : 5 - ((usePs x).set f (rowI r)).length = 0 := by simp [usePs]
    rw [hl5]
    unfold MadeY
    simp only [List.set_cons_succ, List.set_cons_zero]
    rw [List.length_set, List.map_set, List.set_set]
    congr 2
    rw [flat_set SysX.cells 8 (fun _ => rfl) (x.setRow f r) f r.v (by omega) l i x hx (setRow_cells x f hf r)]
  rw [e] at h
  have h2 := h.join (i + 1) (by unfold MadeY; simp; omega)
  rw [List.set_set] at h2
  have e2 : (MadeY v (l.set i (x.setRow f r))).set (i + 1) (starA (usePs (x.setRow f r))) = MadeY v (l.set i (x.setRow f r)) := by
    unfold MadeY
    rw [List.set_cons_succ]
    congr 1
    apply List.ext_getElem?
    intro j
    by_cases c : i = j
    · subst c
      rw [List.getElem?_set_self (by simpa using hil), List.getElem?_map, List.getElem?_set_self hil]
      rfl
    · rw [List.getElem?_set_ne c]
  rw [e2] at h2
  exact h2
/-- The word 'Alloc' is changed. -/
theorem made_al {w w5 : World} {v : Value} {l : List SysX} (i : Nat) {x : SysX} (hx : l[i]? = some x) (b : Bool)
    (h : St w w5 ((MadeY v l).set 0 (slA 35 8 v l.length ((l.flatMap SysX.cells).set (i * 8 + 4) (.bool b))))) : St w w5 (MadeY v (l.set i { x with al := b })) := by
  have e : (MadeY v l).set 0 (slA 35 8 v l.length ((l.flatMap SysX.cells).set (i * 8 + 4) (.bool b))) = MadeY v (l.set i { x with al := b }) := by
    unfold MadeY
    rw [List.set_cons_zero, List.length_set, List.map_set]
    congr 1
    · rw [flat_set SysX.cells 8 (fun _ => rfl) { x with al := b } 4 (.bool b) (by omega) l i x hx rfl]
    · apply List.ext_getElem?
      intro j
      by_cases c : i = j
      · subst c
        rw [List.getElem?_set_self (by simpa using (List.getElem?_eq_some_iff.1 hx).1), List.getElem?_map, hx]
        rfl
      · rw [List.getElem?_set_ne c]
  rw [e] at h
  exact h
end Go.Proofs.Ytbigknmeooaidaa
