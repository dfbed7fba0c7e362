/-
  A region that draws its order: a load may be taken first though the region's last store writes its cell, if that store waits for the load. No program in sight.
-/
import Derived.Test.YtbigknmeooaidaaBase
import Derived.Deep.RegionHeld
import Derived.StillTail
import Derived.Deep.DrawnRows
namespace Go.Proofs.Ytbigknmeooaidaa
open Go Go.RowKit
set_option linter.unusedVariables false
set_option linter.unusedSimpArgs false

section
variable {P : Program} {ops : Array Oper} {Q : Exit → Act → World → Prop} {md : Region.Mode} {r : Nat} {S : World → Prop}

/-- Whatever order is picked from here on; S holds behind every operation, as long as number r has not come up. -/
def wpAnyM (P : Program) (md : Region.Mode) (ops : Array Oper) (Q : Exit → Act → World → Prop) (r : Nat) (S : World → Prop) : Nat → Array Bool → Act → World → Prop
  | 0, listed, a, w => Region.ready md ops listed = [] ∧ Q .normal a w
  | n + 1, listed, a, w =>
    (Region.ready md ops listed = [] → Q .normal a w) ∧
    ∀ i ∈ Region.ready md ops listed, wpOp P ops Q i (fun a' w' => ((listed.setIfInBounds i true).getD r true = false → S w') ∧ wpAnyM P md ops Q r S n (listed.setIfInBounds i true) a' w') a w

theorem wpAny_ofM : ∀ (n : Nat) (listed : Array Bool) (a : Act) (w : World), wpAnyM P md ops Q r S n listed a w → wpAny P md ops Q n listed a w
  | 0, _, _, _, h => h
  | n + 1, _, _, _, h => ⟨h.1, fun i hi => wpOp_mono (fun a' w' h' => wpAny_ofM n _ a' w' h'.2) (h.2 i hi)⟩

theorem wpAnyM_first {i : Nat} {oi : Oper} {v : Value} (hi : ops[i]? = some oi) (hsel : ∀ (j : Nat) (o : Oper) cs b, ops[j]? = some o → o.op ≠ .select cs b)
    (hQ : ∀ c a w, Q (.panic c) (a.put oi.dst v) w → Q (.panic c) a w) (hri : Region.waitsFor md ops r i = true) :
    ∀ (n : Nat) (listed : Array Bool) (a : Act) (w : World),
      (∀ j oj, ops[j]? = some oj → j ≠ i → listed.getD j true = false → (∀ e ∈ oj.after, Region.binds md e = true → e.on ≠ i) → oi.apart ops oj = true) →
      i ∈ Region.ready md ops listed → listed.getD r true = false → YieldsIf P ops S oi v a → S w →
      wpAnyM P md ops Q r S n (listed.setIfInBounds i true) (a.put oi.dst v) w → wpAnyM P md ops Q r S (n + 1) listed a w := by
  intro n
  induction n with
  | zero =>
    intro listed a w _ hr _ hy hS H
    refine ⟨fun h => (by rw [h] at hr; cases hr), fun j hj => ?_⟩
    by_cases hji : j = i
    · subst hji; exact hy.wpOp hi hS ⟨fun _ => hS, H⟩
    · have := ready_mono hj hji
      rw [H.1] at this
      cases this
  | succ n ih =>
    intro listed a w hfree hr hlr hy hS H
    refine ⟨fun h => (by rw [h] at hr; cases hr), fun j hj => ?_⟩
    by_cases hji : j = i
    · subst hji; exact hy.wpOp hi hS ⟨fun _ => hS, H⟩
    · have h1 := H.2 j (ready_mono hj hji)
      obtain ⟨hjun, oj, hoj, hall⟩ := mem_ready.1 hj
      have hpend : listed.getD i false = false := getD_both (mem_ready.1 hr).1
      have hnot : ∀ e ∈ oj.after, Region.binds md e = true → e.on ≠ i := fun e he hb heq => by
        have h1 := hall e he hb
        rw [heq, hpend] at h1
        cases h1
      obtain ⟨orr, horr, e0, he0, hb0, hon0⟩ := Region.waitsFor_spec hri
      have hrj : j ≠ r := by
        rintro rfl
        have : oj = orr := Option.some.inj (hoj.symm.trans horr)
        subst this
        exact hnot e0 he0 hb0 hon0
      have hir : i ≠ r := by
        rintro rfl
        obtain ⟨_, oi', hoi', hall'⟩ := mem_ready.1 hr
        have : oi' = orr := Option.some.inj (hoi'.symm.trans horr)
        subst this
        have h2 := hall' e0 he0 hb0
        rw [hon0, hpend] at h2
        cases h2
      have hlj : (listed.setIfInBounds j true).getD r true = false := by rw [getD_set_ne true hrj]; exact hlr
      have h2 := wpOp_putIf hoj (hfree j oj hoj hji hjun hnot) (fun cs b => hsel i oi cs b hi) (fun cs b => hsel j oj cs b hoj) hQ hy h1
      have hfree' : ∀ k ok, ops[k]? = some ok → k ≠ i → (listed.setIfInBounds j true).getD k true = false →
          (∀ e ∈ ok.after, Region.binds md e = true → e.on ≠ i) → oi.apart ops ok = true := fun k ok hk hki hun hno => by
        refine hfree k ok hk hki ?_ hno
        by_cases hjk : j = k
        · subst hjk; exact hjun
        · rw [getD_set_ne true hjk] at hun; exact hun
      refine wpOp_mono (fun a' w' h3 => ?_) h2
      have hS' : S w' := h3.2.1 (by rw [getD_set_ne true hrj, getD_set_ne true hir]; exact hlr)
      refine ⟨fun _ => hS', ih (listed.setIfInBounds j true) a' w' hfree' (ready_mono hr (Ne.symm hji)) hlj h3.1 hS' ?_⟩
      rw [Array.setIfInBounds_comm _ _ hji]
      exact h3.2.2

theorem wpAnyM_take {i : Nat} {oi : Oper} {v : Value} {n : Nat} {listed : Array Bool} {a : Act} {w : World} (hi : ops[i]? = some oi)
    (hs : Region.noSelect ops = true) (hf : Region.free md ops listed i = true) (hr : (Region.ready md ops listed).contains i = true) (hri : Region.waitsFor md ops r i = true) (hlr : listed.getD r true = false)
    (hQ : ∀ c a w, Q (.panic c) (a.put oi.dst v) w → Q (.panic c) a w) (hy : YieldsIf P ops S oi v a) (hS : S w)
    (h : wpAnyM P md ops Q r S n (listed.setIfInBounds i true) (a.put oi.dst v) w) : wpAnyM P md ops Q r S (n + 1) listed a w :=
  wpAnyM_first hi (Region.noSelect_spec hs) hQ hri n listed a w (Region.free_spec hi hf) (by simpa using hr) hlr hy hS h

/-- An operation that yields its value in whatever world is taken first: nothing is asked of S. -/
theorem wpAnyM_firstP {i : Nat} {oi : Oper} {v : Value} (hi : ops[i]? = some oi) (hsel : ∀ (j : Nat) (o : Oper) cs b, ops[j]? = some o → o.op ≠ .select cs b)
    (hQ : ∀ c a w, Q (.panic c) (a.put oi.dst v) w → Q (.panic c) a w) (hir : i ≠ r) :
    ∀ (n : Nat) (listed : Array Bool) (a : Act) (w : World),
      (∀ j oj, ops[j]? = some oj → j ≠ i → listed.getD j true = false → (∀ e ∈ oj.after, Region.binds md e = true → e.on ≠ i) → oi.apart ops oj = true) →
      i ∈ Region.ready md ops listed → YieldsIf P ops (fun _ => True) oi v a → (listed.getD r true = false → S w) →
      wpAnyM P md ops Q r S n (listed.setIfInBounds i true) (a.put oi.dst v) w → wpAnyM P md ops Q r S (n + 1) listed a w := by
  intro n
  induction n with
  | zero =>
    intro listed a w _ hr hy hS H
    refine ⟨fun h => (by rw [h] at hr; cases hr), fun j hj => ?_⟩
    by_cases hji : j = i
    · subst hji; exact hy.wpOp hi trivial ⟨fun h => hS (by rw [getD_set_ne true hir] at h; exact h), H⟩
    · have := ready_mono hj hji
      rw [H.1] at this
      cases this
  | succ n ih =>
    intro listed a w hfree hr hy hS H
    refine ⟨fun h => (by rw [h] at hr; cases hr), fun j hj => ?_⟩
    by_cases hji : j = i
    · subst hji; exact hy.wpOp hi trivial ⟨fun h => hS (by rw [getD_set_ne true hir] at h; exact h), H⟩
    · have h1 := H.2 j (ready_mono hj hji)
      obtain ⟨hjun, oj, hoj, hall⟩ := mem_ready.1 hj
      have hpend : listed.getD i false = false := getD_both (mem_ready.1 hr).1
      have hnot : ∀ e ∈ oj.after, Region.binds md e = true → e.on ≠ i := fun e he hb heq => by
        have h1 := hall e he hb
        rw [heq, hpend] at h1
        cases h1
      have h2 := wpOp_putIf hoj (hfree j oj hoj hji hjun hnot) (fun cs b => hsel i oi cs b hi) (fun cs b => hsel j oj cs b hoj) hQ hy h1
      have hfree' : ∀ k ok, ops[k]? = some ok → k ≠ i → (listed.setIfInBounds j true).getD k true = false →
          (∀ e ∈ ok.after, Region.binds md e = true → e.on ≠ i) → oi.apart ops ok = true := fun k ok hk hki hun hno => by
        refine hfree k ok hk hki ?_ hno
        by_cases hjk : j = k
        · subst hjk; exact hjun
        · rw [getD_set_ne true hjk] at hun; exact hun
      refine wpOp_mono (fun a' w' h3 => ?_) h2
      have hS' : (listed.setIfInBounds j true).getD r true = false → S w' := fun h => h3.2.1 (by
        rw [Array.setIfInBounds_comm _ _ (Ne.symm hji), getD_set_ne true hir]; exact h)
      refine ⟨hS', ih (listed.setIfInBounds j true) a' w' hfree' (ready_mono hr (Ne.symm hji)) h3.1 hS' ?_⟩
      rw [Array.setIfInBounds_comm _ _ hji]
      exact h3.2.2
theorem wpAnyM_takeP {i : Nat} {oi : Oper} {v : Value} {n : Nat} {listed : Array Bool} {a : Act} {w : World} (hi : ops[i]? = some oi)
    (hs : Region.noSelect ops = true) (hf : Region.free md ops listed i = true) (hr : (Region.ready md ops listed).contains i = true) (hir : (i == r) = false)
    (hQ : ∀ c a w, Q (.panic c) (a.put oi.dst v) w → Q (.panic c) a w) (hy : YieldsIf P ops (fun _ => True) oi v a) (hS : listed.getD r true = false → S w)
    (h : wpAnyM P md ops Q r S n (listed.setIfInBounds i true) (a.put oi.dst v) w) : wpAnyM P md ops Q r S (n + 1) listed a w :=
  wpAnyM_firstP hi (Region.noSelect_spec hs) hQ (by simpa using hir) n listed a w (Region.free_spec hi hf) (by simpa using hr) hy hS h

theorem wpAnyM_done {listed : Array Bool} {a : Act} {w : World} (hr : Region.ready md ops listed = []) (h : Q .normal a w) : ∀ n, wpAnyM P md ops Q r S n listed a w
  | 0 => ⟨hr, h⟩
  | _ + 1 => ⟨fun _ => h, by rw [hr]; simp⟩

def AllReadyM (P : Program) (md : Region.Mode) (ops : Array Oper) (Q : Exit → Act → World → Prop) (r : Nat) (S : World → Prop) (n : Nat) (listed : Array Bool) (a : Act) (w : World) (rs : List Nat) : Prop :=
  ∀ i ∈ rs, wpOp P ops Q i (fun a' w' => ((listed.setIfInBounds i true).getD r true = false → S w') ∧ wpAnyM P md ops Q r S n (listed.setIfInBounds i true) a' w') a w
theorem AllReadyM.nil {n : Nat} {listed : Array Bool} {a : Act} {w : World} : AllReadyM P md ops Q r S n listed a w [] := fun _ h => by cases h
theorem AllReadyM.cons {n : Nat} {listed : Array Bool} {a : Act} {w : World} {i : Nat} {o : Oper} {rs : List Nat} (ho : ops[i]? = some o)
    (h : ∀ K' : Act → World → Prop, Shut (∀ a w, S w → (S w → wpAnyM P md ops Q r S n (listed.setIfInBounds i true) a w) → K' a w) → if Region.wanted o (yielded ops a.tmps) = true then Oper.wp P o a w K' Q else K' (a.put o.dst undef) w)
    (hs : AllReadyM P md ops Q r S n listed a w rs) : AllReadyM P md ops Q r S n listed a w (i :: rs) := fun j hj => by
  rcases List.mem_cons.1 hj with rfl | hj
  · exact wpOp_step ho (fun K' hK => h K' (fun a w hS hW => hK a w ⟨fun _ => hS, hW hS⟩))
  · exact hs j hj
/-- Number r has come up, or comes up now: nothing is to be shown. -/
theorem AllReadyM.free {n : Nat} {listed : Array Bool} {a : Act} {w : World} {i : Nat} {o : Oper} {rs : List Nat} (ho : ops[i]? = some o) (hl : (listed.setIfInBounds i true).getD r true = true)
    (h : ∀ K' : Act → World → Prop, Shut (∀ a w, wpAnyM P md ops Q r S n (listed.setIfInBounds i true) a w → K' a w) → if Region.wanted o (yielded ops a.tmps) = true then Oper.wp P o a w K' Q else K' (a.put o.dst undef) w)
    (hs : AllReadyM P md ops Q r S n listed a w rs) : AllReadyM P md ops Q r S n listed a w (i :: rs) := fun j hj => by
  rcases List.mem_cons.1 hj with rfl | hj
  · exact wpOp_step ho (fun K' hK => h K' (fun a w hW => hK a w ⟨(fun e => by rw [hl] at e; cases e), hW⟩))
  · exact hs j hj
theorem wpAnyM_ready {rs : List Nat} {n : Nat} {listed : Array Bool} {a : Act} {w : World} (hr : Region.ready md ops listed = rs) (hne : rs ≠ [])
    (h : AllReadyM P md ops Q r S n listed a w rs) : wpAnyM P md ops Q r S (n + 1) listed a w :=
  ⟨fun h0 => absurd (hr ▸ h0) hne, hr ▸ h⟩

theorem wp_region_M {id : Nat} {a : Act} {w : World} (hm : P.follows .mixedOrders = true) (hS : S w.drew)
    (h : S w.drew → wpAnyM P .any ops Q r S ops.size (Array.replicate ops.size false) a w.drew) : (Code.region id ops true).wp P Q a w :=
  wp_region_any hm (wpAny_ofM _ _ _ _ (h hS))
end
/-- The built-in max of two numbers as one operation of a region. -/
theorem step_max {P : Program} {t t' : TypeId} {o : Oper} {a : Act} {w : World} {K : Act → World → Prop} {Q : Exit → Act → World → Prop} (x y : Operand)
    (ho : o.op = .call { callee := .builtin .max, args := #[x, y], argTypes := #[t, t'] }) {k k' : IntKind} {m n r : Int} (hx : a.eval x = .int k m) (hy : a.eval y = .int k' n) (hr : (if n > m then n else m) = r)
    (h : K (a.put o.dst (.int k r)) w) : Oper.wp P o a w K Q := by
  subst hr
  unfold Oper.wp execOp
  simp only [ho, resolve, invoke, builtin, Sem.run_bind, Sem.run_pure, Result.andThen_ok, List.map_toArray, List.map_cons, List.map_nil, hx, hy, run_max_int2]
  exact h
theorem step_min {P : Program} {t t' : TypeId} {o : Oper} {a : Act} {w : World} {K : Act → World → Prop} {Q : Exit → Act → World → Prop} (x y : Operand)
    (ho : o.op = .call { callee := .builtin .min, args := #[x, y], argTypes := #[t, t'] }) {k k' : IntKind} {m n r : Int} (hx : a.eval x = .int k m) (hy : a.eval y = .int k' n) (hr : (if n < m then n else m) = r)
    (h : K (a.put o.dst (.int k r)) w) : Oper.wp P o a w K Q := by
  subst hr
  unfold Oper.wp execOp
  simp only [ho, resolve, invoke, builtin, Sem.run_bind, Sem.run_pure, Result.andThen_ok, List.map_toArray, List.map_cons, List.map_nil, hx, hy, run_min_int2]
  exact h
/-- A slice expression s[l:]: what is read through it. -/
structure CutL (size : Nat) (a a' : Option Addr) (n c l n' c' : Nat) : Prop where
  rd : ∀ (S : Nat → Prop) (w : World) (xs : List Value), xs.length = n * size → Rd S w (.slice a n c) n xs → Rd S w (.slice a' n' c') n' (xs.drop (l * size))
  num : n' + l = n
  cap : c' + l = c
  nil : a' = none → a = none
theorem cutL_of (size : Nat) (a : Option Addr) (n c l : Nat) (hl : l ≤ n) (hc : n ≤ c) : CutL size a (if c = l then a else a.map (·.add (l * size))) n c l (n - l) (c - l) := by
  refine ⟨fun S w xs hx h => ?_, by omega, by omega, fun h => ?_⟩
  · obtain ⟨a', c', he, h1, h2, h3, h4⟩ := h
    injection he with e1 _ e3
    subst e1; subst e3
    refine ⟨_, _, rfl, by omega, by omega, fun hn => ?_, fun j u hu => ?_⟩
    · have hn' : a = none := by
        split at hn
        · exact hn
        · cases a with
          | none => rfl
          | some _ => cases hn
      obtain ⟨r1, r2⟩ := h3 hn'
      omega
    · rw [List.getElem?_drop] at hu
      obtain ⟨b, o, rfl, hb, hcell⟩ := h4 _ u hu
      by_cases e : c = l
      · exfalso
        have := (List.getElem?_eq_some_iff.1 hu).1
        have : n = l := by omega
        subst this
        omega
      · refine ⟨b, o + l * size, ?_, hb, by rw [Nat.add_assoc]; exact hcell⟩
        rw [if_neg e]
        simp only [Option.map_some, Addr.add]
        split
        · rename_i h0; simp [h0]
        · rfl
  · split at h
    · exact h
    · cases a with
      | none => rfl
      | some _ => cases h
/-- s[l:], run anywhere. -/
theorem slice_l_any {P : Program} {t e : TypeId} {size bytes : Nat} (hT : SlTy P t e size bytes) (ad : Option Addr) (n c l : Nat) (k : IntKind) (hl : l ≤ n) (hc : n ≤ c) :
    ∃ a' n' c', CutL size ad a' n c l n' c' ∧ ∀ w, (Instr.sliceAt t (.slice ad n c) (some (.int k l)) none none).run P w = .ok (.slice a' n' c') w := by
  obtain ⟨ht, ⟨i, z, hi, hz, hsize, hby, hzs⟩, hsz⟩ := hT
  refine ⟨_, _, _, cutL_of size ad n c l hl hc, fun w => ?_⟩
  have hr : (Instr.slice t (.slice ad n c) (some (.int k l)) none none).run P w = .ok (.slice (if c = l then ad else ad.map (·.add (l * size))) (n - l) (c - l)) w := by
    simp [Instr.slice, run_underlying ht, Instr.sliceBounds, Instr.sliceBound, asIntOf, sizeOf, typeInfo, hi, hsize, hl]
  have hs : (Instr.sliceAt t (.slice ad n c) (some (.int k l)) none none).run P w = (Instr.slice t (.slice ad n c) (some (.int k l)) none none).run P w := by simp [Instr.sliceAt, run_underlying ht]
  rw [hs, hr]
/-- s[:h], run anywhere. -/
theorem slice_h_any {P : Program} {t e : TypeId} {size bytes : Nat} (hT : SlTy P t e size bytes) (ad : Option Addr) (n c h : Nat) (k : IntKind) (hc : h ≤ c) :
    ∀ w, (Instr.sliceAt t (.slice ad n c) none (some (.int k h)) none).run P w = .ok (.slice ad h c) w := by
  intro w
  obtain ⟨ht, ⟨i, z, hi, hz, hsize, hby, hzs⟩, hsz⟩ := hT
  have hr : (Instr.slice t (.slice ad n c) none (some (.int k h)) none).run P w = .ok (.slice ad h c) w := by
    simp [Instr.slice, run_underlying ht, Instr.sliceBounds, Instr.sliceBound, asIntOf, sizeOf, typeInfo, hi, hsize, hc]
    intro _
    cases ad <;> simp [Addr.add]
  have hs : (Instr.sliceAt t (.slice ad n c) none (some (.int k h)) none).run P w = (Instr.slice t (.slice ad n c) none (some (.int k h)) none).run P w := by simp [Instr.sliceAt, run_underlying ht]
  rw [hs, hr]
theorem Rd.take {S : Nat → Prop} {w : World} {a : Option Addr} {n c : Nat} {xs : List Value} (hr : Rd S w (.slice a n c) n xs) (size h : Nat) (hh : h ≤ n) : Rd S w (.slice a h c) h (xs.take (h * size)) := by
  obtain ⟨a', c', he, h1, h2, h3, h4⟩ := hr
  injection he with e1 _ e3
  subst e1; subst e3
  refine ⟨_, _, rfl, by omega, h2, fun hn => ⟨by have := (h3 hn).1; omega, (h3 hn).2⟩, fun j u hu => ?_⟩
  rw [List.getElem?_take] at hu
  split at hu
  · exact h4 j u hu
  · cases hu
theorem step_slice_l {P : Program} {t e : TypeId} {size bytes : Nat} (hT : SlTy P t e size bytes) {o : Oper} {a : Act} {w : World} {K : Act → World → Prop} {Q : Exit → Act → World → Prop} (x lo : Operand)
    (ho : o.op = .slice t x (some lo) none none) {ad : Option Addr} {n c l : Nat} {k : IntKind} (hx : a.eval x = .slice ad n c) (hlo : a.eval lo = .int k l) (hl : l ≤ n) (hc : n ≤ c)
    (h : ∀ a' n' c', CutL size ad a' n c l n' c' → K (a.put o.dst (.slice a' n' c')) w) : Oper.wp P o a w K Q := by
  obtain ⟨ht, ⟨i, z, hi, hz, hsize, hby, hzs⟩, hsz⟩ := hT
  have h1 : (l : Int) ≤ (n : Int) := by omega
  have hr : (Instr.slice t (.slice ad n c) (some (.int k l)) none none).run P w = .ok (.slice (if c = l then ad else ad.map (·.add (l * size))) (n - l) (c - l)) w := by
    simp [Instr.slice, run_underlying ht, Instr.sliceBounds, Instr.sliceBound, asIntOf, sizeOf, typeInfo, hi, hsize, hl]
  have hs : (Instr.sliceAt t (.slice ad n c) (some (.int k l)) none none).run P w = (Instr.slice t (.slice ad n c) (some (.int k l)) none none).run P w := by simp [Instr.sliceAt, run_underlying ht]
  unfold Oper.wp execOp
  simp only [ho, hx, hlo, Option.map_some, Option.map_none, Sem.run_bind, Sem.run_pure, Result.andThen_ok, hs, hr]
  exact h _ _ _ (cutL_of size ad n c l hl hc)
end Go.Proofs.Ytbigknmeooaidaa
