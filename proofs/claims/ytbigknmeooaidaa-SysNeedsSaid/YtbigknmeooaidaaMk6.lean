/-
  A system made of numbers may be: plain.
-/
import Derived.Test.YtbigknmeooaidaaMk5
namespace Go.Proofs.Ytbigknmeooaidaa
open Go Go.RowKit
set_option linter.unusedVariables false
set_option linter.unusedSimpArgs false

theorem colsE_of {nd : Nat} : ∀ (l ah : List ColV), (∀ (pre : List ColV) (c : ColV) (post : List ColV), l = pre ++ c :: post → colE nd (ah ++ pre) c = 0) → colsE nd ah l = 0
  | [], _, _ => rfl
  | x :: t, ah, h => by
    have h0 := h [] x t rfl
    rw [List.append_nil] at h0
    unfold colsE
    rw [if_pos h0]
    refine colsE_of t (ah ++ [x]) (fun pre c post e => ?_)
    have := h (x :: pre) c post (by rw [e]; rfl)
    rw [List.append_assoc]
    exact this
theorem colE_ok {nd : Nat} {ah : List ColV} {c : ColV} (h1 : 1 ≤ c.kind ∧ c.kind ≤ 4) (h2 : 0 ≤ c.comp ∧ c.comp < (nd : Int)) (h3 : ∀ x, x ∈ ah → x.comp ≠ c.comp) : colE nd ah c = 0 := by
  unfold colE
  have h5 : (c.kind == 5) = false := by simp; omega
  have ha : ah.any (twB (c.kind == 5) c.comp) = false := by
    rw [List.any_eq_false]
    intro x hx
    unfold twB
    have := h3 x hx
    simp [this]
  rw [ha, h5, decide_eq_false (show ¬ c.kind < 1 by omega), decide_eq_false (show ¬ c.kind > 5 by omega), decide_eq_false (show ¬ c.comp < 0 by omega), decide_eq_false (show ¬ c.comp ≥ (nd : Int) by omega)]
  rfl
theorem T17.cols {nd : Nat} {L : List ColV} {U : Nat} {sm : Bool} (h : T17 nd L U sm) (pre : List ColV) (c : ColV) (post : List ColV) (e : L = pre ++ c :: post) : colE nd pre c = 0 := by
  have hc : c ∈ L := by rw [e]; simp
  refine colE_ok (h.kind c hc) (h.comp c hc) (fun x hx => ?_)
  have := h.nodup
  rw [e, List.pairwise_append] at this
  exact this.2.2 x hx c (by simp)
theorem Tame17.planE {nd : Nat} {L : List ColV} (h : Tame17 nd L) : planE nd L = 0 := by
  obtain ⟨L0, U, sm, h1, hl, rfl⟩ := h
  unfold Go.Proofs.Ytbigknmeooaidaa.planE
  cases sm
  · have hlen : ¬ 16 < (L0 ++ [(⟨5, 0⟩ : ColV)]).length := by simp; omega
    have hT5 : colE nd L0 ⟨5, 0⟩ = 0 := by
      unfold colE
      have ha : L0.any (twB true 0) = false := by
        rw [List.any_eq_false]
        intro x hx
        unfold twB
        have := h1.kind x hx
        have h5 : (x.kind == 5) = false := by simp; omega
        simp [h5]
      simp [ha]
    have hco : colsE nd [] (L0 ++ [(⟨5, 0⟩ : ColV)]) = 0 := by
      refine colsE_of _ _ (fun pre c post e => ?_)
      rw [List.nil_append]
      rcases List.append_eq_append_iff.1 e with ⟨a, e1, e2⟩ | ⟨a, e1, e2⟩
      · cases a with
        | nil =>
          simp at e1 e2
          obtain ⟨rfl, _⟩ := e2
          rw [e1]
          exact hT5
        | cons z t =>
          simp at e2
      · cases a with
        | nil =>
          simp at e1 e2
          obtain ⟨rfl, _⟩ := e2
          rw [← e1]
          exact hT5
        | cons z t =>
          simp at e2
          obtain ⟨rfl, e2⟩ := e2
          exact h1.cols pre c t e1
    have ha : (L0 ++ [(⟨5, 0⟩ : ColV)]).any askB = true := by
      rw [List.any_append]
      simp [askB]
    rw [if_neg (by simpa using hlen), if_pos (by simpa using hco)]
    simp only [Bool.false_eq_true, if_false]
    rw [ha]
    rfl
  · have hlen : ¬ 16 < L0.length := by omega
    have hco : colsE nd [] L0 = 0 := colsE_of _ _ (fun pre c post e => by rw [List.nil_append]; exact h1.cols pre c post e)
    simp only [if_true]
    rw [if_neg hlen, if_pos hco, ← h1.some']
    rfl

theorem codesB_of {n : Nat} : ∀ (l : List InsV) (k : Nat), (∀ (j : Nat) (i : InsV), l[j]? = some i → okI i ((n : Int) - 1 - (k + j : Nat)) = true) → codesB n k l = true
  | [], _, _ => rfl
  | x :: t, k, h => by
    unfold codesB
    rw [Bool.and_eq_true]
    refine ⟨by have := h 0 x rfl; simpa using this, codesB_of t (k + 1) (fun j i hj => ?_)⟩
    have := h (j + 1) i hj
    rw [show k + (j + 1) = k + 1 + j by omega] at this
    exact this
theorem made_ok1 {cols comps res : Nat} {i i' : InsV} {b : Int} (h : TameI cols comps res i) (hb : 0 ≤ b) (e1 : i'.op = i.op) (e2 : i'.r = i.r) (e3 : i'.s = i.s) (e4 : i.op ≠ 13 → i'.n = i.n) (e5 : i.op = 13 → i'.n = min i.n b) : okI i' b = true := by
  have hIs : shIs i'.op = true := by unfold shIs; rw [e1, decide_eq_true h.op1, decide_eq_true h.op2]; rfl
  have hR : regB (shR i'.op) i'.r = true := by
    unfold regB
    obtain ⟨a, b, c⟩ := h.r
    rw [e1, e2, decide_eq_true a, decide_eq_true b]
    cases hr : shR i.op
    · rw [c hr]; rfl
    · rfl
  have hS : regB (shS i'.op) i'.s = true := by
    unfold regB
    obtain ⟨a, b, c⟩ := h.s
    rw [e1, e3, decide_eq_true a, decide_eq_true b]
    cases hr : shS i.op
    · rw [c hr]; rfl
    · rfl
  have hN : (shN i'.op || !(i'.n != 0)) = true := by
    rw [e1]
    cases hn : shN i.op
    · have hop : i.op ≠ 13 := by
        intro h13
        rw [h13] at hn
        revert hn
        decide
      rw [e4 hop, h.n0 hn]
      rfl
    · rfl
  have hU : (!(shU i'.op) || !(decide (i'.n < 0))) = true := by
    rw [e1]
    cases hu : shU i.op
    · rfl
    · have hop : i.op ≠ 1 := by
        intro h13
        rw [h13] at hu
        revert hu
        decide
      have h0 := h.n1 hop
      have : ¬ i'.n < 0 := by
        by_cases h13 : i.op = 13
        · rw [e5 h13]; omega
        · rw [e4 h13]; omega
      rw [decide_eq_false this]
      rfl
  have hB : ((i'.op != 13) || decide (i'.n ≤ b)) = true := by
    by_cases h13 : i.op = 13
    · rw [e5 h13, decide_eq_true (show min i.n b ≤ b by omega), Bool.or_true]
    · rw [e1, show (i.op != 13) = true from bne_iff_ne.2 h13]; rfl
  unfold okI
  rw [hIs, hR, hS, hN, hU, hB]
  rfl
theorem risB_of {b : Int} : ∀ (l : List Int) (last : Int), Rises l → (∀ x, x ∈ l → last < x ∧ x < b) → risB b last l = true
  | [], _, _, _ => rfl
  | x :: t, last, h, hb => by
    have h1 := hb x (by simp)
    have hp := List.pairwise_cons.1 h
    unfold risB
    rw [decide_eq_false (show ¬ x ≤ last by omega), decide_eq_false (show ¬ b ≤ x by omega), risB_of t x hp.2 (fun y hy => ⟨hp.1 y hy, (hb y (by simp [hy])).2⟩)]
    rfl
/-- What a system must declare. -/
theorem sysE_ok {dl : List DescV} {nr : Nat} {y : SysF} (hp : planE dl.length y.pll = 0) (hc : codeE y.cdl = 0)
    (hr : Rises y.x.r.l ∧ ∀ z, z ∈ y.x.r.l → 0 ≤ z ∧ z < (dl.length : Int)) (hw : Rises y.x.w.l ∧ ∀ z, z ∈ y.x.w.l → 0 ≤ z ∧ z < (dl.length : Int))
    (hrr : Rises y.x.rr.l ∧ ∀ z, z ∈ y.x.rr.l → 0 ≤ z ∧ z < ((min nr 32 : Nat) : Int)) (hrw : Rises y.x.rw'.l ∧ ∀ z, z ∈ y.x.rw'.l → 0 ≤ z ∧ z < ((min nr 32 : Nat) : Int))
    (h1 : ∀ z, z ∈ compsF [2] y.pll → z ∈ y.x.w.l) (h2 : ∀ z, z ∈ compsF [1, 3, 4] y.pll → z ∈ y.x.r.l ∨ z ∈ y.x.w.l)
    (hi : ∀ i, i ∈ y.cdl → insE dl.length y.x dl y.pll i = 0) : sysE dl nr y = 0 := by
  have e1 := risB_of y.x.r.l (-1) hr.1 (fun z hz => ⟨by have := (hr.2 z hz).1; omega, (hr.2 z hz).2⟩)
  have e2 := risB_of y.x.w.l (-1) hw.1 (fun z hz => ⟨by have := (hw.2 z hz).1; omega, (hw.2 z hz).2⟩)
  have e3 := risB_of y.x.rr.l (-1) hrr.1 (fun z hz => ⟨by have := (hrr.2 z hz).1; omega, (hrr.2 z hz).2⟩)
  have e4 := risB_of y.x.rw'.l (-1) hrw.1 (fun z hz => ⟨by have := (hrw.2 z hz).1; omega, (hrw.2 z hz).2⟩)
  have e5 : inB (compsF [2] y.pll) y.x.w.l = true := inB_iff.2 h1
  have e6 : inB (compsF [1, 3, 4] y.pll) (y.x.r.l ++ y.x.w.l) = true := inB_iff.2 (fun z hz => List.mem_append.2 (h2 z hz))
  have hu : usesE dl.length nr y.x y.pll = 0 := by
    unfold usesE
    rw [e1, e2, e3, e4, e5, e6]
    rfl
  have hins : ∀ l : List InsV, (∀ i, i ∈ l → insE dl.length y.x dl y.pll i = 0) → insesE dl.length y.x dl y.pll l = 0 := by
    intro l
    induction l with
    | nil => intro _; rfl
    | cons a t ih =>
      intro h
      unfold insesE
      rw [if_pos (h a (by simp))]
      exact ih (fun i hi => h i (by simp [hi]))
  unfold sysE
  rw [if_pos hp, if_pos hc, if_pos hu]
  exact hins y.cdl hi
end Go.Proofs.Ytbigknmeooaidaa
