/-
  The packages sys and plan: do places rise; is one row in another; may a plan be.
-/
import Derived.Test.YtbigknmeooaidaaConf4
import Derived.Test.YtbigknmeooaidaaFlat
namespace Go.Proofs.Ytbigknmeooaidaa
open Go Go.RowKit
set_option linter.unusedVariables false
set_option linter.unusedSimpArgs false

/-- A column, an instruction, a component's description, a world's. -/
structure ColV where
  kind : Int
  comp : Int
def ColV.cells (x : ColV) : List Value := [.int .i64 x.kind, .int .i64 x.comp]
def ColV.val (x : ColV) : Value := .agg #[.int .i64 x.kind, .int .i64 x.comp]
abbrev RdCols (S : Nat → Prop) (w : World) (v : Value) (l : List ColV) : Prop := Rd S w v l.length (l.flatMap ColV.cells)

/-- Do they rise, from behind 'last' on, below a bound? -/
def risB (below : Int) : Int → List Int → Bool
  | _, [] => true
  | last, n :: t => !(decide (n ≤ last) || decide (below ≤ n)) && risB below n t

def LoopRis (w : World) (l : List Int) (b : Int) (g : Nat) (v5 v10 : Value) (wr : World) : Prop :=
  ∃ (k : Nat) (last : Int), g + k = l.length ∧ v10 = .int .i64 k ∧ v5 = .int .i64 last ∧ risB b (-1) l = risB b last (l.drop k) ∧ w = wr

set_option maxHeartbeats 1000000 in
theorem sys_rises (v : Value) (l : List Int) (b : Int) (w : World) (S : Nat → Prop) (h : Rd S w v l.length (ints l)) :
    Calls Try.prog 71 #[v, .int .i64 b] w (fun e w' => e = .returned (.bool (risB b (-1) l)) ∧ w = w') := by
  obtain ⟨a, c, rfl, g1, g2, g3, g4⟩ := id h
  have hlen : l.length ≤ 9223372036854775807 := by unfold maxLen at g2; omega
  clear g1 g2 g3 g4
  have H := Lib.hid h; clear h
  go_enter Try.func71, Try.ntmps71
  go_wp2_with fail
  go_loopg [5, 10] l.length (fun g v5 v10 wr => LoopRis w l b g v5 v10 wr)
  case atStart => exact ⟨0, -1, rfl, rfl, rfl, rfl, rfl⟩
  case round =>
    obtain ⟨k, last, hk, rfl, rfl, hr, rfl⟩ := hrel
    have hkl : k ≤ l.length := by omega
    have HK := Lib.hid hk; clear hk
    by_cases hlt : k < l.length
    · obtain ⟨x, hx⟩ : ∃ x, l[k]? = some x := ⟨_, List.getElem?_eq_getElem hlt⟩
      obtain ⟨bo, oo, ⟨c', hv⟩, _, hc0⟩ := H.out.int hx
      injection hv with hv1 hv2 hv3
      subst hv1; subst hv3; clear hv2
      have hd : l.drop k = x :: l.drop (k + 1) := by
        rw [List.drop_eq_getElem_cons hlt]
        congr 1
        exact Option.some.inj ((List.getElem?_eq_getElem hlt).symm.trans hx)
      rw [hd] at hr
      have HR := Lib.hid hr; clear hr hd hx
      by_cases h1 : x ≤ last
      · have d1 : decide (x ≤ last) = true := decide_eq_true h1
        go_wp2_with fail
        go_ret
        exact ⟨by rw [HR.out]; simp [risB, h1], rfl⟩
      · have d1 : decide (x ≤ last) = false := decide_eq_false h1
        by_cases h2 : x ≥ b
        · have d2 : decide (x ≥ b) = true := decide_eq_true h2
          have d3 : decide (b ≤ x) = true := decide_eq_true h2
          go_wp2_with fail
          go_ret
          exact ⟨by rw [HR.out]; simp [risB, d3], rfl⟩
        · have d2 : decide (x ≥ b) = false := decide_eq_false h2
          have d3 : decide (b ≤ x) = false := decide_eq_false h2
          go_wp2_with fail
          go_roundg (l.length - (k + 1))
          case measure => have := HK.out; omega
          case rel => exact ⟨k + 1, x, by omega, by go_num, rfl, by rw [HR.out]; simp only [risB, d1, d3]; simp, rfl⟩
    · have hd : l.drop k = [] := List.drop_eq_nil_of_le (by omega)
      rw [hd] at hr
      have HR := Lib.hid hr; clear hr hd
      go_wp2_with fail
      go_ret
      exact ⟨by rw [HR.out]; rfl, rfl⟩

/-- Are all of one row in another? -/
def inB (l all : List Int) : Bool := !(l.any (fun n => !(hasL all n)))
theorem in1 (x : Int) (bl : Nat) (v : Value) (all : List Int) (w : World) (S : Nat → Prop) (h : Rd S w v all.length (ints all)) (hl : w.cell? ⟨bl, 0, none⟩ = some v) :
    Calls Try.prog 101 #[.int .i64 x, .pointer (some ⟨bl, 0, none⟩)] w (fun e w' => e = .returned (.bool (!(hasL all x))) ∧ Keep w w' Nope) := by
  have HC := Lib.hid (contains_val x v all w S h)
  obtain ⟨a, c, rfl, _⟩ := id h
  clear h
  go_enter Try.func101, Try.ntmps101
  go_wp2_with fail
  refine HC.out.mono ?_
  rintro e w' ⟨rfl, rfl⟩
  go_wp2_with fail
  go_ret
  exact ⟨rfl, Keep.refl _ _⟩
set_option maxHeartbeats 400000 in
theorem sys_in (v v2 : Value) (l all : List Int) (w : World) (S S2 : Nat → Prop) (h : Rd S w v l.length (ints l)) (h2 : Rd S2 w v2 all.length (ints all)) :
    Calls Try.prog 72 #[v, v2] w (Ret w (.bool (inB l all))) := by
  have hk := (Keep.refl w Nope).alloc (.cells #[v2] 23)
  have hb : (w.alloc (.cells #[v2] 23)).cell? ⟨w.heap.size, 0, none⟩ = some v2 := by simp
  have HC := Lib.hid (contains_in1 (.pointer (some ⟨w.heap.size, 0, none⟩)) (fun n => !(hasL all n)) v l _ S (h.keep hk (fun _ _ f => f)) (fun x w' hk' => in1 x w.heap.size v2 all w' S2 (h2.keep (hk.trans hk' (fun _ f => f.elim)) (fun _ _ f => f)) (hk'.cell hb (fun f => f))))
  unfold inB
  obtain ⟨b, hbb⟩ : ∃ b, l.any (fun n => !(hasL all n)) = b := ⟨_, rfl⟩
  rw [hbb] at HC ⊢
  obtain ⟨a, c, rfl, _⟩ := id h
  obtain ⟨a2, c2, rfl, _⟩ := id h2
  have HK := Lib.hid hk
  clear h h2 hk hb hbb
  go_enter Try.func72, Try.ntmps72
  go_wp2_with fail
  refine HC.out.mono ?_
  rintro e w' ⟨rfl, hk'⟩
  have HK' := Lib.hid (HK.out.trans hk' (fun _ f => f.elim))
  clear hk'
  go_wp2_with fail
  go_ret
  exact ⟨rfl, HK'.out⟩
theorem inB_iff {l all : List Int} : inB l all = true ↔ ∀ x, x ∈ l → x ∈ all := by
  unfold inB
  simp only [Bool.not_eq_true', List.any_eq_false, Bool.not_eq_true, hasL_iff]
  constructor
  · intro h x hx
    have := h x hx
    simpa [hasL_iff] using this
  · intro h x hx
    have := h x hx
    simpa [hasL_iff] using this
end Go.Proofs.Ytbigknmeooaidaa
