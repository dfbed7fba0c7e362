/-
  One that declares more meddles with no fewer: plain.
-/
import Derived.Test.YtbigknmeooaidaaMk7
namespace Go.Proofs.Ytbigknmeooaidaa
open Go Go.RowKit
set_option linter.unusedVariables false
set_option linter.unusedSimpArgs false

theorem confR_iff {a b : SysX} : confR a b = true ↔ (a.al = true ∧ b.al = true) ∨ (∃ z, z ∈ a.w.l ∧ z ∈ b.w.l) ∨ (∃ z, z ∈ a.w.l ∧ z ∈ b.r.l) ∨ (∃ z, z ∈ a.r.l ∧ z ∈ b.w.l) ∨ (∃ z, z ∈ a.rw'.l ∧ z ∈ b.rw'.l) ∨ (∃ z, z ∈ a.rw'.l ∧ z ∈ b.rr.l) ∨ (∃ z, z ∈ a.rr.l ∧ z ∈ b.rw'.l) := by
  unfold confR
  simp only [Bool.or_eq_true, Bool.and_eq_true, meet2_iff, or_assoc]
/-- Where a made system's resources lie. -/
theorem MadeOk.resR {dl : List DescV} {res : Nat} {y : SysF} (h : MadeOk dl res y) (o : Int) (ho : o = 11 ∨ o = 12) (z : Int) (hz : ∃ i, i ∈ y.cdl ∧ i.op = o ∧ i.n = z) : 0 ≤ z ∧ z < (res : Int) := by
  obtain ⟨i', hi, h1, h2⟩ := hz
  obtain ⟨i, ht, hf, e1, e4⟩ := h.ins i' hi
  have hop : i.op = o := by rw [← e1]; exact h1
  have hn : i.n = z := by rw [← e4 (by omega)]; exact h2
  have hlt := ht.nr (by omega)
  have hge := ht.n1 (by omega)
  have hpos : 0 < res := by
    unfold fitsB at hf
    rcases ho with rfl | rfl
    · rw [hop] at hf; simpa using hf
    · rw [hop] at hf; simpa using hf
  omega
/-- The numbers below n. -/
def rangeI (n : Nat) : List Int := (List.range n).map (fun k : Nat => (k : Int))
theorem rangeI_mem {n : Nat} {z : Int} : z ∈ rangeI n ↔ 0 ≤ z ∧ z < (n : Int) := by
  unfold rangeI
  simp only [List.mem_map, List.mem_range]
  exact ⟨fun ⟨k, h, e⟩ => by omega, fun h => ⟨z.toNat, by omega, by omega⟩⟩
theorem rangeI_rises (n : Nat) : Rises (rangeI n) := by
  unfold Rises rangeI
  rw [List.pairwise_map]
  exact List.Pairwise.imp (fun h => by omega) List.pairwise_lt_range
theorem rangeI_len (n : Nat) : (rangeI n).length = n := by unfold rangeI; simp
theorem rangeI_succ (n : Nat) : rangeI (n + 1) = rangeI n ++ [(n : Int)] := by unfold rangeI; rw [List.range_succ]; simp
/-- 'all' is 'a', declaring all that is there. -/
structure MoreX (n : Nat) (a all : SysX) : Prop where
  r : all.r = a.r
  rr : all.rr = a.rr
  w' : all.w.l = rangeI n
  rw' : all.rw'.l = [0, 1]
  al : all.al = true
theorem two_mem {z : Int} : z ∈ ([0, 1] : List Int) ↔ 0 ≤ z ∧ z < 2 := by
  simp
  omega
theorem more_check {n : Nat} {dl : List DescV} (hn : dl.length = n) {y : SysF} (h : MadeOk dl 2 y) {all : SysX} (hm : MoreX n y.x all) : sysE dl 2 ⟨all, y.pll, y.cdl⟩ = 0 := by
  refine h.more (nr := 2) (by decide) hm.r hm.rr ⟨by rw [hm.w']; exact rangeI_rises n, fun z hz => ?_⟩ (fun z hz => ?_) ⟨by rw [hm.rw']; exact (by unfold Rises; simp), fun z hz => ?_⟩ (fun z hz => ?_) (fun _ => hm.al)
  · rw [hm.w'] at hz
    rw [hn]
    exact rangeI_mem.1 hz
  · rw [hm.w']
    have := compsF_range h.plan [2] (by decide) z ((h.w'.2 z).1 hz)
    rw [hn] at this
    exact rangeI_mem.2 this
  · rw [hm.rw'] at hz
    exact two_mem.1 hz
  · rw [hm.rw']
    exact two_mem.2 (h.resR 12 (.inr rfl) z ((h.rw'.2 z).1 hz))
theorem more_conf {n : Nat} {dl : List DescV} (hn : dl.length = n) {y : SysF} (h : MadeOk dl 2 y) {all : SysX} (hm : MoreX n y.x all) (b : SysX) (hc : confB y.x b = true) : confB all b = true := by
  rw [confB_eq] at hc ⊢
  have hw : ∀ z, z ∈ y.x.w.l → z ∈ all.w.l := fun z hz => by
    rw [hm.w']
    have := compsF_range h.plan [2] (by decide) z ((h.w'.2 z).1 hz)
    rw [hn] at this
    exact rangeI_mem.2 this
  have hrw : ∀ z, z ∈ y.x.rw'.l → z ∈ all.rw'.l := fun z hz => by
    rw [hm.rw']
    exact two_mem.2 (h.resR 12 (.inr rfl) z ((h.rw'.2 z).1 hz))
  refine confR_iff.2 ?_
  rw [hm.r, hm.rr, hm.al]
  rcases confR_iff.1 hc with ⟨_, h2⟩ | ⟨z, h1, h2⟩ | ⟨z, h1, h2⟩ | ⟨z, h1, h2⟩ | ⟨z, h1, h2⟩ | ⟨z, h1, h2⟩ | ⟨z, h1, h2⟩
  · exact .inl ⟨rfl, h2⟩
  · exact .inr (.inl ⟨z, hw z h1, h2⟩)
  · exact .inr (.inr (.inl ⟨z, hw z h1, h2⟩))
  · exact .inr (.inr (.inr (.inl ⟨z, h1, h2⟩)))
  · exact .inr (.inr (.inr (.inr (.inl ⟨z, hrw z h1, h2⟩))))
  · exact .inr (.inr (.inr (.inr (.inr (.inl ⟨z, hrw z h1, h2⟩)))))
  · exact .inr (.inr (.inr (.inr (.inr (.inr ⟨z, h1, h2⟩)))))
theorem more_all {n : Nat} {dl : List DescV} (hn : dl.length = n) {y yb : SysF} (h : MadeOk dl 2 yb) {all : SysX} (hm : MoreX n y.x all) (hc : confB all yb.x = false) : yb.x.r.l = [] ∧ yb.x.w.l = [] ∧ yb.x.rr.l = [] ∧ yb.x.rw'.l = [] ∧ yb.x.al = false := by
  rw [confB_eq] at hc
  have hno : ¬ confR all yb.x = true := by rw [hc]; decide
  rw [confR_iff] at hno
  have e : ∀ l : List Int, (∀ z, z ∈ l → False) → l = [] := fun l hl => List.eq_nil_iff_forall_not_mem.2 (fun z hz => hl z hz)
  refine ⟨e _ (fun z hz => hno ?_), e _ (fun z hz => hno ?_), e _ (fun z hz => hno ?_), e _ (fun z hz => hno ?_), ?_⟩
  · refine .inr (.inr (.inl ⟨z, ?_, hz⟩))
    rw [hm.w']
    have := compsF_range h.plan [1, 3, 4] (by decide) z ((h.r.2 z).1 hz)
    rw [hn] at this
    exact rangeI_mem.2 this
  · refine .inr (.inl ⟨z, ?_, hz⟩)
    rw [hm.w']
    have := compsF_range h.plan [2] (by decide) z ((h.w'.2 z).1 hz)
    rw [hn] at this
    exact rangeI_mem.2 this
  · refine .inr (.inr (.inr (.inr (.inr (.inl ⟨z, ?_, hz⟩)))))
    rw [hm.rw']
    exact two_mem.2 (h.resR 11 (.inl rfl) z ((h.rr.2 z).1 hz))
  · refine .inr (.inr (.inr (.inr (.inl ⟨z, ?_, hz⟩))))
    rw [hm.rw']
    exact two_mem.2 (h.resR 12 (.inr rfl) z ((h.rw'.2 z).1 hz))
  · cases ha : yb.x.al
    · rfl
    · exact (hno (.inl ⟨hm.al, ha⟩)).elim
end Go.Proofs.Ytbigknmeooaidaa
