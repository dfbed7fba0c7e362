/-
  A system made of numbers may be, and one that declares more: plain.
-/
import Derived.Test.YtbigknmeooaidaaMk6
namespace Go.Proofs.Ytbigknmeooaidaa
open Go Go.RowKit
set_option linter.unusedVariables false
set_option linter.unusedSimpArgs false

theorem insE_zero {dl : List DescV} {pll : List ColV} {res : Nat} {x : SysX} {i i' : InsV} (hT : TameI pll.length dl.length res i) (hF : fitsB dl pll res i = true) (e1 : i'.op = i.op) (e4 : i.op ≠ 13 → i'.n = i.n) (hpos : 0 < pll.length) (hres : res ≤ 32)
    (h11 : i.op = 11 → i.n ∈ x.rr.l ++ x.rw'.l) (h12 : i.op = 12 → i.n ∈ x.rw'.l) (hal : 14 ≤ i.op ∧ i.op ≤ 17 → x.al = true) : insE dl.length x dl pll i' = 0 := by
  obtain ⟨op', r', s', n'⟩ := i'
  obtain ⟨op, r, s, n⟩ := i
  simp only at e1 e4 h11 h12 hal
  subst e1
  have hnc := hT.nc
  have hnr := hT.nr
  have hnm := hT.nm
  have hn1 := hT.n1
  simp only at hnc hnr hnm hn1
  unfold fitsB at hF
  simp only at hF
  unfold insE
  simp only
  by_cases h7 : op' = 7 ∨ op' = 8
  · have hop : op' ≠ 13 := by omega
    obtain rfl := e4 hop
    have hl := hnc (by omega)
    have hq : (op' == 7 || op' == 8) = true := by simp; exact h7
    rw [hq] at hF ⊢
    simp only [if_true, Bool.true_or, Bool.and_eq_true, bne_iff_ne] at hF ⊢
    unfold columnE
    simp only
    rw [decide_eq_false (show ¬ n' ≥ (pll.length : Int) by omega), hq, show ((pll.getD n'.toNat ⟨0, 0⟩).kind == 4) = false by simp; exact hF.1, show ((pll.getD n'.toNat ⟨0, 0⟩).kind == 5) = false by simp; exact hF.2]
    rfl
  have q7 : (op' == 7) = false := by simp; omega
  have q8 : (op' == 8) = false := by simp; omega
  rw [q7, q8] at hF ⊢
  by_cases h9 : op' = 9 ∨ op' = 10
  · have hop : op' ≠ 13 := by omega
    obtain rfl := e4 hop
    have hl := hnc (by omega)
    have hq : (op' == 9 || op' == 10) = true := by simp; exact h9
    rw [hq] at hF
    have hq2 : (false || false || op' == 9 || op' == 10) = true := by simp; exact h9
    rw [if_pos hq2]
    simp only [Bool.or_self, Bool.false_eq_true, if_false, if_true] at hF
    unfold columnE
    simp only
    rw [decide_eq_false (show ¬ n' ≥ (pll.length : Int) by omega), q7, q8]
    cases hk : (pll.getD n'.toNat ⟨0, 0⟩).kind != 2
    · rw [hk] at hF
      simp only [Bool.false_eq_true, if_false, Bool.or_self] at hF ⊢
      rw [if_neg]
      rcases h9 with rfl | rfl
      · simp at hF ⊢
        omega
      · simp at hF ⊢
        exact hF
    · rw [hk] at hF
      simp at hF
  have q9 : (op' == 9) = false := by simp; omega
  have q10 : (op' == 10) = false := by simp; omega
  rw [q9, q10] at hF ⊢
  simp only [Bool.or_self, Bool.false_eq_true, if_false] at hF ⊢
  by_cases o11 : op' = 11
  · subst o11
    obtain rfl := e4 (by decide)
    have hl := hnr (.inl rfl)
    have hres0 : 0 < res := by simpa using hF
    have hm := h11 rfl
    have : hasI n' (x.rr.l ++ x.rw'.l) = true := by
      unfold hasI
      rw [decide_eq_true (show n' < 32 by omega), hasL_iff.2 hm]
      rfl
    rw [this]
    rfl
  have q11 : (op' == 11) = false := by simp; omega
  rw [q11] at hF ⊢
  simp only [Bool.false_eq_true, if_false, Bool.false_or] at hF ⊢
  by_cases o12 : op' = 12
  · subst o12
    obtain rfl := e4 (by decide)
    have hl := hnr (.inr rfl)
    have hres0 : 0 < res := by simpa using hF
    have hm := h12 rfl
    have : hasI n' x.rw'.l = true := by
      unfold hasI
      rw [decide_eq_true (show n' < 32 by omega), hasL_iff.2 hm]
      rfl
    rw [this]
    rfl
  have q12 : (op' == 12) = false := by simp; omega
  rw [q12] at hF ⊢
  simp only [Bool.false_eq_true, if_false, Bool.false_or] at hF ⊢
  by_cases o16 : op' = 16 ∨ op' = 17
  · have hop : op' ≠ 13 := by omega
    obtain rfl := e4 hop
    have hl := hnm o16
    have hq : (op' == 16 || op' == 17) = true := by simp; exact o16
    rw [hq] at hF ⊢
    have hnd : 0 < dl.length := by simpa using hF
    rw [decide_eq_false (show ¬ n' ≥ (dl.length : Int) by omega), hal (by omega)]
    rfl
  have q16 : (op' == 16 || op' == 17) = false := by simp; omega
  rw [q16]
  simp only [Bool.false_eq_true, if_false]
  by_cases o14 : op' = 14 ∨ op' = 15
  · have hq : (op' == 14 || op' == 15) = true := by simp; exact o14
    rw [hq, hal (by omega)]
    rfl
  · have hq : (op' == 14 || op' == 15) = false := by simp; omega
    rw [hq]
    rfl

theorem CodeQ.at {cdl cdk : List InsV} {rr rw' : List Int} (h : CodeQ cdl cdl.length cdk rr rw') {i' : InsV} (hi : i' ∈ cdk) : ∃ i, i ∈ cdl ∧ i'.op = i.op ∧ (i.op ≠ 13 → i'.n = i.n) := by
  obtain ⟨j, hj, rfl⟩ := List.getElem_of_mem hi
  have hjl : j < cdl.length := by rw [← h.len]; exact hj
  obtain ⟨e1, _, _, e4, _⟩ := h.same j cdl[j] cdk[j] (List.getElem?_eq_getElem hjl) (List.getElem?_eq_getElem hj)
  exact ⟨cdl[j], List.getElem_mem hjl, e1, fun hh => e4 (.inl hh)⟩
theorem made_code {cols comps res : Nat} {cdl cdk : List InsV} {rr rw' : List Int} (h : CodeQ cdl cdl.length cdk rr rw') (ht : ∀ i, i ∈ cdl → TameI cols comps res i) (hl : cdk.length ≤ 10) : codeE cdk = 0 := by
  unfold codeE
  rw [if_neg (show ¬ 16 < cdk.length by omega), if_pos]
  refine codesB_of cdk 0 (fun j i' hj => ?_)
  have hjl := (List.getElem?_eq_some_iff.1 hj).1
  have hjc : j < cdl.length := by rw [← h.len]; exact hjl
  obtain ⟨e1, e2, e3, e4, e5⟩ := h.same j cdl[j] i' (List.getElem?_eq_getElem hjc) hj
  refine made_ok1 (ht _ (List.getElem_mem hjc)) (by omega) e1 e2 e3 (fun hh => e4 (.inl hh)) (fun hh => ?_)
  rw [e5 ⟨hh, hjc⟩, h.len, Nat.zero_add]
/-- What a made system has: for use of the laws. -/
structure MadeOk (dl : List DescV) (res : Nat) (y : SysF) : Prop where
  plan : Tame17 dl.length y.pll
  code : codeE y.cdl = 0
  w' : Rises y.x.w.l ∧ ∀ z, z ∈ y.x.w.l ↔ z ∈ compsF [2] y.pll
  r : Rises y.x.r.l ∧ ∀ z, z ∈ y.x.r.l ↔ z ∈ compsF [1, 3, 4] y.pll
  rr : Rises y.x.rr.l ∧ ∀ z, z ∈ y.x.rr.l ↔ ∃ i, i ∈ y.cdl ∧ i.op = 11 ∧ i.n = z
  rw' : Rises y.x.rw'.l ∧ ∀ z, z ∈ y.x.rw'.l ↔ ∃ i, i ∈ y.cdl ∧ i.op = 12 ∧ i.n = z
  al : y.x.al = y.cdl.any (fun i => decide (14 ≤ i.op) && decide (i.op ≤ 17))
  ins : ∀ i', i' ∈ y.cdl → ∃ i, TameI y.pll.length dl.length res i ∧ fitsB dl y.pll res i = true ∧ i'.op = i.op ∧ (i.op ≠ 13 → i'.n = i.n)
theorem CodeQ.memOf {cdl cdk : List InsV} {rr rw' : List Int} (h : CodeQ cdl cdl.length cdk rr rw') (o : Int) (ho : o ≠ 13) (z : Int) : (∃ i, i ∈ cdl.take cdl.length ∧ i.op = o ∧ i.n = z) ↔ ∃ i, i ∈ cdk ∧ i.op = o ∧ i.n = z := by
  rw [List.take_length]
  constructor
  · rintro ⟨i, hi, h1, h2⟩
    obtain ⟨j, hj, rfl⟩ := List.getElem_of_mem hi
    have hjk : j < cdk.length := by rw [h.len]; exact hj
    obtain ⟨e1, _, _, e4, _⟩ := h.same j cdl[j] cdk[j] (List.getElem?_eq_getElem hj) (List.getElem?_eq_getElem hjk)
    exact ⟨cdk[j], List.getElem_mem hjk, by rw [e1]; exact h1, by rw [e4 (.inl (by rw [h1]; exact ho))]; exact h2⟩
  · rintro ⟨i, hi, h1, h2⟩
    obtain ⟨j, hj, rfl⟩ := List.getElem_of_mem hi
    have hjk : j < cdl.length := by rw [← h.len]; exact hj
    obtain ⟨e1, _, _, e4, _⟩ := h.same j cdl[j] cdk[j] (List.getElem?_eq_getElem hjk) (List.getElem?_eq_getElem hj)
    exact ⟨cdl[j], List.getElem_mem hjk, by rw [← e1]; exact h1, by rw [← e4 (.inl (by rw [← e1, h1]; exact ho))]; exact h2⟩
theorem MadeN.ok {dl : List DescV} {res : Nat} {x : SysN} {y : SysF} (h : MadeN dl res x y) (hu : x.use % 32 ≠ 9) : MadeOk dl res y := by
  obtain ⟨cdl, hp, hq, hw, hr1, hr2⟩ : ∃ cdl, CodeP dl y.pll res cdl y.x.al ∧ CodeQ cdl cdl.length y.cdl y.x.rr.l y.x.rw'.l ∧ (Rises y.x.w.l ∧ ∀ z, z ∈ y.x.w.l ↔ z ∈ compsF [2] y.pll) ∧ Rises y.x.r.l ∧ ∀ z, z ∈ y.x.r.l ↔ z ∈ compsF [1, 3, 4] y.pll := by
    rcases h.use with h | h
    · exact h
    · exact (hu h).elim
  refine ⟨h.plan, made_code hq (fun i hi => (hp.tame i hi).1) h.len.2.2.1, hw, ⟨hr1, hr2⟩, ⟨hq.rr.1, fun z => by rw [hq.rr.2]; exact hq.memOf 11 (by decide) z⟩, ⟨hq.rw'.1, fun z => by rw [hq.rw'.2]; exact hq.memOf 12 (by decide) z⟩, ?_, fun i' hi => ?_⟩
  · rw [hp.al, Bool.eq_iff_iff, List.any_eq_true, List.any_eq_true]
    have hs := hq.same
    constructor
    · rintro ⟨i, hi, hh⟩
      obtain ⟨j, hj, rfl⟩ := List.getElem_of_mem hi
      have hjk : j < y.cdl.length := by rw [hq.len]; exact hj
      obtain ⟨e1, _⟩ := hs j cdl[j] y.cdl[j] (List.getElem?_eq_getElem hj) (List.getElem?_eq_getElem hjk)
      exact ⟨y.cdl[j], List.getElem_mem hjk, by rw [e1]; exact hh⟩
    · rintro ⟨i, hi, hh⟩
      obtain ⟨i2, hi2, e1, _⟩ := hq.at hi
      exact ⟨i2, hi2, by rw [← e1]; exact hh⟩
  · obtain ⟨i, hi2, e1, e4⟩ := hq.at hi
    exact ⟨i, (hp.tame i hi2).1, (hp.tame i hi2).2, e1, e4⟩
theorem compsF_range {nd : Nat} {L : List ColV} (h : Tame17 nd L) (kinds : List Int) (hk : ∀ k, k ∈ kinds → k ≠ 5) : ∀ z, z ∈ compsF kinds L → 0 ≤ z ∧ z < (nd : Int) := by
  obtain ⟨L0, U, sm, h1, _, rfl⟩ := h
  intro z hz
  obtain ⟨c, hc, hck, rfl⟩ := compsF_mem.1 hz
  have : c ∈ L0 := by
    cases sm
    · rcases List.mem_append.1 hc with hc | hc
      · exact hc
      · simp at hc
        rw [hc] at hck
        exact (hk 5 hck rfl).elim
    · exact hc
  exact h1.comp c this
/-- A made system may be; so may one that declares more. -/
theorem MadeOk.more {dl : List DescV} {res nr : Nat} {y : SysF} (h : MadeOk dl res y) (hres : res = min nr 32) {x' : SysX} (hr : x'.r = y.x.r) (hrr : x'.rr = y.x.rr) (hw : Rises x'.w.l ∧ ∀ z, z ∈ x'.w.l → 0 ≤ z ∧ z < (dl.length : Int)) (hw2 : ∀ z, z ∈ y.x.w.l → z ∈ x'.w.l)
    (hrw : Rises x'.rw'.l ∧ ∀ z, z ∈ x'.rw'.l → 0 ≤ z ∧ z < (res : Int)) (hrw2 : ∀ z, z ∈ y.x.rw'.l → z ∈ x'.rw'.l) (hal : y.x.al = true → x'.al = true) : sysE dl nr ⟨x', y.pll, y.cdl⟩ = 0 := by
  have hres32 : res ≤ 32 := by omega
  have hrange : ∀ o : Int, o = 11 ∨ o = 12 → ∀ z, (∃ i, i ∈ y.cdl ∧ i.op = o ∧ i.n = z) → 0 ≤ z ∧ z < (res : Int) := by
    intro o ho z hz
    obtain ⟨i', hi, h1, h2⟩ := hz
    obtain ⟨i, ht, hf, e1, e4⟩ := h.ins i' hi
    have hop : i.op = o := by rw [← e1]; exact h1
    have hn : i.n = z := by rw [← e4 (by omega)]; exact h2
    have hlt := ht.nr (by omega)
    have hge := ht.n1 (by omega)
    have hpos : 0 < res := by
      unfold fitsB at hf
      rcases ho with rfl | rfl
      · rw [hop] at hf; simpa using hf
      · rw [hop] at hf; simpa using hf
    omega
  refine sysE_ok h.plan.planE h.code ?_ hw ?_ (by rw [← hres]; exact hrw) (fun z hz => ?_) (fun z hz => ?_) (fun i' hi => ?_)
  · simp only
    rw [hr]
    exact ⟨h.r.1, fun z hz => compsF_range h.plan [1, 3, 4] (by decide) z ((h.r.2 z).1 hz)⟩
  · simp only
    rw [hrr, ← hres]
    exact ⟨h.rr.1, fun z hz => hrange 11 (.inl rfl) z ((h.rr.2 z).1 hz)⟩
  · exact hw2 z ((h.w'.2 z).2 hz)
  · simp only
    rw [hr]
    exact .inl ((h.r.2 z).2 hz)
  · obtain ⟨i, ht, hf, e1, e4⟩ := h.ins i' hi
    refine insE_zero ht hf e1 e4 h.plan.pos hres32 (fun ho => ?_) (fun ho => ?_) (fun ho => ?_)
    · rw [hrr]
      exact List.mem_append.2 (.inl ((h.rr.2 _).2 ⟨i', hi, by rw [e1]; exact ho, e4 (by omega)⟩))
    · exact hrw2 _ ((h.rw'.2 _).2 ⟨i', hi, by rw [e1]; exact ho, e4 (by omega)⟩)
    · refine hal ?_
      rw [h.al, List.any_eq_true]
      exact ⟨i', hi, by rw [e1, decide_eq_true ho.1, decide_eq_true ho.2]; rfl⟩
theorem MadeOk.zero {dl : List DescV} {res nr : Nat} {y : SysF} (h : MadeOk dl res y) (hres : res = min nr 32) : sysE dl nr y = 0 := by
  have hpos := h.plan.pos
  refine h.more hres (x' := y.x) rfl rfl ⟨h.w'.1, fun z hz => compsF_range h.plan [2] (by decide) z ((h.w'.2 z).1 hz)⟩ (fun _ hz => hz) ⟨h.rw'.1, fun z hz => ?_⟩ (fun _ hz => hz) id
  obtain ⟨i', hi, h1, h2⟩ := (h.rw'.2 z).1 hz
  obtain ⟨i, ht, hf, e1, e4⟩ := h.ins i' hi
  have hop : i.op = 12 := by rw [← e1]; exact h1
  have hn : i.n = z := by rw [← e4 (by omega)]; exact h2
  have hlt := ht.nr (by omega)
  have hge := ht.n1 (by omega)
  have hp : 0 < res := by
    unfold fitsB at hf
    rw [hop] at hf
    simpa using hf
  omega
end Go.Proofs.Ytbigknmeooaidaa
