/-
  Values found by sums: a table of slots, looked through from a home on. No program in sight.
-/
import Derived.Test.YtcmbbkaioopkhaaBase
namespace Go.Proofs.Ytcmbbkaioopkhaa
set_option linter.unusedVariables false
set_option linter.unusedSimpArgs false

/-- A slot. -/
structure SlotV where
  kind : Int
  idx : Int
  vk : Int
  va : Int
  vb : Int
deriving DecidableEq
def emptyS : SlotV := ⟨0, 0, 0, 0, 0⟩
def tombS : SlotV := ⟨2, 0, 0, 0, 0⟩
def sl (l : List SlotV) (p : Nat) : SlotV := l.getD p emptyS
def ps (n h d : Nat) : Nat := (h + d) % n
theorem ps_lt {n : Nat} (hn : 0 < n) (h d : Nat) : ps n h d < n := Nat.mod_lt _ hn
theorem ps_inj {n h d e : Nat} (hd : d < n) (he : e < n) (hh : h < n) (heq : ps n h d = ps n h e) : d = e := by
  unfold ps at heq
  have key : ∀ x, x < n → (h + x) % n = if h + x < n then h + x else h + x - n := fun x hx => by
    by_cases c : h + x < n
    · rw [if_pos c, Nat.mod_eq_of_lt c]
    · rw [if_neg c, Nat.mod_eq_sub_mod (by omega), Nat.mod_eq_of_lt (by omega)]
  rw [key d hd, key e he] at heq
  split at heq <;> split at heq <;> omega
/-- Each place is come to. -/
theorem ps_onto {n h p : Nat} (hp : p < n) (hh : h < n) : ∃ d, d < n ∧ ps n h d = p := by
  by_cases c : h ≤ p
  · exact ⟨p - h, by omega, by unfold ps; rw [show h + (p - h) = p by omega]; exact Nat.mod_eq_of_lt hp⟩
  · exact ⟨p + n - h, by omega, by unfold ps; rw [show h + (p + n - h) = p + n by omega, Nat.add_mod_right]; exact Nat.mod_eq_of_lt hp⟩

theorem sl_set_same {l : List SlotV} {p : Nat} (hp : p < l.length) (x : SlotV) : sl (l.set p x) p = x := by
  unfold sl
  rw [List.getD_eq_getElem?_getD, List.getElem?_set_self hp]
  rfl
theorem sl_set_ne {l : List SlotV} {p q : Nat} (h : p ≠ q) (x : SlotV) : sl (l.set p x) q = sl l q := by
  unfold sl
  rw [List.getD_eq_getElem?_getD, List.getElem?_set_ne h, ← List.getD_eq_getElem?_getD]
theorem sl_get {l : List SlotV} {p : Nat} (hp : p < l.length) : l[p]? = some (sl l p) := by
  unfold sl
  rw [List.getD_eq_getElem?_getD, List.getElem?_eq_getElem hp]
  rfl

/-- How many slots are of a kind. -/
def cntK (k : Int) : List SlotV → Nat
  | [] => 0
  | s :: t => (if s.kind = k then 1 else 0) + cntK k t
theorem cntK_le (k : Int) : ∀ l : List SlotV, cntK k l ≤ l.length
  | [] => Nat.le_refl _
  | s :: t => by
    have := cntK_le k t
    simp only [cntK, List.length_cons]
    split <;> omega
theorem cntK_set (k : Int) (x : SlotV) : ∀ (l : List SlotV) (p : Nat), p < l.length → cntK k (l.set p x) + (if (sl l p).kind = k then 1 else 0) = cntK k l + (if x.kind = k then 1 else 0)
  | [], p, h => by simp at h
  | s :: t, 0, _ => by
    simp only [List.set_cons_zero, cntK, sl, List.getD_cons_zero]
    omega
  | s :: t, p + 1, h => by
    have ih := cntK_set k x t p (by simpa using h)
    have e : sl (s :: t) (p + 1) = sl t p := rfl
    rw [List.set_cons_succ, cntK, cntK, e]
    omega
theorem cntK_app (k : Int) : ∀ (a b : List SlotV), cntK k (a ++ b) = cntK k a + cntK k b
  | [], b => by simp [cntK]
  | s :: t, b => by simp only [List.cons_append, cntK, cntK_app k t b]; omega
theorem cntK_rep (k : Int) (x : SlotV) (n : Nat) : cntK k (List.replicate n x) = if x.kind = k then n else 0 := by
  induction n with
  | zero => simp [cntK]
  | succ n ih =>
    rw [List.replicate_succ, cntK, ih]
    split <;> omega
/-- The kinds of a table add up. -/
theorem cntK_sum : ∀ (l : List SlotV), (∀ s ∈ l, s.kind = 0 ∨ s.kind = 1 ∨ s.kind = 2) → cntK 0 l + cntK 1 l + cntK 2 l = l.length
  | [], _ => rfl
  | s :: t, h => by
    have ih := cntK_sum t (fun x hx => h x (List.mem_cons_of_mem _ hx))
    simp only [cntK, List.length_cons]
    rcases h s (List.mem_cons_self ..) with e | e | e <;> simp [e] <;> omega
theorem cntK_pos {k : Int} : ∀ {l : List SlotV}, 0 < cntK k l → ∃ p, p < l.length ∧ (sl l p).kind = k
  | [], h => by simp [cntK] at h
  | s :: t, h => by
    by_cases e : s.kind = k
    · exact ⟨0, by simp, by simpa [sl] using e⟩
    · simp only [cntK, if_neg e, Nat.zero_add] at h
      obtain ⟨p, h1, h2⟩ := cntK_pos h
      exact ⟨p + 1, by simpa using h1, by simpa [sl] using h2⟩

/-- The search: fuel, how far it has come, the first slot that was left. -/
def probe (l : List SlotV) (i : Int) (h : Nat) : Nat → Nat → Int → Int × Int
  | 0, _, free => (-1, free)
  | f + 1, d, free =>
    if (sl l (ps l.length h d)).kind = 0 then (-1, if free < 0 then (ps l.length h d : Int) else free)
    else if (sl l (ps l.length h d)).kind = 1 ∧ (sl l (ps l.length h d)).idx = i then ((ps l.length h d : Int), -1)
    else probe l i h f (d + 1) (if (sl l (ps l.length h d)).kind = 2 ∧ free < 0 then (ps l.length h d : Int) else free)

/-- Where the search does not end. -/
def goOn (l : List SlotV) (i : Int) (h d : Nat) : Prop := (sl l (ps l.length h d)).kind ≠ 0 ∧ ¬ ((sl l (ps l.length h d)).kind = 1 ∧ (sl l (ps l.length h d)).idx = i)
/-- The first slot that was left, up to d. -/
def freeOk (l : List SlotV) (h d : Nat) (free : Int) : Prop := free = -1 ∨ ∃ q, q < d ∧ free = (ps l.length h q : Int) ∧ (sl l (ps l.length h q)).kind = 2
theorem freeOk_next {l : List SlotV} {h d : Nat} {free : Int} (hf : freeOk l h d free) : freeOk l h (d + 1) (if (sl l (ps l.length h d)).kind = 2 ∧ free < 0 then (ps l.length h d : Int) else free) := by
  split
  · rename_i c
    exact .inr ⟨d, by omega, rfl, c.1⟩
  · rcases hf with e | ⟨q, h1, h2, h3⟩
    · exact .inl e
    · exact .inr ⟨q, by omega, h2, h3⟩

theorem probe_ends {l : List SlotV} {i : Int} {h : Nat} : ∀ (f d : Nat) (free : Int), d + f = l.length → (∀ e, e < d → goOn l i h e) → freeOk l h d free → (∃ D, d ≤ D ∧ D < l.length ∧ ¬ goOn l i h D) →
    (∃ D, D < l.length ∧ (∀ e, e < D → goOn l i h e) ∧ (sl l (ps l.length h D)).kind = 1 ∧ (sl l (ps l.length h D)).idx = i ∧ probe l i h f d free = ((ps l.length h D : Int), -1)) ∨
    (∃ D q, D < l.length ∧ q ≤ D ∧ (∀ e, e < D → goOn l i h e) ∧ (sl l (ps l.length h D)).kind = 0 ∧ (q = D ∨ (sl l (ps l.length h q)).kind = 2) ∧ probe l i h f d free = (-1, (ps l.length h q : Int)))
  | 0, d, free, hd, _, _, ⟨D, h1, h2, _⟩ => by omega
  | f + 1, d, free, hd, hgo, hfree, ⟨D, h1, h2, h3⟩ => by
    by_cases c0 : (sl l (ps l.length h d)).kind = 0
    · refine .inr ?_
      rcases hfree with e | ⟨q, q1, q2, q3⟩
      · refine ⟨d, d, by omega, Nat.le_refl _, hgo, c0, .inl rfl, ?_⟩
        rw [probe, if_pos c0, if_pos (by omega)]
      · refine ⟨d, q, by omega, by omega, hgo, c0, .inr q3, ?_⟩
        rw [probe, if_pos c0, if_neg (by omega), q2]
    · by_cases c1 : (sl l (ps l.length h d)).kind = 1 ∧ (sl l (ps l.length h d)).idx = i
      · refine .inl ⟨d, by omega, hgo, c1.1, c1.2, ?_⟩
        rw [probe, if_neg c0, if_pos c1]
      · have hgd : goOn l i h d := ⟨c0, c1⟩
        have hne : d ≠ D := fun e => h3 (e ▸ hgd)
        have ih := probe_ends f (d + 1) (if (sl l (ps l.length h d)).kind = 2 ∧ free < 0 then (ps l.length h d : Int) else free) (by omega) (fun e he => by
          by_cases e' : e = d
          · exact e' ▸ hgd
          · exact hgo e (by omega)) (freeOk_next hfree) ⟨D, by omega, h2, h3⟩
        rw [probe, if_neg c0, if_neg c1]
        exact ih

section
variable (hm : Nat → Int → Nat)
def findS (l : List SlotV) (i : Int) : Int × Int := probe l i (hm l.length i) l.length 0 (-1)

/-- Each full slot is found on its way from its home. -/
def Path (l : List SlotV) : Prop := ∀ p, p < l.length → (sl l p).kind = 1 → ∃ D, D < l.length ∧ ps l.length (hm l.length (sl l p).idx) D = p ∧ ∀ d, d < D → goOn l (sl l p).idx (hm l.length (sl l p).idx) d
def wfS (s : SlotV) : Prop := s = emptyS ∨ s = tombS ∨ (s.kind = 1 ∧ 0 ≤ s.idx ∧ s.idx < 65536)
structure Tab (l : List SlotV) : Prop where
  home : ∀ i : Int, 0 ≤ i → i < 65536 → hm l.length i < l.length
  wf : ∀ p, p < l.length → wfS (sl l p)
  path : Path hm l
  room : 4 * (cntK 1 l + cntK 2 l) ≤ 3 * l.length
  pos : 0 < l.length
/-- Index i has value v. -/
def Has (l : List SlotV) (i vk va vb : Int) : Prop := ∃ p, p < l.length ∧ sl l p = ⟨1, i, vk, va, vb⟩

variable {hm}
theorem Tab.kinds {l : List SlotV} (h : ∀ p, p < l.length → wfS (sl l p)) : ∀ s ∈ l, s.kind = 0 ∨ s.kind = 1 ∨ s.kind = 2 := by
  intro s hs
  obtain ⟨p, hp, rfl⟩ := List.getElem_of_mem hs
  have e : sl l p = l[p] := by unfold sl; simp [hp]
  rcases h p hp with h | h | h
  · rw [← e, h]; exact .inl rfl
  · rw [← e, h]; exact .inr (.inr rfl)
  · rw [← e]; exact .inr (.inl h.1)
theorem Tab.gap {l : List SlotV} (h : Tab hm l) : ∃ p, p < l.length ∧ (sl l p).kind = 0 := by
  refine cntK_pos ?_
  have h1 := cntK_sum l (Tab.kinds h.wf)
  have h2 := h.room
  have h3 := h.pos
  omega
/-- What the search answers. -/
theorem Tab.find {l : List SlotV} (h : Tab hm l) (i : Int) (hi : 0 ≤ i ∧ i < 65536) :
    (∃ D, D < l.length ∧ (∀ e, e < D → goOn l i (hm l.length i) e) ∧ (sl l (ps l.length (hm l.length i) D)).kind = 1 ∧ (sl l (ps l.length (hm l.length i) D)).idx = i ∧ findS hm l i = ((ps l.length (hm l.length i) D : Int), -1)) ∨
    (∃ D q, D < l.length ∧ q ≤ D ∧ (∀ e, e < D → goOn l i (hm l.length i) e) ∧ (sl l (ps l.length (hm l.length i) D)).kind = 0 ∧ (q = D ∨ (sl l (ps l.length (hm l.length i) q)).kind = 2) ∧ findS hm l i = (-1, (ps l.length (hm l.length i) q : Int))) := by
  obtain ⟨p, hp, hk⟩ := h.gap
  obtain ⟨d, hd, he⟩ := ps_onto hp (h.home i hi.1 hi.2)
  exact probe_ends l.length 0 (-1) (by omega) (fun e he => by omega) (.inl rfl) ⟨d, by omega, hd, fun hg => hg.1 (by rw [he]; exact hk)⟩
theorem Tab.uniq {l : List SlotV} (h : Tab hm l) {p q : Nat} (hp : p < l.length) (hq : q < l.length) (h1 : (sl l p).kind = 1) (h2 : (sl l q).kind = 1) (he : (sl l p).idx = (sl l q).idx) : p = q := by
  obtain ⟨D, a1, a2, a3⟩ := h.path p hp h1
  obtain ⟨E, b1, b2, b3⟩ := h.path q hq h2
  rw [he] at a2 a3
  rcases Nat.lt_trichotomy D E with c | c | c
  · exact absurd ⟨by rw [a2]; exact h1, by rw [a2]; exact he⟩ (b3 D c).2
  · subst c; exact a2.symm.trans b2
  · exact absurd ⟨by rw [b2]; exact h2, by rw [b2]⟩ (a3 E c).2
/-- Nothing found: it is not there. -/
theorem Tab.none {l : List SlotV} (h : Tab hm l) {i : Int} {D : Nat} (hD : D < l.length) (hgo : ∀ e, e < D → goOn l i (hm l.length i) e) (hk : (sl l (ps l.length (hm l.length i) D)).kind = 0) :
    ∀ p, p < l.length → (sl l p).kind = 1 → (sl l p).idx ≠ i := by
  intro p hp h1 he
  obtain ⟨E, b1, b2, b3⟩ := h.path p hp h1
  rw [he] at b2 b3
  rcases Nat.lt_trichotomy D E with c | c | c
  · exact (b3 D c).1 hk
  · subst c; rw [b2, h1] at hk; cases hk
  · exact (hgo E c).2 ⟨by rw [b2]; exact h1, by rw [b2]; exact he⟩

/-- A slot is written: what stays of the ways. -/
theorem goOn_set {l : List SlotV} {p : Nat} {x : SlotV} {i : Int} {h d : Nat} (hp : p < l.length) (hx : x.kind ≠ 0) (hi : ¬ (x.kind = 1 ∧ x.idx = i)) (hg : goOn l i h d) : goOn (l.set p x) i h d := by
  unfold goOn at *
  rw [List.length_set]
  by_cases e : p = ps l.length h d
  · rw [← e, sl_set_same hp]
    exact ⟨hx, hi⟩
  · rw [sl_set_ne e]
    exact hg
theorem Tab.setFull {l : List SlotV} (h : Tab hm l) {i : Int} (hi : 0 ≤ i ∧ i < 65536) {q : Nat} (vk va vb : Int) (hq : q < l.length)
    (hgo : ∀ e, e < q → goOn l i (hm l.length i) e) (hk : (sl l (ps l.length (hm l.length i) q)).kind ≠ 1 ∨ (sl l (ps l.length (hm l.length i) q)).idx = i)
    (hno : ∀ p, p < l.length → p ≠ ps l.length (hm l.length i) q → (sl l p).kind = 1 → (sl l p).idx ≠ i) :
    Path hm (l.set (ps l.length (hm l.length i) q) ⟨1, i, vk, va, vb⟩) := by
  have hP := ps_lt h.pos (hm l.length i) q
  intro p hp h1
  rw [List.length_set] at hp
  by_cases e : p = ps l.length (hm l.length i) q
  · rw [e, sl_set_same hP]
    refine ⟨q, by rw [List.length_set]; exact hq, by rw [List.length_set], fun d hd => ?_⟩
    unfold goOn
    simp only [List.length_set]
    have hne : ps l.length (hm l.length i) q ≠ ps l.length (hm l.length i) d := fun e' => by
      have := ps_inj hq (by omega) (h.home i hi.1 hi.2) e'
      omega
    rw [sl_set_ne hne]
    exact hgo d hd
  · rw [sl_set_ne (fun e' => e e'.symm)] at h1 ⊢
    obtain ⟨D, a1, a2, a3⟩ := h.path p hp h1
    simp only [List.length_set]
    refine ⟨D, a1, a2, fun d hd => ?_⟩
    exact goOn_set hP (by simp) (fun hx => hno p hp e h1 hx.2.symm) (a3 d hd)
theorem Tab.setTomb {l : List SlotV} (h : Tab hm l) {p : Nat} (hp : p < l.length) : Path hm (l.set p tombS) := by
  intro q hq h1
  rw [List.length_set] at hq
  by_cases e : q = p
  · subst e
    rw [sl_set_same hp] at h1
    cases h1
  · rw [sl_set_ne (fun e' => e e'.symm)] at h1 ⊢
    obtain ⟨D, a1, a2, a3⟩ := h.path q hq h1
    simp only [List.length_set]
    exact ⟨D, a1, a2, fun d hd => goOn_set hp (by decide) (fun hx => by cases hx.1) (a3 d hd)⟩
theorem wf_set {l : List SlotV} (h : ∀ p, p < l.length → wfS (sl l p)) {q : Nat} {x : SlotV} (hx : wfS x) : ∀ p, p < (l.set q x).length → wfS (sl (l.set q x) p) := by
  intro p hp
  rw [List.length_set] at hp
  by_cases e : p = q
  · subst e; rw [sl_set_same hp]; exact hx
  · rw [sl_set_ne (fun e' => e e'.symm)]; exact h p hp
/-- What is there is found; what is not is not. -/
theorem Tab.has {l : List SlotV} (h : Tab hm l) {i : Int} {p : Nat} (hp : p < l.length) (h1 : (sl l p).kind = 1) (h2 : (sl l p).idx = i) (vk va vb : Int) : Has l i vk va vb ↔ vk = (sl l p).vk ∧ va = (sl l p).va ∧ vb = (sl l p).vb := by
  constructor
  · rintro ⟨q, hq, e⟩
    have := h.uniq hp hq h1 (by rw [e]) (by rw [h2, e])
    subst this
    rw [e]
    exact ⟨rfl, rfl, rfl⟩
  · rintro ⟨rfl, rfl, rfl⟩
    refine ⟨p, hp, ?_⟩
    cases e : sl l p
    simp only [e] at h1 h2
    subst h1; subst h2
    rfl
theorem has_set {l : List SlotV} {q : Nat} (hq : q < l.length) (x : SlotV) (i vk va vb : Int) (hni : (sl l q).kind = 1 → (sl l q).idx ≠ i) :
    Has (l.set q x) i vk va vb ↔ x = ⟨1, i, vk, va, vb⟩ ∨ Has l i vk va vb := by
  constructor
  · rintro ⟨p, hp, e⟩
    rw [List.length_set] at hp
    by_cases c : q = p
    · subst c; rw [sl_set_same hp] at e; exact .inl e
    · rw [sl_set_ne c] at e; exact .inr ⟨p, hp, e⟩
  · rintro (e | ⟨p, hp, e⟩)
    · exact ⟨q, by rw [List.length_set]; exact hq, by rw [sl_set_same hq]; exact e⟩
    · by_cases c : q = p
      · subst c; exact absurd (by rw [e]) (hni (by rw [e]))
      · exact ⟨p, by rw [List.length_set]; exact hp, by rw [sl_set_ne c]; exact e⟩

/-- A new index goes into the slot that the search tells. -/
def insS (hm : Nat → Int → Nat) (l : List SlotV) (i vk va vb : Int) : List SlotV := l.set (findS hm l i).2.toNat ⟨1, i, vk, va, vb⟩
/-- What an insert does. -/
theorem Tab.ins {l : List SlotV} (h : Tab hm l) {i : Int} (hi : 0 ≤ i ∧ i < 65536) (vk va vb : Int) (hno : ∀ p, p < l.length → (sl l p).kind = 1 → (sl l p).idx ≠ i) (hroom : 4 * (cntK 1 l + cntK 2 l + 1) ≤ 3 * l.length) :
    ∃ q, q < l.length ∧ findS hm l i = (-1, (q : Int)) ∧ (sl l q).kind ≠ 1 ∧ insS hm l i vk va vb = l.set q ⟨1, i, vk, va, vb⟩ ∧ Tab hm (insS hm l i vk va vb) ∧ cntK 1 (insS hm l i vk va vb) = cntK 1 l + 1 ∧
      cntK 2 (insS hm l i vk va vb) + (if (sl l q).kind = 2 then 1 else 0) = cntK 2 l ∧
      (∀ j a b c, Has (insS hm l i vk va vb) j a b c ↔ (j = i ∧ a = vk ∧ b = va ∧ c = vb) ∨ Has l j a b c) := by
  rcases h.find i hi with ⟨D, hD, hgo, k1, k2, _⟩ | ⟨D, q, hD, hqD, hgo, hk, hq, hf⟩
  · exact absurd k2 (hno _ (ps_lt h.pos _ _) k1)
  · have hP := ps_lt h.pos (hm l.length i) q
    have hk1 : (sl l (ps l.length (hm l.length i) q)).kind ≠ 1 := by
      rcases hq with e | e
      · rw [e, hk]; decide
      · rw [e]; decide
    have e : insS hm l i vk va vb = l.set (ps l.length (hm l.length i) q) ⟨1, i, vk, va, vb⟩ := by
      unfold insS
      rw [hf]
      rfl
    have c1 := cntK_set 1 ⟨1, i, vk, va, vb⟩ l _ hP
    have c2 := cntK_set 2 ⟨1, i, vk, va, vb⟩ l _ hP
    rw [if_neg hk1] at c1
    simp only [if_true, if_neg (show ¬ (1 : Int) = 2 by decide)] at c1 c2
    refine ⟨_, hP, hf, hk1, e, ?_, by rw [e]; omega, by rw [e]; omega, fun j a b c => ?_⟩
    · rw [e]
      refine ⟨by rw [List.length_set]; exact h.home, wf_set h.wf (.inr (.inr ⟨rfl, hi⟩)), ?_, ?_, by rw [List.length_set]; exact h.pos⟩
      · exact h.setFull hi vk va vb (by omega) (fun x hx => hgo x (by omega)) (.inl hk1) (fun p hp _ => hno p hp)
      · rw [List.length_set]; omega
    · rw [e, has_set hP _ _ _ _ _ (fun hx => absurd hx hk1)]
      constructor
      · rintro (e | e)
        · injection e with _ e1 e2 e3 e4
          exact .inl ⟨e1.symm, e2.symm, e3.symm, e4.symm⟩
        · exact .inr e
      · rintro (⟨rfl, rfl, rfl, rfl⟩ | e)
        · exact .inl rfl
        · exact .inr e
/-- A value is put where the index is. -/
theorem Tab.upd {l : List SlotV} (h : Tab hm l) {i : Int} (hi : 0 ≤ i ∧ i < 65536) (vk va vb : Int) {D : Nat} (hD : D < l.length) (hgo : ∀ e, e < D → goOn l i (hm l.length i) e) (k1 : (sl l (ps l.length (hm l.length i) D)).kind = 1) (k2 : (sl l (ps l.length (hm l.length i) D)).idx = i) :
    Tab hm (l.set (ps l.length (hm l.length i) D) ⟨1, i, vk, va, vb⟩) ∧ cntK 1 (l.set (ps l.length (hm l.length i) D) ⟨1, i, vk, va, vb⟩) = cntK 1 l ∧ cntK 2 (l.set (ps l.length (hm l.length i) D) ⟨1, i, vk, va, vb⟩) = cntK 2 l ∧
      (∀ j a b c, Has (l.set (ps l.length (hm l.length i) D) ⟨1, i, vk, va, vb⟩) j a b c ↔ (j = i ∧ a = vk ∧ b = va ∧ c = vb) ∨ (j ≠ i ∧ Has l j a b c)) := by
  have hP := ps_lt h.pos (hm l.length i) D
  have c1 := cntK_set 1 ⟨1, i, vk, va, vb⟩ l _ hP
  have c2 := cntK_set 2 ⟨1, i, vk, va, vb⟩ l _ hP
  rw [k1] at c1 c2
  simp only [if_true, if_neg (show ¬ (1 : Int) = 2 by decide)] at c1 c2
  refine ⟨⟨by rw [List.length_set]; exact h.home, wf_set h.wf (.inr (.inr ⟨rfl, hi⟩)), h.setFull hi vk va vb hD hgo (.inr k2) (fun p hp hne h1 he => hne (h.uniq hp hP h1 k1 (he.trans k2.symm))), by rw [List.length_set]; have := h.room; omega, by rw [List.length_set]; exact h.pos⟩, by omega, by omega, fun j a b c => ?_⟩
  by_cases hj : j = i
  · subst hj
    constructor
    · rintro ⟨p, hp, e⟩
      rw [List.length_set] at hp
      by_cases c : ps l.length (hm l.length j) D = p
      · subst c
        rw [sl_set_same hp] at e
        injection e with _ _ e2 e3 e4
        exact .inl ⟨rfl, e2.symm, e3.symm, e4.symm⟩
      · rw [sl_set_ne c] at e
        exact absurd (h.uniq hP hp k1 (by rw [e]) (by rw [k2, e])) c
    · rintro (⟨_, rfl, rfl, rfl⟩ | ⟨hne, _⟩)
      · exact ⟨_, by rw [List.length_set]; exact hP, sl_set_same hP _⟩
      · exact absurd rfl hne
  · rw [has_set hP _ _ _ _ _ (fun _ he => hj (he.symm.trans k2))]
    constructor
    · rintro (e | e)
      · injection e with _ e1
        exact absurd e1.symm hj
      · exact .inr ⟨hj, e⟩
    · rintro (⟨rfl, _⟩ | ⟨_, e⟩)
      · exact absurd rfl hj
      · exact .inr e
/-- An index is taken away. -/
theorem Tab.del {l : List SlotV} (h : Tab hm l) {i : Int} {p : Nat} (hp : p < l.length) (k1 : (sl l p).kind = 1) (k2 : (sl l p).idx = i) :
    Tab hm (l.set p tombS) ∧ cntK 1 (l.set p tombS) + 1 = cntK 1 l ∧ cntK 2 (l.set p tombS) = cntK 2 l + 1 ∧ (∀ j a b c, Has (l.set p tombS) j a b c ↔ j ≠ i ∧ Has l j a b c) := by
  have c1 := cntK_set 1 tombS l p hp
  have c2 := cntK_set 2 tombS l p hp
  rw [k1] at c1 c2
  simp [tombS] at c1 c2
  refine ⟨⟨by rw [List.length_set]; exact h.home, wf_set h.wf (.inr (.inl rfl)), h.setTomb hp, by rw [List.length_set]; have := h.room; simp only [tombS]; omega, by rw [List.length_set]; exact h.pos⟩, by simp only [tombS]; omega, by simp only [tombS]; omega, fun j a b c => ?_⟩
  constructor
  · rintro ⟨q, hq, e⟩
    rw [List.length_set] at hq
    by_cases c : p = q
    · subst c; rw [sl_set_same hq] at e; cases e
    · rw [sl_set_ne c] at e
      refine ⟨fun hj => c (h.uniq hp hq k1 (by rw [e]) (by rw [k2, e]; exact hj.symm)), q, hq, e⟩
  · rintro ⟨hj, q, hq, e⟩
    have c : p ≠ q := fun c => by subst c; rw [e] at k2; exact hj k2
    exact ⟨q, by rw [List.length_set]; exact hq, by rw [sl_set_ne c]; exact e⟩
/-- A new table. -/
theorem Tab.new (n : Nat) (hn : 0 < n) (hh : ∀ i : Int, 0 ≤ i → i < 65536 → hm n i < n) : Tab hm (List.replicate n emptyS) ∧ cntK 1 (List.replicate n emptyS) = 0 ∧ cntK 2 (List.replicate n emptyS) = 0 ∧ ∀ j a b c, ¬ Has (List.replicate n emptyS) j a b c := by
  have hs : ∀ p, p < n → sl (List.replicate n emptyS) p = emptyS := fun p hp => by unfold sl; simp [hp]
  have c1 : cntK 1 (List.replicate n emptyS) = 0 := by rw [cntK_rep]; rfl
  have c2 : cntK 2 (List.replicate n emptyS) = 0 := by rw [cntK_rep]; rfl
  refine ⟨⟨by simpa using hh, fun p hp => .inl (hs p (by simpa using hp)), fun p hp h1 => ?_, by rw [c1, c2]; simp, by simpa using hn⟩, c1, c2, fun j a b c => ?_⟩
  · rw [hs p (by simpa using hp)] at h1; cases h1
  · rintro ⟨p, hp, e⟩
    rw [hs p (by simpa using hp)] at e
    cases e
end
end Go.Proofs.Ytcmbbkaioopkhaa
