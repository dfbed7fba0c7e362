/-
  Values found by sums: a table of slots, looked through from a home on. No program in sight; Values found by sums: a table is made anew; a put. No program in sight; The package hash: the struct as a claim; where an index stands; The package hash: a new index goes into its slot.
-/
import Derived.Test.YtkiikblpgppmkaaGreatDoorSpM01
import Derived.Test.YtkiikblpgppmkaaGreatDoorSpM10
import Derived.Test.YtkiikblpgppmkaaGreatDoorSpM09
import Derived.Test.YtkiikblpgppmkaaGreatDoorSpM04
import Derived.Test.YtkiikblpgppmkaaGreatDoorSpM02
namespace Go.Proofs.YtkiikblpgppmkaaGreatDoor
set_option linter.unusedVariables false
set_option linter.unusedSimpArgs false

/-- A slot. -/
structure SlotV where
  kind : Int
  idx : Int
  vk : Int
  va : Int
  vb : Int
deriving DecidableEq
def emptyS : SlotV := ⟨0, 0, 0, 0, 0⟩
def tombS : SlotV := ⟨2, 0, 0, 0, 0⟩
def sl (l : List SlotV) (p : Nat) : SlotV := l.getD p emptyS
def ps (n h d : Nat) : Nat := (h + d) % n
theorem ps_lt {n : Nat} (hn : 0 < n) (h d : Nat) : ps n h d < n := Nat.mod_lt _ hn
theorem ps_inj {n h d e : Nat} (hd : d < n) (he : e < n) (hh : h < n) (heq : ps n h d = ps n h e) : d = e := by
  unfold ps at heq
  have key : ∀ x, x < n → (h + x) % n = if h + x < n then h + x else h + x - n := fun x hx => by
    by_cases c : h + x < n
    · rw [if_pos c, Nat.mod_eq_of_lt c]
    · rw [if_neg c, Nat.mod_eq_sub_mod (by omega), Nat.mod_eq_of_lt (by omega)]
  rw [key d hd, key e he] at heq
  split at heq <;> split at heq <;> omega
/-- Each place is come to. -/
theorem ps_onto {n h p : Nat} (hp : p < n) (hh : h < n) : ∃ d, d < n ∧ ps n h d = p := by
  by_cases c : h ≤ p
  · exact ⟨p - h, by omega, by unfold ps; rw [show h + (p - h) = p by omega]; exact Nat.mod_eq_of_lt hp⟩
  · exact ⟨p + n - h, by omega, by unfold ps; rw [show h + (p + n - h) = p + n by omega, Nat.add_mod_right]; exact Nat.mod_eq_of_lt hp⟩

theorem sl_set_same {l : List SlotV} {p : Nat} (hp : p < l.length) (x : SlotV) : sl (l.set p x) p = x := by
  unfold sl
  rw [List.getD_eq_getElem?_getD, List.getElem?_set_self hp]
  rfl
theorem sl_set_ne {l : List SlotV} {p q : Nat} (h : p ≠ q) (x : SlotV) : sl (l.set p x) q = sl l q := by
  unfold sl
  rw [List.getD_eq_getElem?_getD, List.getElem?_set_ne h, ← List.getD_eq_getElem?_getD]
theorem sl_get {l : List SlotV} {p : Nat} (hp : p < l.length) : l[p]? = some (sl l p) := by
  unfold sl
  rw [List.getD_eq_getElem?_getD, List.getElem?_eq_getElem hp]
  rfl

/-- How many slots are of a kind. -/
def cntK (k : Int) : List SlotV → Nat
  | [] => 0
  | s :: t => (if s.kind = k then 1 else 0) + cntK k t
theorem cntK_le (k : Int) : ∀ l : List SlotV, cntK k l ≤ l.length
  | [] => Nat.le_refl _
  | s :: t => by
    have := cntK_le k t
    simp only [cntK, List.length_cons]
    split <;> omega
theorem cntK_set (k : Int) (x : SlotV) : ∀ (l : List SlotV) (p : Nat), p < l.length → cntK k (l.set p x) + (if (sl l p).kind = k then 1 else 0) = cntK k l + (if x.kind = k then 1 else 0)
  | [], p, h => by simp at h
  | s :: t, 0, _ => by
    simp only [List.set_cons_zero, cntK, sl, List.getD_cons_zero]
    omega
  | s :: t, p + 1, h => by
    have ih := cntK_set k x t p (by simpa using h)
    have e : sl (s :: t) (p + 1) = sl t p := rfl
    rw [List.set_cons_succ, cntK, cntK, e]
    omega
theorem cntK_app (k : Int) : ∀ (a b : List SlotV), cntK k (a ++ b) = cntK k a + cntK k b
  | [], b => by simp [cntK]
  | s :: t, b => by simp only [List.cons_append, cntK, cntK_app k t b]; omega
theorem cntK_rep (k : Int) (x : SlotV) (n : Nat) : cntK k (List.replicate n x) = if x.kind = k then n else 0 := by
  induction n with
  | zero => simp [cntK]
  | succ n ih =>
    rw [List.replicate_succ, cntK, ih]
    split <;> omega
/-- The kinds of a table add up. -/
theorem cntK_sum : ∀ (l : List SlotV), (∀ s ∈ l, s.kind = 0 ∨ s.kind = 1 ∨ s.kind = 2) → cntK 0 l + cntK 1 l + cntK 2 l = l.length
  | [], _ => rfl
  | s :: t, h => by
    have ih := cntK_sum t (fun x hx => h x (List.mem_cons_of_mem _ hx))
    simp only [cntK, List.length_cons]
    rcases h s (List.mem_cons_self ..) with e | e | e <;> simp [e] <;> omega
theorem cntK_pos {k : Int} : ∀ {l : List SlotV}, 0 < cntK k l → ∃ p, p < l.length ∧ (sl l p).kind = k
  | [], h => by simp [cntK] at h
  | s :: t, h => by
    by_cases e : s.kind = k
    · exact ⟨0, by simp, by simpa [sl] using e⟩
    · simp only [cntK, if_neg e, Nat.zero_add] at h
      obtain ⟨p, h1, h2⟩ := cntK_pos h
      exact ⟨p + 1, by simpa using h1, by simpa [sl] using h2⟩

/-- The search: fuel, how far it has come, the first slot that was left. -/
def probe (l : List SlotV) (i : Int) (h : Nat) : Nat → Nat → Int → Int × Int
  | 0, _, free => (-1, free)
  | f + 1, d, free =>
    if (sl l (ps l.length h d)).kind = 0 then (-1, if free < 0 then (ps l.length h d : Int) else free)
    else if (sl l (ps l.length h d)).kind = 1 ∧ (sl l (ps l.length h d)).idx = i then ((ps l.length h d : Int), -1)
    else probe l i h f (d + 1) (if (sl l (ps l.length h d)).kind = 2 ∧ free < 0 then (ps l.length h d : Int) else free)

/-- Where the search does not end. -/
def goOn (l : List SlotV) (i : Int) (h d : Nat) : Prop := (sl l (ps l.length h d)).kind ≠ 0 ∧ ¬ ((sl l (ps l.length h d)).kind = 1 ∧ (sl l (ps l.length h d)).idx = i)
/-- The first slot that was left, up to d. -/
def freeOk (l : List SlotV) (h d : Nat) (free : Int) : Prop := free = -1 ∨ ∃ q, q < d ∧ free = (ps l.length h q : Int) ∧ (sl l (ps l.length h q)).kind = 2
theorem freeOk_next {l : List SlotV} {h d : Nat} {free : Int} (hf : freeOk l h d free) : freeOk l h (d + 1) (if (sl l (ps l.length h d)).kind = 2 ∧ free < 0 then (ps l.length h d : Int) else free) := by
  split
  · rename_i c
    exact .inr ⟨d, by omega, rfl, c.1⟩
  · rcases hf with e | ⟨q, h1, h2, h3⟩
    · exact .inl e
    · exact .inr ⟨q, by omega, h2, h3⟩

theorem probe_ends {l : List SlotV} {i : Int} {h : Nat} : ∀ (f d : Nat) (free : Int), d + f = l.length → (∀ e, e < d → goOn l i h e) → freeOk l h d free → (∃ D, d ≤ D ∧ D < l.length ∧ ¬ goOn l i h D) →
    (∃ D, D < l.length ∧ (∀ e, e < D → goOn l i h e) ∧ (sl l (ps l.length h D)).kind = 1 ∧ (sl l (ps l.length h D)).idx = i ∧ probe l i h f d free = ((ps l.length h D : Int), -1)) ∨
    (∃ D q, D < l.length ∧ q ≤ D ∧ (∀ e, e < D → goOn l i h e) ∧ (sl l (ps l.length h D)).kind = 0 ∧ (q = D ∨ (sl l (ps l.length h q)).kind = 2) ∧ probe l i h f d free = (-1, (ps l.length h q : Int)))
  | 0, d, free, hd, _, _, ⟨D, h1, h2, _⟩ => by omega
  | f + 1, d, free, hd, hgo, hfree, ⟨D, h1, h2, h3⟩ => by
    by_cases c0 : (sl l (ps l.length h d)).kind = 0
    · refine .inr ?_
      rcases hfree with e | ⟨q, q1, q2, q3⟩
      · refine ⟨d, d, by omega, Nat.le_refl _, hgo, c0, .inl rfl, ?_⟩
        rw [probe, if_pos c0, if_pos (by omega)]
      · refine ⟨d, q, by omega, by omega, hgo, c0, .inr q3, ?_⟩
        rw [probe, if_pos c0, if_neg (by omega), q2]
    · by_cases c1 : (sl l (ps l.length h d)).kind = 1 ∧ (sl l (ps l.length h d)).idx = i
      · refine .inl ⟨d, by omega, hgo, c1.1, c1.2, ?_⟩
        rw [probe, if_neg c0, if_pos c1]
      · have hgd : goOn l i h d := ⟨c0, c1⟩
        have hne : d ≠ D := fun e => h3 (e ▸ hgd)
        have ih := probe_ends f (d + 1) (if (sl l (ps l.length h d)).kind = 2 ∧ free < 0 then (ps l.length h d : Int) else free) (by omega) (fun e he => by
          by_cases e' : e = d
          · exact e' ▸ hgd
          · exact hgo e (by omega)) (freeOk_next hfree) ⟨D, by omega, h2, h3⟩
        rw [probe, if_neg c0, if_neg c1]
        exact ih

section
variable (hm : Nat → Int → Nat)
def findS (l : List SlotV) (i : Int) : Int × Int := probe l i (hm l.length i) l.length 0 (-1)

/-- Each full slot is found on its way from its home. -/
def Path (l : List SlotV) : Prop := ∀ p, p < l.length → (sl l p).kind = 1 → ∃ D, D < l.length ∧ ps l.length (hm l.length (sl l p).idx) D = p ∧ ∀ d, d < D → goOn l (sl l p).idx (hm l.length (sl l p).idx) d
def wfS (s : SlotV) : Prop := s = emptyS ∨ s = tombS ∨ (s.kind = 1 ∧ 0 ≤ s.idx ∧ s.idx < 65536)
structure HTab (l : List SlotV) : Prop where
  home : ∀ i : Int, 0 ≤ i → i < 65536 → hm l.length i < l.length
  wf : ∀ p, p < l.length → wfS (sl l p)
  path : Path hm l
  room : 4 * (cntK 1 l + cntK 2 l) ≤ 3 * l.length
  pos : 0 < l.length
/-- Index i has value v. -/
def Has (l : List SlotV) (i vk va vb : Int) : Prop := ∃ p, p < l.length ∧ sl l p = ⟨1, i, vk, va, vb⟩

variable {hm}
theorem HTab.kinds {l : List SlotV} (h : ∀ p, p < l.length → wfS (sl l p)) : ∀ s ∈ l, s.kind = 0 ∨ s.kind = 1 ∨ s.kind = 2 := by
  intro s hs
  obtain ⟨p, hp, rfl⟩ := List.getElem_of_mem hs
  have e : sl l p = l[p] := by unfold sl; simp [hp]
  rcases h p hp with h | h | h
  · rw [← e, h]; exact .inl rfl
  · rw [← e, h]; exact .inr (.inr rfl)
  · rw [← e]; exact .inr (.inl h.1)
theorem HTab.gap {l : List SlotV} (h : HTab hm l) : ∃ p, p < l.length ∧ (sl l p).kind = 0 := by
  refine cntK_pos ?_
  have h1 := cntK_sum l (HTab.kinds h.wf)
  have h2 := h.room
  have h3 := h.pos
  omega
/-- What the search answers. -/
theorem HTab.find {l : List SlotV} (h : HTab hm l) (i : Int) (hi : 0 ≤ i ∧ i < 65536) :
    (∃ D, D < l.length ∧ (∀ e, e < D → goOn l i (hm l.length i) e) ∧ (sl l (ps l.length (hm l.length i) D)).kind = 1 ∧ (sl l (ps l.length (hm l.length i) D)).idx = i ∧ findS hm l i = ((ps l.length (hm l.length i) D : Int), -1)) ∨
    (∃ D q, D < l.length ∧ q ≤ D ∧ (∀ e, e < D → goOn l i (hm l.length i) e) ∧ (sl l (ps l.length (hm l.length i) D)).kind = 0 ∧ (q = D ∨ (sl l (ps l.length (hm l.length i) q)).kind = 2) ∧ findS hm l i = (-1, (ps l.length (hm l.length i) q : Int))) := by
  obtain ⟨p, hp, hk⟩ := h.gap
  obtain ⟨d, hd, he⟩ := ps_onto hp (h.home i hi.1 hi.2)
  exact probe_ends l.length 0 (-1) (by omega) (fun e he => by omega) (.inl rfl) ⟨d, by omega, hd, fun hg => hg.1 (by rw [he]; exact hk)⟩
theorem HTab.uniq {l : List SlotV} (h : HTab hm l) {p q : Nat} (hp : p < l.length) (hq : q < l.length) (h1 : (sl l p).kind = 1) (h2 : (sl l q).kind = 1) (he : (sl l p).idx = (sl l q).idx) : p = q := by
  obtain ⟨D, a1, a2, a3⟩ := h.path p hp h1
  obtain ⟨E, b1, b2, b3⟩ := h.path q hq h2
  rw [he] at a2 a3
  rcases Nat.lt_trichotomy D E with c | c | c
  · exact absurd ⟨by rw [a2]; exact h1, by rw [a2]; exact he⟩ (b3 D c).2
  · subst c; exact a2.symm.trans b2
  · exact absurd ⟨by rw [b2]; exact h2, by rw [b2]⟩ (a3 E c).2
/-- Nothing found: it is not there. -/
theorem HTab.none {l : List SlotV} (h : HTab hm l) {i : Int} {D : Nat} (hD : D < l.length) (hgo : ∀ e, e < D → goOn l i (hm l.length i) e) (hk : (sl l (ps l.length (hm l.length i) D)).kind = 0) :
    ∀ p, p < l.length → (sl l p).kind = 1 → (sl l p).idx ≠ i := by
  intro p hp h1 he
  obtain ⟨E, b1, b2, b3⟩ := h.path p hp h1
  rw [he] at b2 b3
  rcases Nat.lt_trichotomy D E with c | c | c
  · exact (b3 D c).1 hk
  · subst c; rw [b2, h1] at hk; cases hk
  · exact (hgo E c).2 ⟨by rw [b2]; exact h1, by rw [b2]; exact he⟩

/-- A slot is written: what stays of the ways. -/
theorem goOn_set {l : List SlotV} {p : Nat} {x : SlotV} {i : Int} {h d : Nat} (hp : p < l.length) (hx : x.kind ≠ 0) (hi : ¬ (x.kind = 1 ∧ x.idx = i)) (hg : goOn l i h d) : goOn (l.set p x) i h d := by
  unfold goOn at *
  rw [List.length_set]
  by_cases e : p = ps l.length h d
  · rw [← e, sl_set_same hp]
    exact ⟨hx, hi⟩
  · rw [sl_set_ne e]
    exact hg
theorem HTab.setFull {l : List SlotV} (h : HTab hm l) {i : Int} (hi : 0 ≤ i ∧ i < 65536) {q : Nat} (vk va vb : Int) (hq : q < l.length)
    (hgo : ∀ e, e < q → goOn l i (hm l.length i) e) (hk : (sl l (ps l.length (hm l.length i) q)).kind ≠ 1 ∨ (sl l (ps l.length (hm l.length i) q)).idx = i)
    (hno : ∀ p, p < l.length → p ≠ ps l.length (hm l.length i) q → (sl l p).kind = 1 → (sl l p).idx ≠ i) :
    Path hm (l.set (ps l.length (hm l.length i) q) ⟨1, i, vk, va, vb⟩) := by
  have hP := ps_lt h.pos (hm l.length i) q
  intro p hp h1
  rw [List.length_set] at hp
  by_cases e : p = ps l.length (hm l.length i) q
  · rw [e, sl_set_same hP]
    refine ⟨q, by rw [List.length_set]; exact hq, by rw [List.length_set], fun d hd => ?_⟩
    unfold goOn
    simp only [List.length_set]
    have hne : ps l.length (hm l.length i) q ≠ ps l.length (hm l.length i) d := fun e' => by
      have := ps_inj hq (by omega) (h.home i hi.1 hi.2) e'
      omega
    rw [sl_set_ne hne]
    exact hgo d hd
  · rw [sl_set_ne (fun e' => e e'.symm)] at h1 ⊢
    obtain ⟨D, a1, a2, a3⟩ := h.path p hp h1
    simp only [List.length_set]
    refine ⟨D, a1, a2, fun d hd => ?_⟩
    exact goOn_set hP (by simp) (fun hx => hno p hp e h1 hx.2.symm) (a3 d hd)
theorem HTab.setTomb {l : List SlotV} (h : HTab hm l) {p : Nat} (hp : p < l.length) : Path hm (l.set p tombS) := by
  intro q hq h1
  rw [List.length_set] at hq
  by_cases e : q = p
  · subst e
    rw [sl_set_same hp] at h1
    cases h1
  · rw [sl_set_ne (fun e' => e e'.symm)] at h1 ⊢
    obtain ⟨D, a1, a2, a3⟩ := h.path q hq h1
    simp only [List.length_set]
    exact ⟨D, a1, a2, fun d hd => goOn_set hp (by decide) (fun hx => by cases hx.1) (a3 d hd)⟩
theorem wf_set {l : List SlotV} (h : ∀ p, p < l.length → wfS (sl l p)) {q : Nat} {x : SlotV} (hx : wfS x) : ∀ p, p < (l.set q x).length → wfS (sl (l.set q x) p) := by
  intro p hp
  rw [List.length_set] at hp
  by_cases e : p = q
  · subst e; rw [sl_set_same hp]; exact hx
  · rw [sl_set_ne (fun e' => e e'.symm)]; exact h p hp
/-- What is there is found; what is not is not. -/
theorem HTab.has {l : List SlotV} (h : HTab hm l) {i : Int} {p : Nat} (hp : p < l.length) (h1 : (sl l p).kind = 1) (h2 : (sl l p).idx = i) (vk va vb : Int) : Has l i vk va vb ↔ vk = (sl l p).vk ∧ va = (sl l p).va ∧ vb = (sl l p).vb := by
  constructor
  · rintro ⟨q, hq, e⟩
    have := h.uniq hp hq h1 (by rw [e]) (by rw [h2, e])
    subst this
    rw [e]
    exact ⟨rfl, rfl, rfl⟩
  · rintro ⟨rfl, rfl, rfl⟩
    refine ⟨p, hp, ?_⟩
    cases e : sl l p
    simp only [e] at h1 h2
    subst h1; subst h2
    rfl
theorem has_set {l : List SlotV} {q : Nat} (hq : q < l.length) (x : SlotV) (i vk va vb : Int) (hni : (sl l q).kind = 1 → (sl l q).idx ≠ i) :
    Has (l.set q x) i vk va vb ↔ x = ⟨1, i, vk, va, vb⟩ ∨ Has l i vk va vb := by
  constructor
  · rintro ⟨p, hp, e⟩
    rw [List.length_set] at hp
    by_cases c : q = p
    · subst c; rw [sl_set_same hp] at e; exact .inl e
    · rw [sl_set_ne c] at e; exact .inr ⟨p, hp, e⟩
  · rintro (e | ⟨p, hp, e⟩)
    · exact ⟨q, by rw [List.length_set]; exact hq, by rw [sl_set_same hq]; exact e⟩
    · by_cases c : q = p
      · subst c; exact absurd (by rw [e]) (hni (by rw [e]))
      · exact ⟨p, by rw [List.length_set]; exact hp, by rw [sl_set_ne c]; exact e⟩

/-- A new index goes into the slot that the search tells. -/
def insS (hm : Nat → Int → Nat) (l : List SlotV) (i vk va vb : Int) : List SlotV := l.set (findS hm l i).2.toNat ⟨1, i, vk, va, vb⟩
/-- What an insert does. -/
theorem HTab.ins {l : List SlotV} (h : HTab hm l) {i : Int} (hi : 0 ≤ i ∧ i < 65536) (vk va vb : Int) (hno : ∀ p, p < l.length → (sl l p).kind = 1 → (sl l p).idx ≠ i) (hroom : 4 * (cntK 1 l + cntK 2 l + 1) ≤ 3 * l.length) :
    ∃ q, q < l.length ∧ findS hm l i = (-1, (q : Int)) ∧ (sl l q).kind ≠ 1 ∧ insS hm l i vk va vb = l.set q ⟨1, i, vk, va, vb⟩ ∧ HTab hm (insS hm l i vk va vb) ∧ cntK 1 (insS hm l i vk va vb) = cntK 1 l + 1 ∧
      cntK 2 (insS hm l i vk va vb) + (if (sl l q).kind = 2 then 1 else 0) = cntK 2 l ∧
      (∀ j a b c, Has (insS hm l i vk va vb) j a b c ↔ (j = i ∧ a = vk ∧ b = va ∧ c = vb) ∨ Has l j a b c) := by
  rcases h.find i hi with ⟨D, hD, hgo, k1, k2, _⟩ | ⟨D, q, hD, hqD, hgo, hk, hq, hf⟩
  · exact absurd k2 (hno _ (ps_lt h.pos _ _) k1)
  · have hP := ps_lt h.pos (hm l.length i) q
    have hk1 : (sl l (ps l.length (hm l.length i) q)).kind ≠ 1 := by
      rcases hq with e | e
      · rw [e, hk]; decide
      · rw [e]; decide
    have e : insS hm l i vk va vb = l.set (ps l.length (hm l.length i) q) ⟨1, i, vk, va, vb⟩ := by
      unfold insS
      rw [hf]
      rfl
    have c1 := cntK_set 1 ⟨1, i, vk, va, vb⟩ l _ hP
    have c2 := cntK_set 2 ⟨1, i, vk, va, vb⟩ l _ hP
    rw [if_neg hk1] at c1
    simp only [if_true, if_neg (show ¬ (1 : Int) = 2 by decide)] at c1 c2
    refine ⟨_, hP, hf, hk1, e, ?_, by rw [e]; omega, by rw [e]; omega, fun j a b c => ?_⟩
    · rw [e]
      refine ⟨by rw [List.length_set]; exact h.home, wf_set h.wf (.inr (.inr ⟨rfl, hi⟩)), ?_, ?_, by rw [List.length_set]; exact h.pos⟩
      · exact h.setFull hi vk va vb (by omega) (fun x hx => hgo x (by omega)) (.inl hk1) (fun p hp _ => hno p hp)
      · rw [List.length_set]; omega
    · rw [e, has_set hP _ _ _ _ _ (fun hx => absurd hx hk1)]
      constructor
      · rintro (e | e)
        · injection e with _ e1 e2 e3 e4
          exact .inl ⟨e1.symm, e2.symm, e3.symm, e4.symm⟩
        · exact .inr e
      · rintro (⟨rfl, rfl, rfl, rfl⟩ | e)
        · exact .inl rfl
        · exact .inr e
/-- A value is put where the index is. -/
theorem HTab.upd {l : List SlotV} (h : HTab hm l) {i : Int} (hi : 0 ≤ i ∧ i < 65536) (vk va vb : Int) {D : Nat} (hD : D < l.length) (hgo : ∀ e, e < D → goOn l i (hm l.length i) e) (k1 : (sl l (ps l.length (hm l.length i) D)).kind = 1) (k2 : (sl l (ps l.length (hm l.length i) D)).idx = i) :
    HTab hm (l.set (ps l.length (hm l.length i) D) ⟨1, i, vk, va, vb⟩) ∧ cntK 1 (l.set (ps l.length (hm l.length i) D) ⟨1, i, vk, va, vb⟩) = cntK 1 l ∧ cntK 2 (l.set (ps l.length (hm l.length i) D) ⟨1, i, vk, va, vb⟩) = cntK 2 l ∧
      (∀ j a b c, Has (l.set (ps l.length (hm l.length i) D) ⟨1, i, vk, va, vb⟩) j a b c ↔ (j = i ∧ a = vk ∧ b = va ∧ c = vb) ∨ (j ≠ i ∧ Has l j a b c)) := by
  have hP := ps_lt h.pos (hm l.length i) D
  have c1 := cntK_set 1 ⟨1, i, vk, va, vb⟩ l _ hP
  have c2 := cntK_set 2 ⟨1, i, vk, va, vb⟩ l _ hP
  rw [k1] at c1 c2
  simp only [if_true, if_neg (show ¬ (1 : Int) = 2 by decide)] at c1 c2
  refine ⟨⟨by rw [List.length_set]; exact h.home, wf_set h.wf (.inr (.inr ⟨rfl, hi⟩)), h.setFull hi vk va vb hD hgo (.inr k2) (fun p hp hne h1 he => hne (h.uniq hp hP h1 k1 (he.trans k2.symm))), by rw [List.length_set]; have := h.room; omega, by rw [List.length_set]; exact h.pos⟩, by omega, by omega, fun j a b c => ?_⟩
  by_cases hj : j = i
  · subst hj
    constructor
    · rintro ⟨p, hp, e⟩
      rw [List.length_set] at hp
      by_cases c : ps l.length (hm l.length j) D = p
      · subst c
        rw [sl_set_same hp] at e
        injection e with _ _ e2 e3 e4
        exact .inl ⟨rfl, e2.symm, e3.symm, e4.symm⟩
      · rw [sl_set_ne c] at e
        exact absurd (h.uniq hP hp k1 (by rw [e]) (by rw [k2, e])) c
    · rintro (⟨_, rfl, rfl, rfl⟩ | ⟨hne, _⟩)
      · exact ⟨_, by rw [List.length_set]; exact hP, sl_set_same hP _⟩
      · exact absurd rfl hne
  · rw [has_set hP _ _ _ _ _ (fun _ he => hj (he.symm.trans k2))]
    constructor
    · rintro (e | e)
      · injection e with _ e1
        exact absurd e1.symm hj
      · exact .inr ⟨hj, e⟩
    · rintro (⟨rfl, _⟩ | ⟨_, e⟩)
      · exact absurd rfl hj
      · exact .inr e
/-- An index is taken away. -/
theorem HTab.del {l : List SlotV} (h : HTab hm l) {i : Int} {p : Nat} (hp : p < l.length) (k1 : (sl l p).kind = 1) (k2 : (sl l p).idx = i) :
    HTab hm (l.set p tombS) ∧ cntK 1 (l.set p tombS) + 1 = cntK 1 l ∧ cntK 2 (l.set p tombS) = cntK 2 l + 1 ∧ (∀ j a b c, Has (l.set p tombS) j a b c ↔ j ≠ i ∧ Has l j a b c) := by
  have c1 := cntK_set 1 tombS l p hp
  have c2 := cntK_set 2 tombS l p hp
  rw [k1] at c1 c2
  simp [tombS] at c1 c2
  refine ⟨⟨by rw [List.length_set]; exact h.home, wf_set h.wf (.inr (.inl rfl)), h.setTomb hp, by rw [List.length_set]; have := h.room; simp only [tombS]; omega, by rw [List.length_set]; exact h.pos⟩, by simp only [tombS]; omega, by simp only [tombS]; omega, fun j a b c => ?_⟩
  constructor
  · rintro ⟨q, hq, e⟩
    rw [List.length_set] at hq
    by_cases c : p = q
    · subst c; rw [sl_set_same hq] at e; cases e
    · rw [sl_set_ne c] at e
      refine ⟨fun hj => c (h.uniq hp hq k1 (by rw [e]) (by rw [k2, e]; exact hj.symm)), q, hq, e⟩
  · rintro ⟨hj, q, hq, e⟩
    have c : p ≠ q := fun c => by subst c; rw [e] at k2; exact hj k2
    exact ⟨q, by rw [List.length_set]; exact hq, by rw [sl_set_ne c]; exact e⟩
/-- A new table. -/
theorem HTab.new (n : Nat) (hn : 0 < n) (hh : ∀ i : Int, 0 ≤ i → i < 65536 → hm n i < n) : HTab hm (List.replicate n emptyS) ∧ cntK 1 (List.replicate n emptyS) = 0 ∧ cntK 2 (List.replicate n emptyS) = 0 ∧ ∀ j a b c, ¬ Has (List.replicate n emptyS) j a b c := by
  have hs : ∀ p, p < n → sl (List.replicate n emptyS) p = emptyS := fun p hp => by unfold sl; simp [hp]
  have c1 : cntK 1 (List.replicate n emptyS) = 0 := by rw [cntK_rep]; rfl
  have c2 : cntK 2 (List.replicate n emptyS) = 0 := by rw [cntK_rep]; rfl
  refine ⟨⟨by simpa using hh, fun p hp => .inl (hs p (by simpa using hp)), fun p hp h1 => ?_, by rw [c1, c2]; simp, by simpa using hn⟩, c1, c2, fun j a b c => ?_⟩
  · rw [hs p (by simpa using hp)] at h1; cases h1
  · rintro ⟨p, hp, e⟩
    rw [hs p (by simpa using hp)] at e
    cases e
end
end Go.Proofs.YtkiikblpgppmkaaGreatDoor

namespace Go.Proofs.YtkiikblpgppmkaaGreatDoor
set_option linter.unusedVariables false
set_option linter.unusedSimpArgs false

section
variable {hm : Nat → Int → Nat}
/-- A slot of the old table is gone through. -/
def addS (hm : Nat → Int → Nat) (t : List SlotV) (s : SlotV) : List SlotV := if s.kind = 1 then insS hm t s.idx s.vk s.va s.vb else t
def rebK (hm : Nat → Int → Nat) (n : Nat) (l : List SlotV) (k : Nat) : List SlotV := (l.take k).foldl (addS hm) (List.replicate n emptyS)
theorem rebK_succ (n : Nat) (l : List SlotV) (k : Nat) (hk : k < l.length) : rebK hm n l (k + 1) = addS hm (rebK hm n l k) (sl l k) := by
  unfold rebK
  rw [List.take_add_one, sl_get hk, List.foldl_append]
  rfl
theorem cntK_take_succ (j : Int) (l : List SlotV) (k : Nat) (hk : k < l.length) : cntK j (l.take (k + 1)) = cntK j (l.take k) + if (sl l k).kind = j then 1 else 0 := by
  rw [List.take_add_one, sl_get hk, cntK_app]
  rfl
theorem cntK_take_le (j : Int) (l : List SlotV) (k : Nat) : cntK j (l.take k) ≤ cntK j l := by
  have h : cntK j l = cntK j (l.take k) + cntK j (l.drop k) := by rw [← cntK_app, List.take_append_drop]
  omega
theorem insS_length (l : List SlotV) (i vk va vb : Int) : (insS hm l i vk va vb).length = l.length := by simp [insS]
theorem slot_eta (s : SlotV) (h : s.kind = 1) : s = ⟨1, s.idx, s.vk, s.va, s.vb⟩ := by
  cases s
  simp only at h
  subst h
  rfl
structure Reb (hm : Nat → Int → Nat) (n : Nat) (l : List SlotV) (k : Nat) : Prop where
  tab : HTab hm (rebK hm n l k)
  len : (rebK hm n l k).length = n
  full : cntK 1 (rebK hm n l k) = cntK 1 (l.take k)
  left : cntK 2 (rebK hm n l k) = 0
  has : ∀ j a b c, Has (rebK hm n l k) j a b c ↔ ∃ p, p < k ∧ p < l.length ∧ sl l p = ⟨1, j, a, b, c⟩
/-- What the next slot does. -/
theorem Reb.next {l : List SlotV} (h : HTab hm l) {n : Nat} (hroom : 4 * cntK 1 l ≤ 3 * n) {k : Nat} (r : Reb hm n l k) (hk : k < l.length) (h1 : (sl l k).kind = 1) :
    (0 ≤ (sl l k).idx ∧ (sl l k).idx < 65536) ∧ (∀ p, p < (rebK hm n l k).length → (sl (rebK hm n l k) p).kind = 1 → (sl (rebK hm n l k) p).idx ≠ (sl l k).idx) ∧
      4 * (cntK 1 (rebK hm n l k) + cntK 2 (rebK hm n l k) + 1) ≤ 3 * (rebK hm n l k).length := by
  refine ⟨?_, fun p hp hp1 he => ?_, ?_⟩
  · rcases h.wf k hk with e | e | e
    · rw [e] at h1; cases h1
    · rw [e] at h1; cases h1
    · exact e.2
  · obtain ⟨q, q1, q2, q3⟩ := (r.has _ _ _ _).1 ⟨p, hp, slot_eta _ hp1⟩
    have := h.uniq q2 hk (by rw [q3]) h1 (by rw [q3]; exact he)
    omega
  · have c1 := cntK_take_succ 1 l k hk
    rw [if_pos h1] at c1
    have c2 := cntK_take_le 1 l (k + 1)
    rw [r.full, r.left, r.len]
    omega
theorem Reb.start (l : List SlotV) {n : Nat} (hn : 0 < n) (hh : ∀ i : Int, 0 ≤ i → i < 65536 → hm n i < n) : Reb hm n l 0 := by
  obtain ⟨t1, t2, t3, t4⟩ := HTab.new (hm := hm) n hn hh
  refine ⟨t1, by simp [rebK], by simp [rebK, t2, cntK], t3, fun j a b c => ?_⟩
  constructor
  · intro h; exact absurd h (t4 j a b c)
  · rintro ⟨p, hp, _⟩; omega
theorem Reb.succ {l : List SlotV} (h : HTab hm l) {n : Nat} (hroom : 4 * cntK 1 l ≤ 3 * n) {k : Nat} (r : Reb hm n l k) (hk : k < l.length) : Reb hm n l (k + 1) := by
  have c1 := cntK_take_succ 1 l k hk
  by_cases h1 : (sl l k).kind = 1
  · obtain ⟨n1, n2, n3⟩ := Reb.next h hroom r hk h1
    obtain ⟨q, q1, q2, q3, q4, q5, q6, q7, q8⟩ := r.tab.ins n1 (sl l k).vk (sl l k).va (sl l k).vb n2 n3
    have e : rebK hm n l (k + 1) = insS hm (rebK hm n l k) (sl l k).idx (sl l k).vk (sl l k).va (sl l k).vb := by
      rw [rebK_succ n l k hk, addS, if_pos h1]
    rw [if_pos h1] at c1
    refine ⟨by rw [e]; exact q5, by rw [e, insS_length, r.len], by rw [e, q6, r.full, c1], by rw [e]; have := r.left; omega, fun j a b c => ?_⟩
    rw [e, q8]
    constructor
    · rintro (⟨rfl, rfl, rfl, rfl⟩ | hh)
      · exact ⟨k, by omega, hk, slot_eta _ h1⟩
      · obtain ⟨p, p1, p2, p3⟩ := (r.has _ _ _ _).1 hh
        exact ⟨p, by omega, p2, p3⟩
    · rintro ⟨p, p1, p2, p3⟩
      by_cases e : p = k
      · subst e
        rw [p3]
        exact .inl ⟨rfl, rfl, rfl, rfl⟩
      · exact .inr ((r.has _ _ _ _).2 ⟨p, by omega, p2, p3⟩)
  · have e : rebK hm n l (k + 1) = rebK hm n l k := by rw [rebK_succ n l k hk, addS, if_neg h1]
    rw [if_neg h1] at c1
    refine ⟨by rw [e]; exact r.tab, by rw [e]; exact r.len, by rw [e, r.full, c1]; rfl, by rw [e]; exact r.left, fun j a b c => ?_⟩
    rw [e, r.has]
    constructor
    · rintro ⟨p, p1, p2, p3⟩; exact ⟨p, by omega, p2, p3⟩
    · rintro ⟨p, p1, p2, p3⟩
      by_cases e : p = k
      · subst e; rw [p3] at h1; exact absurd rfl h1
      · exact ⟨p, by omega, p2, p3⟩
theorem Reb.all {l : List SlotV} (h : HTab hm l) {n : Nat} (hn : 0 < n) (hh : ∀ i : Int, 0 ≤ i → i < 65536 → hm n i < n) (hroom : 4 * cntK 1 l ≤ 3 * n) : ∀ k, k ≤ l.length → Reb hm n l k
  | 0, _ => Reb.start l hn hh
  | k + 1, hk => (Reb.all h hn hh hroom k (by omega)).succ h hroom (by omega)

/-- The size of a table that is made anew. -/
def newN (l : List SlotV) : Nat := if 2 * (cntK 1 l + 1) > l.length then 2 * l.length else l.length
/-- Room for one more. -/
def growS (hm : Nat → Int → Nat) (l : List SlotV) : List SlotV := if 4 * (cntK 1 l + cntK 2 l + 1) ≤ 3 * l.length then l else rebK hm (newN l) l l.length
theorem newN_room {l : List SlotV} (h : HTab hm l) : 4 * (cntK 1 l + 1) ≤ 3 * newN l ∧ l.length ≤ newN l ∧ 0 < newN l ∨ l.length < 4 := by
  have h1 := h.room
  have h2 := h.pos
  unfold newN
  split
  · by_cases c : l.length < 4
    · exact .inr c
    · exact .inl ⟨by omega, by omega, by omega⟩
  · exact .inl ⟨by omega, Nat.le_refl _, h2⟩
theorem HTab.grow {l : List SlotV} (h : HTab hm l) (h8 : 8 ≤ l.length) (hh : ∀ i : Int, 0 ≤ i → i < 65536 → hm (newN l) i < newN l) :
    HTab hm (growS hm l) ∧ cntK 1 (growS hm l) = cntK 1 l ∧ 4 * (cntK 1 (growS hm l) + cntK 2 (growS hm l) + 1) ≤ 3 * (growS hm l).length ∧ (∀ j a b c, Has (growS hm l) j a b c ↔ Has l j a b c) ∧
      ((growS hm l).length = l.length ∨ ((growS hm l).length = newN l)) := by
  unfold growS
  split
  · exact ⟨h, rfl, by assumption, fun _ _ _ _ => Iff.rfl, .inl rfl⟩
  · obtain ⟨r1, r2, r3⟩ : 4 * (cntK 1 l + 1) ≤ 3 * newN l ∧ l.length ≤ newN l ∧ 0 < newN l := by
      rcases newN_room h with e | e
      · exact e
      · omega
    have r := Reb.all (n := newN l) h r3 hh (by omega) l.length (Nat.le_refl _)
    have hf := r.full
    rw [List.take_length] at hf
    refine ⟨r.tab, hf, by rw [hf, r.left, r.len]; omega, fun j a b c => ?_, .inr r.len⟩
    rw [r.has]
    constructor
    · rintro ⟨p, _, p2, p3⟩; exact ⟨p, p2, p3⟩
    · rintro ⟨p, p2, p3⟩; exact ⟨p, p2, p2, p3⟩

/-- A put. -/
def putS (hm : Nat → Int → Nat) (l : List SlotV) (i vk va vb : Int) : List SlotV :=
  if 0 ≤ (findS hm l i).1 then l.set (findS hm l i).1.toNat ⟨1, i, vk, va, vb⟩ else insS hm (growS hm l) i vk va vb
/-- A take. -/
def takeS (hm : Nat → Int → Nat) (l : List SlotV) (i : Int) : List SlotV := if 0 ≤ (findS hm l i).1 then l.set (findS hm l i).1.toNat tombS else l
end
end Go.Proofs.YtkiikblpgppmkaaGreatDoor

namespace Go.Proofs.YtkiikblpgppmkaaGreatDoor
open Go Go.RowKit
set_option linter.unusedVariables false
set_option linter.unusedSimpArgs false

def hmO (n : Nat) (i : Int) : Nat := (homeOf i n).toNat
/-- A size that may be. -/
def Pow (n : Nat) : Prop := ∃ k, k ≤ 17 ∧ n = 8 * 2 ^ k
theorem Pow.cases {n : Nat} (h : Pow n) : n = 8 ∨ n = 16 ∨ n = 32 ∨ n = 64 ∨ n = 128 ∨ n = 256 ∨ n = 512 ∨ n = 1024 ∨ n = 2048 ∨ n = 4096 ∨ n = 8192 ∨ n = 16384 ∨ n = 32768 ∨ n = 65536 ∨ n = 131072 ∨ n = 262144 ∨ n = 524288 ∨ n = 1048576 := by
  obtain ⟨k, hk, rfl⟩ := h
  have : k = 0 ∨ k = 1 ∨ k = 2 ∨ k = 3 ∨ k = 4 ∨ k = 5 ∨ k = 6 ∨ k = 7 ∨ k = 8 ∨ k = 9 ∨ k = 10 ∨ k = 11 ∨ k = 12 ∨ k = 13 ∨ k = 14 ∨ k = 15 ∨ k = 16 ∨ k = 17 := by omega
  rcases this with rfl | rfl | rfl | rfl | rfl | rfl | rfl | rfl | rfl | rfl | rfl | rfl | rfl | rfl | rfl | rfl | rfl | rfl <;> simp
theorem Pow.may {n : Nat} (h : Pow n) (i : Int) (h0 : 0 ≤ i) (h1 : i < 65536) : mayHome i n = true := by
  rcases h.cases with rfl | rfl | rfl | rfl | rfl | rfl | rfl | rfl | rfl | rfl | rfl | rfl | rfl | rfl | rfl | rfl | rfl | rfl <;> simp [mayHome, h0, h1] <;> decide
theorem Pow.lt {n : Nat} (h : Pow n) (i : Int) (h0 : 0 ≤ i) (h1 : i < 65536) : 0 ≤ homeOf i n ∧ homeOf i n < n := by
  unfold homeOf
  have a1 : 0 ≤ i * 2654435761 % 4294967296 := by omega
  have a2 : i * 2654435761 % 4294967296 < 4294967296 := by omega
  rcases h.cases with rfl | rfl | rfl | rfl | rfl | rfl | rfl | rfl | rfl | rfl | rfl | rfl | rfl | rfl | rfl | rfl | rfl | rfl <;> simp <;> omega
theorem Pow.home {n : Nat} (h : Pow n) : ∀ i : Int, 0 ≤ i → i < 65536 → hmO n i < n := fun i h0 h1 => by
  have := h.lt i h0 h1
  unfold hmO
  omega
theorem Pow.eq {n : Nat} (h : Pow n) (i : Int) (h0 : 0 ≤ i) (h1 : i < 65536) : homeOf i n = (hmO n i : Int) := by
  have := h.lt i h0 h1
  unfold hmO
  omega
theorem Pow.pos {n : Nat} (h : Pow n) : 8 ≤ n ∧ n ≤ 1048576 := by
  rcases h.cases with rfl | rfl | rfl | rfl | rfl | rfl | rfl | rfl | rfl | rfl | rfl | rfl | rfl | rfl | rfl | rfl | rfl | rfl <;> omega
theorem Pow.eight : Pow 8 := ⟨0, by omega, rfl⟩
theorem Pow.twice {n : Nat} (h : Pow n) (hn : n ≤ 524288) : Pow (2 * n) := by
  obtain ⟨k, hk, rfl⟩ := h
  refine ⟨k + 1, ?_, by rw [Nat.pow_succ]; omega⟩
  rcases Nat.lt_or_ge k 17 with c | c
  · omega
  · have : k = 17 := by omega
    subst this
    simp at hn

def SlotV.cells (s : SlotV) : List Value := [.int .i64 s.kind, .int .i64 s.idx, .int .i64 s.vk, .int .i64 s.va, .int .i64 s.vb]
def flatSl (l : List SlotV) : List Value := l.flatMap SlotV.cells
theorem flatSl_len (l : List SlotV) : (flatSl l).length = l.length * 5 := flat_length SlotV.cells 5 (fun _ => rfl) l
theorem slSl : SlTy Tryz.prog 436 504 5 40 := SlTy.mk' (.agg #[.int .i64 0, .int .i64 0, .int .i64 0, .int .i64 0, .int .i64 0]) Tryz.underlying436 (by kernel_rfl) rfl (by decide)
def hashPs (b : Nat) (l : List SlotV) (p : Option Addr × Nat) : List Asr :=
  [blkA b #[.int .i64 (cntK 1 l), .int .i64 (cntK 2 l), .slice p.1 l.length p.2] 440, slA 504 5 (.slice p.1 l.length p.2) l.length (flatSl l)]
def hashA (b : Nat) (l : List SlotV) : Asr := exA (fun p => starA (hashPs b l p))

theorem ps_next (n h d : Nat) : (ps n h d + 1) % n = ps n h (d + 1) := by
  unfold ps
  rw [Nat.mod_add_mod, Nat.add_assoc]
structure FindInv (l : List SlotV) (x : Int) (d : Nat) (free : Int) (F : Int × Int) : Prop where
  val : probe l x (hmO l.length x) (l.length - d) d free = F
  go : ∀ e, e < d → goOn l x (hmO l.length x) e
  free : freeOk l (hmO l.length x) d free
theorem FindInv.stop0 {l : List SlotV} {x : Int} {d p : Nat} {free : Int} {F : Int × Int} (h : FindInv l x d free F) (hd : d < l.length) (hp : p = ps l.length (hmO l.length x) d) (hk : (sl l p).kind = 0) : F = (-1, if free < 0 then (p : Int) else free) := by
  have hv := h.val
  rw [show l.length - d = (l.length - (d + 1)) + 1 by omega, probe, ← hp, if_pos hk] at hv
  exact hv.symm
theorem FindInv.stop1 {l : List SlotV} {x : Int} {d p : Nat} {free : Int} {F : Int × Int} (h : FindInv l x d free F) (hd : d < l.length) (hp : p = ps l.length (hmO l.length x) d) (hk : (sl l p).kind = 1) (hx : (sl l p).idx = x) : F = ((p : Int), -1) := by
  have hv := h.val
  rw [show l.length - d = (l.length - (d + 1)) + 1 by omega, probe, ← hp, if_neg (by rw [hk]; decide), if_pos ⟨hk, hx⟩] at hv
  exact hv.symm
theorem FindInv.next {l : List SlotV} {x : Int} {d p : Nat} {free : Int} {F : Int × Int} (h : FindInv l x d free F) (hd : d < l.length) (hp : p = ps l.length (hmO l.length x) d) (hg : goOn l x (hmO l.length x) d) (f2 : Int) (hf : (if (sl l p).kind = 2 ∧ free < 0 then (p : Int) else free) = f2) : FindInv l x (d + 1) f2 F := by
  have hv := h.val
  have h1 := hg.1
  have h2 := hg.2
  rw [← hp] at h1 h2
  rw [show l.length - d = (l.length - (d + 1)) + 1 by omega, probe, ← hp, if_neg h1, if_neg h2] at hv
  subst hf
  refine ⟨hv, fun e he => ?_, ?_⟩
  · by_cases e' : e = d
    · exact e' ▸ hg
    · exact h.go e (by omega)
  · rw [hp]; exact freeOk_next h.free
theorem goOn_lt {l : List SlotV} {x : Int} {h d D : Nat} (hgo : ∀ e, e < d → goOn l x h e) (hg : goOn l x h d) (hD : ¬ goOn l x h D) : d + 1 ≤ D := by
  rcases Nat.lt_or_ge d D with c | c
  · exact c
  · rcases Nat.lt_or_ge D d with c2 | c2
    · exact absurd (hgo D c2) hD
    · have : D = d := by omega
      exact absurd (this ▸ hg) hD
def LoopFind (w : World) (l : List SlotV) (x : Int) (F : Int × Int) (g : Nat) (v5 v6 : Value) (wr : World) : Prop :=
  ∃ (d : Nat) (free : Int) (p : Nat), g + d = l.length ∧ d < l.length ∧ p = ps l.length (hmO l.length x) d ∧ v5 = .int .i64 free ∧ v6 = .int .i64 (p : Int) ∧ FindInv l x d free F ∧ Keep w wr Nope

set_option maxHeartbeats 2000000 in
theorem hash_find {w0 w : World} {L : List Asr} {b : Nat} {l : List SlotV} (H : St w0 w L) (i : Nat) (hi : L[i]? = some (hashA b l)) (hT : HTab hmO l) (hP : Pow l.length) (x : Int) (h0 : 0 ≤ x) (h1 : x < 65536) :
    Calls Tryz.prog 396 #[.pointer (some ⟨b, 0, none⟩), .int .i64 x] w (Ret w (.tuple #[.int .i64 (findS hmO l x).1, .int .i64 (findS hmO l x).2])) := by
  obtain ⟨⟨a, c⟩, h⟩ := H.exSplit i hi
  obtain ⟨D, hD, hDs⟩ : ∃ D, D < l.length ∧ ¬ goOn l x (hmO l.length x) D := by
    obtain ⟨p, hp, hk⟩ := hT.gap
    obtain ⟨d, hd, he⟩ := ps_onto hp (hT.home x h0 h1)
    exact ⟨d, hd, fun hg => hg.1 (by rw [he]; exact hk)⟩
  have HDS := Lib.hid hDs
  have HP := hP.pos
  obtain ⟨⟨fa, ff⟩, hF⟩ : ∃ F, findS hmO l x = F := ⟨_, rfl⟩
  have HF := Lib.hid hF
  rw [hF]
  have HC := Lib.hid (hash_home_yes x l.length w (hP.may x h0 h1))
  rw [hP.eq x h0 h1] at HC
  have HWF := Lib.hid hT.wf
  obtain ⟨n, hn⟩ : ∃ n, l.length = n := ⟨_, rfl⟩
  unfold hashPs at h
  rw [hn] at h HC hD HP
  have c2 := (h.blk 0 rfl).cell 2
  simp at c2
  obtain ⟨S, hown, hrd, _⟩ := h.rd 1 rfl
  obtain ⟨bs, os, rfl, _, _⟩ := (show Rd S w (.slice a n c) n (flatSl l) from hrd).elem (cells := SlotV.cells) (size := 5) (fun _ => rfl) (by decide) (sl_get (p := 0) (by omega))
  have hcap := hown.cap
  have HRD := Lib.hid hrd
  have HNN := Lib.hid hn
  unfold maxLen at hcap
  have hn1 : n ≤ 1048576 := HP.2
  have hn8 : (8 : Int) ≤ n := by have := HP.1; omega
  have hhl : hmO n x < n := by have := hT.home x h0 h1; rw [hn] at this; exact this
  clear hi hF hn hown hrd hDs hT hP H h HP
  go_enter Tryz.func396, Tryz.ntmps396
  go_wp2_with fail
  refine (HC.out).mono ?_
  rintro e w1 ⟨rfl, rfl⟩
  go_wp2_with fail
  go_loopg [5, 6] n (fun g v5 v6 wr => LoopFind w l x (fa, ff) g v5 v6 wr)
  case atStart =>
    refine ⟨0, -1, hmO n x, HNN.out.symm, ?_, ?_, rfl, rfl, ⟨HF.out, fun e he => by omega, .inl rfl⟩, Keep.refl _ _⟩
    · rw [HNN.out]; omega
    · rw [HNN.out]; unfold ps; rw [Nat.add_zero, Nat.mod_eq_of_lt hhl]
  case round =>
    obtain ⟨d, free, p, hd, hdn, hp, rfl, rfl, hinv, hkp⟩ := hrel
    have HINV := Lib.hid hinv; clear hinv
    have HKP := Lib.hid hkp; clear hkp
    have HPP := Lib.hid hp
    rw [HNN.out] at hd hdn hp
    have hpn : p < n := by rw [hp]; exact ps_lt (by omega) _ _
    have HDN := Lib.hid (show d < l.length by rw [HNN.out]; exact hdn)
    obtain ⟨bs', os', hbe, _, hco⟩ := (HRD.out.keep HKP.out (fun _ _ f => f)).elem (cells := SlotV.cells) (size := 5) (fun _ => rfl) (by decide) (sl_get (l := l) (p := p) (by rw [HNN.out]; exact hpn))
    injection hbe with hbe
    injection hbe with e1 e2
    subst e1; subst e2
    have hwf := HWF.out p (by rw [HNN.out]; exact hpn)
    have d2 := HKP.out.cell c2 (fun f => f)
    have d2a : ∀ o, (wr.alloc o).cell? ⟨b, 2, none⟩ = some (.slice (some ⟨bs, os, none⟩) n c) := fun o => ((Keep.refl wr Nope).alloc o).cell d2 (fun f => f)
    have hpi : (p : Int) < n := by omega
    have hmod : ((p : Int) + 1) % (n : Int) = (ps n (hmO n x) (d + 1) : Int) := by
      rw [← ps_next, ← hp, Int.natCast_emod, Int.natCast_add]
      rfl
    have HGK := Lib.hid hd
    have HST0 := Lib.hid (fun hk => HINV.out.stop0 HDN.out HPP.out hk)
    have HST1 := Lib.hid (fun hk hx => HINV.out.stop1 HDN.out HPP.out hk hx)
    have HNX := Lib.hid (fun hg f2 hf => HINV.out.next HDN.out HPP.out hg f2 hf)
    have HGO := Lib.hid (show (sl l p).kind ≠ 0 → ¬ ((sl l p).kind = 1 ∧ (sl l p).idx = x) → goOn l x (hmO l.length x) d from fun a1 a2 => by unfold goOn; rw [← HPP.out]; exact ⟨a1, a2⟩)
    have HLT := Lib.hid (fun hg => goOn_lt HINV.out.go hg HDS.out)
    obtain ⟨s, hs⟩ : ∃ s, sl l p = s := ⟨_, rfl⟩
    rw [hs] at hwf hco HST0 HST1 HNX HGO
    obtain ⟨kind, idx, vk, va, vb⟩ := s
    have d3 := hco 0 (by decide)
    have d4 := hco 1 (by decide)
    have d5 := hco 2 (by decide)
    have d6 := hco 3 (by decide)
    have d7 := hco 4 (by decide)
    simp [SlotV.cells] at d3 d4 d5 d6 d7
    have hk3 : kind = 0 ∨ kind = 1 ∨ kind = 2 := by
      rcases hwf with e | e | e
      · injection e with e; exact .inl e
      · injection e with e; exact .inr (.inr e)
      · exact .inr (.inl e.1)
    clear hco hp hd hwf hs
    rcases hk3 with rfl | rfl | rfl
    · by_cases hf : free < 0
      · have hfd : decide (free < 0) = true := decide_eq_true hf
        have e := HST0.out rfl
        rw [if_pos hf] at e
        injection e with e1 e2
        subst e1; subst e2
        clear HST0 HST1 HNX HGO HLT
        go_wp2_with fail
        go_ret2
        exact ⟨rfl, HKP.out.alloc _⟩
      · have hfd : decide (free < 0) = false := decide_eq_false hf
        have e := HST0.out rfl
        rw [if_neg hf] at e
        injection e with e1 e2
        subst e1; subst e2
        clear HST0 HST1 HNX HGO HLT
        go_wp2_with fail
        go_ret2
        exact ⟨rfl, HKP.out.alloc _⟩
    · by_cases hx : idx = x
      · subst hx
        have e := HST1.out rfl rfl
        injection e with e1 e2
        subst e1; subst e2
        clear HST0 HST1 HNX HGO HLT
        go_wp2_with fail
        go_ret2
        exact ⟨rfl, HKP.out.alloc _⟩
      · have hxd : (idx == x) = false := beq_eq_false_iff_ne.2 hx
        have hg := HGO.out (show (1 : Int) ≠ 0 by decide) (fun h => hx h.2)
        have hx2 := HNX.out hg free (by simp)
        have hlt := HLT.out hg
        have HX2 := Lib.hid hx2
        have HLT2 := Lib.hid hlt
        clear hg hx2 hlt
        go_wp2_with fail
        go_roundg (n - (d + 1))
        case measure => have := HGK.out; omega
        case rel => exact ⟨d + 1, free, ps n (hmO n x) (d + 1), by rw [HNN.out]; omega, by have := HLT2.out; rw [HNN.out]; omega, by rw [HNN.out], rfl, rfl, HX2.out, HKP.out.alloc _⟩
    · have hg := HGO.out (show (2 : Int) ≠ 0 by decide) (fun h => by cases h.1)
      have hlt := HLT.out hg
      have HLT2 := Lib.hid hlt
      by_cases hf : free < 0
      · have hfd : decide (free < 0) = true := decide_eq_true hf
        have HX2 := Lib.hid (HNX.out hg p (by rw [if_pos ⟨rfl, hf⟩]))
        clear hg hlt
        go_wp2_with fail
        go_roundg (n - (d + 1))
        case measure => have := HGK.out; omega
        case rel => exact ⟨d + 1, p, ps n (hmO n x) (d + 1), by rw [HNN.out]; omega, by have := HLT2.out; rw [HNN.out]; omega, by rw [HNN.out], rfl, rfl, HX2.out, HKP.out.alloc _⟩
      · have hfd : decide (free < 0) = false := decide_eq_false hf
        have HX2 := Lib.hid (HNX.out hg free (by rw [if_neg (fun h => hf h.2)]))
        clear hg hlt
        go_wp2_with fail
        go_roundg (n - (d + 1))
        case measure => have := HGK.out; omega
        case rel => exact ⟨d + 1, free, ps n (hmO n x) (d + 1), by rw [HNN.out]; omega, by have := HLT2.out; rw [HNN.out]; omega, by rw [HNN.out], rfl, rfl, HX2.out, HKP.out.alloc _⟩
end Go.Proofs.YtkiikblpgppmkaaGreatDoor

namespace Go.Proofs.YtkiikblpgppmkaaGreatDoor
open Go Go.RowKit
set_option linter.unusedVariables false
set_option linter.unusedSimpArgs false

theorem box_get (ps L : List Asr) (A : Asr) (i : Nat) (hi : i < L.length) : (ps ++ (L ++ [A]).set i empA)[ps.length + L.length]? = some A := by
  rw [List.set_append_left _ _ hi, List.getElem?_append_right (by omega), Nat.add_sub_cancel_left, List.getElem?_append_right (by simp)]
  simp
theorem St.store1 {w0 w : World} {L : List Asr} {i g e' n c : Nat} {e : TypeId} {xs : List Value} (h : St w0 w L) (hi : L[i]? = some (slA e e' (.slice (some ⟨g, 0, none⟩) n c) n xs)) (hn : 0 < n) (j : Nat) (u : Value) :
    St w0 (w.setCell ⟨g, j, none⟩ u) (L.set i (slA e e' (.slice (some ⟨g, 0, none⟩) n c) n (xs.set j u))) := by
  obtain ⟨g', he, _, _, _, hs⟩ := h.store i hi hn
  injection he with he
  injection he with he
  subst he
  exact hs j u
/-- Five cells are written, one behind the other. -/
theorem St.store5 {w0 w : World} {L : List Asr} {i g e' n c : Nat} {e : TypeId} {xs : List Value} (h : St w0 w L) (hi : L[i]? = some (slA e e' (.slice (some ⟨g, 0, none⟩) n c) n xs)) (hn : 0 < n) (j : Nat) (u0 u1 u2 u3 u4 : Value) :
    St w0 (((((w.setCell ⟨g, j, none⟩ u0).setCell ⟨g, j + 1, none⟩ u1).setCell ⟨g, j + 2, none⟩ u2).setCell ⟨g, j + 3, none⟩ u3).setCell ⟨g, j + 4, none⟩ u4) (L.set i (slA e e' (.slice (some ⟨g, 0, none⟩) n c) n (((((xs.set j u0).set (j + 1) u1).set (j + 2) u2).set (j + 3) u3).set (j + 4) u4))) := by
  have hil := (List.getElem?_eq_some_iff.1 hi).1
  have k : ∀ (L' : List Asr) (A B : Asr), L'.length = L.length → (L'.set i A).set i B = L'.set i B := fun L' A B _ => List.set_set ..
  have h1 := h.store1 hi hn j u0
  have h2 := h1.store1 (List.getElem?_set_self hil) hn (j + 1) u1
  rw [List.set_set] at h2
  have h3 := h2.store1 (List.getElem?_set_self hil) hn (j + 2) u2
  rw [List.set_set] at h3
  have h4 := h3.store1 (List.getElem?_set_self hil) hn (j + 3) u3
  rw [List.set_set] at h4
  have h5 := h4.store1 (List.getElem?_set_self hil) hn (j + 4) u4
  rw [List.set_set] at h5
  exact h5
theorem flatSl_set5 (l : List SlotV) (q : Nat) (hq : q < l.length) (k x vk va vb : Int) :
    (((((flatSl l).set (q * 5) (.int .i64 k)).set (q * 5 + 1) (.int .i64 x)).set (q * 5 + 2) (.int .i64 vk)).set (q * 5 + 3) (.int .i64 va)).set (q * 5 + 4) (.int .i64 vb) = flatSl (l.set q ⟨k, x, vk, va, vb⟩) := by
  have f := fun (y : SlotV) (j : Nat) (u : Value) (hj : j < 5) (l : List SlotV) (z : SlotV) (h : l[q]? = some z) (he : y.cells = z.cells.set j u) => flat_set SlotV.cells 5 (fun _ => rfl) y j u hj l q z h he
  obtain ⟨s, hs⟩ : ∃ s, l[q]? = some s := ⟨_, List.getElem?_eq_getElem hq⟩
  unfold flatSl
  have h1 := f ⟨k, s.idx, s.vk, s.va, s.vb⟩ 0 (.int .i64 k) (by decide) l s hs rfl
  have h2 := f ⟨k, x, s.vk, s.va, s.vb⟩ 1 (.int .i64 x) (by decide) (l.set q ⟨k, s.idx, s.vk, s.va, s.vb⟩) _ (List.getElem?_set_self hq) rfl
  have h3 := f ⟨k, x, vk, s.va, s.vb⟩ 2 (.int .i64 vk) (by decide) (l.set q ⟨k, x, s.vk, s.va, s.vb⟩) _ (List.getElem?_set_self hq) rfl
  have h4 := f ⟨k, x, vk, va, s.vb⟩ 3 (.int .i64 va) (by decide) (l.set q ⟨k, x, vk, s.va, s.vb⟩) _ (List.getElem?_set_self hq) rfl
  have h5 := f ⟨k, x, vk, va, vb⟩ 4 (.int .i64 vb) (by decide) (l.set q ⟨k, x, vk, va, s.vb⟩) _ (List.getElem?_set_self hq) rfl
  rw [List.set_set] at h2 h3 h4 h5
  simp only [Nat.add_zero] at h1
  rw [h1, h2, h3, h4, h5]

set_option maxRecDepth 2000 in
set_option maxHeartbeats 2000000 in
theorem hash_put1 {w0 w : World} {L : List Asr} {b : Nat} {l : List SlotV} (H : St w0 w L) (i : Nat) (hi : L[i]? = some (hashA b l)) (hT : HTab hmO l) (hP : Pow l.length) (x : Int) (h0 : 0 ≤ x) (h1 : x < 65536) (vk va vb : Int) (q : Nat) (hq : q < l.length) (hf : findS hmO l x = (-1, (q : Int))) (hk : (sl l q).kind ≠ 1) (kq : Bool) (hkq : ((sl l q).kind == 2) = kq) (hc1 : cntK 1 l ≤ 1000000) (hc2 : cntK 2 l ≤ 1000000) :
    Calls Tryz.prog 397 #[.pointer (some ⟨b, 0, none⟩), .int .i64 x, .agg #[.int .i64 vk, .int .i64 va, .int .i64 vb]] w (fun e w' => e = .returned (.tuple #[]) ∧ St w0 w' (L.set i (hashA b (l.set q ⟨1, x, vk, va, vb⟩)))) := by
  have HB := H.box #[.int .i64 vk, .int .i64 va, .int .i64 vb] 34
  have hi2 : (L ++ [blkA w.heap.size #[.int .i64 vk, .int .i64 va, .int .i64 vb] 34])[i]? = some (hashA b l) := by rw [List.getElem?_append_left (List.getElem?_eq_some_iff.1 hi).1]; exact hi
  have hC := hash_find HB i hi2 hT hP x h0 h1
  rw [hf] at hC
  have HC := Lib.hid hC; clear hC hf
  obtain ⟨⟨a, c⟩, h⟩ := HB.exSplit i hi2
  have HIL := Lib.hid (List.getElem?_eq_some_iff.1 hi).1
  obtain ⟨n, hn⟩ : ∃ n, l.length = n := ⟨_, rfl⟩
  obtain ⟨cf, hcf⟩ : ∃ cf, cntK 1 l = cf := ⟨_, rfl⟩
  obtain ⟨ct, hct⟩ : ∃ ct, cntK 2 l = ct := ⟨_, rfl⟩
  unfold hashPs at h
  rw [hn, hcf, hct] at h
  have k1 := cntK_set 1 ⟨1, x, vk, va, vb⟩ l q hq
  have k2 := cntK_set 2 ⟨1, x, vk, va, vb⟩ l q hq
  rw [if_neg hk, hcf] at k1
  rw [hct] at k2
  simp only [if_true, if_neg (show ¬ (1 : Int) = 2 by decide)] at k1 k2
  have HK1 := Lib.hid (show cntK 1 (l.set q ⟨1, x, vk, va, vb⟩) = cf + 1 by omega)
  have HK2 := Lib.hid (show cntK 2 (l.set q ⟨1, x, vk, va, vb⟩) + (if kq = true then 1 else 0) = ct by
    rw [← hkq]
    by_cases c : (sl l q).kind = 2
    · rw [if_pos c] at k2; simp [c]; omega
    · rw [if_neg c] at k2; simp [c]; omega)
  clear k1 k2
  rw [hn] at hq
  rw [hcf] at hc1
  rw [hct] at hc2
  have HH := Lib.hid h
  have HN := Lib.hid hn
  have HCF := Lib.hid hcf
  have HCT := Lib.hid hct
  obtain ⟨bv, hbv⟩ : ∃ bv, w.heap.size = bv := ⟨_, rfl⟩
  clear H HB hi hi2 hT hP h hn hcf hct
  go_enter Tryz.func397, Tryz.ntmps397
  go_wp2_with fail
  refine (HC.out).mono ?_
  rintro e w1 ⟨rfl, hk1⟩
  have H1 := Lib.hid (HH.out.keep hk1); clear hk1 HH HC
  obtain ⟨S, hown, hrd, _⟩ := H1.out.rd 1 rfl
  have c2 := (H1.out.blk 0 rfl).cell 2
  have c0 := (H1.out.blk 0 rfl).cell 0
  have c1 := (H1.out.blk 0 rfl).cell 1
  have f0 := (H1.out.blk 0 rfl).frozen 0
  have f1 := (H1.out.blk 0 rfl).frozen 1
  simp at c2 c0 c1
  obtain ⟨g, rfl, hgl, hgf, hgc, hgs⟩ := H1.out.store 1 rfl (by omega)
  have HGS := Lib.hid hgs
  have HGC := Lib.hid hgc
  have HGF := Lib.hid hgf
  have hcap := hown.cap
  unfold maxLen at hcap
  have hx0 := HGC.out (q * 5 + 0) (by omega)
  have hqi : (q : Int) < n := by omega
  rw [show (flatSl l)[q * 5 + 0]? = some (.int .i64 (sl l q).kind) from flat_get SlotV.cells 5 (fun _ => rfl) l q 0 _ (sl_get (by rw [HN.out]; exact hq)) (by decide)] at hx0
  simp only [Nat.add_zero] at hx0
  clear hgs hgc hgf hown hrd
  have HMID : Hid (∃ ct2 : Int, ((kq = false ∧ ct2 = ct) ∨ (kq = true ∧ ct2 = (ct : Int) - 1))) := Lib.hid (by cases kq; exact ⟨ct, .inl ⟨rfl, rfl⟩⟩; exact ⟨(ct : Int) - 1, .inr ⟨rfl, rfl⟩⟩)
  obtain ⟨ct2, hct2⟩ := HMID.out
  have hgo : ∀ w2, St w0 w2 ([blkA b #[.int .i64 ((cf : Int) + 1), .int .i64 ct2, .slice (some ⟨g, 0, none⟩) n c] 440, slA 504 5 (.slice (some ⟨g, 0, none⟩) n c) n (flatSl l)] ++ (L ++ [blkA bv #[.int .i64 vk, .int .i64 va, .int .i64 vb] 34]).set i empA) → True := fun _ _ => trivial
  clear hgo HMID
  cases kq
  all_goals
    first
    | have hkd : ((sl l q).kind == 2) = false := hkq
    | have hkd : ((sl l q).kind == 2) = true := hkq
    simp only [if_true, if_false, Bool.false_eq_true] at HK2
    go_wp2_with fail
    first
    | (have hh := (H1.out.write 0 rfl 1 (.int .i64 ((ct : Int) - 1))).write 0 rfl 0 (.int .i64 ((cf : Int) + 1))
       have he : ct2 = (ct : Int) - 1 := by rcases hct2 with ⟨e, _⟩ | ⟨_, e⟩; cases e; exact e
       have h2 := hh
       obtain ⟨w2, hw2⟩ : ∃ w2, w2 = (w1.setCell ⟨b, 1, none⟩ (.int .i64 ((ct : Int) - 1))).setCell ⟨b, 0, none⟩ (.int .i64 ((cf : Int) + 1)) := ⟨_, rfl⟩
       rw [← hw2] at h2 ⊢)
    | (have hh := H1.out.write 0 rfl 0 (.int .i64 ((cf : Int) + 1))
       have he : ct2 = (ct : Int) := by rcases hct2 with ⟨_, e⟩ | ⟨e, _⟩; exact e; cases e
       have h2 := hh
       obtain ⟨w2, hw2⟩ : ∃ w2, w2 = w1.setCell ⟨b, 0, none⟩ (.int .i64 ((cf : Int) + 1)) := ⟨_, rfl⟩
       rw [← hw2] at h2 ⊢)
    have H2 := Lib.hid (show St w0 w2 ([blkA b #[.int .i64 ((cf : Int) + 1), .int .i64 ct2, .slice (some ⟨g, 0, none⟩) n c] 440, slA 504 5 (.slice (some ⟨g, 0, none⟩) n c) n (flatSl l)] ++ (L ++ [blkA bv #[.int .i64 vk, .int .i64 va, .int .i64 vb] 34]).set i empA) by rw [he]; subst hbv; exact h2)
    clear hh h2 hw2 H1 c0 c1 c2 f0 f1 hgl HGS HGC HGF hx0
    have c22 := (H2.out.blk 0 (b := b) rfl).cell 2
    have hbb := H2.out.blk _ (b := bv) (box_get _ L _ i HIL.out)
    have cv0 := hbb.cell 0
    have cv1 := hbb.cell 1
    have cv2 := hbb.cell 2
    simp at c22 cv0 cv1 cv2
    obtain ⟨g', he', hgl, hgf, hgc, _⟩ := H2.out.store 1 (a := some ⟨g, 0, none⟩) (c := c) (n := n) rfl (by omega)
    injection he' with he'
    injection he' with he'
    subst he'
    have y0 := hgc (q * 5 + 0) (by omega)
    have y1 := hgc (q * 5 + 1) (by omega)
    have y2 := hgc (q * 5 + 2) (by omega)
    have y3 := hgc (q * 5 + 3) (by omega)
    have y4 := hgc (q * 5 + 4) (by omega)
    have fg := fun j (hj : j < 5) => flat_get SlotV.cells 5 (fun _ => rfl) l q j _ (sl_get (l := l) (p := q) (by rw [HN.out]; exact hq)) hj
    rw [show (flatSl l)[q * 5 + 0]? = _ from fg 0 (by decide)] at y0
    rw [show (flatSl l)[q * 5 + 1]? = _ from fg 1 (by decide)] at y1
    rw [show (flatSl l)[q * 5 + 2]? = _ from fg 2 (by decide)] at y2
    rw [show (flatSl l)[q * 5 + 3]? = _ from fg 3 (by decide)] at y3
    rw [show (flatSl l)[q * 5 + 4]? = _ from fg 4 (by decide)] at y4
    simp [SlotV.cells] at y0 y1 y2 y3 y4
    have z0 := hgf (q * 5)
    have z1 := hgf (q * 5 + 1)
    have z2 := hgf (q * 5 + 2)
    have z3 := hgf (q * 5 + 3)
    have z4 := hgf (q * 5 + 4)
    clear hgf hgc fg hbb
    subst hbv
    refine wp_region_M (r := 8) (S := fun w' => w'.cell? ⟨b, 2, none⟩ = some (.slice (some ⟨g, 0, none⟩) n c) ∧ w'.cell? ⟨w.heap.size, 0, none⟩ = some (.int .i64 vk) ∧ w'.cell? ⟨w.heap.size, 1, none⟩ = some (.int .i64 va) ∧ w'.cell? ⟨w.heap.size, 2, none⟩ = some (.int .i64 vb)) (by kernel_rfl) ?_ (fun hHeld => ?_)
    · (try dsimp only); go_keep
    (refine wpAnyM_takeP (i := 0) (oi := ?_) (v := ?_) ?_ ?_ ?_ ?_ ?_ ?_ ?_ ?_ ?_; rotate_left 2; (· simp only [List.getElem?_toArray, List.getElem?_cons_succ, List.getElem?_cons_zero]; exact rfl); (· kernel_rfl); (· kernel_rfl); (· kernel_rfl); (· kernel_rfl); (· first | exact fun _ _ _ h => h | exact fun _ _ _ h => (HPan.out _ _ _ h).elim); (· (refine Or.inl ⟨by rfl, ?_⟩; (intro w hSw; (try dsimp only at hSw); go_simp) <;> with_reducible rfl)); (· exact fun _ => hHeld); simp only [Act.put, List.setIfInBounds_toArray, List.set_cons_zero, List.set_cons_succ])
    (refine wpAnyM_takeP (i := 1) (oi := ?_) (v := ?_) ?_ ?_ ?_ ?_ ?_ ?_ ?_ ?_ ?_; rotate_left 2; (· simp only [List.getElem?_toArray, List.getElem?_cons_succ, List.getElem?_cons_zero]; exact rfl); (· kernel_rfl); (· kernel_rfl); (· kernel_rfl); (· kernel_rfl); (· first | exact fun _ _ _ h => h | exact fun _ _ _ h => (HPan.out _ _ _ h).elim); (· (refine Or.inl ⟨by rfl, ?_⟩; (intro w hSw; (try dsimp only at hSw); go_simp) <;> with_reducible rfl)); (· exact fun _ => hHeld); simp only [Act.put, List.setIfInBounds_toArray, List.set_cons_zero, List.set_cons_succ])
    (refine wpAnyM_takeP (i := 2) (oi := ?_) (v := ?_) ?_ ?_ ?_ ?_ ?_ ?_ ?_ ?_ ?_; rotate_left 2; (· simp only [List.getElem?_toArray, List.getElem?_cons_succ, List.getElem?_cons_zero]; exact rfl); (· kernel_rfl); (· kernel_rfl); (· kernel_rfl); (· kernel_rfl); (· first | exact fun _ _ _ h => h | exact fun _ _ _ h => (HPan.out _ _ _ h).elim); (· (refine Or.inl ⟨by rfl, ?_⟩; (intro w hSw; (try dsimp only at hSw); go_simp) <;> with_reducible rfl)); (· exact fun _ => hHeld); simp only [Act.put, List.setIfInBounds_toArray, List.set_cons_zero, List.set_cons_succ])
    (refine wpAnyM_take (i := 3) (oi := ?_) (v := ?_) ?_ ?_ ?_ ?_ ?_ ?_ ?_ ?_ ?_ ?_; rotate_left 2; (· simp only [List.getElem?_toArray, List.getElem?_cons_succ, List.getElem?_cons_zero]; exact rfl); (· kernel_rfl); (· kernel_rfl); (· kernel_rfl); (· kernel_rfl); (· kernel_rfl); (· first | exact fun _ _ _ h => h | exact fun _ _ _ h => (HPan.out _ _ _ h).elim); (· (refine Or.inl ⟨by rfl, ?_⟩; (intro w hSw; (try dsimp only at hSw); go_simp) <;> with_reducible rfl)); (· assumption); simp only [Act.put, List.setIfInBounds_toArray, List.set_cons_zero, List.set_cons_succ])
    (refine wpAnyM_takeP (i := 4) (oi := ?_) (v := ?_) ?_ ?_ ?_ ?_ ?_ ?_ ?_ ?_ ?_; rotate_left 2; (· simp only [List.getElem?_toArray, List.getElem?_cons_succ, List.getElem?_cons_zero]; exact rfl); (· kernel_rfl); (· kernel_rfl); (· kernel_rfl); (· kernel_rfl); (· first | exact fun _ _ _ h => h | exact fun _ _ _ h => (HPan.out _ _ _ h).elim); (· (refine Or.inl ⟨by rfl, ?_⟩; (intro w hSw; (try dsimp only at hSw); go_simp) <;> with_reducible rfl)); (· exact fun _ => hHeld); simp only [Act.put, List.setIfInBounds_toArray, List.set_cons_zero, List.set_cons_succ])
    (refine wpAnyM_takeP (i := 5) (oi := ?_) (v := ?_) ?_ ?_ ?_ ?_ ?_ ?_ ?_ ?_ ?_; rotate_left 2; (· simp only [List.getElem?_toArray, List.getElem?_cons_succ, List.getElem?_cons_zero]; exact rfl); (· kernel_rfl); (· kernel_rfl); (· kernel_rfl); (· kernel_rfl); (· first | exact fun _ _ _ h => h | exact fun _ _ _ h => (HPan.out _ _ _ h).elim); (· (refine Or.inl ⟨by rfl, ?_⟩; (intro w hSw; (try dsimp only at hSw); go_simp) <;> with_reducible rfl)); (· exact fun _ => hHeld); simp only [Act.put, List.setIfInBounds_toArray, List.set_cons_zero, List.set_cons_succ])
    (refine wpAnyM_take (i := 6) (oi := ?_) (v := ?_) ?_ ?_ ?_ ?_ ?_ ?_ ?_ ?_ ?_ ?_; rotate_left 2; (· simp only [List.getElem?_toArray, List.getElem?_cons_succ, List.getElem?_cons_zero]; exact rfl); (· kernel_rfl); (· kernel_rfl); (· kernel_rfl); (· kernel_rfl); (· kernel_rfl); (· first | exact fun _ _ _ h => h | exact fun _ _ _ h => (HPan.out _ _ _ h).elim); (· (refine Or.inl ⟨by rfl, ?_⟩; (intro w hSw; (try dsimp only at hSw); go_simp) <;> with_reducible rfl)); (· assumption); simp only [Act.put, List.setIfInBounds_toArray, List.set_cons_zero, List.set_cons_succ])
    (refine wpAnyM_takeP (i := 7) (oi := ?_) (v := ?_) ?_ ?_ ?_ ?_ ?_ ?_ ?_ ?_ ?_; rotate_left 2; (· simp only [List.getElem?_toArray, List.getElem?_cons_succ, List.getElem?_cons_zero]; exact rfl); (· kernel_rfl); (· kernel_rfl); (· kernel_rfl); (· kernel_rfl); (· first | exact fun _ _ _ h => h | exact fun _ _ _ h => (HPan.out _ _ _ h).elim); (· (refine Or.inl ⟨by rfl, ?_⟩; (intro w hSw; (try dsimp only at hSw); go_simp) <;> with_reducible rfl)); (· exact fun _ => hHeld); simp only [Act.put, List.setIfInBounds_toArray, List.set_cons_zero, List.set_cons_succ])
    refine wpAnyM_ready (rs := [8]) (by kernel_rfl) (by simp) ?_
    refine AllReadyM.free (o := ?_) ?_ (by kernel_rfl) ?_ ?_
    rotate_left 1
    · simp only [List.getElem?_toArray, List.getElem?_cons_succ, List.getElem?_cons_zero]; exact rfl
    rotate_left 1
    · exact AllReadyM.nil
    intro K hK
    go_simp
    refine hK.out _ _ ?_
    clear hK K
    refine wpAnyM_ready (rs := [9]) (by kernel_rfl) (by simp) ?_
    refine AllReadyM.free (o := ?_) ?_ (by kernel_rfl) ?_ ?_
    rotate_left 1
    · simp only [List.getElem?_toArray, List.getElem?_cons_succ, List.getElem?_cons_zero]; exact rfl
    rotate_left 1
    · exact AllReadyM.nil
    intro K hK
    go_simp
    refine hK.out _ _ ?_
    clear hK K
    refine wpAnyM_done (by kernel_rfl) ?_ _
    go_wp2_with fail
    go_end0
    refine ⟨rfl, ?_⟩
    have h3 := (H2.out.store5 (i := 1) rfl (by omega) (q * 5) (.int .i64 1) (.int .i64 x) (.int .i64 vk) (.int .i64 va) (.int .i64 vb)).drew
    rw [flatSl_set5 l q (by rw [HN.out]; exact hq)] at h3
    have e1 : ((cntK 1 (l.set q ⟨1, x, vk, va, vb⟩) : Nat) : Int) = (cf : Int) + 1 := by rw [HK1.out]; rfl
    have e2 : ((cntK 2 (l.set q ⟨1, x, vk, va, vb⟩) : Nat) : Int) = ct2 := by
      have := HK2.out
      rw [he]
      omega
    have h4 := St.exJoin (hashPs b (l.set q ⟨1, x, vk, va, vb⟩)) (some ⟨g, 0, none⟩, c) (L := L ++ [blkA w.heap.size #[.int .i64 vk, .int .i64 va, .int .i64 vb] 34]) i (by have := HIL.out; simp; omega) (by
      unfold hashPs
      rw [e1, e2, List.length_set, HN.out]
      exact h3)
    rw [List.set_append_left _ _ HIL.out] at h4
    have h5 := h4.take L.length
    rw [List.take_left' (by simp)] at h5
    exact h5
end Go.Proofs.YtkiikblpgppmkaaGreatDoor
