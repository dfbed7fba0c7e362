/-
  Values found by sums: a table is made anew; a put. No program in sight.
-/
import Derived.Test.YtcmbbkaioopkhaaHashT
namespace Go.Proofs.Ytcmbbkaioopkhaa
set_option linter.unusedVariables false
set_option linter.unusedSimpArgs false

section
variable {hm : Nat → Int → Nat}
/-- A slot of the old table is gone through. -/
def addS (hm : Nat → Int → Nat) (t : List SlotV) (s : SlotV) : List SlotV := if s.kind = 1 then insS hm t s.idx s.vk s.va s.vb else t
def rebK (hm : Nat → Int → Nat) (n : Nat) (l : List SlotV) (k : Nat) : List SlotV := (l.take k).foldl (addS hm) (List.replicate n emptyS)
theorem rebK_succ (n : Nat) (l : List SlotV) (k : Nat) (hk : k < l.length) : rebK hm n l (k + 1) = addS hm (rebK hm n l k) (sl l k) := by
  unfold rebK
  rw [List.take_add_one, sl_get hk, List.foldl_append]
  rfl
theorem cntK_take_succ (j : Int) (l : List SlotV) (k : Nat) (hk : k < l.length) : cntK j (l.take (k + 1)) = cntK j (l.take k) + if (sl l k).kind = j then 1 else 0 := by
  rw [List.take_add_one, sl_get hk, cntK_app]
  rfl
theorem cntK_take_le (j : Int) (l : List SlotV) (k : Nat) : cntK j (l.take k) ≤ cntK j l := by
  have h : cntK j l = cntK j (l.take k) + cntK j (l.drop k) := by rw [← cntK_app, List.take_append_drop]
  omega
theorem insS_length (l : List SlotV) (i vk va vb : Int) : (insS hm l i vk va vb).length = l.length := by simp [insS]
theorem slot_eta (s : SlotV) (h : s.kind = 1) : s = ⟨1, s.idx, s.vk, s.va, s.vb⟩ := by
  cases s
  simp only at h
  subst h
  rfl
structure Reb (hm : Nat → Int → Nat) (n : Nat) (l : List SlotV) (k : Nat) : Prop where
  tab : Tab hm (rebK hm n l k)
  len : (rebK hm n l k).length = n
  full : cntK 1 (rebK hm n l k) = cntK 1 (l.take k)
  left : cntK 2 (rebK hm n l k) = 0
  has : ∀ j a b c, Has (rebK hm n l k) j a b c ↔ ∃ p, p < k ∧ p < l.length ∧ sl l p = ⟨1, j, a, b, c⟩
/-- What the next slot does. -/
theorem Reb.next {l : List SlotV} (h : Tab hm l) {n : Nat} (hroom : 4 * cntK 1 l ≤ 3 * n) {k : Nat} (r : Reb hm n l k) (hk : k < l.length) (h1 : (sl l k).kind = 1) :
    (0 ≤ (sl l k).idx ∧ (sl l k).idx < 65536) ∧ (∀ p, p < (rebK hm n l k).length → (sl (rebK hm n l k) p).kind = 1 → (sl (rebK hm n l k) p).idx ≠ (sl l k).idx) ∧
      4 * (cntK 1 (rebK hm n l k) + cntK 2 (rebK hm n l k) + 1) ≤ 3 * (rebK hm n l k).length := by
  refine ⟨?_, fun p hp hp1 he => ?_, ?_⟩
  · rcases h.wf k hk with e | e | e
    · rw [e] at h1; cases h1
    · rw [e] at h1; cases h1
    · exact e.2
  · obtain ⟨q, q1, q2, q3⟩ := (r.has _ _ _ _).1 ⟨p, hp, slot_eta _ hp1⟩
    have := h.uniq q2 hk (by rw [q3]) h1 (by rw [q3]; exact he)
    omega
  · have c1 := cntK_take_succ 1 l k hk
    rw [if_pos h1] at c1
    have c2 := cntK_take_le 1 l (k + 1)
    rw [r.full, r.left, r.len]
    omega
theorem Reb.start (l : List SlotV) {n : Nat} (hn : 0 < n) (hh : ∀ i : Int, 0 ≤ i → i < 65536 → hm n i < n) : Reb hm n l 0 := by
  obtain ⟨t1, t2, t3, t4⟩ := Tab.new (hm := hm) n hn hh
  refine ⟨t1, by simp [rebK], by simp [rebK, t2, cntK], t3, fun j a b c => ?_⟩
  constructor
  · intro h; exact absurd h (t4 j a b c)
  · rintro ⟨p, hp, _⟩; omega
theorem Reb.succ {l : List SlotV} (h : Tab hm l) {n : Nat} (hroom : 4 * cntK 1 l ≤ 3 * n) {k : Nat} (r : Reb hm n l k) (hk : k < l.length) : Reb hm n l (k + 1) := by
  have c1 := cntK_take_succ 1 l k hk
  by_cases h1 : (sl l k).kind = 1
  · obtain ⟨n1, n2, n3⟩ := Reb.next h hroom r hk h1
    obtain ⟨q, q1, q2, q3, q4, q5, q6, q7, q8⟩ := r.tab.ins n1 (sl l k).vk (sl l k).va (sl l k).vb n2 n3
    have e : rebK hm n l (k + 1) = insS hm (rebK hm n l k) (sl l k).idx (sl l k).vk (sl l k).va (sl l k).vb := by
      rw [rebK_succ n l k hk, addS, if_pos h1]
    rw [if_pos h1] at c1
    refine ⟨by rw [e]; exact q5, by rw [e, insS_length, r.len], by rw [e, q6, r.full, c1], by rw [e]; have := r.left; omega, fun j a b c => ?_⟩
    rw [e, q8]
    constructor
    · rintro (⟨rfl, rfl, rfl, rfl⟩ | hh)
      · exact ⟨k, by omega, hk, slot_eta _ h1⟩
      · obtain ⟨p, p1, p2, p3⟩ := (r.has _ _ _ _).1 hh
        exact ⟨p, by omega, p2, p3⟩
    · rintro ⟨p, p1, p2, p3⟩
      by_cases e : p = k
      · subst e
        rw [p3]
        exact .inl ⟨rfl, rfl, rfl, rfl⟩
      · exact .inr ((r.has _ _ _ _).2 ⟨p, by omega, p2, p3⟩)
  · have e : rebK hm n l (k + 1) = rebK hm n l k := by rw [rebK_succ n l k hk, addS, if_neg h1]
    rw [if_neg h1] at c1
    refine ⟨by rw [e]; exact r.tab, by rw [e]; exact r.len, by rw [e, r.full, c1]; rfl, by rw [e]; exact r.left, fun j a b c => ?_⟩
    rw [e, r.has]
    constructor
    · rintro ⟨p, p1, p2, p3⟩; exact ⟨p, by omega, p2, p3⟩
    · rintro ⟨p, p1, p2, p3⟩
      by_cases e : p = k
      · subst e; rw [p3] at h1; exact absurd rfl h1
      · exact ⟨p, by omega, p2, p3⟩
theorem Reb.all {l : List SlotV} (h : Tab hm l) {n : Nat} (hn : 0 < n) (hh : ∀ i : Int, 0 ≤ i → i < 65536 → hm n i < n) (hroom : 4 * cntK 1 l ≤ 3 * n) : ∀ k, k ≤ l.length → Reb hm n l k
  | 0, _ => Reb.start l hn hh
  | k + 1, hk => (Reb.all h hn hh hroom k (by omega)).succ h hroom (by omega)

/-- The size of a table that is made anew. -/
def newN (l : List SlotV) : Nat := if 2 * (cntK 1 l + 1) > l.length then 2 * l.length else l.length
/-- Room for one more. -/
def growS (hm : Nat → Int → Nat) (l : List SlotV) : List SlotV := if 4 * (cntK 1 l + cntK 2 l + 1) ≤ 3 * l.length then l else rebK hm (newN l) l l.length
theorem newN_room {l : List SlotV} (h : Tab hm l) : 4 * (cntK 1 l + 1) ≤ 3 * newN l ∧ l.length ≤ newN l ∧ 0 < newN l ∨ l.length < 4 := by
  have h1 := h.room
  have h2 := h.pos
  unfold newN
  split
  · by_cases c : l.length < 4
    · exact .inr c
    · exact .inl ⟨by omega, by omega, by omega⟩
  · exact .inl ⟨by omega, Nat.le_refl _, h2⟩
theorem Tab.grow {l : List SlotV} (h : Tab hm l) (h8 : 8 ≤ l.length) (hh : ∀ i : Int, 0 ≤ i → i < 65536 → hm (newN l) i < newN l) :
    Tab hm (growS hm l) ∧ cntK 1 (growS hm l) = cntK 1 l ∧ 4 * (cntK 1 (growS hm l) + cntK 2 (growS hm l) + 1) ≤ 3 * (growS hm l).length ∧ (∀ j a b c, Has (growS hm l) j a b c ↔ Has l j a b c) ∧
      ((growS hm l).length = l.length ∨ ((growS hm l).length = newN l)) := by
  unfold growS
  split
  · exact ⟨h, rfl, by assumption, fun _ _ _ _ => Iff.rfl, .inl rfl⟩
  · obtain ⟨r1, r2, r3⟩ : 4 * (cntK 1 l + 1) ≤ 3 * newN l ∧ l.length ≤ newN l ∧ 0 < newN l := by
      rcases newN_room h with e | e
      · exact e
      · omega
    have r := Reb.all (n := newN l) h r3 hh (by omega) l.length (Nat.le_refl _)
    have hf := r.full
    rw [List.take_length] at hf
    refine ⟨r.tab, hf, by rw [hf, r.left, r.len]; omega, fun j a b c => ?_, .inr r.len⟩
    rw [r.has]
    constructor
    · rintro ⟨p, _, p2, p3⟩; exact ⟨p, p2, p3⟩
    · rintro ⟨p, p2, p3⟩; exact ⟨p, p2, p2, p3⟩

/-- A put. -/
def putS (hm : Nat → Int → Nat) (l : List SlotV) (i vk va vb : Int) : List SlotV :=
  if 0 ≤ (findS hm l i).1 then l.set (findS hm l i).1.toNat ⟨1, i, vk, va, vb⟩ else insS hm (growS hm l) i vk va vb
/-- A take. -/
def takeS (hm : Nat → Int → Nat) (l : List SlotV) (i : Int) : List SlotV := if 0 ≤ (findS hm l i).1 then l.set (findS hm l i).1.toNat tombS else l
end
end Go.Proofs.Ytcmbbkaioopkhaa
