/-
  The package hash: what a put, a take and a get do to what is there.
-/
import Derived.Test.YtcmbbkaioopkhaaHash7
namespace Go.Proofs.Ytcmbbkaioopkhaa
open Go Go.RowKit
set_option linter.unusedVariables false
set_option linter.unusedSimpArgs false

/-- A table behind C puts at most. -/
structure HInv (l : List SlotV) (C : Nat) : Prop where
  tab : Tab hmO l
  pow : Pow l.length
  len : l.length ≤ 8 + 4 * C
  cnt : cntK 1 l ≤ C
theorem HInv.start : HInv tab0 0 := ⟨tab0_ok.1, Pow.eight, by decide, by rw [tab0_ok.2.1]; decide⟩
def agg3 (a b c : Int) : Value := .agg #[.int .i64 a, .int .i64 b, .int .i64 c]

structure PutOk (l : List SlotV) (C : Nat) (x vk va vb : Int) (l' : List SlotV) (had : Bool) (ov : Value) : Prop where
  inv : HInv l' (C + 1)
  has : ∀ j a b c, Has l' j a b c ↔ (j = x ∧ a = vk ∧ b = va ∧ c = vb) ∨ (j ≠ x ∧ Has l j a b c)
  yes : had = true → ∃ a b c, Has l x a b c ∧ ov = agg3 a b c
  no : had = false → ov = zV ∧ ∀ a b c, ¬ Has l x a b c
  cnt : cntK 1 l' = cntK 1 l + (if had = true then 0 else 1)
  len : l'.length = l.length ∨ (had = false ∧ l'.length = newN l)
  eq : l' = putS hmO l x vk va vb

theorem hash_put_any {w0 w : World} {L : List Asr} {b : Nat} {l : List SlotV} {C : Nat} (H : St w0 w L) (i : Nat) (hi : L[i]? = some (hashA b l)) (hI : HInv l C) (hC : C ≤ 60000) (x : Int) (h0 : 0 ≤ x) (h1 : x < 65536) (vk va vb : Int) :
    ∃ l' had ov, PutOk l C x vk va vb l' had ov ∧ Calls Try.prog 32 #[.pointer (some ⟨b, 0, none⟩), .int .i64 x, .agg #[.int .i64 vk, .int .i64 va, .int .i64 vb]] w (fun e w' => e = .returned (.tuple #[ov, .bool had]) ∧ St w0 w' (L.set i (hashA b l'))) := by
  have h8 := hI.pow.pos.1
  have hlen := hI.len
  rcases hI.tab.find x ⟨h0, h1⟩ with ⟨D, hD, hgo, k1, k2, hf⟩ | ⟨D, q, hD, hqD, hgo, hk, hq, hf⟩
  · have hp := ps_lt hI.tab.pos (hmO l.length x) D
    obtain ⟨u1, u2, u3, u4⟩ := hI.tab.upd ⟨h0, h1⟩ vk va vb hD hgo k1 k2
    refine ⟨_, true, _, ⟨⟨u1, by rw [List.length_set]; exact hI.pow, by rw [List.length_set]; omega, by rw [u2]; have := hI.cnt; omega⟩, u4, fun _ => ⟨_, _, _, (hI.tab.has hp k1 k2 _ _ _).2 ⟨rfl, rfl, rfl⟩, rfl⟩, (fun h => by cases h), by rw [u2]; rfl, .inl (by rw [List.length_set]), ?_⟩, hash_Put_old H i hi hI.tab hI.pow x h0 h1 vk va vb _ hp hf k1 k2⟩
    unfold putS
    rw [hf, if_pos (by omega)]
    rfl
  · have hno := hI.tab.none hD hgo hk
    have hPN : Pow (newN l) := by
      unfold newN
      split
      · exact hI.pow.twice (by omega)
      · exact hI.pow
    obtain ⟨g1, g2, g3, g4, g5⟩ := hI.tab.grow h8 hPN.home
    have hno2 : ∀ p, p < (growS hmO l).length → (sl (growS hmO l) p).kind = 1 → (sl (growS hmO l) p).idx ≠ x := by
      intro p hp hk he
      obtain ⟨p', a1, a2⟩ := (g4 x _ _ _).1 ⟨p, hp, (slot_eta _ hk).trans (by rw [he])⟩
      exact hno p' a1 (by rw [a2]) (by rw [a2])
    obtain ⟨q2, q1, qf, qk, qe, qt, qc, _, qh⟩ := g1.ins ⟨h0, h1⟩ vk va vb hno2 g3
    have hnone : ∀ a b c, ¬ Has l x a b c := by
      rintro a b c ⟨p, hp, e⟩
      exact hno p hp (by rw [e]) (by rw [e])
    have hcnt := hI.cnt
    refine ⟨_, false, _, ⟨⟨qt, (by rw [insS_length]; rcases g5 with e | e <;> rw [e]; exact hI.pow; exact hPN), ?_, by rw [qc, g2]; omega⟩, fun j a b c => ?_, (fun h => by cases h), fun _ => ⟨rfl, hnone⟩, by rw [qc, g2]; rfl, ?_, ?_⟩, hash_Put_new H i hi hI.tab hI.pow (by omega) x h0 h1 vk va vb _ hf hno⟩
    · rw [insS_length]
      rcases g5 with e | e
      · rw [e]; omega
      · rw [e]; unfold newN; split <;> omega
    · rw [qh, g4]
      constructor
      · rintro (h | h)
        · exact .inl h
        · by_cases e : j = x
          · subst e; exact absurd h (hnone a b c)
          · exact .inr ⟨e, h⟩
      · rintro (h | ⟨_, h⟩)
        · exact .inl h
        · exact .inr h
    · rw [insS_length]
      rcases g5 with e | e
      · exact .inl e
      · exact .inr ⟨rfl, e⟩
    · unfold putS
      rw [hf, if_neg (by omega)]

structure TakeOk (l : List SlotV) (C : Nat) (x : Int) (l' : List SlotV) (had : Bool) (ov : Value) : Prop where
  inv : HInv l' C
  has : ∀ j a b c, Has l' j a b c ↔ j ≠ x ∧ Has l j a b c
  yes : had = true → ∃ a b c, Has l x a b c ∧ ov = agg3 a b c
  no : had = false → ov = zV ∧ ∀ a b c, ¬ Has l x a b c
  cnt : cntK 1 l' + (if had = true then 1 else 0) = cntK 1 l
  len : l'.length = l.length
  eq : l' = takeS hmO l x

theorem set_same (L : List Asr) (i : Nat) (A : Asr) (hi : L[i]? = some A) : L.set i A = L := by
  apply List.ext_getElem?
  intro j
  by_cases e : i = j
  · subst e; rw [List.getElem?_set_self (List.getElem?_eq_some_iff.1 hi).1, hi]
  · rw [List.getElem?_set_ne e]

theorem hash_take_any {w0 w : World} {L : List Asr} {b : Nat} {l : List SlotV} {C : Nat} (H : St w0 w L) (i : Nat) (hi : L[i]? = some (hashA b l)) (hI : HInv l C) (hC : C ≤ 60000) (x : Int) (h0 : 0 ≤ x) (h1 : x < 65536) :
    ∃ l' had ov, TakeOk l C x l' had ov ∧ Calls Try.prog 33 #[.pointer (some ⟨b, 0, none⟩), .int .i64 x] w (fun e w' => e = .returned (.tuple #[ov, .bool had]) ∧ St w0 w' (L.set i (hashA b l'))) := by
  rcases hI.tab.find x ⟨h0, h1⟩ with ⟨D, hD, hgo, k1, k2, hf⟩ | ⟨D, q, hD, hqD, hgo, hk, hq, hf⟩
  · have hp := ps_lt hI.tab.pos (hmO l.length x) D
    obtain ⟨u1, u2, u3, u4⟩ := hI.tab.del hp k1 k2
    refine ⟨_, true, _, ⟨⟨u1, by rw [List.length_set]; exact hI.pow, by rw [List.length_set]; exact hI.len, by have := hI.cnt; omega⟩, u4, fun _ => ⟨_, _, _, (hI.tab.has hp k1 k2 _ _ _).2 ⟨rfl, rfl, rfl⟩, rfl⟩, (fun h => by cases h), u2, by rw [List.length_set], ?_⟩, hash_take_yes H i hi hI.tab hI.pow x h0 h1 _ hp hf k1⟩
    unfold takeS
    rw [hf, if_pos (by omega)]
    rfl
  · have hno := hI.tab.none hD hgo hk
    have hnone : ∀ a b c, ¬ Has l x a b c := by
      rintro a b c ⟨p, hp, e⟩
      exact hno p hp (by rw [e]) (by rw [e])
    refine ⟨l, false, zV, ⟨hI, fun j a b c => ?_, (fun h => by cases h), fun _ => ⟨rfl, hnone⟩, rfl, rfl, ?_⟩, ?_⟩
    · constructor
      · intro h
        exact ⟨fun e => by subst e; exact hnone a b c h, h⟩
      · exact fun h => h.2
    · unfold takeS
      rw [hf, if_neg (by omega)]
    · refine (hash_take_miss b x w (hash_get_none (H.alloc _) i hi hI.tab hI.pow x h0 h1 _ hf)).mono ?_
      rintro e w' ⟨rfl, hk⟩
      rw [set_same _ _ _ hi]
      exact ⟨rfl, H.keep hk⟩

theorem hash_get_any {w0 w : World} {L : List Asr} {b : Nat} {l : List SlotV} {C : Nat} (H : St w0 w L) (i : Nat) (hi : L[i]? = some (hashA b l)) (hI : HInv l C) (x : Int) (h0 : 0 ≤ x) (h1 : x < 65536) :
    ∃ had ov, (had = true → ∃ a b c, Has l x a b c ∧ ov = agg3 a b c) ∧ (had = false → ov = zV ∧ ∀ a b c, ¬ Has l x a b c) ∧ Calls Try.prog 36 #[.pointer (some ⟨b, 0, none⟩), .int .i64 x] w (Ret w (.tuple #[ov, .bool had])) := by
  rcases hI.tab.find x ⟨h0, h1⟩ with ⟨D, hD, hgo, k1, k2, hf⟩ | ⟨D, q, hD, hqD, hgo, hk, hq, hf⟩
  · have hp := ps_lt hI.tab.pos (hmO l.length x) D
    exact ⟨true, _, fun _ => ⟨_, _, _, (hI.tab.has hp k1 k2 _ _ _).2 ⟨rfl, rfl, rfl⟩, rfl⟩, (fun h => by cases h), hash_get_yes H i hi hI.tab hI.pow x h0 h1 _ hp hf⟩
  · have hno := hI.tab.none hD hgo hk
    refine ⟨false, _, (fun h => by cases h), fun _ => ⟨rfl, ?_⟩, hash_get_none H i hi hI.tab hI.pow x h0 h1 _ hf⟩
    rintro a b c ⟨p, hp, e⟩
    exact hno p hp (by rw [e]) (by rw [e])
end Go.Proofs.Ytcmbbkaioopkhaa
