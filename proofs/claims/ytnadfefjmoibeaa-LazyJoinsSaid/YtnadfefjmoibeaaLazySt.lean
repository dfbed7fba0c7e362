/-
  The queue's calls, said of what a call owns.
-/
import Derived.Test.YtnadfefjmoibeaaLazyLaws
import Derived.Test.YtnadfefjmoibeaaSt
namespace Go.Proofs.Ytnadfefjmoibeaa
open Go Go.RowKit

/-- A queue at block b, in which l waits. -/
def qA (b : Nat) (l : List OpV) : Asr := ⟨fun w F => IsQ F w b l, fun h hk hd => h.keep hk hd, fun h hG => h.mono hG⟩

theorem st_add {w0 w : World} {L : List Asr} (H : St w0 w L) (i : Nat) {b : Nat} {l : List OpV} (hi : L[i]? = some (qA b l)) (S2 : Nat → Prop) (m : List OpV) (v : Value) (h2 : Rd S2 w v m.length (flatOp m))
    (hok : ∀ o, o ∈ m → okOp o = true) (hlen : l.length + m.length ≤ 10000) :
    Calls Try.prog 20 #[.pointer (some ⟨b, 0, none⟩), v] w (fun e w' => e = .returned (.int .i64 0) ∧ St w0 w' (L.set i (qA b (l ++ m)))) := by
  obtain ⟨G, hA, _, hup, _⟩ := H.opens i hi
  refine (q_add G S2 b l m v w hA h2 (by rw [List.any_eq_false]; intro o ho; simp [hok o ho]) hlen).mono ?_
  rintro e w' ⟨rfl, hq, hk⟩
  exact ⟨rfl, hup w' (qA b (l ++ m)) hk hq⟩

theorem st_len {w0 w : World} {L : List Asr} (H : St w0 w L) (i : Nat) {b : Nat} {l : List OpV} (hi : L[i]? = some (qA b l)) :
    Calls Try.prog 21 #[.pointer (some ⟨b, 0, none⟩)] w (fun e w' => e = .returned (.int .i64 l.length) ∧ w = w') := by
  obtain ⟨G, hA, _⟩ := H.get i hi
  exact q_len G b l w hA

/-- What a joined claim becomes. -/
def joinUp (L : List Asr) (iq : Nat) (is : List Nat) (bs : Nat → Nat) (ls : Nat → List OpV) : List Asr :=
  (is.foldl (fun L i => L.set i (qA (bs i) [])) L).set iq (qA (bs iq) (ls iq ++ is.flatMap ls))

theorem foldl_set_get (bs : Nat → Nat) : ∀ (is : List Nat) (L : List Asr) (j : Nat), (is.foldl (fun L i => L.set i (qA (bs i) [])) L)[j]? = if j ∈ is ∧ j < L.length then some (qA (bs j) []) else L[j]?
  | [], L, j => by simp
  | i :: is, L, j => by
    rw [List.foldl_cons, foldl_set_get bs is]
    simp only [List.length_set, List.mem_cons]
    by_cases h1 : j ∈ is ∧ j < L.length
    · rw [if_pos h1, if_pos ⟨.inr h1.1, h1.2⟩]
    · rw [if_neg h1]
      by_cases h2 : j = i
      · subst h2
        by_cases h3 : j < L.length
        · rw [if_pos ⟨.inl rfl, h3⟩, List.getElem?_set_self h3]
        · rw [if_neg (fun h => h3 h.2), List.getElem?_eq_none (by simpa using h3), List.getElem?_eq_none (by simpa using h3)]
      · rw [if_neg (fun h => h.1.elim h2 (fun h' => h1 ⟨h', h.2⟩)), List.getElem?_set_ne (fun e => h2 e.symm)]
theorem foldl_set_len (bs : Nat → Nat) : ∀ (is : List Nat) (L : List Asr), (is.foldl (fun L i => L.set i (qA (bs i) [])) L).length = L.length
  | [], L => rfl
  | i :: is, L => by rw [List.foldl_cons, foldl_set_len bs is]; simp

theorem st_join {w0 w : World} {L : List Asr} (H : St w0 w L) (iq : Nat) (is : List Nat) (bs : Nat → Nat) (ls : Nat → List OpV) (hL : ∀ i, i ∈ iq :: is → L[i]? = some (qA (bs i) (ls i)))
    (hok : ∀ i, i ∈ iq :: is → ∀ o, o ∈ ls i → okOp o = true) (kv : Nat) (v : Value) (hv : L[kv]? = some (slA 46 1 v is.length (is.map (fun i => ptrTo (some (bs i)))))) (hkv : kv ∉ iq :: is)
    (hle : (ls iq).length + (is.flatMap ls).length ≤ 10000) :
    Calls Try.prog 23 #[.pointer (some ⟨bs iq, 0, none⟩), v] w (fun e w' => e = .returned (.int .i64 0) ∧ St w0 w' (joinUp L iq is bs ls)) := by
  obtain ⟨hbel, G, h1, h2, h3⟩ := H
  have hq : ∀ i, i ∈ iq :: is → IsQ (G i) w (bs i) (ls i) := fun i hi => h1 i _ (hL i hi)
  have hself : ∀ i, i ∈ iq :: is → G i (bs i) := fun i hi => by obtain ⟨_, _, _, _, h, _⟩ := hq i hi; exact h
  have hinj : ∀ i j, i ∈ iq :: is → j ∈ iq :: is → bs i = bs j → i = j := fun i j hi hj e => h3 i j (bs i) (hself i hi) (e ▸ hself j hj)
  let cont : Nat → List OpV := fun b => (((iq :: is).find? (fun i => bs i == b)).map ls).getD []
  have hcont : ∀ i, i ∈ iq :: is → cont (bs i) = ls i := fun i hi => by
    have : (iq :: is).find? (fun k => bs k == bs i) = some i := by
      cases hf : (iq :: is).find? (fun k => bs k == bs i) with
      | none => have := List.find?_eq_none.1 hf i hi; simp at this
      | some k =>
        have e1 := List.find?_some hf
        have e2 := List.mem_of_find?_eq_some hf
        rw [hinj k i e2 hi (by simpa using e1)]
    simp only [cont, this, Option.map_some, Option.getD_some]
  have hall : allOf cont (is.map (fun i => some (bs i))) = is.flatMap ls := by
    unfold allOf
    rw [List.flatMap_map]
    have : ∀ (l : List Nat), (∀ i, i ∈ l → i ∈ iq :: is) → l.flatMap (fun i => (some (bs i)).elim [] cont) = l.flatMap ls := by
      intro l
      induction l with
      | nil => intro _; rfl
      | cons a t ih =>
        intro h
        rw [List.flatMap_cons, List.flatMap_cons, ih (fun i hi => h i (List.mem_cons_of_mem _ hi))]
        simp only [Option.elim_some, hcont a (h a (List.mem_cons_self ..))]
    exact this is (fun i hi => List.mem_cons_of_mem _ hi)
  have hQs : Qs ((iq :: is).map bs) (fun b x => ∃ i, i ∈ iq :: is ∧ bs i = b ∧ G i x) w cont := by
    refine ⟨fun b hb => ?_, fun b b' hb hb' hne x hx hx' => ?_, fun b hb x hx => ?_, fun b hb o ho => ?_⟩
    · obtain ⟨i, hi, rfl⟩ := List.mem_map.1 hb
      rw [hcont i hi]
      exact (hq i hi).mono (fun x hx => ⟨i, hi, rfl, hx⟩)
    · obtain ⟨i, hi, e1, g1⟩ := hx
      obtain ⟨j, hj, e2, g2⟩ := hx'
      have := h3 i j x g1 g2
      subst this
      exact hne (e1.symm.trans e2)
    · obtain ⟨i, hi, e1, g1⟩ := hx
      exact (h2 i x g1).2
    · obtain ⟨i, hi, rfl⟩ := List.mem_map.1 hb
      rw [hcont i hi] at ho
      exact hok i hi o ho
  have hrd : Rd (G kv) w v (is.map (fun i => some (bs i))).length ((is.map (fun i => some (bs i))).map ptrTo) := by
    have := Own.rd (h1 kv _ hv)
    rw [List.length_map, List.map_map]
    exact this
  refine (q_join _ _ (G kv) (bs iq) (is.map (fun i => some (bs i))) cont v w hQs (List.mem_map.2 ⟨iq, List.mem_cons_self .., rfl⟩) (fun b hb => ?_) hrd (fun b _ x hx hx' => ?_) (fun x hx => (h2 kv x hx).2)).mono ?_
  · obtain ⟨i, hi, e⟩ := List.mem_map.1 hb
    injection e with e
    subst e
    exact List.mem_map.2 ⟨i, List.mem_cons_of_mem _ hi, rfl⟩
  · obtain ⟨i, hi, _, g1⟩ := hx
    exact hkv (h3 i kv x g1 hx' ▸ hi)
  rintro e w' (⟨_, rfl, ⟨FS', hqs, hfs⟩, hk⟩ | ⟨hbad, _⟩)
  rotate_left
  · exfalso
    rw [hall, hcont iq (List.mem_cons_self ..)] at hbad
    omega
  refine ⟨rfl, hbel.trans (hk.belowAt (B := w0.heap.size) (fun x hx => by obtain ⟨b, _, i, _, _, g⟩ := hx; exact (h2 i x g).1) hbel.size), ?_⟩
  refine ⟨fun j x => (j ∈ iq :: is ∧ FS' (bs j) x) ∨ (¬ j ∈ iq :: is ∧ G j x), fun j A hj => ?_, fun j x hx => ?_, fun j k x hj hk' => ?_⟩
  · by_cases hm : j ∈ iq :: is
    · have hq' := hqs.q (bs j) (List.mem_map.2 ⟨j, hm, rfl⟩)
      have hjl : j < L.length := (List.getElem?_eq_some_iff.1 (hL j hm)).1
      refine A.mono ?_ (fun x hx => .inl ⟨hm, hx⟩)
      unfold joinUp at hj
      by_cases e : j = iq
      · subst e
        rw [List.getElem?_set_self (by rw [foldl_set_len]; exact hjl)] at hj
        cases hj
        simp only [if_true, hall, hcont j hm] at hq'
        exact hq'
      · have hmi : j ∈ is := (List.mem_cons.1 hm).resolve_left e
        rw [List.getElem?_set_ne (fun e' => e e'.symm), foldl_set_get, if_pos ⟨hmi, hjl⟩] at hj
        cases hj
        have hne : ¬ bs j = bs iq := fun e' => e (hinj j iq hm (List.mem_cons_self ..) e')
        simp only [if_neg hne] at hq'
        rw [if_pos (List.mem_map.2 ⟨j, hmi, rfl⟩)] at hq'
        exact hq'
    · have hni : j ≠ iq := fun e => hm (e ▸ List.mem_cons_self ..)
      have hns : ¬ j ∈ is := fun h => hm (List.mem_cons_of_mem _ h)
      unfold joinUp at hj
      rw [List.getElem?_set_ne (fun e' => hni e'.symm), foldl_set_get, if_neg (fun h => hns h.1)] at hj
      exact A.mono (A.keep (h1 j A hj) hk (fun x hx hx' => by obtain ⟨b, _, i, hi, _, g⟩ := hx'; exact hm (h3 i j x g hx ▸ hi))) (fun x hx => .inr ⟨hm, hx⟩)
  · rcases hx with ⟨hm, hx⟩ | ⟨_, hx⟩
    · rcases hfs _ x hx with ⟨i, _, _, g⟩ | hn
      · exact ⟨(h2 i x g).1, Nat.lt_of_lt_of_le (h2 i x g).2 hk.size⟩
      · exact ⟨Nat.le_trans hbel.size hn.1, hn.2⟩
    · exact ⟨(h2 j x hx).1, Nat.lt_of_lt_of_le (h2 j x hx).2 hk.size⟩
  · rcases hj with ⟨hm, hj⟩ | ⟨hm, hj⟩ <;> rcases hk' with ⟨hm', hk'⟩ | ⟨hm', hk'⟩
    · by_cases e : bs j = bs k
      · exact hinj j k hm hm' e
      · exact (hqs.d (bs j) (bs k) (List.mem_map.2 ⟨j, hm, rfl⟩) (List.mem_map.2 ⟨k, hm', rfl⟩) e x hj hk').elim
    · rcases hfs _ x hj with ⟨i, hi, _, g⟩ | hn
      · exact (hm' (h3 i k x g hk' ▸ hi)).elim
      · have := (h2 k x hk').2; have := hn.1; omega
    · rcases hfs _ x hk' with ⟨i, hi, _, g⟩ | hn
      · exact (hm (h3 i j x g hj ▸ hi)).elim
      · have := (h2 j x hj).2; have := hn.1; omega
    · exact h3 j k x hj hk'

theorem st_lenN {w0 w : World} {L : List Asr} (H : St w0 w L) (i : Nat) {b : Nat} {l : List OpV} (hi : L[i]? = some (qA b l)) (m : Int) (hm : (l.length : Int) = m) :
    Calls Try.prog 21 #[.pointer (some ⟨b, 0, none⟩)] w (fun e w' => e = .returned (.int .i64 m) ∧ w = w') := by
  subst hm
  exact st_len H i hi
theorem st_good {w0 w : World} {L : List Asr} (H : St w0 w L) (v : Value) (l : List OpV) (S : Nat → Prop) (h : Rd S w0 v l.length (flatOp l)) (hS : ∀ i, S i → i < w0.heap.size) (hb : l.length ≤ 100000) (m : Nat) (hm : (l.filter okOp).length = m) :
    Calls Try.prog 25 #[v] w (fun e w' => ∃ a c, e = .returned (.slice a m c) ∧ St w0 w' (L ++ [slA 45 7 (.slice a m c) m (flatOp (l.filter okOp))])) := by
  refine (good_op v l w S (h.below H.bel hS) (fun i hi => Nat.lt_of_lt_of_le (hS i hi) H.le) (by omega)).mono ?_
  rintro e w' ⟨a, n, c, rfl, ho, hk⟩
  have hl := Own.len ho
  rw [flatOp_len] at hl
  have : n = m := by omega
  subst this
  exact ⟨a, c, rfl, St.add H hk (A := slA 45 7 (.slice a n c) n (flatOp (l.filter okOp))) ho⟩
theorem st_all {w0 w : World} {L : List Asr} (H : St w0 w L) (i : Nat) {b : Nat} {l : List OpV} (hi : L[i]? = some (qA b l)) :
    Calls Try.prog 27 #[.pointer (some ⟨b, 0, none⟩)] w (fun e w' => ∃ a c, e = .returned (.slice a l.length c) ∧ St w0 w' (L ++ [slA 45 7 (.slice a l.length c) l.length (flatOp l)])) := by
  obtain ⟨G, hA, _⟩ := H.get i hi
  refine (q_all G b l w hA).mono ?_
  rintro e w' ⟨a, n, c, rfl, ho, hk⟩
  have hl := Own.len ho
  rw [flatOp_len] at hl
  have : n = l.length := by omega
  subst this
  exact ⟨a, c, rfl, St.add H hk (A := slA 45 7 (.slice a l.length c) l.length (flatOp l)) ho⟩
theorem st_same {w0 w : World} {L : List Asr} (H : St w0 w L) (i j : Nat) {v v2 : Value} {l : List OpV} (hi : L[i]? = some (slA 45 7 v l.length (flatOp l))) (hj : L[j]? = some (slA 45 7 v2 l.length (flatOp l))) :
    Calls Try.prog 26 #[v, v2] w (fun e w' => e = .returned (.bool true) ∧ St w0 w' L) := by
  obtain ⟨G, _, hr, _⟩ := H.rd i hi
  obtain ⟨G2, _, hr2, _⟩ := H.rd j hj
  refine (same_ops v v2 l w G G2 hr hr2).mono ?_
  rintro e w' ⟨rfl, hk⟩
  exact ⟨rfl, H.keep hk⟩
theorem st_new {w0 w : World} {L : List Asr} (H : St w0 w L) : Calls Try.prog 17 #[] w (fun e w' => ∃ b, e = .returned (.pointer (some ⟨b, 0, none⟩)) ∧ St w0 w' (L ++ [qA b []])) := by
  refine (q_new w).mono ?_
  rintro e w' ⟨b, rfl, hq, hk⟩
  exact ⟨b, rfl, St.add H hk (A := qA b []) hq⟩
theorem st_awake14 {w0 w : World} {L : List Asr} (H : St w0 w L) : Calls Try.prog 22 #[] w (RetTrue w0) := by
  refine (awake14 w).mono ?_
  rintro e w' ⟨rfl, hk⟩
  exact ⟨rfl, H.bel.trans (hk.mono H.le)⟩
end Go.Proofs.Ytnadfefjmoibeaa
