/-
  HashPlays: the table of slots and the document's table of rows have the same; a call of both; the slots of both.
-/
import Derived.Test.YtcmbbkaioopkhaaTab2
namespace Go.Proofs.Ytcmbbkaioopkhaa
open Go Go.RowKit
set_option linter.unusedVariables false
set_option linter.unusedSimpArgs false

theorem rt_set_same {l : List RowT} {p : Nat} (hp : p < l.length) (x : RowT) : rt (l.set p x) p = x := by
  unfold rt
  rw [List.getD_eq_getElem?_getD, List.getElem?_set_self hp]
  rfl
theorem rt_set_ne {l : List RowT} {p q : Nat} (h : p ≠ q) (x : RowT) : rt (l.set p x) q = rt l q := by
  unfold rt
  rw [List.getD_eq_getElem?_getD, List.getElem?_set_ne h, ← List.getD_eq_getElem?_getD]
theorem rt_app_lt {l t : List RowT} {p : Nat} (hp : p < l.length) : rt (l ++ t) p = rt l p := by
  unfold rt
  rw [List.getD_eq_getElem?_getD, List.getElem?_append_left hp, ← List.getD_eq_getElem?_getD]
theorem rt_app_last {l : List RowT} {x : RowT} : rt (l ++ [x]) l.length = x := by
  unfold rt
  rw [List.getD_eq_getElem?_getD, List.getElem?_append_right (Nat.le_refl _), Nat.sub_self]
  rfl
theorem rt_take {l : List RowT} {m p : Nat} (hp : p < m) : rt (l.take m) p = rt l p := by
  unfold rt
  rw [List.getD_eq_getElem?_getD, List.getElem?_take_of_lt hp, ← List.getD_eq_getElem?_getD]

/-- The rows tell what is there. -/
structure TRel (l : List SlotV) (rows : List RowT) : Prop where
  has : ∀ j a b c, Has l j a b c ↔ ∃ p, p < rows.length ∧ rt rows p = ⟨j, a, b, c⟩
  inj : ∀ p q, p < rows.length → q < rows.length → (rt rows p).i = (rt rows q).i → p = q
  cnt : cntK 1 l = rows.length
theorem TRel.start : TRel tab0 [] := ⟨fun j a b c => ⟨fun h => absurd h (tab0_ok.2.2.2 j a b c), fun ⟨p, hp, _⟩ => by simp at hp⟩, fun p q hp => by simp at hp, tab0_ok.2.1⟩
theorem TRel.row {l : List SlotV} {rows : List RowT} (h : TRel l rows) {p : Nat} (hp : p < rows.length) : Has l (rt rows p).i (rt rows p).vk (rt rows p).va (rt rows p).vb := (h.has _ _ _ _).2 ⟨p, hp, rfl⟩
theorem TRel.range {l : List SlotV} {rows : List RowT} (h : TRel l rows) (hT : Tab hmO l) {p : Nat} (hp : p < rows.length) : 0 ≤ (rt rows p).i ∧ (rt rows p).i < 65536 := by
  obtain ⟨q, hq, e⟩ := h.row hp
  rcases hT.wf q hq with e' | e' | e'
  · rw [e'] at e; cases e
  · rw [e'] at e; cases e
  · rw [e] at e'; exact e'.2
/-- Where an index stands in the rows. -/
theorem TRel.find {l : List SlotV} {rows : List RowT} (h : TRel l rows) (x : Int) :
    (∃ p, p < rows.length ∧ (rt rows p).i = x ∧ ∀ j, j < p → (rt rows j).i ≠ x) ∨ (∀ j, j < rows.length → (rt rows j).i ≠ x) := by
  by_cases hx : ∃ p, p < rows.length ∧ (rt rows p).i = x
  · obtain ⟨p, hp, e⟩ := hx
    exact .inl ⟨p, hp, e, fun j hj e' => by have := h.inj j p (by omega) hp (e'.trans e.symm); omega⟩
  · exact .inr fun j hj e => hx ⟨j, hj, e⟩
theorem TRel.hasAt {l : List SlotV} {rows : List RowT} (h : TRel l rows) {x : Int} {p : Nat} (hp : p < rows.length) (hx : (rt rows p).i = x) (a b c : Int) : Has l x a b c ↔ a = (rt rows p).vk ∧ b = (rt rows p).va ∧ c = (rt rows p).vb := by
  rw [h.has]
  constructor
  · rintro ⟨q, hq, e⟩
    have := h.inj q p hq hp (by rw [e, hx])
    subst this
    rw [e]
    exact ⟨rfl, rfl, rfl⟩
  · rintro ⟨rfl, rfl, rfl⟩
    exact ⟨p, hp, by rw [← hx]⟩
theorem TRel.hasNo {l : List SlotV} {rows : List RowT} (h : TRel l rows) {x : Int} (hx : ∀ j, j < rows.length → (rt rows j).i ≠ x) (a b c : Int) : ¬ Has l x a b c := by
  rw [h.has]
  rintro ⟨q, hq, e⟩
  exact hx q hq (by rw [e])
theorem TRel.set {l l' : List SlotV} {rows : List RowT} (h : TRel l rows) {x vk va vb : Int} {p : Nat} (hp : p < rows.length) (hx : (rt rows p).i = x)
    (hh : ∀ j a b c, Has l' j a b c ↔ (j = x ∧ a = vk ∧ b = va ∧ c = vb) ∨ (j ≠ x ∧ Has l j a b c)) (hc : cntK 1 l' = cntK 1 l) : TRel l' (rows.set p ⟨x, vk, va, vb⟩) := by
  have hi : ∀ q, (rt (rows.set p ⟨x, vk, va, vb⟩) q).i = (rt rows q).i := fun q => by
    by_cases e : p = q
    · subst e; rw [rt_set_same hp, hx]
    · rw [rt_set_ne e]
  refine ⟨fun j a b c => ?_, fun q q' hq hq' e => ?_, by rw [hc, h.cnt, List.length_set]⟩
  · rw [hh, List.length_set]
    constructor
    · rintro (⟨rfl, rfl, rfl, rfl⟩ | ⟨hne, e⟩)
      · exact ⟨p, hp, rt_set_same hp _⟩
      · obtain ⟨q, hq, e⟩ := (h.has _ _ _ _).1 e
        refine ⟨q, hq, ?_⟩
        rw [rt_set_ne (fun e' => by subst e'; rw [e] at hx; exact hne hx)]
        exact e
    · rintro ⟨q, hq, e⟩
      by_cases c' : p = q
      · subst c'
        rw [rt_set_same hp] at e
        injection e with e1 e2 e3 e4
        exact .inl ⟨e1.symm, e2.symm, e3.symm, e4.symm⟩
      · rw [rt_set_ne c'] at e
        refine .inr ⟨fun e' => c' (h.inj p q hp hq (by rw [hx, e, e'])), (h.has _ _ _ _).2 ⟨q, hq, e⟩⟩
  · rw [List.length_set] at hq hq'
    rw [hi, hi] at e
    exact h.inj q q' hq hq' e
theorem TRel.snoc {l l' : List SlotV} {rows : List RowT} (h : TRel l rows) {x vk va vb : Int} (hx : ∀ j, j < rows.length → (rt rows j).i ≠ x)
    (hh : ∀ j a b c, Has l' j a b c ↔ (j = x ∧ a = vk ∧ b = va ∧ c = vb) ∨ (j ≠ x ∧ Has l j a b c)) (hc : cntK 1 l' = cntK 1 l + 1) : TRel l' (rows ++ [⟨x, vk, va, vb⟩]) := by
  have hl : (rows ++ [(⟨x, vk, va, vb⟩ : RowT)]).length = rows.length + 1 := by simp
  refine ⟨fun j a b c => ?_, fun q q' hq hq' e => ?_, by rw [hc, h.cnt, hl]⟩
  · rw [hh, hl]
    constructor
    · rintro (⟨rfl, rfl, rfl, rfl⟩ | ⟨hne, e⟩)
      · exact ⟨rows.length, by omega, rt_app_last⟩
      · obtain ⟨q, hq, e⟩ := (h.has _ _ _ _).1 e
        exact ⟨q, by omega, by rw [rt_app_lt hq]; exact e⟩
    · rintro ⟨q, hq, e⟩
      by_cases c' : q = rows.length
      · subst c'
        rw [rt_app_last] at e
        injection e with e1 e2 e3 e4
        exact .inl ⟨e1.symm, e2.symm, e3.symm, e4.symm⟩
      · rw [rt_app_lt (by omega)] at e
        exact .inr ⟨fun e' => hx q (by omega) (by rw [e, e']), (h.has _ _ _ _).2 ⟨q, by omega, e⟩⟩
  · rw [hl] at hq hq'
    by_cases c1 : q = rows.length <;> by_cases c2 : q' = rows.length
    · omega
    · subst c1
      rw [rt_app_last, rt_app_lt (by omega)] at e
      exact absurd e.symm (hx q' (by omega))
    · subst c2
      rw [rt_app_last, rt_app_lt (by omega)] at e
      exact absurd e (hx q (by omega))
    · rw [rt_app_lt (by omega), rt_app_lt (by omega)] at e
      exact h.inj q q' (by omega) (by omega) e
theorem TRel.take {l l' : List SlotV} {rows : List RowT} (h : TRel l rows) {x : Int} {p : Nat} (hp : p < rows.length) (hx : (rt rows p).i = x)
    (hh : ∀ j a b c, Has l' j a b c ↔ j ≠ x ∧ Has l j a b c) (hc : cntK 1 l' + 1 = cntK 1 l) : TRel l' (takeR rows p) := by
  have hc2 := h.cnt
  have hl : (takeR rows p).length = rows.length - 1 := by unfold takeR; rw [List.length_take, List.length_set]; omega
  have hr : ∀ q, q < rows.length - 1 → rt (takeR rows p) q = if q = p then rt rows (rows.length - 1) else rt rows q := fun q hq => by
    unfold takeR
    rw [rt_take hq]
    by_cases e : p = q
    · subst e; rw [rt_set_same hp, if_pos rfl]
    · rw [rt_set_ne e, if_neg (fun e' => e e'.symm)]
  refine ⟨fun j a b c => ?_, fun q q' hq hq' e => ?_, by rw [hl]; omega⟩
  · rw [hh, hl]
    constructor
    · rintro ⟨hne, e⟩
      obtain ⟨q, hq, e⟩ := (h.has _ _ _ _).1 e
      have hqp : q ≠ p := fun e' => by subst e'; rw [e] at hx; exact hne hx
      by_cases c' : q = rows.length - 1
      · exact ⟨p, by omega, by rw [hr p (by omega), if_pos rfl, ← c']; exact e⟩
      · exact ⟨q, by omega, by rw [hr q (by omega), if_neg hqp]; exact e⟩
    · rintro ⟨q, hq, e⟩
      rw [hr q hq] at e
      split at e
      · rename_i c'
        subst c'
        exact ⟨fun e' => by have := h.inj q (rows.length - 1) hp (by omega) (by rw [hx, e, e']); omega, (h.has _ _ _ _).2 ⟨_, by omega, e⟩⟩
      · rename_i c'
        exact ⟨fun e' => c' (h.inj q p (by omega) hp (by rw [hx, e, e'])), (h.has _ _ _ _).2 ⟨q, by omega, e⟩⟩
  · rw [hl] at hq hq'
    rw [hr q hq, hr q' hq'] at e
    split at e <;> split at e
    · omega
    · have := h.inj _ _ (by omega) (by omega) e; omega
    · have := h.inj _ _ (by omega) (by omega) e; omega
    · exact h.inj _ _ (by omega) (by omega) e

/-- One call of both: what they answer, and what is there behind it. -/
structure Both (w0 : World) (bd bt : Nat) (l : List SlotV) (rows : List RowT) (fd ft : FuncId) (args : List Value) (w : World) (L : List Asr) (i : Nat) (l' : List SlotV) (C : Nat) : Prop where
  ex : ∃ (rows' : List RowT) (a b c : Int) (had : Bool), HInv l' (C + 1) ∧ TRel l' rows' ∧
    Calls Try.prog fd (#[.pointer (some ⟨bd, 0, none⟩)] ++ args.toArray) w (fun e w' => e = .returned (.tuple #[agg3 a b c, .bool had]) ∧ St w0 w' (L.set i (hashA bd l'))) ∧
    ∀ (w2 : World) (L2 : List Asr) (k : Nat), St w0 w2 L2 → L2[k]? = some (tabA bt rows) → Calls Try.prog ft (#[.pointer (some ⟨bt, 0, none⟩)] ++ args.toArray) w2 (fun e w' => e = .returned (.tuple #[agg3 a b c, .bool had]) ∧ St w0 w' (L2.set k (tabA bt rows')))

def okI (x : Int) : Prop := 0 ≤ x ∧ x < 65536
instance (x : Int) : Decidable (okI x) := by unfold okI; infer_instance
theorem zV_agg : zV = agg3 0 0 0 := rfl

theorem both_put {w0 w : World} {L : List Asr} {bd bt : Nat} {l : List SlotV} {rows : List RowT} {C : Nat} (H : St w0 w L) (i : Nat) (hi : L[i]? = some (hashA bd l)) (hI : HInv l C) (hC : C ≤ 60000) (hR : TRel l rows) (x vk va vb : Int) :
    Both w0 bd bt l rows 32 42 [.int .i64 x, .agg #[.int .i64 vk, .int .i64 va, .int .i64 vb]] w L i (if okI x then putS hmO l x vk va vb else l) C := by
  by_cases hx : okI x
  · rw [if_pos hx]
    obtain ⟨l', had, ov, hok, hC1⟩ := hash_put_any H i hi hI hC x hx.1 hx.2 vk va vb
    rw [← hok.eq]
    have hlen := hR.cnt
    have hcn := hI.cnt
    have hc := hok.cnt
    rcases hR.find x with ⟨p, hp, hpx, hno⟩ | hno
    · have hh := (hR.hasAt hp hpx _ _ _).2 ⟨rfl, rfl, rfl⟩
      obtain rfl : had = true := by
        cases had
        · exact absurd hh ((hok.no rfl).2 _ _ _)
        · rfl
      obtain ⟨a, b, c, h1, rfl⟩ := hok.yes rfl
      obtain ⟨rfl, rfl, rfl⟩ := (hR.hasAt hp hpx _ _ _).1 h1
      rw [if_pos rfl, Nat.add_zero] at hc
      exact ⟨_, _, _, _, true, hok.inv, hR.set hp hpx hok.has hc, hC1, fun w2 L2 k H2 hk => tab_put_old H2 k hk x hx.1 hx.2 vk va vb p hp hpx hno⟩
    · obtain rfl : had = false := by
        cases had
        · rfl
        · obtain ⟨a, b, c, h1, _⟩ := hok.yes rfl
          exact absurd h1 (hR.hasNo hno a b c)
      obtain ⟨rfl, _⟩ := hok.no rfl
      rw [if_neg (by decide)] at hc
      exact ⟨_, 0, 0, 0, false, hok.inv, hR.snoc hno hok.has hc, hC1, fun w2 L2 k H2 hk => tab_put_new H2 k hk (by omega) x hx.1 hx.2 vk va vb hno⟩
  · rw [if_neg hx]
    refine ⟨rows, 0, 0, 0, false, ⟨hI.tab, hI.pow, by have := hI.len; omega, by have := hI.cnt; omega⟩, hR, ?_, fun w2 L2 k H2 hk => ?_⟩
    · exact (hash_Put_no bd x (by unfold okI at hx; omega) vk va vb w).mono fun e w' ⟨h1, h2⟩ => ⟨h1, by rw [set_same _ _ _ hi]; exact H.keep h2⟩
    · exact (tab_put_bad H2 bt x hx vk va vb).mono fun e w' ⟨h1, h2⟩ => ⟨h1, by rw [set_same _ _ _ hk]; exact h2⟩
theorem both_take {w0 w : World} {L : List Asr} {bd bt : Nat} {l : List SlotV} {rows : List RowT} {C : Nat} (H : St w0 w L) (i : Nat) (hi : L[i]? = some (hashA bd l)) (hI : HInv l C) (hC : C ≤ 60000) (hR : TRel l rows) (x : Int) :
    Both w0 bd bt l rows 33 43 [.int .i64 x] w L i (if okI x then takeS hmO l x else l) C := by
  have up : ∀ {l' : List SlotV}, HInv l' C → HInv l' (C + 1) := fun h => ⟨h.tab, h.pow, by have := h.len; omega, by have := h.cnt; omega⟩
  by_cases hx : okI x
  · rw [if_pos hx]
    obtain ⟨l', had, ov, hok, hC1⟩ := hash_take_any H i hi hI hC x hx.1 hx.2
    rw [← hok.eq]
    have hc := hok.cnt
    rcases hR.find x with ⟨p, hp, hpx, hno⟩ | hno
    · have hh := (hR.hasAt hp hpx _ _ _).2 ⟨rfl, rfl, rfl⟩
      obtain rfl : had = true := by
        cases had
        · exact absurd hh ((hok.no rfl).2 _ _ _)
        · rfl
      obtain ⟨a, b, c, h1, rfl⟩ := hok.yes rfl
      obtain ⟨rfl, rfl, rfl⟩ := (hR.hasAt hp hpx _ _ _).1 h1
      rw [if_pos rfl] at hc
      exact ⟨_, _, _, _, true, up hok.inv, hR.take hp hpx hok.has hc, hC1, fun w2 L2 k H2 hk => tab_take_yes H2 k hk x p hp hpx hno⟩
    · obtain rfl : had = false := by
        cases had
        · rfl
        · obtain ⟨a, b, c, h1, _⟩ := hok.yes rfl
          exact absurd h1 (hR.hasNo hno a b c)
      obtain ⟨rfl, _⟩ := hok.no rfl
      rw [if_neg (by decide), Nat.add_zero] at hc
      refine ⟨rows, 0, 0, 0, false, up hok.inv, ⟨fun j a b c => ?_, hR.inj, by rw [hc, hR.cnt]⟩, hC1, fun w2 L2 k H2 hk => ?_⟩
      · rw [hok.has, ← hR.has]
        exact ⟨fun h => h.2, fun h => ⟨fun e => by subst e; exact hR.hasNo hno a b c h, h⟩⟩
      · exact (tab_take_no H2 k hk x hno).mono fun e w' ⟨h1, h2⟩ => ⟨h1, by rw [set_same _ _ _ hk]; exact h2⟩
  · rw [if_neg hx]
    refine ⟨rows, 0, 0, 0, false, up hI, hR, ?_, fun w2 L2 k H2 hk => ?_⟩
    · exact (hash_take_miss bd x w (hash_get_no bd x (by unfold okI at hx; omega) _)).mono fun e w' ⟨h1, h2⟩ => ⟨h1, by rw [set_same _ _ _ hi]; exact H.keep h2⟩
    · exact (tab_take_no H2 k hk x (fun j hj e => hx (e ▸ hR.range hI.tab hj))).mono fun e w' ⟨h1, h2⟩ => ⟨h1, by rw [set_same _ _ _ hk]; exact h2⟩
theorem both_get {w0 w : World} {L : List Asr} {bd bt : Nat} {l : List SlotV} {rows : List RowT} {C : Nat} (H : St w0 w L) (i : Nat) (hi : L[i]? = some (hashA bd l)) (hI : HInv l C) (hR : TRel l rows) (x : Int) :
    Both w0 bd bt l rows 36 44 [.int .i64 x] w L i l C := by
  have up : HInv l (C + 1) := ⟨hI.tab, hI.pow, by have := hI.len; omega, by have := hI.cnt; omega⟩
  by_cases hx : okI x
  · obtain ⟨had, ov, hy, hn, hC1⟩ := hash_get_any H i hi hI x hx.1 hx.2
    have hC2 := hC1.mono (R' := fun e w' => e = .returned (.tuple #[ov, .bool had]) ∧ St w0 w' (L.set i (hashA bd l))) fun e w' ⟨h1, h2⟩ => ⟨h1, by rw [set_same _ _ _ hi]; exact H.keep h2⟩
    rcases hR.find x with ⟨p, hp, hpx, hno⟩ | hno
    · have hh := (hR.hasAt hp hpx _ _ _).2 ⟨rfl, rfl, rfl⟩
      obtain rfl : had = true := by
        cases had
        · exact absurd hh ((hn rfl).2 _ _ _)
        · rfl
      obtain ⟨a, b, c, h1, rfl⟩ := hy rfl
      obtain ⟨rfl, rfl, rfl⟩ := (hR.hasAt hp hpx _ _ _).1 h1
      exact ⟨rows, _, _, _, true, up, hR, hC2, fun w2 L2 k H2 hk => (tab_get_yes H2 k hk x p hp hpx hno).mono fun e w' ⟨h1, h2⟩ => ⟨h1, by rw [set_same _ _ _ hk]; exact h2⟩⟩
    · obtain rfl : had = false := by
        cases had
        · rfl
        · obtain ⟨a, b, c, h1, _⟩ := hy rfl
          exact absurd h1 (hR.hasNo hno a b c)
      obtain ⟨rfl, _⟩ := hn rfl
      exact ⟨rows, 0, 0, 0, false, up, hR, hC2, fun w2 L2 k H2 hk => (tab_get_no H2 k hk x hno).mono fun e w' ⟨h1, h2⟩ => ⟨h1, by rw [set_same _ _ _ hk]; exact h2⟩⟩
  · refine ⟨rows, 0, 0, 0, false, up, hR, ?_, fun w2 L2 k H2 hk => ?_⟩
    · exact (hash_get_no bd x (by unfold okI at hx; omega) w).mono fun e w' ⟨h1, h2⟩ => ⟨h1, by rw [set_same _ _ _ hi]; exact H.keep h2⟩
    · exact (tab_get_no H2 k hk x (fun j hj e => hx (e ▸ hR.range hI.tab hj))).mono fun e w' ⟨h1, h2⟩ => ⟨h1, by rw [set_same _ _ _ hk]; exact h2⟩
end Go.Proofs.Ytcmbbkaioopkhaa
