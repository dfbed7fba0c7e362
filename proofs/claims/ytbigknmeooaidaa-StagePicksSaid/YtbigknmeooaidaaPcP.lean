/-
  Picks and the orders that may be: plain.
-/
import Derived.Test.YtbigknmeooaidaaStg3
import Derived.Test.YtbigknmeooaidaaStgA
namespace Go.Proofs.Ytbigknmeooaidaa
set_option linter.unusedVariables false
set_option linter.unusedSimpArgs false

def sortI (l : List Int) : List Int := l.mergeSort fun x y => decide (x ≤ y)
theorem sortI_eq {a b : List Int} : sortI a = sortI b ↔ a.Perm b := by
  constructor
  · intro h
    have h1 := List.mergeSort_perm a (fun x y => decide (x ≤ y))
    have h2 := List.mergeSort_perm b (fun x y => decide (x ≤ y))
    unfold sortI at h
    rw [h] at h1
    exact h1.symm.trans h2
  · intro h
    have hp : (sortI a).Perm (sortI b) := ((List.mergeSort_perm a _).trans h).trans (List.mergeSort_perm b _).symm
    have hs : ∀ l : List Int, List.Pairwise (fun a b => a ≤ b) (sortI l) := fun l => by
      have := List.pairwise_mergeSort (le := fun x y : Int => decide (x ≤ y)) (fun a b c h1 h2 => by simp at h1 h2 ⊢; omega) (fun a b => by simp; omega) l
      exact this.imp (fun h => by simpa using h)
    exact List.Perm.eq_of_pairwise (le := fun a b : Int => a ≤ b) (fun a b _ _ h1 h2 => by omega) (hs a) (hs b) hp
/-- Is a row one that keeps to the stages? -/
def legG : List (List Nat) → List Int → Bool
  | [], _ => true
  | g :: gs, order => (sortI (order.take g.length) == sortI (nats g)) && legG gs (order.drop g.length)

/-- What is picked of a stage is that stage in some order. -/
theorem iterP_perm : ∀ (n : Nat) (s : PkS), s.left.length = n → ∃ q : List Int, (iterP n s).out = s.out ++ q ∧ q.Perm s.left
  | 0, s, h => ⟨[], by simp [iterP], by rw [List.eq_nil_of_length_eq_zero h]⟩
  | n + 1, s, h => by
    have hk := pkI_lt s.left s.p (by omega)
    have h1 := stepP_left s (by omega)
    obtain ⟨q, h2, h3⟩ := iterP_perm n (stepP s) (by omega)
    refine ⟨s.left.getD (pkI s.left s.p) 0 :: q, ?_, ?_⟩
    · rw [iterP, h2]
      unfold stepP
      simp
    · have e : s.left.getD (pkI s.left s.p) 0 = s.left[pkI s.left s.p] := by rw [List.getD_eq_getElem?_getD, List.getElem?_eq_getElem hk]; rfl
      rw [e]
      refine (List.Perm.cons _ h3).trans ?_
      show (s.left[pkI s.left s.p] :: s.left.eraseIdx (pkI s.left s.p)).Perm s.left
      rw [List.eraseIdx_eq_take_drop_succ]
      refine (List.perm_middle (l₁ := s.left.take (pkI s.left s.p)) (l₂ := s.left.drop (pkI s.left s.p + 1))).symm.trans ?_
      rw [List.getElem_cons_drop, List.take_append_drop]
def permAll : List (List Int) → List (List Int) → Prop
  | [], [] => True
  | a :: ta, b :: tb => a.Perm b ∧ permAll ta tb
  | _, _ => False
theorem pkAll_perm : ∀ (rs : List (List Int)) (p out : List Int), ∃ Q : List (List Int), pkAll rs p out = out ++ Q.flatten ∧ permAll Q rs
  | [], p, out => ⟨[], by simp [pkAll], trivial⟩
  | r :: rs, p, out => by
    obtain ⟨q, h1, h2⟩ := iterP_perm r.length ⟨out, r, p⟩ rfl
    obtain ⟨Q, h3, h4⟩ := pkAll_perm rs (iterP r.length ⟨out, r, p⟩).p (iterP r.length ⟨out, r, p⟩).out
    refine ⟨q :: Q, ?_, h2, h4⟩
    rw [pkAll, h3, h1]
    simp
theorem legG_perm : ∀ (G : List (List Nat)) (Q : List (List Int)), permAll Q (G.map nats) → legG G Q.flatten = true
  | [], _, _ => rfl
  | g :: gs, [], h => h.elim
  | g :: gs, q :: Q, h => by
    obtain ⟨h1, h2⟩ := h
    have hl : q.length = g.length := by rw [h1.length_eq, nats_len]
    rw [legG, List.flatten_cons, ← hl, List.take_left, List.drop_left, sortI_eq.2 h1, legG_perm gs Q h2]
    simp
theorem permAll_mem : ∀ {Q R : List (List Int)} {x : Int}, permAll Q R → (x ∈ Q.flatten ↔ x ∈ R.flatten)
  | [], [], x, _ => by simp
  | a :: ta, b :: tb, x, h => by
    rw [List.flatten_cons, List.flatten_cons, List.mem_append, List.mem_append, h.1.mem_iff, permAll_mem h.2]
  | [], _ :: _, _, h => h.elim
  | _ :: _, [], _, h => h.elim
theorem permAll_len : ∀ {Q R : List (List Int)}, permAll Q R → Q.flatten.length = R.flatten.length
  | [], [], _ => rfl
  | a :: ta, b :: tb, h => by
    rw [List.flatten_cons, List.flatten_cons, List.length_append, List.length_append, h.1.length_eq, permAll_len h.2]
  | [], _ :: _, h => h.elim
  | _ :: _, [], h => h.elim
theorem permAll_nodup {st : Int → Nat} : ∀ {Q R : List (List Int)} (g0 : Nat), permAll Q R → (∀ gi g x, R[gi]? = some g → x ∈ g → st x = g0 + gi) → (∀ g, g ∈ R → g.Nodup) → Q.flatten.Nodup
  | [], [], _, _, _, _ => List.nodup_nil
  | a :: ta, b :: tb, g0, h, hs, hn => by
    rw [List.flatten_cons, List.nodup_append]
    refine ⟨h.1.symm.nodup (hn b (by simp)), permAll_nodup (st := st) (g0 + 1) h.2 (fun gi g x hg hx => by have := hs (gi + 1) g x hg hx; omega) (fun g hg => hn g (by simp [hg])), fun x hx y hy e => ?_⟩
    subst e
    have h1 := hs 0 b x rfl (h.1.mem_iff.1 hx)
    obtain ⟨g, hg, hxg⟩ := List.mem_flatten.1 ((permAll_mem h.2).1 hy)
    obtain ⟨gi, hgi, rfl⟩ := List.getElem_of_mem hg
    have := hs (gi + 1) _ x (by rw [List.getElem?_cons_succ, List.getElem?_eq_getElem hgi]) hxg
    omega
  | [], _ :: _, _, h, _, _ => h.elim
  | _ :: _, [], _, h, _, _ => h.elim
theorem perm_of_sub : ∀ {a b : List Int}, a.Nodup → (∀ x, x ∈ a → x ∈ b) → b.length ≤ a.length → a.Perm b
  | [], b, _, _, h => by
    obtain rfl : b = [] := List.eq_nil_of_length_eq_zero (by simpa using h)
    exact List.Perm.refl _
  | x :: a, b, hn, hs, hl => by
    obtain ⟨h1, h2⟩ := List.nodup_cons.1 hn
    have hp := List.perm_cons_erase (hs x (by simp))
    have hle : (b.erase x).length + 1 = b.length := by have := hp.length_eq; rw [List.length_cons] at this; omega
    rw [List.length_cons] at hl
    exact (List.Perm.cons x (perm_of_sub h2 (fun y hy => (List.mem_erase_of_ne (by rintro rfl; exact h1 hy)).2 (hs y (by simp [hy]))) (by omega))).trans hp.symm
/-- Which stage each place is of. -/
def blG : Nat → List (List Nat) → List Nat
  | _, [] => []
  | g0, g :: gs => List.replicate g.length g0 ++ blG (g0 + 1) gs
theorem leg_iff {st : Int → Nat} : ∀ (G : List (List Nat)) (g0 : Nat) (order : List Int), order.length = G.flatten.length → order.Nodup →
    (∀ gi g x, G[gi]? = some g → x ∈ order → st x = g0 + gi → x ∈ nats g) → (∀ gi g x, G[gi]? = some g → x ∈ nats g → st x = g0 + gi) → (legG G order = true ↔ order.map st = blG g0 G)
  | [], g0, order, hl, _, _, _ => by
    rw [List.eq_nil_of_length_eq_zero (show order.length = 0 by simpa using hl)]
    simp [legG, blG]
  | g :: gs, g0, order, hl, hn, h1, h2 => by
    rw [List.flatten_cons, List.length_append] at hl
    have ho : order = order.take g.length ++ order.drop g.length := (List.take_append_drop _ _).symm
    have hla : (order.take g.length).length = g.length := by rw [List.length_take]; omega
    have hlb : (order.drop g.length).length = gs.flatten.length := by rw [List.length_drop]; omega
    obtain ⟨A, hA⟩ : ∃ A, A = order.take g.length := ⟨_, rfl⟩
    obtain ⟨B, hB⟩ : ∃ B, B = order.drop g.length := ⟨_, rfl⟩
    rw [legG, ← hA, ← hB]
    rw [← hA, ← hB] at ho
    rw [← hA] at hla
    rw [← hB] at hlb
    subst ho
    obtain ⟨n1, n2, _⟩ := List.nodup_append.1 hn
    have ih := leg_iff (st := st) gs (g0 + 1) B hlb n2 (fun gi g' x hg hx hs => h1 (gi + 1) g' x hg (by simp [hx]) (by omega)) (fun gi g' x hg hx => by have := h2 (gi + 1) g' x hg hx; omega)
    rw [Bool.and_eq_true, beq_iff_eq, sortI_eq, ih, List.map_append, blG]
    have hAg : A.Perm (nats g) ↔ A.map st = List.replicate g.length g0 := by
      constructor
      · intro hp
        rw [List.eq_replicate_iff]
        refine ⟨by rw [List.length_map, hla], fun z hz => ?_⟩
        obtain ⟨x, hx, rfl⟩ := List.mem_map.1 hz
        have := h2 0 g x rfl (hp.mem_iff.1 hx)
        omega
      · intro hm
        refine perm_of_sub n1 (fun x hx => ?_) (by rw [nats_len, hla]; exact Nat.le_refl _)
        refine h1 0 g x rfl (by simp [hx]) ?_
        have : st x ∈ A.map st := List.mem_map_of_mem hx
        rw [hm] at this
        rw [(List.mem_replicate.1 this).2]
        rfl
    rw [hAg]
    constructor
    · rintro ⟨e1, e2⟩
      rw [e1, e2]
    · intro e
      exact List.append_inj e (by rw [List.length_map, List.length_replicate, hla])

/-- Where the stages come from: systems in their order. -/
structure StO (s o : List Nat) (n : Nat) : Prop where
  nd : o.Nodup
  lt : ∀ i, i ∈ o → i < n
  len : o.length = n
def stI (s : List Nat) (x : Int) : Nat := s.getD x.toNat 0
theorem nats_mem {l : List Nat} {x : Int} : x ∈ nats l ↔ ∃ k : Nat, k ∈ l ∧ x = (k : Int) := by
  unfold nats
  rw [List.mem_map]
  exact ⟨fun ⟨k, h1, h2⟩ => ⟨k, h1, h2.symm⟩, fun ⟨k, h1, h2⟩ => ⟨k, h1, h2.symm⟩⟩
theorem grp_len (s o : List Nat) : (grp s o).flatten.length = o.length := by
  have h : ∀ m, ((List.range m).map (fun g => o.filter (fun i => s.getD i 0 == g))).flatten.length = cntS s o m := by
    intro m
    induction m with
    | zero => rw [cntS_zero]; rfl
    | succ m ih =>
      rw [List.range_succ, List.map_append, List.flatten_append, List.length_append, ih, cntS_succ]
      simp
  unfold grp grK
  rw [List.take_length, h, cntS_all]
theorem grp_mem {s o : List Nat} {x : Int} : x ∈ ((grp s o).map nats).flatten ↔ x ∈ nats o := by
  rw [List.mem_flatten, nats_mem]
  constructor
  · rintro ⟨r, hr, hx⟩
    obtain ⟨g, hg, rfl⟩ := List.mem_map.1 hr
    obtain ⟨k, hk, rfl⟩ := nats_mem.1 hx
    obtain ⟨gi, hgi, rfl⟩ := List.getElem_of_mem hg
    rw [(grp_get (List.getElem?_eq_getElem hgi)).2] at hk
    exact ⟨k, (List.mem_filter.1 hk).1, rfl⟩
  · rintro ⟨k, hk, rfl⟩
    have hm := mxK_mem (s := s) (o := o) o.length k (by rw [List.take_length]; exact hk)
    have hg : (grp s o)[s.getD k 0]? = some (o.filter (fun i => s.getD i 0 == s.getD k 0)) := by
      unfold grp
      rw [grK_get hm, List.take_length]
    exact ⟨nats (o.filter (fun i => s.getD i 0 == s.getD k 0)), List.mem_map_of_mem (List.mem_of_getElem? hg), nats_mem.2 ⟨k, List.mem_filter.2 ⟨hk, by simp⟩, rfl⟩⟩
/-- All that the law asks of a row that was picked. -/
structure Picked (s o : List Nat) (P : List Int) : Prop where
  len : P.length = o.length
  leg : legG (grp s o) P = true
  mem : ∀ x, x ∈ P → ∃ k : Nat, k ∈ o ∧ x = (k : Int)
  swap : ∀ (i k : Nat) (hi : i < P.length) (hk : k < P.length), legG (grp s o) ((P.set i P[k]).set k P[i]) = decide (stI s P[i] = stI s P[k])
theorem picked {s o : List Nat} (hnd : o.Nodup) (p : List Int) : Picked s o (pkAll ((grp s o).map nats) p []) := by
  obtain ⟨Q, h1, h2⟩ := pkAll_perm ((grp s o).map nats) p []
  rw [List.nil_append] at h1
  rw [h1]
  have hmem : ∀ x, x ∈ Q.flatten ↔ x ∈ nats o := fun x => by rw [permAll_mem h2, grp_mem]
  have hst : ∀ gi g x, (grp s o)[gi]? = some g → x ∈ nats g → stI s x = 0 + gi := fun gi g x hg hx => by
    obtain ⟨k, hk, rfl⟩ := nats_mem.1 hx
    rw [(grp_get hg).2] at hk
    have := (List.mem_filter.1 hk).2
    unfold stI
    simp at this ⊢
    exact this
  have hnd2 : Q.flatten.Nodup := permAll_nodup (st := stI s) 0 h2 (fun gi g x hg hx => by
    rw [List.getElem?_map] at hg
    cases hgg : (grp s o)[gi]? with
    | none => rw [hgg] at hg; cases hg
    | some g' => rw [hgg] at hg; injection hg with hg; subst hg; exact hst gi g' x hgg hx) (fun g hg => by
    obtain ⟨g', hg', rfl⟩ := List.mem_map.1 hg
    obtain ⟨gi, hgi, rfl⟩ := List.getElem_of_mem hg'
    rw [(grp_get (List.getElem?_eq_getElem hgi)).2]
    unfold nats
    exact List.Pairwise.map _ (fun a b h e => h (Int.ofNat.inj e)) (hnd.filter _))
  have hlen : Q.flatten.length = (grp s o).flatten.length := by
    rw [permAll_len h2]
    have : ∀ G : List (List Nat), (G.map nats).flatten.length = G.flatten.length := by
      intro G
      induction G with
      | nil => rfl
      | cons g gs ih => rw [List.map_cons, List.flatten_cons, List.flatten_cons, List.length_append, List.length_append, ih, nats_len]
    exact this _
  have hin : ∀ order : List Int, (∀ x, x ∈ order → x ∈ nats o) → ∀ gi g x, (grp s o)[gi]? = some g → x ∈ order → stI s x = 0 + gi → x ∈ nats g := fun order ho gi g x hg hx hs => by
    obtain ⟨k, hk, rfl⟩ := nats_mem.1 (ho x hx)
    rw [(grp_get hg).2]
    refine nats_mem.2 ⟨k, List.mem_filter.2 ⟨hk, ?_⟩, rfl⟩
    unfold stI at hs
    simp at hs ⊢
    exact hs
  have hleg := legG_perm _ Q h2
  have hmap := (leg_iff (grp s o) 0 Q.flatten hlen hnd2 (hin _ (fun x hx => (hmem x).1 hx)) hst).1 hleg
  refine ⟨by rw [hlen, grp_len], hleg, fun x hx => nats_mem.1 ((hmem x).1 hx), fun i k hi hk => ?_⟩
  have hperm := List.set_set_perm hi hk
  have hiff := leg_iff (st := stI s) (grp s o) 0 ((Q.flatten.set i Q.flatten[k]).set k Q.flatten[i]) (by rw [hperm.length_eq, hlen]) (hperm.symm.nodup hnd2) (hin _ (fun x hx => (hmem x).1 (hperm.mem_iff.1 hx))) hst
  rw [Bool.eq_iff_iff, hiff, decide_eq_true_eq, ← hmap, List.map_set, List.map_set]
  constructor
  · intro e
    have e2 := congrArg (fun l => l[k]?) e
    simp only [List.getElem?_map] at e2
    rw [List.getElem?_set_self (by rw [List.length_set, List.length_map]; exact hk), List.getElem?_eq_getElem hk] at e2
    injection e2
  · intro e
    apply List.ext_getElem?
    intro j
    by_cases hjk : k = j
    · subst hjk
      rw [List.getElem?_set_self (by rw [List.length_set, List.length_map]; exact hk), List.getElem?_map, List.getElem?_eq_getElem hk, e]
      rfl
    · rw [List.getElem?_set_ne hjk]
      by_cases hji : i = j
      · subst hji
        rw [List.getElem?_set_self (by rw [List.length_map]; exact hi), List.getElem?_map, List.getElem?_eq_getElem hi, ← e]
        rfl
      · rw [List.getElem?_set_ne hji]
end Go.Proofs.Ytbigknmeooaidaa
