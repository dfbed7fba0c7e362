/-
  LazyBounds: as many ops wait as may.
-/
import Derived.Test.YtnadfefjmoibeaaLazyLaws
namespace Go.Proofs.Ytnadfefjmoibeaa
open Go Go.RowKit

theorem flatOp_set (o : OpV) : ∀ (l : List OpV) (k : Nat), k < l.length →
    ((((((((flatOp l).set (k * 7) (.int .i64 o.kind)).set (k * 7 + 1) (.int .i64 o.hi)).set (k * 7 + 2) (.int .i64 o.hg)).set (k * 7 + 3) (.int .i64 o.c)).set (k * 7 + 4) (.int .i64 o.vk)).set (k * 7 + 5) (.int .i64 o.va)).set (k * 7 + 6) (.int .i64 o.vb)) = flatOp (l.set k o)
  | [], _, h => by simp at h
  | x :: t, 0, _ => by simp [flatOp, OpV.cells]
  | x :: t, k + 1, h => by
    have ih := flatOp_set o t k (by simpa using h)
    have e : (k + 1) * 7 = k * 7 + 7 := by omega
    rw [e]
    simp only [flatOp, List.flatMap_cons, OpV.cells, List.cons_append, List.nil_append, List.set_cons_succ, Nat.add_right_comm _ 7] at ih ⊢
    rw [ih]

theorem zeros_op (n : Nat) : (madeCells #[.int .i64 0, .int .i64 0, .int .i64 0, .int .i64 0, .int .i64 0, .int .i64 0, .int .i64 0] (n * 7)).toList = flatOp (List.replicate n ⟨0, 0, 0, 0, 0, 0, 0⟩) := by
  have h : ∀ n, (List.range (n * 7)).map (fun j => (#[Value.int .i64 0, .int .i64 0, .int .i64 0, .int .i64 0, .int .i64 0, .int .i64 0, .int .i64 0])[j % 7]!) = flatOp (List.replicate n ⟨0, 0, 0, 0, 0, 0, 0⟩) := by
    intro n
    induction n with
    | zero => rfl
    | succ n ih =>
      have e : (n + 1) * 7 = 7 + n * 7 := by omega
      rw [e, List.range_add, List.map_append, List.map_map, List.replicate_succ]
      have e2 : (fun j => (#[Value.int .i64 0, .int .i64 0, .int .i64 0, .int .i64 0, .int .i64 0, .int .i64 0, .int .i64 0])[j % 7]!) ∘ (fun x => 7 + x) = fun j => (#[Value.int .i64 0, .int .i64 0, .int .i64 0, .int .i64 0, .int .i64 0, .int .i64 0, .int .i64 0])[j % 7]! := by
        funext j
        simp [Nat.add_mod_left]
      rw [e2, ih]
      rfl
  simpa [madeCells] using h n

theorem opInfo : ∃ i, Try.prog.info? 45 = some i ∧ i.zero = some (.agg #[.int .i64 0, .int .i64 0, .int .i64 0, .int .i64 0, .int .i64 0, .int .i64 0, .int .i64 0]) ∧ i.size = 7 ∧ i.bytes = 56 := by
  have h : (Try.prog.info? 45).map (fun i => (i.zero, i.size, i.bytes)) = some (some (.agg #[.int .i64 0, .int .i64 0, .int .i64 0, .int .i64 0, .int .i64 0, .int .i64 0, .int .i64 0]), 7, 56) := by kernel_rfl
  obtain ⟨i, h1, h2⟩ := Option.map_eq_some_iff.1 h
  injection h2 with h2 h3
  injection h3 with h3 h4
  exact ⟨i, h1, h2, h3, h4⟩

/-- make([]Op, n). -/
theorem make_op (n : Nat) (hn : n ≤ 100000) (w : World) : ∃ w', (Instr.makeSlice 50 (.int .i64 (n : Int)) (.int .i64 (n : Int))).run Try.prog w = .ok (.slice (some ⟨w.heap.size, 0, none⟩) n n) w' ∧
    Own (New w w') w' 45 7 (.slice (some ⟨w.heap.size, 0, none⟩) n n) n (flatOp (List.replicate n ⟨0, 0, 0, 0, 0, 0, 0⟩)) ∧ Keep w w' Nope := by
  obtain ⟨i, h1, h2, h3, h4⟩ := opInfo
  obtain ⟨w', h5, h6, h7⟩ := run_make_full (P := Try.prog) w 0 50 45 i _ 7 Try.underlying50 h1 h2 h3 .i64 .i64 n (by rw [h4]; omega) (by unfold maxLen; omega) (Nat.zero_le _)
  have hk : Keep w w' Nope := (Keep.refl w Nope).grown h7 (fun k h => by cases h)
  refine ⟨w', h5, ⟨⟨by rw [flatOp_len]; simp, ?_⟩, fun g hg => ?_⟩, hk⟩
  · have := h6.2
    rw [show (Value.agg #[.int .i64 0, .int .i64 0, .int .i64 0, .int .i64 0, .int .i64 0, .int .i64 0, .int .i64 0]).cells = #[.int .i64 0, .int .i64 0, .int .i64 0, .int .i64 0, .int .i64 0, .int .i64 0, .int .i64 0] from rfl, zeros_op] at this
    exact this
  · have e : g = w.heap.size := by simp [Value.ownBlock] at hg; exact hg.symm
    subst e
    exact ⟨Nat.le_refl _, (h6.lt _ (by simp [Value.ownBlock])).2⟩

theorem own_set {S : Nat → Prop} {w : World} {e : TypeId} {size g n c : Nat} {xs : List Value} (h : Own S w e size (.slice (some ⟨g, 0, none⟩) n c) n xs) (hn : 0 < n) (j : Nat) (u : Value) : Own S (w.setCell ⟨g, j, none⟩ u) e size (.slice (some ⟨g, 0, none⟩) n c) n (xs.set j u) := by
  obtain ⟨g3, hg3, _, _, _, _, hst⟩ := h.head hn
  injection hg3 with hg3; injection hg3 with hg3; subst hg3
  exact hst j u
/-- A whole op is stored into a row of the call's own. -/
theorem own_setOp {S : Nat → Prop} {w : World} {g n c : Nat} {l : List OpV} (h : Own S w 45 7 (.slice (some ⟨g, 0, none⟩) n c) n (flatOp l)) (k : Nat) (hk : k < l.length) (o : OpV) :
    Own S (((((((w.setCell ⟨g, k * 7, none⟩ (.int .i64 o.kind)).setCell ⟨g, k * 7 + 1, none⟩ (.int .i64 o.hi)).setCell ⟨g, k * 7 + 2, none⟩ (.int .i64 o.hg)).setCell ⟨g, k * 7 + 3, none⟩ (.int .i64 o.c)).setCell ⟨g, k * 7 + 4, none⟩ (.int .i64 o.vk)).setCell ⟨g, k * 7 + 5, none⟩ (.int .i64 o.va)).setCell ⟨g, k * 7 + 6, none⟩ (.int .i64 o.vb)) 45 7 (.slice (some ⟨g, 0, none⟩) n c) n (flatOp (l.set k o)) := by
  have hn : 0 < n := by have := h.len; rw [flatOp_len] at this; omega
  rw [← flatOp_set o l k hk]
  exact own_set (own_set (own_set (own_set (own_set (own_set (own_set h hn _ _) hn _ _) hn _ _) hn _ _) hn _ _) hn _ _) hn _ _
theorem keep_setOp {S : Nat → Prop} {a w : World} {g : Nat} (h : Keep a w S) (hg : S g) (k : Nat) (o : OpV) :
    Keep a (((((((w.setCell ⟨g, k * 7, none⟩ (.int .i64 o.kind)).setCell ⟨g, k * 7 + 1, none⟩ (.int .i64 o.hi)).setCell ⟨g, k * 7 + 2, none⟩ (.int .i64 o.hg)).setCell ⟨g, k * 7 + 3, none⟩ (.int .i64 o.c)).setCell ⟨g, k * 7 + 4, none⟩ (.int .i64 o.vk)).setCell ⟨g, k * 7 + 5, none⟩ (.int .i64 o.va)).setCell ⟨g, k * 7 + 6, none⟩ (.int .i64 o.vb)) S :=
  ((((((h.setCell (.inl hg) _).setCell (.inl hg) _).setCell (.inl hg) _).setCell (.inl hg) _).setCell (.inl hg) _).setCell (.inl hg) _).setCell (.inl hg) _

theorem rd_take {S : Nat → Prop} {w : World} {g c n : Nat} {l : List OpV} (h : Rd S w (.slice (some ⟨g, 0, none⟩) n c) n (flatOp l)) (m : Nat) (hm : m ≤ n) : Rd S w (.slice (some ⟨g, 0, none⟩) m c) m (flatOp (l.take m)) := by
  obtain ⟨a', c', he, h1, h2, h3, h4⟩ := h
  injection he with e1 _ e3
  subst e1; subst e3
  refine ⟨_, _, rfl, by omega, h2, (fun h => by cases h), fun j u hu => h4 j u ?_⟩
  have e : flatOp l = flatOp (l.take m) ++ flatOp (l.drop m) := by rw [← flatOp_app, List.take_append_drop]
  rw [e, List.getElem?_append_left (List.getElem?_eq_some_iff.1 hu).1]
  exact hu
theorem q_lenN (S : Nat → Prop) (b : Nat) (l : List OpV) (w : World) (m : Nat) (hm : l.length = m) (h : IsQ S w b l) :
    Calls Try.prog 21 #[.pointer (some ⟨b, 0, none⟩)] w (fun e w' => e = .returned (.int .i64 m) ∧ w = w') := by
  subst hm
  exact q_len S b l w h

theorem IsQ.self {S : Nat → Prop} {w : World} {b : Nat} {l : List OpV} (h : IsQ S w b l) : S b := by obtain ⟨_, _, _, _, h, _⟩ := h; exact h

/-- Two queues and a row of ops that is only read, apart from one another. -/
structure Two (B : Nat) (w : World) (b b2 g n c : Nat) (F F2 FA : Nat → Prop) (l x y : List OpV) : Prop where
  q : IsQ F w b x
  q2 : IsQ F2 w b2 y
  o : Rd FA w (.slice (some ⟨g, 0, none⟩) n c) n (flatOp l)
  d : ∀ i, F i → F2 i → False
  dA : ∀ i, F i → FA i → False
  dA2 : ∀ i, F2 i → FA i → False
  bq : ∀ i, F i → B ≤ i ∧ i < w.heap.size
  bq2 : ∀ i, F2 i → B ≤ i ∧ i < w.heap.size
  ba : ∀ i, FA i → i < w.heap.size
theorem Two.keep {B : Nat} {w w' : World} {b b2 g n c : Nat} {F F2 FA : Nat → Prop} {l x y : List OpV} (h : Two B w b b2 g n c F F2 FA l x y) (hk : Keep w w' Nope) : Two B w' b b2 g n c F F2 FA l x y :=
  ⟨h.q.keep hk (fun _ _ f => f), h.q2.keep hk (fun _ _ f => f), h.o.keep hk (fun _ _ f => f), h.d, h.dA, h.dA2, fun i hi => ⟨(h.bq i hi).1, Nat.lt_of_lt_of_le (h.bq i hi).2 hk.size⟩, fun i hi => ⟨(h.bq2 i hi).1, Nat.lt_of_lt_of_le (h.bq2 i hi).2 hk.size⟩, fun i hi => Nat.lt_of_lt_of_le (h.ba i hi) hk.size⟩
/-- The first queue changed. -/
theorem Two.set1 {B : Nat} {w w' : World} {b b2 g n c : Nat} {F F2 FA Fr : Nat → Prop} {l x x' y : List OpV} (h : Two B w b b2 g n c F F2 FA l x y) (hB : B ≤ w.heap.size) (hk : Keep w w' F) (hr : ∀ i, Fr i → F i ∨ New w w' i) (hq : IsQ Fr w' b x') : Two B w' b b2 g n c Fr F2 FA l x' y :=
  ⟨hq, h.q2.keep hk (fun i h1 h2 => h.d i h2 h1), h.o.keep hk (fun i h1 h2 => h.dA i h2 h1),
    fun i h1 h2 => (hr i h1).elim (fun h3 => h.d i h3 h2) (fun h3 => by have := h3.1; have := (h.bq2 i h2).2; omega),
    fun i h1 h2 => (hr i h1).elim (fun h3 => h.dA i h3 h2) (fun h3 => by have := h3.1; have := h.ba i h2; omega), h.dA2,
    fun i hi => (hr i hi).elim (fun h3 => ⟨(h.bq i h3).1, Nat.lt_of_lt_of_le (h.bq i h3).2 hk.size⟩) (fun h3 => ⟨Nat.le_trans hB h3.1, h3.2⟩),
    fun i hi => ⟨(h.bq2 i hi).1, Nat.lt_of_lt_of_le (h.bq2 i hi).2 hk.size⟩, fun i hi => Nat.lt_of_lt_of_le (h.ba i hi) hk.size⟩
theorem Two.swap {B : Nat} {w : World} {b b2 g n c : Nat} {F F2 FA : Nat → Prop} {l x y : List OpV} (h : Two B w b b2 g n c F F2 FA l x y) : Two B w b2 b g n c F2 F FA l y x :=
  ⟨h.q2, h.q, h.o, fun i h1 h2 => h.d i h2 h1, h.dA2, h.dA, h.bq2, h.bq, h.ba⟩

theorem Two.qs {B : Nat} {w : World} {b b2 g n c : Nat} {F F2 FA : Nat → Prop} {l x y : List OpV} (h : Two B w b b2 g n c F F2 FA l x y) (hne : b2 ≠ b) (hx : ∀ o, o ∈ x → okOp o = true) (hy : ∀ o, o ∈ y → okOp o = true) :
    Qs [b, b2] (fun k i => (k = b ∧ F i) ∨ (k = b2 ∧ F2 i)) w (fun k => if k = b then x else y) := by
  refine ⟨fun k hk => ?_, fun k k' hk hk' hkk i h1 h2 => ?_, fun k hk i hi => ?_, fun k hk o ho => ?_⟩
  · rcases List.mem_cons.1 hk with rfl | hk
    · rw [if_pos rfl]
      exact h.q.mono (fun i hi => .inl ⟨rfl, hi⟩)
    · obtain rfl : k = b2 := by simpa using hk
      rw [if_neg hne]
      exact h.q2.mono (fun i hi => .inr ⟨rfl, hi⟩)
  · rcases h1 with ⟨e1, h1⟩ | ⟨e1, h1⟩ <;> rcases h2 with ⟨e2, h2⟩ | ⟨e2, h2⟩
    · exact hkk (e1.trans e2.symm)
    · exact h.d i h1 h2
    · exact h.d i h2 h1
    · exact hkk (e1.trans e2.symm)
  · rcases hi with ⟨_, hi⟩ | ⟨_, hi⟩
    · exact (h.bq i hi).2
    · exact (h.bq2 i hi).2
  · by_cases e : k = b
    · rw [if_pos e] at ho; exact hx o ho
    · rw [if_neg e] at ho; exact hy o ho

def RetTwo (B : Nat) (w : World) (b b2 g n c : Nat) (F F2 FA : Nat → Prop) (l x y : List OpV) (e : Ending) (w' : World) : Prop :=
  (10000 < x.length + y.length ∧ e = .returned (.int .i64 2) ∧ Two B w' b b2 g n c F F2 FA l x y ∧ Below B w w') ∨
    (x.length + y.length ≤ 10000 ∧ e = .returned (.int .i64 0) ∧ (∃ F' F2', Two B w' b b2 g n c F' F2' FA l (x ++ y) []) ∧ Below B w w')

/-- The second queue is joined to the first. -/
theorem join_two {B : Nat} {w : World} {b b2 g n c : Nat} {F F2 FA : Nat → Prop} {l x y : List OpV} (h : Two B w b b2 g n c F F2 FA l x y) (hne : b2 ≠ b) (hB : B ≤ w.heap.size) (hx : ∀ o, o ∈ x → okOp o = true) (hy : ∀ o, o ∈ y → okOp o = true) :
    Calls Try.prog 23 #[.pointer (some ⟨b, 0, none⟩), .slice (some ⟨w.heap.size, 0, none⟩) 1 1] (w.alloc (.cells #[.pointer (some ⟨b2, 0, none⟩)] 46)) (RetTwo B w b b2 g n c F F2 FA l x y) := by
  have K1 : Keep w (w.alloc (.cells #[.pointer (some ⟨b2, 0, none⟩)] 46)) Nope := (Keep.refl w Nope).alloc _
  have h1 := h.keep K1
  have RP := (Own.lit (S := fun i => i = w.heap.size) w 46 1 1 #[.pointer (some ⟨b2, 0, none⟩)] (by decide) rfl rfl).rd
  have hsz : (w.alloc (.cells #[.pointer (some ⟨b2, 0, none⟩)] 46)).heap.size = w.heap.size + 1 := World.size_alloc _ _
  refine (q_join [b, b2] _ (fun i => i = w.heap.size) b [some b2] _ _ _ (h1.qs hne hx hy) (by simp) (by simp) RP (fun k hk i h2 h3 => ?_) (fun i h => by omega)).mono ?_
  · rcases h2 with ⟨_, h2⟩ | ⟨_, h2⟩
    · have := (h.bq i h2).2; omega
    · have := (h.bq2 i h2).2; omega
  have hall : allOf (fun k => if k = b then x else y) [some b2] = y := by simp [allOf, hne]
  rintro e w' (⟨hle, rfl, ⟨FS', hqs, hfs⟩, hk⟩ | ⟨hbad, rfl, hk⟩)
  · rw [hall] at hle
    simp only [if_true] at hle
    have hqb := hqs.q b (by simp)
    have hqq := hqs.q b2 (by simp)
    simp only [hall, if_true] at hqb
    rw [if_neg hne, if_pos (by simp)] at hqq
    have hk' : Keep w w' (fun i => F i ∨ F2 i) := (K1.mono (T := fun i => F i ∨ F2 i) (fun i f => f.elim)).trans (hk.mono (T := fun i => F i ∨ F2 i) (fun i hi => by
      obtain ⟨k, _, h1 | h1⟩ := hi
      · exact .inl (.inl h1.2)
      · exact .inl (.inr h1.2))) (fun i h => .inl h)
    have hf1 : ∀ i, FS' b i → F i ∨ New w w' i := fun i hi => (hfs b i hi).elim (fun h => h.elim (fun h => .inl h.2) (fun h => (hne h.1.symm).elim)) (fun h => .inr ⟨by have := h.1; omega, h.2⟩)
    have hf2 : ∀ i, FS' b2 i → F2 i ∨ New w w' i := fun i hi => (hfs b2 i hi).elim (fun h => h.elim (fun h => (hne h.1).elim) (fun h => .inl h.2)) (fun h => .inr ⟨by have := h.1; omega, h.2⟩)
    have hs := hk'.size
    refine .inr ⟨hle, rfl, ⟨FS' b, FS' b2, hqb, hqq, h.o.keep hk' (fun i h1 h2 => h2.elim (fun h3 => h.dA i h3 h1) (fun h3 => h.dA2 i h3 h1)), hqs.d b b2 (by simp) (by simp) (fun e => hne e.symm), ?_, ?_, ?_, ?_, ?_⟩, hk'.belowAt (B := B) (fun i h2 => h2.elim (fun h3 => (h.bq i h3).1) (fun h3 => (h.bq2 i h3).1)) hB⟩
    · exact fun i h2 h3 => (hf1 i h2).elim (fun h4 => h.dA i h4 h3) (fun h4 => by have := h4.1; have := h.ba i h3; omega)
    · exact fun i h2 h3 => (hf2 i h2).elim (fun h4 => h.dA2 i h4 h3) (fun h4 => by have := h4.1; have := h.ba i h3; omega)
    · exact fun i h2 => (hf1 i h2).elim (fun h4 => ⟨(h.bq i h4).1, by have := (h.bq i h4).2; omega⟩) (fun h4 => ⟨by have := h4.1; omega, h4.2⟩)
    · exact fun i h2 => (hf2 i h2).elim (fun h4 => ⟨(h.bq2 i h4).1, by have := (h.bq2 i h4).2; omega⟩) (fun h4 => ⟨by have := h4.1; omega, h4.2⟩)
    · exact fun i h2 => by have := h.ba i h2; omega
  · rw [hall] at hbad
    simp only [if_true] at hbad
    exact .inl ⟨hbad, rfl, h1.keep hk, (K1.belowAt (B := B) (fun i f => f.elim) hB).trans (hk.belowAt (B := B) (fun i f => f.elim) (by omega))⟩

/-- The fill loop's head. -/
def LoopLB (w2 w3 : World) (g2 M g : Nat) (v31 : Value) (wr : World) : Prop :=
  ∃ (k : Nat) (l : List OpV), g + k = M ∧ v31 = .int .i64 k ∧ l.length = M ∧ (∀ o, o ∈ l.take k → okOp o = true) ∧ Own (New w2 w3) wr 45 7 (.slice (some ⟨g2, 0, none⟩) M M) M (flatOp l) ∧ Keep w3 wr (New w2 w3)

set_option maxRecDepth 100000 in
set_option maxHeartbeats 4000000 in
theorem lazyBounds_walk (x y : Int) (w : World) :
    Calls Try.prog 7 #[.int .i64 x, .int .i64 y] w (RetTrue w) := by
  obtain ⟨N, hN, hN8⟩ : ∃ N : Nat, bits .and .i64 x 7 = (N : Int) ∧ N < 8 := by
    rw [and_mask x 3 7 (by omega) rfl]
    exact ⟨(x % 8).toNat, by omega, by omega⟩
  obtain ⟨K, hK, hK16⟩ : ∃ K : Nat, bits .and .i64 y 15 = (K : Int) ∧ K < 16 := by
    rw [and_mask y 4 15 (by omega) rfl]
    exact ⟨(y % 16).toNat, by omega, by omega⟩
  go_enter Try.func7, Try.ntmps7
  go_wp2_with fail
  have e : ((N : Int) + 9990) = ((N + 9990 : Nat) : Int) := by omega
  rw [e]
  obtain ⟨M, hM⟩ : ∃ M, M = N + 9990 := ⟨_, rfl⟩
  rw [← hM]
  have hM1 : 9990 ≤ M := by omega
  have hM2 : M < 9998 := by omega
  clear hM e hN8 hN
  refine (q_new _).mono ?_
  rintro e w1 ⟨b, rfl, hq, hk⟩
  have HQ1 := Lib.hid hq; clear hq
  have HB1 := Lib.hid hk.below; clear hk
  go_wp2_with fail
  refine (q_new _).mono ?_
  rintro e w2 ⟨b2, rfl, hq, hk⟩
  have hd : b ≠ b2 := fun e => by
    obtain ⟨_, _, _, _, h1, _⟩ := HQ1.out
    obtain ⟨_, _, _, _, h2, _⟩ := hq
    have := h1.2; have := h2.1; omega
  have HQ2 := Lib.hid hq; clear hq
  have HQ1b := Lib.hid (HQ1.out.keep hk (fun _ _ f => f))
  have HB2 := Lib.hid (HB1.out.trans (hk.belowAt (B := w.heap.size) (fun i h => h.elim) HB1.out.size))
  have hs2 := hk.size
  clear hk
  obtain ⟨w3, hmk, ho, hk⟩ := make_op M (by omega) w2
  have HQ1c := Lib.hid (HQ1b.out.keep hk (fun _ _ f => f))
  have HQ2c := Lib.hid (HQ2.out.keep hk (fun _ _ f => f))
  have HB3 := Lib.hid (HB2.out.trans (hk.belowAt (B := w.heap.size) (fun i h => h.elim) HB2.out.size))
  have hs3 := hk.size
  have HO := Lib.hid ho; clear ho hk
  have hg2 := (HO.out.1.lt w2.heap.size (by simp [Value.ownBlock])).2
  obtain ⟨g2, hg⟩ : ∃ g : Nat, g = w2.heap.size := ⟨_, rfl⟩
  rw [← hg] at hmk hg2
  have HO2 := Lib.hid (show Own (New w2 w3) w3 45 7 (.slice (some ⟨g2, 0, none⟩) M M) M (flatOp (List.replicate M ⟨0, 0, 0, 0, 0, 0, 0⟩)) by rw [hg]; exact HO.out)
  clear HO
  have HN2 := Lib.hid (show New w2 w3 g2 from ⟨by omega, hg2⟩)
  clear hg
  go_wp2_with fail
  clear hmk
  go_loopg [31] M (fun g v31 wr => LoopLB w2 w3 g2 M g v31 wr)
  case atStart => exact ⟨0, _, rfl, rfl, by simp, by simp, HO2.out, Keep.refl _ _⟩
  case round =>
    obtain ⟨k, l, hk, rfl, hl, hok, ho, hkp⟩ := hrel
    have hkl : k ≤ M := by omega
    have HK := Lib.hid hk; clear hk
    have HL := Lib.hid hl; clear hl
    have HOK := Lib.hid hok; clear hok
    have HO := Lib.hid ho; clear ho
    have HP := Lib.hid hkp; clear hkp
    by_cases hlt : k < M
    · obtain ⟨g3, hg3, _, _, hfz, hcl, hst⟩ := HO.out.head (by omega)
      injection hg3 with hg3; injection hg3 with hg3; subst hg3
      obtain ⟨x0, hx0⟩ : ∃ x, l[k]? = some x := ⟨_, List.getElem?_eq_getElem (by rw [HL.out]; exact hlt)⟩
      have cc : ∀ j, j < 7 → wr.cell? ⟨g2, k * 7 + j, none⟩ = x0.cells[j]? := fun j hj => by
        rw [hcl _ (by omega)]
        exact flat_get OpV.cells 7 (fun _ => rfl) l k j x0 hx0 hj
      have c0 := cc 0 (by decide)
      have c1 := cc 1 (by decide)
      have c2 := cc 2 (by decide)
      have c3 := cc 3 (by decide)
      have c4 := cc 4 (by decide)
      have c5 := cc 5 (by decide)
      have c6 := cc 6 (by decide)
      simp [OpV.cells] at c0 c1 c2 c3 c4 c5 c6
      have HST := Lib.hid hst; clear hst hcl cc hx0
      go_wp2_with fail
      go_roundg (M - (k + 1))
      case measure => have := HK.out; omega
      case rel =>
        refine ⟨k + 1, l.set k ⟨1, k, 0, 0, 0, 0, 0⟩, by omega, by go_num, by rw [List.length_set]; exact HL.out, fun o ho => ?_, own_setOp HO.out k (by rw [HL.out]; exact hlt) ⟨1, k, 0, 0, 0, 0, 0⟩, keep_setOp HP.out HN2.out k ⟨1, k, 0, 0, 0, 0, 0⟩⟩
        rw [List.take_add_one, List.take_set_of_le (Nat.le_refl _), List.mem_append] at ho
        rcases ho with ho | ho
        · exact HOK.out o ho
        · rw [List.getElem?_set_self (by rw [HL.out]; exact hlt)] at ho
          simp at ho
          subst ho
          rfl
    · have hke : k = M := by omega
      have hOK : ∀ o, o ∈ l → okOp o = true := by have := HOK.out; rwa [List.take_of_length_le (by rw [HL.out]; omega)] at this
      have HOK2 := Lib.hid hOK; clear hOK HOK HK
      have HQ1d := Lib.hid (HQ1c.out.keep HP.out (fun i h1 h2 => by have := h1.2; have := h2.1; omega))
      have HQ2d := Lib.hid (HQ2c.out.keep HP.out (fun i h1 h2 => by have := h1.2; have := h2.1; omega))
      have HBr := Lib.hid (HB3.out.trans (HP.out.belowAt (B := w.heap.size) (fun i h => by have := h.1; have := HB2.out.size; omega) HB3.out.size))
      have hsr := HP.out.size
      have HT := Lib.hid (show Two w.heap.size wr b b2 g2 M M (New w w1) (New w1 w2) (New w2 w3) l [] [] from
        ⟨HQ1d.out, HQ2d.out, HO.out.rd, fun i h1 h2 => by have := h1.2; have := h2.1; omega, fun i h1 h2 => by have := h1.2; have := h2.1; omega, fun i h1 h2 => by have := h1.2; have := h2.1; omega,
          fun i h => ⟨h.1, by have := h.2; omega⟩, fun i h => ⟨by have := h.1; have := HB1.out.size; omega, by have := h.2; omega⟩, fun i h => by have := h.2; omega⟩)
      clear HP HO HQ1d HQ2d HQ1c HQ2c HQ1b HQ2 HQ1 HB1 HB2 HB3 HO2 HN2
      have hszr := HBr.out.size
      have hany : ∀ m, (l.take m).any (fun o => !okOp o) = false := fun m => by
        rw [List.any_eq_false]
        intro o ho
        simp [HOK2.out o (List.mem_of_mem_take ho)]
      have HANY := Lib.hid hany; clear hany
      have hall : l.any (fun o => !okOp o) = false := by
        rw [List.any_eq_false]
        intro o ho
        simp [HOK2.out o ho]
      have HALL := Lib.hid hall; clear hall
      have hlk : ∀ m, m ≤ M → (l.take m).length = m := fun m hm => by rw [List.length_take, HL.out]; omega
      have HLK := Lib.hid hlk; clear hlk
      go_wp2_with fail
      refine (q_add (New w w1) (New w2 w3) b [] l _ _ HT.out.q (HL.out ▸ HT.out.o) HALL.out (by rw [HL.out]; simp; omega)).mono ?_
      rintro e w4 ⟨rfl, hq4, hk4⟩
      have HT4 := Lib.hid (HT.out.set1 hszr hk4 (fun i h => h) hq4)
      have HB4 := Lib.hid (HBr.out.trans (hk4.belowAt (B := w.heap.size) (fun i h => h.1) hszr))
      clear hq4 hk4
      have hs4 := HB4.out.size
      go_wp2_with fail
      refine (q_add (New w1 w2) (New w2 w3) b2 [] (l.take K) _ _ HT4.out.q2 (by have := rd_take HT4.out.o K (by omega); rw [HLK.out K (by omega)]; exact this) (HANY.out K) (by rw [HLK.out K (by omega)]; simp; omega)).mono ?_
      rintro e w5 ⟨rfl, hq5, hk5⟩
      have HT5 := Lib.hid (HT4.out.swap.set1 hs4 hk5 (fun i h => h) hq5).swap
      have HB5 := Lib.hid (HB4.out.trans (hk5.belowAt (B := w.heap.size) (fun i h => (HT4.out.bq2 i h).1) hs4))
      clear hq5 hk5
      have hs5 := HB5.out.size
      obtain ⟨F, F2, FA, HT6⟩ : ∃ F F2 FA, Hid (Two w.heap.size w5 b b2 g2 M M F F2 FA l l (l.take K)) := ⟨_, _, _, HT5⟩
      clear HT HT4 HT5 HBr HB4 hs4 hsr hszr
      have HX := Lib.hid (show (l ++ l.take K).length = M + K by rw [List.length_append, HLK.out K (by omega), HL.out])
      have HKO := Lib.hid (show ∀ o, o ∈ l.take K → okOp o = true from fun o ho => HOK2.out o (List.mem_of_mem_take ho))
      obtain ⟨P, hP⟩ : ∃ P : Nat, P = M + K := ⟨_, rfl⟩
      rw [← hP] at HX
      have hmk : (M : Int) + (K : Int) = (P : Int) := by omega
      by_cases hmany : 10000 < P
      · have hm' : (10000 : Int) < (P : Int) := by omega
        have HPP := Lib.hid hP; clear hP
        go_wp2_with fail
        refine (join_two HT6.out (fun e => hd e.symm) hs5 HOK2.out HKO.out).mono ?_
        rintro e w6 (⟨_, rfl, ht, hb⟩ | ⟨hbad, _⟩)
        rotate_left
        · exfalso
          rw [HLK.out K (by omega), HL.out] at hbad
          have := HPP.out
          omega
        have HT7 := Lib.hid ht; clear ht
        have HB7 := Lib.hid (HB5.out.trans hb); clear hb
        go_wp2_with fail
        refine (q_lenN _ b _ _ M HL.out HT7.out.q).mono ?_
        rintro e w7 ⟨rfl, rfl⟩
        go_wp2_with fail
        refine (q_lenN _ b2 _ _ K (HLK.out K (by omega)) HT7.out.q2).mono ?_
        rintro e w7 ⟨rfl, rfl⟩
        go_wp2_with fail
        obtain ⟨r, hr⟩ : ∃ r : Nat, M + r = 10000 := ⟨10000 - M, by omega⟩
        obtain ⟨r1, hr1⟩ : ∃ r1 : Nat, r1 = r + 1 := ⟨_, rfl⟩
        have hri : (10000 : Int) - (M : Int) = (r : Int) := by omega
        have hr1i : (r : Int) + 1 = (r1 : Int) := by omega
        have hr1M : r1 ≤ M := by omega
        have hrM : r ≤ M := by omega
        have HR := Lib.hid hr; clear hr
        have HR1 := Lib.hid hr1; clear hr1
        clear hmany hm'
        refine (q_lenN _ b _ _ M HL.out HT7.out.q).mono ?_
        rintro e w8 ⟨rfl, rfl⟩
        go_wp2_with fail
        refine (q_add_many _ _ b _ (l.take r1) _ _ HT7.out.q (by have := rd_take HT7.out.o r1 hr1M; rw [HLK.out r1 hr1M]; exact this) (HANY.out r1) (by rw [HLK.out r1 hr1M, HL.out]; have := HR.out; have := HR1.out; omega)).mono ?_
        rintro e w9 ⟨rfl, hk9⟩
        have HT9 := Lib.hid (HT7.out.keep hk9)
        have HB9 := Lib.hid (HB7.out.trans (hk9.belowAt (B := w.heap.size) (fun i h => h.elim) HB7.out.size))
        clear hk9
        have hs9 := HB9.out.size
        go_wp2_with fail
        refine (q_add _ _ b _ (l.take r) _ _ HT9.out.q (by have := rd_take HT9.out.o r hrM; rw [HLK.out r hrM]; exact this) (HANY.out r) (by rw [HLK.out r hrM, HL.out]; have := HR.out; omega)).mono ?_
        rintro e w10 ⟨rfl, hq10, hk10⟩
        have HT10 := Lib.hid (HT9.out.set1 hs9 hk10 (fun i h => h) hq10)
        have HB10 := Lib.hid (HB9.out.trans (hk10.belowAt (B := w.heap.size) (fun i h => (HT9.out.bq i h).1) hs9))
        have HZ := Lib.hid (show (l ++ l.take r).length = 10000 by rw [List.length_append, HLK.out r hrM, HL.out]; exact HR.out)
        clear hq10 hk10
        have hs10 := HB10.out.size
        go_wp2_with fail
        refine (q_lenN _ b _ _ 10000 HZ.out HT10.out.q).mono ?_
        rintro e w11 ⟨rfl, rfl⟩
        go_wp2_with fail
        refine (q_drain _ b _ _ HT10.out.q).mono ?_
        rintro e w12 ⟨a12, n12, c12, rfl, _, hn12, hq12, _, hk12⟩
        rw [HZ.out] at hn12
        subst hn12
        have hFb := HT10.out.q.self
        have HB12 := Lib.hid (HB10.out.trans (hk12.belowAt (B := w.heap.size) (fun i h => by rw [h]; exact (HT10.out.bq b hFb).1) hs10))
        have HQ12 := Lib.hid hq12
        clear hq12 hk12 hFb
        go_wp2_with fail
        refine (q_lenN _ b _ _ 0 rfl HQ12.out).mono ?_
        rintro e w13 ⟨rfl, rfl⟩
        go_wp2_with fail
        refine (awake14 _).mono ?_
        rintro e w14 ⟨rfl, hk14⟩
        have HB14 := Lib.hid (HB12.out.trans (hk14.mono HB12.out.size))
        clear hk14
        go_wp2_with fail
        go_ret
        exact ⟨rfl, HB14.out⟩
      · have hm' : ¬ (10000 : Int) < (P : Int) := by omega
        have hP2 : M ≤ P := by omega
        have HPP := Lib.hid hP; clear hP
        go_wp2_with fail
        refine (join_two HT6.out (fun e => hd e.symm) hs5 HOK2.out HKO.out).mono ?_
        rintro e w6 (⟨hbad, _⟩ | ⟨_, rfl, ⟨F', F2', ht⟩, hb⟩)
        · exfalso
          rw [HLK.out K (by omega), HL.out] at hbad
          have := HPP.out
          omega
        have HT7 := Lib.hid ht; clear ht
        have HB7 := Lib.hid (HB5.out.trans hb); clear hb
        go_wp2_with fail
        refine (q_lenN _ b _ _ P HX.out HT7.out.q).mono ?_
        rintro e w7 ⟨rfl, rfl⟩
        go_wp2_with fail
        refine (q_lenN _ b2 _ _ 0 rfl HT7.out.q2).mono ?_
        rintro e w7 ⟨rfl, rfl⟩
        go_wp2_with fail
        obtain ⟨r, hr⟩ : ∃ r : Nat, P + r = 10000 := ⟨10000 - P, by omega⟩
        obtain ⟨r1, hr1⟩ : ∃ r1 : Nat, r1 = r + 1 := ⟨_, rfl⟩
        have hri : (10000 : Int) - (P : Int) = (r : Int) := by omega
        have hr1i : (r : Int) + 1 = (r1 : Int) := by omega
        have hr1M : r1 ≤ M := by omega
        have hrM : r ≤ M := by omega
        have HR := Lib.hid hr; clear hr
        have HR1 := Lib.hid hr1; clear hr1
        clear hmany hm'
        refine (q_lenN _ b _ _ P HX.out HT7.out.q).mono ?_
        rintro e w8 ⟨rfl, rfl⟩
        go_wp2_with fail
        refine (q_add_many _ _ b _ (l.take r1) _ _ HT7.out.q (by have := rd_take HT7.out.o r1 hr1M; rw [HLK.out r1 hr1M]; exact this) (HANY.out r1) (by rw [HLK.out r1 hr1M, HX.out]; have := HR.out; have := HR1.out; omega)).mono ?_
        rintro e w9 ⟨rfl, hk9⟩
        have HT9 := Lib.hid (HT7.out.keep hk9)
        have HB9 := Lib.hid (HB7.out.trans (hk9.belowAt (B := w.heap.size) (fun i h => h.elim) HB7.out.size))
        clear hk9
        have hs9 := HB9.out.size
        go_wp2_with fail
        refine (q_add _ _ b _ (l.take r) _ _ HT9.out.q (by have := rd_take HT9.out.o r hrM; rw [HLK.out r hrM]; exact this) (HANY.out r) (by rw [HLK.out r hrM, HX.out]; have := HR.out; omega)).mono ?_
        rintro e w10 ⟨rfl, hq10, hk10⟩
        have HT10 := Lib.hid (HT9.out.set1 hs9 hk10 (fun i h => h) hq10)
        have HB10 := Lib.hid (HB9.out.trans (hk10.belowAt (B := w.heap.size) (fun i h => (HT9.out.bq i h).1) hs9))
        have HZ := Lib.hid (show ((l ++ l.take K) ++ l.take r).length = 10000 by rw [List.length_append, HLK.out r hrM, HX.out]; exact HR.out)
        clear hq10 hk10
        have hs10 := HB10.out.size
        go_wp2_with fail
        refine (q_lenN _ b _ _ 10000 HZ.out HT10.out.q).mono ?_
        rintro e w11 ⟨rfl, rfl⟩
        go_wp2_with fail
        refine (q_drain _ b _ _ HT10.out.q).mono ?_
        rintro e w12 ⟨a12, n12, c12, rfl, _, hn12, hq12, _, hk12⟩
        rw [HZ.out] at hn12
        subst hn12
        have hFb := HT10.out.q.self
        have HB12 := Lib.hid (HB10.out.trans (hk12.belowAt (B := w.heap.size) (fun i h => by rw [h]; exact (HT10.out.bq b hFb).1) hs10))
        have HQ12 := Lib.hid hq12
        clear hq12 hk12 hFb
        go_wp2_with fail
        refine (q_lenN _ b _ _ 0 rfl HQ12.out).mono ?_
        rintro e w13 ⟨rfl, rfl⟩
        go_wp2_with fail
        refine (awake14 _).mono ?_
        rintro e w14 ⟨rfl, hk14⟩
        have HB14 := Lib.hid (HB12.out.trans (hk14.mono HB12.out.size))
        clear hk14
        go_wp2_with fail
        go_ret
        exact ⟨rfl, HB14.out⟩
end Go.Proofs.Ytnadfefjmoibeaa
