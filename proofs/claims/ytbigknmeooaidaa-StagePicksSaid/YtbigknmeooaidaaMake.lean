/-
  make([]T, n), said in lists; a slice of the call's own, cut; a store of one cell of an element. No program in sight.
-/
import Derived.Test.YtbigknmeooaidaaSt
import Derived.Test.YtbigknmeooaidaaFlat
import Derived.Laws.MakeOwn
import Derived.Laws.OwnMore
import Derived.Laws.CopyOwn
namespace Go.Proofs.Ytbigknmeooaidaa
open Go Go.RowKit
set_option linter.unusedVariables false
set_option linter.unusedSimpArgs false

theorem made_flat (z : Array Value) (hz : 0 < z.size) : ∀ n, (madeCells z (n * z.size)).toList = (List.replicate n z.toList).flatten := by
  have h : ∀ n, (List.range (n * z.size)).map (fun j => z[j % z.size]!) = (List.replicate n z.toList).flatten := by
    intro n
    induction n with
    | zero => simp
    | succ n ih =>
      rw [show (n + 1) * z.size = z.size + n * z.size by rw [Nat.add_mul]; omega, List.range_add, List.map_append, List.map_map, List.replicate_succ, List.flatten_cons, ← ih]
      congr 1
      · apply List.ext_getElem
        · simp
        · intro i h1 h2
          simp at h1 h2
          simp [Nat.mod_eq_of_lt h2, h2]
      · refine List.map_congr_left fun i _ => ?_
        simp [Nat.add_mod_left]
  intro n
  simpa [madeCells] using h n

theorem run_make {P : Program} {t e : TypeId} {size bytes : Nat} (z : Value) (ht : P.underlying t = some (.slice e)) (hi : (P.info? e).map (fun i => (i.zero, i.size, i.bytes)) = some (some z, size, bytes)) (hz : z.cells.size = size) (hp : 0 < size)
    (kl kc : IntKind) (n : Nat) (hb : bytes * n ≤ 281474976710656) (hn : n ≤ maxLen) (w : World) :
    ∃ w', (Instr.makeSlice t (.int kl (n : Int)) (.int kc (n : Int))).run P w = .ok (.slice (some ⟨w.heap.size, 0, none⟩) n n) w' ∧
      Own (New w w') w' e size (.slice (some ⟨w.heap.size, 0, none⟩) n n) n (List.replicate n z.cells.toList).flatten ∧ Keep w w' Nope := by
  obtain ⟨i, h1, h2, h3, h4⟩ := info_parts hi
  obtain ⟨w', h5, h6, h7⟩ := run_make_full (P := P) w 0 t e i z size ht h1 h2 h3 kl kc n (by rw [h4]; exact hb) hn (Nat.zero_le _)
  have hk : Keep w w' Nope := (Keep.refl w Nope).grown h7 (fun k h => by cases h)
  subst hz
  rw [made_flat _ hp] at h6
  refine ⟨w', h5, ⟨h6, fun g hg => ?_⟩, hk⟩
  have e : g = w.heap.size := by simp [Value.ownBlock] at hg; exact hg.symm
  subst e
  exact ⟨Nat.le_refl _, (h6.lt _ (by simp [Value.ownBlock])).2⟩

/-- The first m of a slice of the call's own. -/
theorem Own.cut {S : Nat → Prop} {w : World} {e : TypeId} {size : Nat} {a : Option Addr} {n c : Nat} {xs : List Value} (h : Own S w e size (.slice a n c) n xs) (m : Nat) (hm : m ≤ n) : Own S w e size (.slice a m c) m (xs.take (m * size)) := by
  have hl := h.len
  rcases h.view with ⟨hv, h0, hx⟩ | ⟨g, cap, cur, hv, hS, hb, r1, r2, r3, r4⟩
  · injection hv with h1 _ h3
    subst h1; subst h3
    obtain rfl : m = 0 := by omega
    subst hx
    rw [List.take_nil]
    exact Own.nil S w e size
  · injection hv with h1 _ h3
    subst h1; subst h3
    refine ⟨⟨?_, .inr ⟨g, c, cur, rfl, Nat.zero_le _, hb, by omega, r2, r3, ?_⟩⟩, fun g' hg' => ?_⟩
    · rw [List.length_take, hl]
      exact Nat.min_eq_left (Nat.mul_le_mul_right _ hm)
    · rw [← r4, List.take_take, Nat.min_eq_left (Nat.mul_le_mul_right _ hm)]
    · simp [Value.ownBlock] at hg'
      exact hg' ▸ hS
theorem St.cut {w0 w : World} {l : List Asr} (h : St w0 w l) (i : Nat) {e : TypeId} {size n c : Nat} {a : Option Addr} {xs : List Value} (hi : l[i]? = some (slA e size (.slice a n c) n xs)) (m : Nat) (hm : m ≤ n) :
    St w0 w (l.set i (slA e size (.slice a m c) m (xs.take (m * size)))) := h.weaken i hi (fun _ hG => Own.cut hG m hm)
/-- make, in a call. -/
theorem St.make {P : Program} {w0 w : World} {l : List Asr} (h : St w0 w l) {t e : TypeId} {size bytes : Nat} (z : Value) (ht : P.underlying t = some (.slice e)) (hi : (P.info? e).map (fun i => (i.zero, i.size, i.bytes)) = some (some z, size, bytes)) (hz : z.cells.size = size) (hp : 0 < size)
    (kl kc : IntKind) (n : Nat) (hb : bytes * n ≤ 281474976710656) (hn : n ≤ maxLen) :
    ∃ w', (Instr.makeSlice t (.int kl (n : Int)) (.int kc (n : Int))).run P w = .ok (.slice (some ⟨w.heap.size, 0, none⟩) n n) w' ∧
      St w0 w' (l ++ [slA e size (.slice (some ⟨w.heap.size, 0, none⟩) n n) n (List.replicate n z.cells.toList).flatten]) := by
  obtain ⟨w', h1, h2, h3⟩ := run_make z ht hi hz hp kl kc n hb hn w
  exact ⟨w', h1, h.add h3 h2⟩

/-- One cell of one element is set. -/
theorem flat_set {α : Type} (cells : α → List Value) (size : Nat) (hlen : ∀ x, (cells x).length = size) (x : α) (j : Nat) (u : Value) (hj : j < size) : ∀ (l : List α) (k : Nat) (y : α), l[k]? = some y → cells x = (cells y).set j u → (l.flatMap cells).set (k * size + j) u = (l.set k x).flatMap cells
  | [], _, _, h, _ => by simp at h
  | a :: t, 0, y, h, he => by
    simp at h
    subst h
    simp only [List.flatMap_cons, List.set_cons_zero, Nat.zero_mul, Nat.zero_add]
    rw [List.set_append_left _ _ (by rw [hlen]; exact hj), he]
  | a :: t, k + 1, y, h, he => by
    simp only [List.flatMap_cons, List.set_cons_succ]
    rw [List.set_append_right _ _ (by rw [hlen, Nat.add_mul]; omega), hlen]
    rw [show (k + 1) * size + j - size = k * size + j by rw [Nat.add_mul]; omega]
    rw [flat_set cells size hlen x j u hj t k y (by simpa using h) he]
theorem flat_take {α : Type} (cells : α → List Value) (size : Nat) (hlen : ∀ x, (cells x).length = size) : ∀ (l : List α) (m : Nat), (l.flatMap cells).take (m * size) = (l.take m).flatMap cells
  | [], m => by simp
  | a :: t, 0 => by simp
  | a :: t, m + 1 => by
    simp only [List.flatMap_cons, List.take_succ_cons]
    rw [show (m + 1) * size = (cells a).length + m * size by rw [hlen, Nat.add_mul]; omega, List.take_length_add_append, flat_take cells size hlen t m]
theorem flat_replicate {α : Type} (cells : α → List Value) (x : α) (n : Nat) : (List.replicate n x).flatMap cells = (List.replicate n (cells x)).flatten := by
  induction n with
  | zero => simp
  | succ n ih => rw [List.replicate_succ, List.flatMap_cons, ih, List.replicate_succ, List.flatten_cons]

/-- The built-in append as one operation of a region. -/
theorem step_app {P : Program} {t e : TypeId} {size bytes : Nat} (hT : SlTy P t e size bytes) {o : Oper} {a : Act} {w : World} {K : Act → World → Prop} {Q : Exit → Act → World → Prop} (s x : Operand)
    (ho : o.op = .call { callee := .builtin .append, args := #[s, x], argTypes := #[t, t] })
    {S S2 : Nat → Prop} {v y : Value} {n m : Nat} {xs news : List Value} (hs : a.eval s = v) (hy : a.eval x = y)
    (hown : Own S w e size v n xs) (hx : Rd S2 w y m news) (hl : news.length = m * size) (h1 : ∀ u ∈ news, u.oneCell' = true) (hbytes : (n + m) * bytes ≤ 140737488355328) (hlen : n + m ≤ maxLen)
    (h : ∀ a' k c' w', App S w w' e size v (.slice a' k c') n m k xs news → K (a.put o.dst (.slice a' k c')) w') : Oper.wp P o a w K Q := by
  obtain ⟨v', w', hr, h2, h3, h4⟩ := run_app hT o.type hown hx hl h1 hbytes hlen
  obtain ⟨a', c', rfl⟩ := h2.form
  unfold Oper.wp execOp
  simp only [ho, resolve, invoke, builtin, Sem.run_bind, Sem.run_pure, Result.andThen_ok, List.map_toArray, List.map_cons, List.map_nil, hs, hy, hr]
  exact h a' _ c' w' ⟨h2.tight.mono (fun i hi => hi.1.elim .inl (fun h => .inr ⟨h, hi.2⟩)), rfl, h3, h4⟩

/-- Behind an append, seen from a world that is a little older. -/
theorem app_up {wr wcur w5 : World} {G : Nat → Prop} {e : TypeId} {size n m k : Nat} {v y : Value} {xs news : List Value} (kw : Keep wr wcur Nope) (happ : App G wcur w5 e size v y n m k xs news) :
    Keep wr w5 G ∧ (slA e size y k (xs ++ news)).at' w5 (fun x => G x ∨ New wr w5 x) := by
  have hs := kw.size
  refine ⟨(kw.mono (T := G) (fun i f => f.elim)).trans happ.keep (fun i h => .inl h), happ.own.mono (fun i hi => hi.imp id (fun h => ⟨Nat.le_trans hs h.1, h.2⟩))⟩

/-- The built-in copy into a part of a slice of the call's own, as one operation of a region. -/
theorem step_copy {P : Program} {t e : TypeId} {bytes : Nat} (hT : SlTy P t e 1 bytes) {o : Oper} {a : Act} {w : World} {K : Act → World → Prop} {Q : Exit → Act → World → Prop} (d s : Operand)
    (ho : o.op = .call { callee := .builtin .copy, args := #[d, s], argTypes := #[t, t] }) {g lo dl dc sb so sc : Nat} (hd : a.eval d = .slice (some ⟨g, lo, none⟩) dl dc) (hs : a.eval s = .slice (some ⟨sb, so, none⟩) dl sc)
    {S : Nat → Prop} {n c : Nat} {xs : List Value} (hown : Own S w e 1 (.slice (some ⟨g, 0, none⟩) n c) n xs) (cs : List Value) (hcl : cs.length = dl) (hsrc : ∀ j v, cs[j]? = some v → w.cell? ⟨sb, so + j, none⟩ = some v) (hfit : lo + dl ≤ n)
    (h1 : ∀ v ∈ cs, v.oneCell' = true) (h : ∀ w', Own S w' e 1 (.slice (some ⟨g, 0, none⟩) n c) n (xs.take lo ++ cs ++ xs.drop (lo + dl)) → Keep w w' S → K (a.put o.dst (goInt dl)) w') : Oper.wp P o a w K Q := by
  have hxl := hown.len
  obtain ⟨ht, ⟨i, z, hi, hz, hsize, hby, hzs⟩, hsz⟩ := hT
  rcases hown.view with ⟨hv, _⟩ | ⟨g', cap, cur, hv, hS, hb, r1, r2, r3, r4⟩
  · injection hv with h1
    cases h1
  · injection hv with e1 _ e3
    injection e1 with e1
    injection e1 with e1
    subst e1; subst e3
    have hrun := run_copy_row (P := P) w t t o.type e g lo dl dc ⟨sb, so, none⟩ dl sc cur e cs ht (by rw [hi]; simp [hsize]) hb (by rw [hcl]; exact (Nat.min_self dl).symm) (fun j v hv => by
      have := hsrc j v hv
      unfold Addr.add
      split
      · rename_i hj; subst hj; simpa using this
      · exact this) (by rw [hcl]; omega) h1
    unfold Oper.wp
    simp [execOp, ho, resolve, invoke, builtin, hd, hs, hrun, Result.andThen]
    rw [hcl]
    refine h _ ⟨⟨?_, .inr ⟨g, c, _, rfl, Nat.zero_le _, setRow_heap w g cur _ e _ hb, r1, r2, ?_, ?_⟩⟩, fun g' hg' => ?_⟩ ((Keep.refl w S).setRow (.inl hS) _)
    · simp only [List.length_append, List.length_take, List.length_drop, hcl, hxl]
      omega
    · simp only [List.size_toArray, List.length_append, List.length_take, List.length_drop, Array.length_toList, hcl]
      omega
    · simp only [List.toList_toArray]
      rw [← r4]
      have hcur : cur.toList.length = c * 1 := by rw [Array.length_toList]; exact r3
      apply List.ext_getElem?
      intro q
      simp only [List.getElem?_take, List.getElem?_append, List.length_append, List.length_take, List.getElem?_drop, hcl, hcur]
      have em : min lo (min n c) = lo := by omega
      have em2 : min lo c = lo := by omega
      by_cases q1 : q < lo
      · simp [em, em2, q1, show q < n by omega, show q < lo + dl by omega]
      · by_cases q2 : q < lo + dl
        · have q4 : q - lo < dl := by omega
          simp [em, em2, q1, q2, q4, show q < n by omega]
        · have q4 : ¬ q - lo < dl := by omega
          have q5 : lo + dl + (q - lo - dl) = q := by omega
          have q6 : lo + dl + (q - (lo + dl)) = q := by omega
          by_cases q3 : q < n
          · simp [em, em2, q1, q2, q3, q4, q5, q6]
          · simp [em, em2, q1, q2, q3, q4, q5, q6]
    · simp [Value.ownBlock] at hg'
      exact hg' ▸ hS
end Go.Proofs.Ytbigknmeooaidaa
