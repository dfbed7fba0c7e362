/-
  A map of the call's own as a claim: look, put, take away; Handles, plainly: which indexes are free, live, raised; what is given, taken back, merged. No program in sight; The package alloc: the claim; handle, State; The package alloc: give, Create, Raise.
-/
import Derived.Test.YtkiikblpgppmkaaGreatDoorTlM09
import Derived.Maps.OwnSet
import Derived.Test.YtkiikblpgppmkaaGreatDoorTlM05
namespace Go.Proofs.YtkiikblpgppmkaaGreatDoor
open Go Go.RowKit
open Go.Maps (Keyed)
open Go.ChangeMaps Go.MapKept
set_option linter.unusedVariables false
set_option linter.unusedSimpArgs false

abbrev MapD : Type := DataW Unit
def iK (i : Int) : Lit := .int .i64 i
def iD (i : Int) : MapD := .lit (.int .i64 i)
def OwnsI (w : World) (bm : Nat) (D : MapD) : Prop := w.ownsMap Tryz.prog 3 (plainElem Tryz.prog 3) bm 64 D
theorem kI : Keyed Tryz.prog 3 := Maps.int_keyed Tryz.underlying3
theorem zI (w : World) : (zeroValue 3).run Tryz.prog w = .ok (.int .i64 0) w := by kernel_rfl
theorem OwnsI.keep {w w' : World} {T : Nat → Prop} {bm : Nat} {D : MapD} (h : OwnsI w bm D) (hk : Keep w w' T) (hT : ¬ T bm) : OwnsI w' bm D := by
  have hlt := World.ownsMap.lt h
  obtain ⟨es, clock, hb, r⟩ := h
  exact ⟨es, clock, by rw [hk.block bm hlt hT]; exact hb, r⟩
/-- Block bm is a map of the call's own. -/
def mapA (bm : Nat) (D : MapD) : Asr :=
  ⟨fun w F => OwnsI w bm D ∧ F bm, fun h hk hd => ⟨h.1.keep hk (hd bm h.2), h.2⟩, fun h hG => ⟨h.1, hG _ h.2⟩⟩
theorem turned_keep {w w' : World} {bm : Nat} (h : w.mapTurned w' bm) : Keep w w' (fun i => i = bm) := by
  obtain ⟨es, clock, es', clock', hb, rfl⟩ := h
  refine ⟨rfl, rfl, rfl, by simp [setBlock], fun k hk hne => ?_⟩
  simp only [setBlock]
  rw [Array.getElem?_setIfInBounds_ne (fun e => hne e.symm)]
theorem OwnsI.tight {w : World} {bm n : Nat} {D : MapD} (h : w.ownsMap Tryz.prog 3 (plainElem Tryz.prog 3) bm n D) (hs : Maps.size D ≤ 64) : OwnsI w bm D := by
  obtain ⟨es, clock, hb, F, hn, hD⟩ := h
  refine ⟨es, clock, hb, F, ?_, hD⟩
  rw [hD] at hs
  simpa [Maps.size, length_sorted] using hs
theorem i64_wf {i : Nat} (h : i < 1000000) : (Lit.int .i64 (i : Int)).wf = true := WalkArith.wf_i64 (by omega)
theorem St.mapOwn {w0 w : World} {L : List Asr} {bm : Nat} {D : MapD} (H : St w0 w L) (i : Nat) (hi : L[i]? = some (mapA bm D)) : OwnsI w bm D := (H.get i hi).choose_spec.1.1
/-- v, ok := m[k]. -/
theorem OwnsI.look {w : World} {bm : Nat} {D : MapD} (h : OwnsI w bm D) (k : Nat) (hk : k < 1000000) : ∃ c : Int, (Instr.lookup 426 (.map (some bm)) (.int .i64 (k : Nat)) true).run Tryz.prog w = .ok (.tuple #[.int .i64 c, .bool (Maps.has D (iK k))]) w ∧ D.atKey (iK k) (iD 0) = iD c := by
  obtain ⟨v, ps, hrun, hR⟩ := World.ownsMap.look_ok h kI Tryz.underlying426 (zI w) (plainElem_int Tryz.underlying3 (i64_wf (i := 0) (by omega))) (Maps.keyOf_int_mk Tryz.underlying3 (i64_wf hk))
  obtain ⟨a, rfl, hz, _⟩ := plainElem_int_inv Tryz.underlying3 hR
  refine ⟨a, hrun, ?_⟩
  exact congrArg Prod.fst hz
theorem St.mapPut {w0 w : World} {L : List Asr} {bm : Nat} {D : MapD} (H : St w0 w L) (i : Nat) (hi : L[i]? = some (mapA bm D)) (k v : Nat) (hk : k < 1000000) (hv : v < 1000000) (hs : Maps.size (D.put (iK k) (iD v)) ≤ 64) :
    ∃ w', (Instr.mapUpdate 426 (.map (some bm)) (.int .i64 (k : Nat)) (.int .i64 (v : Nat))).run Tryz.prog w = .ok () w' ∧ St w0 w' (L.set i (mapA bm (D.put (iK k) (iD v)))) := by
  obtain ⟨G, h1, h2, h3, _⟩ := H.opens i hi
  obtain ⟨w', hrun, hown, ht⟩ := World.ownsMap.store h1.1 kI Tryz.underlying426 (by decide) (Maps.keyOf_int_mk Tryz.underlying3 (i64_wf hk)) (plainElem_int Tryz.underlying3 (i64_wf hv))
  refine ⟨w', hrun, h3 w' (mapA bm (D.put (iK k) (iD v))) ?_ ⟨OwnsI.tight hown hs, .inl h1.2⟩⟩
  exact (turned_keep ht).mono (fun j hj => .inl (hj ▸ h1.2))
theorem St.mapDel {w0 w : World} {L : List Asr} {bm : Nat} {D : MapD} (H : St w0 w L) (i : Nat) (hi : L[i]? = some (mapA bm D)) (k : Nat) (hk : k < 1000000) (ty : TypeId) :
    ∃ w', (Builtin.delete_ #[426, 3] ty #[.map (some bm), .int .i64 (k : Nat)]).run Tryz.prog w = .ok (.tuple #[]) w' ∧ St w0 w' (L.set i (mapA bm (D.del (iK k)))) := by
  obtain ⟨G, h1, h2, h3, _⟩ := H.opens i hi
  obtain ⟨w', hrun, hown, ht⟩ := World.ownsMap.drop h1.1 kI Tryz.underlying426 (Maps.keyOf_int_mk Tryz.underlying3 (i64_wf hk)) ty
  refine ⟨w', hrun, h3 w' (mapA bm (D.del (iK k))) ?_ ⟨hown, .inl h1.2⟩⟩
  exact (turned_keep ht).mono (fun j hj => .inl (hj ▸ h1.2))
theorem mapA_new {w0 w : World} {L : List Asr} (H : St w0 w L) : St w0 (w.alloc (.map #[] 0)) (mapA w.heap.size (.map []) :: L) :=
  (H.add ((Keep.refl w Nope).alloc _) (A := mapA w.heap.size (.map [])) ⟨World.ownsMap.mono (World.ownsMap_made w Tryz.prog 3 _) (Nat.zero_le _), Nat.le_refl _, by simp⟩).first
/-- A store into a map, as one operation. -/
theorem step_mapPut {w0 w : World} {L : List Asr} {bm : Nat} {D : MapD} (H : St w0 w L) (i : Nat) (hi : L[i]? = some (mapA bm D)) {o : Oper} {a : Act} {K : Act → World → Prop} {Q : Exit → Act → World → Prop} (m x y : Operand) (ho : o.op = .mapUpdate 426 m x y) (k v : Nat) (hm : a.eval m = .map (some bm)) (hx : a.eval x = .int .i64 (k : Nat)) (hy : a.eval y = .int .i64 (v : Nat))
    (hk : k < 1000000) (hv : v < 1000000) (hs : Maps.size (D.put (iK k) (iD v)) ≤ 64) (h : ∀ w', St w0 w' (L.set i (mapA bm (D.put (iK k) (iD v)))) → K (a.put o.dst undef) w') : Oper.wp Tryz.prog o a w K Q := by
  obtain ⟨w', hrun, h'⟩ := H.mapPut i hi k v hk hv hs
  unfold Oper.wp execOp
  simp only [ho, hm, hx, hy, Sem.run_bind, hrun, Result.andThen_ok, Sem.run_pure]
  exact h w' h'
theorem step_mapDel {w0 w : World} {L : List Asr} {bm : Nat} {D : MapD} (H : St w0 w L) (i : Nat) (hi : L[i]? = some (mapA bm D)) {o : Oper} {a : Act} {K : Act → World → Prop} {Q : Exit → Act → World → Prop} (m x : Operand) (ho : o.op = .call { callee := .builtin .delete, args := #[m, x], argTypes := #[426, 3] }) (k : Nat) (hm : a.eval m = .map (some bm)) (hx : a.eval x = .int .i64 (k : Nat))
    (hk : k < 1000000) (h : ∀ w', St w0 w' (L.set i (mapA bm (D.del (iK k)))) → K (a.put o.dst (.tuple #[])) w') : Oper.wp Tryz.prog o a w K Q := by
  obtain ⟨w', hrun, h'⟩ := H.mapDel i hi k hk o.type
  unfold Oper.wp execOp
  simp only [ho, resolve, invoke, builtin, Sem.run_bind, Sem.run_pure, Result.andThen_ok, List.map_toArray, List.map_cons, List.map_nil, hm, hx, hrun]
  exact h w' h'
end Go.Proofs.YtkiikblpgppmkaaGreatDoor

namespace Go.Proofs.YtkiikblpgppmkaaGreatDoor
open Go Go.RowKit
set_option linter.unusedVariables false
set_option linter.unusedSimpArgs false

/-- The numbers of a word, rising. -/
def listW (m : Nat) : List Nat := (List.range 64).filter (fun d => m.testBit d)
def listTo (m i : Nat) : List Nat := (List.range i).filter (fun d => m.testBit d)
theorem listTo_none {m i j : Nat} (h : i ≤ j) (hn : ∀ k, i ≤ k → k < j → m.testBit k = false) : listTo m j = listTo m i := by
  obtain ⟨d, rfl⟩ := Nat.exists_eq_add_of_le h
  induction d with
  | zero => rfl
  | succ d ih =>
    have e : listTo m (i + (d + 1)) = listTo m (i + d) := by
      unfold listTo
      rw [show i + (d + 1) = (i + d) + 1 by omega, List.range_succ, List.filter_append]
      simp [hn (i + d) (by omega) (by omega)]
    rw [e]
    exact ih (by omega) (fun k h1 h2 => hn k h1 (by omega))
theorem listTo_step {m i d : Nat} (h : firstW m i = (d : Int)) : listTo m (d + 1) = listTo m i ++ [d] := by
  obtain ⟨h1, h2, h3, h4⟩ := firstW_some h
  have e : listTo m (d + 1) = listTo m d ++ [d] := by
    unfold listTo
    rw [List.range_succ, List.filter_append]
    simp [h3]
  rw [e, listTo_none h1 h4]
theorem listTo_end {m i : Nat} (hi : i ≤ 64) (h : firstW m i = -1) : listTo m i = listW m := (listTo_none hi (firstW_none h)).symm
theorem listTo_zero (m : Nat) : listTo m 0 = [] := rfl
theorem listW_mem {m k : Nat} (hm : m < 2 ^ 64) : k ∈ listW m ↔ m.testBit k = true := by
  unfold listW
  rw [List.mem_filter, List.mem_range]
  constructor
  · exact fun h => h.2
  · intro h
    refine ⟨?_, h⟩
    apply Nat.lt_of_not_le
    intro hk
    rw [testBit_ge hm hk] at h
    cases h
theorem listW_len (m : Nat) : (listW m).length = pop m := by unfold listW pop; rw [List.countP_eq_length_filter]

/-- Handles. -/
structure AlS where
  free : Nat
  live : Nat
  raised : Nat
  top : Nat
  gens : List Nat
  ret : Nat
deriving DecidableEq
/-- The generation of an index. -/
def AlS.gen (a : AlS) (k : Nat) : Nat := a.gens.getD k 0
/-- What a handle is. -/
def AlS.st (a : AlS) (i g : Int) : Int :=
  if 0 ≤ i ∧ i < a.gens.length ∧ ((a.gen i.toNat : Nat) : Int) = g then (if a.live.testBit i.toNat then 1 else if a.raised.testBit i.toNat then 2 else 0) else 0
/-- What is given out. -/
def AlS.gave (a : AlS) (k : Nat) : AlS := { a with free := delW a.free k, gens := a.gens.set k (a.gen k + 1) }
def AlS.made (a : AlS) (k : Nat) : AlS := { a.gave k with live := addW a.live k }
def AlS.rose (a : AlS) (k : Nat) : AlS := { a.gave k with raised := addW a.raised k }
/-- What is taken back. -/
def AlS.took (a : AlS) (k : Nat) (g : Int) : AlS :=
  if (a.top : Int) ≤ g then { a with live := delW a.live k, ret := a.ret + 1 } else { a with live := delW a.live k, free := addW a.free k }
/-- All that are raised are live. -/
def AlS.merged (a : AlS) : AlS := { a with live := (listW a.raised).foldl addW a.live, raised := 0 }

structure AlS.Ok (a : AlS) : Prop where
  len : a.gens.length ≤ 64
  len1 : 1 ≤ a.gens.length
  free : ∀ k, a.free.testBit k = true → k < a.gens.length
  live : ∀ k, a.live.testBit k = true → k < a.gens.length
  raised : ∀ k, a.raised.testBit k = true → k < a.gens.length
  top : a.top < 4294967296
  gens : ∀ k, a.gen k ≤ a.top
  room : ∀ k, a.free.testBit k = true → a.gen k < a.top
theorem lt_of_bits {m n : Nat} (hn : n ≤ 64) (h : ∀ k, m.testBit k = true → k < n) : m < 2 ^ 64 := by
  apply Nat.lt_pow_two_of_testBit
  intro k hk
  cases e : m.testBit k with
  | false => rfl
  | true => have := h k e; omega
theorem AlS.Ok.f64 {a : AlS} (h : a.Ok) : a.free < 2 ^ 64 := lt_of_bits h.len h.free
theorem AlS.Ok.l64 {a : AlS} (h : a.Ok) : a.live < 2 ^ 64 := lt_of_bits h.len h.live
theorem AlS.Ok.r64 {a : AlS} (h : a.Ok) : a.raised < 2 ^ 64 := lt_of_bits h.len h.raised
theorem bit_del_le {m i k : Nat} (h : (delW m i).testBit k = true) : m.testBit k = true ∧ k ≠ i := by
  by_cases hk : k < 64
  · rw [bit_del m i hk] at h
    simpa using h
  · rw [bit_del_ge m i (by omega)] at h
    cases h
theorem AlS.gen_set (a : AlS) (k v j : Nat) (hk : k < a.gens.length) : (a.gens.set k v).getD j 0 = if j = k then v else a.gen j := by
  by_cases e : j = k
  · subst e
    simp [List.getD_eq_getElem?_getD, hk]
  · rw [if_neg e]
    unfold AlS.gen
    simp only [List.getD_eq_getElem?_getD]
    rw [List.getElem?_set_ne (fun h => e h.symm)]
theorem AlS.Ok.gave {a : AlS} (h : a.Ok) {k : Nat} (hk : a.free.testBit k = true) : (a.gave k).Ok := by
  have hl := h.free k hk
  have hr := h.room k hk
  refine ⟨by simpa [AlS.gave] using h.len, by simpa [AlS.gave] using h.len1, fun j hj => ?_, fun j hj => ?_, fun j hj => ?_, h.top, fun j => ?_, fun j hj => ?_⟩
  · simpa [AlS.gave] using h.free j (bit_del_le hj).1
  · simpa [AlS.gave] using h.live j hj
  · simpa [AlS.gave] using h.raised j hj
  · show (a.gens.set k (a.gen k + 1)).getD j 0 ≤ a.top
    rw [a.gen_set k _ j hl]
    split
    · omega
    · exact h.gens j
  · show (a.gens.set k (a.gen k + 1)).getD j 0 < a.top
    obtain ⟨h1, h2⟩ := bit_del_le hj
    rw [a.gen_set k _ j hl, if_neg h2]
    exact h.room j h1
theorem bits_add {m n i : Nat} (h : ∀ k, m.testBit k = true → k < n) (hi : i < n) : ∀ k, (addW m i).testBit k = true → k < n := by
  intro k hk
  rw [bit_add] at hk
  simp at hk
  rcases hk with hk | rfl
  · exact h k hk
  · exact hi
theorem AlS.Ok.made {a : AlS} (h : a.Ok) {k : Nat} (hk : a.free.testBit k = true) : (a.made k).Ok := by
  have g := h.gave hk
  exact ⟨g.len, g.len1, g.free, bits_add g.live (by simpa [AlS.gave, AlS.made] using h.free k hk), g.raised, g.top, g.gens, g.room⟩
theorem AlS.Ok.rose {a : AlS} (h : a.Ok) {k : Nat} (hk : a.free.testBit k = true) : (a.rose k).Ok := by
  have g := h.gave hk
  exact ⟨g.len, g.len1, g.free, g.live, bits_add g.raised (by simpa [AlS.gave, AlS.rose] using h.free k hk), g.top, g.gens, g.room⟩
theorem AlS.Ok.took {a : AlS} (h : a.Ok) {k : Nat} (hk : k < a.gens.length) {g : Int} (hg : ((a.gen k : Nat) : Int) = g) : (a.took k g).Ok := by
  unfold AlS.took
  split
  · exact ⟨h.len, h.len1, h.free, fun j hj => h.live j (bit_del_le hj).1, h.raised, h.top, h.gens, h.room⟩
  · rename_i hlt
    refine ⟨h.len, h.len1, bits_add h.free hk, fun j hj => h.live j (bit_del_le hj).1, h.raised, h.top, h.gens, fun j hj => ?_⟩
    rw [show ({ a with live := delW a.live k, free := addW a.free k } : AlS).free = addW a.free k from rfl, bit_add] at hj
    simp at hj
    rcases hj with hj | rfl
    · exact h.room j hj
    · show a.gen j < a.top
      omega
theorem foldl_add_bit (l : List Nat) : ∀ (m k : Nat), (l.foldl addW m).testBit k = (m.testBit k || decide (k ∈ l)) := by
  induction l with
  | nil => intro m k; simp
  | cons a l ih =>
    intro m k
    rw [List.foldl_cons, ih, bit_add]
    by_cases e : k = a <;> simp [e]
theorem AlS.Ok.merged {a : AlS} (h : a.Ok) : a.merged.Ok := by
  refine ⟨h.len, h.len1, h.free, fun j hj => ?_, fun j hj => ?_, h.top, h.gens, h.room⟩
  · rw [show a.merged.live = (listW a.raised).foldl addW a.live from rfl, foldl_add_bit] at hj
    simp only [Bool.or_eq_true, decide_eq_true_eq] at hj
    rcases hj with hj | hj
    · exact h.live j hj
    · exact h.raised j ((listW_mem h.r64).1 hj)
  · rw [show a.merged.raised = 0 from rfl, Nat.zero_testBit] at hj
    cases hj
/-- As it is made. -/
def fullW (n : Nat) : Nat := (List.range n).foldl addW 0
theorem fullW_bit (n k : Nat) : (fullW n).testBit k = decide (k < n) := by
  unfold fullW
  rw [foldl_add_bit]
  simp
theorem fullW_succ (n : Nat) : fullW (n + 1) = addW (fullW n) n := by
  unfold fullW
  rw [List.range_succ, List.foldl_append]
  rfl
def newAl (n top : Nat) : AlS := ⟨fullW n, 0, 0, top, List.replicate n 0, 0⟩
theorem newAl_ok {n top : Nat} (h1 : 1 ≤ n) (h2 : n ≤ 64) (h3 : 1 ≤ top) (h4 : top < 4294967296) : (newAl n top).Ok := by
  have hg : ∀ k, (newAl n top).gen k = 0 := by
    intro k
    unfold AlS.gen newAl
    simp only [List.getD_eq_getElem?_getD, List.getElem?_replicate]
    split <;> rfl
  refine ⟨by simpa [newAl] using h2, by simpa [newAl] using h1, fun k hk => ?_, fun k hk => ?_, fun k hk => ?_, h4, fun k => by rw [hg]; exact Nat.zero_le _, fun k _ => by rw [hg]; exact h3⟩
  · rw [show (newAl n top).free = fullW n from rfl, fullW_bit] at hk
    simpa [newAl] using hk
  · rw [show (newAl n top).live = 0 from rfl, Nat.zero_testBit] at hk; cases hk
  · rw [show (newAl n top).raised = 0 from rfl, Nat.zero_testBit] at hk; cases hk
end Go.Proofs.YtkiikblpgppmkaaGreatDoor

namespace Go.Proofs.YtkiikblpgppmkaaGreatDoor
open Go Go.RowKit
set_option linter.unusedVariables false
set_option linter.unusedSimpArgs false

def gensV (l : List Nat) : List Value := l.map (fun n : Nat => .int .i64 (n : Int))
theorem gensV_get (a : AlS) (k : Nat) (hk : k < a.gens.length) : (gensV a.gens)[k]? = some (.int .i64 (a.gen k : Nat)) := by
  unfold gensV AlS.gen
  rw [List.getElem?_map, List.getD_eq_getElem?_getD, List.getElem?_eq_getElem hk]
  rfl
def hdV (i g : Int) : Value := .agg #[.int .i64 i, .int .i64 g]
/-- The blocks of an Alloc, below its own. -/
structure AlB where
  f : Nat
  l : Nat
  r : Nat
  g : Nat
  c : Nat
def alCs (a : AlS) (p : AlB) : Array Value := #[ptr p.f, ptr p.l, ptr p.r, .int .i64 (a.top : Nat), .slice (some ⟨p.g, 0, none⟩) a.gens.length p.c, .int .i64 (a.ret : Nat)]
def alL (b : Nat) (a : AlS) (p : AlB) : List Asr :=
  [blkA b (alCs a p) 190, hibA p.f a.free, hibA p.l a.live, hibA p.r a.raised, slA 2 1 (.slice (some ⟨p.g, 0, none⟩) a.gens.length p.c) a.gens.length (gensV a.gens)]
def alA (b : Nat) (a : AlS) : Asr := exA (fun p => starA (alL b a p))
/-- What an Alloc reads as. -/
structure RdAlP (w : World) (b : Nat) (a : AlS) (p : AlB) : Prop where
  blk : Blk w b (alCs a p) 190
  f : RdHib w p.f a.free
  l : RdHib w p.l a.live
  r : RdHib w p.r a.raised
  g : ∀ k, k < a.gens.length → w.cell? ⟨p.g, k, none⟩ = some (.int .i64 (a.gen k : Nat))
def RdAl (w : World) (b : Nat) (a : AlS) : Prop := ∃ p, RdAlP w b a p
theorem RdAlP.keep {w w' : World} {b : Nat} {a : AlS} {p : AlB} (h : RdAlP w b a p) (hk : Keep w w' Nope) : RdAlP w' b a p :=
  ⟨h.blk.keep hk (fun f => f), h.f.keep hk, h.l.keep hk, h.r.keep hk, fun k hl => hk.cell (h.g k hl) (fun f => f)⟩
theorem RdAl.keep {w w' : World} {b : Nat} {a : AlS} (h : RdAl w b a) (hk : Keep w w' Nope) : RdAl w' b a := h.imp fun _ h => h.keep hk
theorem alL_rd {w : World} {F : Nat → Prop} {b : Nat} {a : AlS} {p : AlB} (ha : a.Ok) (h : (starA (alL b a p)).at' w F) : RdAlP w b a p := by
  obtain ⟨G, h1, _, _⟩ := h
  have g4 := h1 4 _ rfl
  refine ⟨(h1 0 _ rfl).1, hib_rd ha.f64 (h1 1 _ rfl), hib_rd ha.l64 (h1 2 _ rfl), hib_rd ha.r64 (h1 3 _ rfl), fun k hk => ?_⟩
  obtain ⟨g', e, _, _, _, hc, _⟩ := Own.head g4 (by have := ha.len1; omega)
  injection e with e
  injection e with e
  subst e
  rw [hc k (by omega)]
  exact gensV_get a k hk
theorem alA_rd {w : World} {F : Nat → Prop} {b : Nat} {a : AlS} (ha : a.Ok) (h : (alA b a).at' w F) : RdAl w b a := h.imp fun _ h => alL_rd ha h
theorem St.alRd {w0 w : World} {L : List Asr} {b : Nat} {a : AlS} (H : St w0 w L) (i : Nat) (hi : L[i]? = some (alA b a)) (ha : a.Ok) : RdAl w b a := by
  obtain ⟨G, h1, _⟩ := H.get i hi
  exact alA_rd ha h1
theorem RdAlP.cells {w : World} {b : Nat} {a : AlS} {p : AlB} (h : RdAlP w b a p) : w.cell? ⟨b, 0, none⟩ = some (.pointer (some ⟨p.f, 0, none⟩)) ∧ w.cell? ⟨b, 1, none⟩ = some (.pointer (some ⟨p.l, 0, none⟩)) ∧ w.cell? ⟨b, 2, none⟩ = some (.pointer (some ⟨p.r, 0, none⟩)) ∧
    w.cell? ⟨b, 3, none⟩ = some (.int .i64 (a.top : Nat)) ∧ w.cell? ⟨b, 4, none⟩ = some (.slice (some ⟨p.g, 0, none⟩) a.gens.length p.c) ∧ w.cell? ⟨b, 5, none⟩ = some (.int .i64 (a.ret : Nat)) := by
  refine ⟨?_, ?_, ?_, ?_, ?_, ?_⟩ <;> rw [h.blk.cell] <;> rfl

theorem al_handle (b : Nat) (a : AlS) (k : Nat) (hk : k < a.gens.length) (hl : a.gens.length ≤ 64) (w : World) (h : RdAl w b a) :
    Calls Tryz.prog 149 #[ptr b, .int .i64 (k : Nat)] w (Ret w (hdV (k : Int) (a.gen k : Nat))) := by
  obtain ⟨p, h⟩ := h
  obtain ⟨_, _, _, _, c4, _⟩ := h.cells
  have cg := h.g k hk
  obtain ⟨n, hn⟩ : ∃ n, a.gens.length = n := ⟨_, rfl⟩
  obtain ⟨v, hv⟩ : ∃ v, a.gen k = v := ⟨_, rfl⟩
  rw [hn] at c4 hk hl
  rw [hv] at cg ⊢
  clear h hn hv
  unfold ptr hdV
  go_enter Tryz.func149, Tryz.ntmps149
  have hk1 := (show Keep w (w.alloc (.cells #[.int .i64 0, .int .i64 0] 45)) Nope from (Keep.refl w Nope).alloc _)
  replace c4 := hk1.cell c4 (fun f => f)
  replace cg := hk1.cell cg (fun f => f)
  clear hk1
  go_wp2_with fail
  refine bodyPost_ret (v := .agg #[.int .i64 (k : Nat), .int .i64 (v : Nat)]) (by simp [results, Tryz.results149, go_sem]) rfl ⟨rfl, (Keep.refl _ _).alloc _⟩
theorem al_state_no (b : Nat) (a : AlS) (i g : Int) (ho : i < 0 ∨ (a.gens.length : Int) ≤ i) (hl : a.gens.length ≤ 64) (w : World) (h : RdAl w b a) :
    Calls Tryz.prog 62 #[ptr b, hdV i g] w (Ret w (.int .i64 0)) := by
  obtain ⟨p, h⟩ := h
  obtain ⟨_, _, _, _, c4, _⟩ := h.cells
  obtain ⟨n, hn⟩ : ∃ n, a.gens.length = n := ⟨_, rfl⟩
  rw [hn] at c4 ho hl
  clear h hn
  have hk1 := (show Keep w (w.alloc (.cells #[.int .i64 i, .int .i64 g] 45)) Nope from (Keep.refl w Nope).alloc _)
  replace c4 := hk1.cell c4 (fun f => f)
  clear hk1
  unfold ptr hdV
  by_cases hi : i < 0
  · have e0 : decide (i < 0) = true := decide_eq_true hi
    go_enter Tryz.func62, Tryz.ntmps62
    go_wp2_with fail
    go_quiet (fail)
    go_wp2_with fail
    go_ret
    exact ⟨rfl, (show Keep w _ Nope from (by (repeat (first | exact Keep.refl _ _ | apply Keep.drew | apply Keep.drewN | apply Keep.alloc))))⟩
  · have e0 : decide (i < 0) = false := decide_eq_false hi
    have e1 : decide (i ≥ (n : Int)) = true := decide_eq_true (by omega)
    go_enter Tryz.func62, Tryz.ntmps62
    go_wp2_with fail
    go_quiet (fail)
    go_wp2_with fail
    go_ret
    exact ⟨rfl, (show Keep w _ Nope from (by (repeat (first | exact Keep.refl _ _ | apply Keep.drew | apply Keep.drewN | apply Keep.alloc))))⟩
theorem al_state_in (b : Nat) (a : AlS) (k : Nat) (g : Int) (hk : k < a.gens.length) (ha : a.Ok) (w : World) (h : RdAl w b a) :
    Calls Tryz.prog 62 #[ptr b, hdV k g] w (Ret w (.int .i64 (a.st k g))) := by
  have hl := ha.len
  have HA := Lib.hid ha
  obtain ⟨p, h⟩ := h
  obtain ⟨_, c1, c2, _, c4, _⟩ := h.cells
  have cg := h.g k hk
  have HSt := Lib.hid (show a.st k g = if ((a.gen k : Nat) : Int) = g then (if a.live.testBit k then 1 else if a.raised.testBit k then 2 else 0) else 0 by
    unfold AlS.st
    rw [Int.toNat_natCast]
    by_cases e : ((a.gen k : Nat) : Int) = g
    · rw [if_pos ⟨by omega, by omega, e⟩, if_pos e]
    · rw [if_neg (fun h => e h.2.2), if_neg e])
  obtain ⟨s, hs⟩ : ∃ s, a.st k g = s := ⟨_, rfl⟩
  rw [hs] at HSt ⊢
  clear hs
  have HL := Lib.hid (fun w' => hib_has p.l a.live k (by omega) w')
  have HR := Lib.hid (fun w' => hib_has p.r a.raised k (by omega) w')
  have HRd := Lib.hid h
  obtain ⟨n, hn⟩ : ∃ n, a.gens.length = n := ⟨_, rfl⟩
  rw [hn] at c4 hl hk
  obtain ⟨v, hv⟩ : ∃ v, a.gen k = v := ⟨_, rfl⟩
  rw [hv] at cg HSt
  obtain ⟨bl, hbl⟩ : ∃ x, a.live.testBit k = x := ⟨_, rfl⟩
  obtain ⟨br, hbr⟩ : ∃ x, a.raised.testBit k = x := ⟨_, rfl⟩
  rw [hbl] at HL HSt
  rw [hbr] at HR HSt
  clear h hn hv hbl hbr ha
  have hk1 := (show Keep w (w.alloc (.cells #[.int .i64 k, .int .i64 g] 45)) Nope from (Keep.refl w Nope).alloc _)
  replace c4 := hk1.cell c4 (fun f => f)
  replace cg := hk1.cell cg (fun f => f)
  replace c1 := hk1.cell c1 (fun f => f)
  replace c2 := hk1.cell c2 (fun f => f)
  clear hk1
  have e0 : decide ((k : Int) < 0) = false := decide_eq_false (by omega)
  have e1 : decide ((k : Int) ≥ (n : Int)) = false := decide_eq_false (by omega)
  have e2 : decide (n ≤ k) = false := decide_eq_false (by omega)
  unfold ptr hdV at *
  by_cases e : (v : Int) = g
  · subst e
    have e3 : ((v : Int) != (v : Int)) = false := by simp
    rw [if_pos rfl] at HSt
    go_enter Tryz.func62, Tryz.ntmps62
    go_wp2_with fail
    go_quiet (fail)
    go_wp2_with fail
    have hk1 := (show Keep w ((w.alloc (.cells #[.int .i64 k, .int .i64 v] 45)).drewN nq) Nope from ((Keep.refl w Nope).alloc _).drewN _)
    have hbx : ((w.alloc (.cells #[.int .i64 k, .int .i64 v] 45)).drewN nq).cell? ⟨w.heap.size, 0, none⟩ = some (.int .i64 (k : Nat)) := (Blk.new w #[.int .i64 k, .int .i64 v] 45).cell 0
    obtain ⟨w1, hw1⟩ : ∃ x, (w.alloc (.cells #[.int .i64 k, .int .i64 v] 45)).drewN nq = x := ⟨_, rfl⟩
    rw [hw1] at hk1 hbx ⊢
    have HK1 := Lib.hid hk1
    replace c1 : w1.cell? ⟨b, 1, none⟩ = some (.pointer (some ⟨p.l, 0, none⟩)) := hk1.cell HRd.out.cells.2.1 (fun f => f)
    replace c2 : w1.cell? ⟨b, 2, none⟩ = some (.pointer (some ⟨p.r, 0, none⟩)) := hk1.cell HRd.out.cells.2.2.1 (fun f => f)
    have HC := Lib.hid (And.intro c1 (And.intro c2 hbx))
    clear hw1 hk1 c4 cg
    refine wp_region_M (r := 7) (S := fun w' => w'.cell? ⟨b, 1, none⟩ = some (.pointer (some ⟨p.l, 0, none⟩)) ∧ w'.cell? ⟨w.heap.size, 0, none⟩ = some (.int .i64 (k : Nat))) (by kernel_rfl) ?_ (fun hHeld => ?_)
    · (try dsimp only); exact ⟨c1, hbx⟩
    refine tkP 0 ?_; refine tkP 1 ?_; refine tkP 2 ?_; refine tkP 3 ?_; refine tkH 4 ?_; refine tkP 5 ?_; refine tkH 6 ?_; refine tkF 7 ?_
    intro K hK
    go_simp
    go_wp2_with ((go_at_call 120; refine (HL.out _ (HRd.out.l.keep (HK1.out.trans (show Keep w1 _ Nope from (by (repeat (first | exact Keep.refl _ _ | apply Keep.drew | apply Keep.drewN | apply Keep.alloc)))) (fun _ f => f.elim)))).mono ?_; rintro e w2 ⟨rfl, hk2⟩; have HK2 := Lib.hid ((Keep.refl w1 Nope).drew.trans hk2 (fun _ f => f.elim)); clear hk2))
    refine hK.out _ _ ?_
    clear hK K
    refine tkP 8 ?_
    refine wpAnyM_done (by kernel_rfl) ?_ _
    clear hHeld c1 c2 hbx
    cases bl
    · have c2 := HK2.out.cell HC.out.2.1 (fun f => f)
      have hbx := HK2.out.cell HC.out.2.2 (fun f => f)
      go_wp2_with fail
      refine wp_region_M (r := 7) (S := fun w' => w'.cell? ⟨b, 2, none⟩ = some (.pointer (some ⟨p.r, 0, none⟩)) ∧ w'.cell? ⟨w.heap.size, 0, none⟩ = some (.int .i64 (k : Nat))) (by kernel_rfl) ?_ (fun hHeld => ?_)
      · (try dsimp only); exact ⟨c2, hbx⟩
      refine tkP 0 ?_; refine tkP 1 ?_; refine tkP 2 ?_; refine tkP 3 ?_; refine tkH 4 ?_; refine tkP 5 ?_; refine tkH 6 ?_; refine tkF 7 ?_
      intro K hK
      go_simp
      go_wp2_with ((go_at_call 120; refine (HR.out _ (HRd.out.r.keep ((HK1.out.trans HK2.out (fun _ f => f.elim)).trans (show Keep w2 _ Nope from (by (repeat (first | exact Keep.refl _ _ | apply Keep.drew | apply Keep.drewN | apply Keep.alloc)))) (fun _ f => f.elim)))).mono ?_; rintro e w3 ⟨rfl, hk3⟩; have HK3 := Lib.hid ((Keep.refl w2 Nope).drew.trans hk3 (fun _ f => f.elim)); clear hk3))
      refine hK.out _ _ ?_
      clear hK K
      refine tkP 8 ?_
      refine wpAnyM_done (by kernel_rfl) ?_ _
      clear hHeld c2 hbx
      cases br
      · obtain rfl := HSt.out
        go_wp2_with fail
        go_ret
        exact ⟨rfl, (HK1.out.trans HK2.out (fun _ f => f.elim)).trans HK3.out (fun _ f => f.elim)⟩
      · obtain rfl := HSt.out
        go_wp2_with fail
        go_ret
        exact ⟨rfl, (HK1.out.trans HK2.out (fun _ f => f.elim)).trans HK3.out (fun _ f => f.elim)⟩
    · obtain rfl := HSt.out
      go_wp2_with fail
      go_ret
      exact ⟨rfl, HK1.out.trans HK2.out (fun _ f => f.elim)⟩
  · have e3 : ((v : Int) != g) = true := by simp; exact e
    rw [if_neg e] at HSt
    obtain rfl := HSt.out
    go_enter Tryz.func62, Tryz.ntmps62
    go_wp2_with fail
    go_quiet (fail)
    go_wp2_with fail
    go_ret
    exact ⟨rfl, (show Keep w _ Nope from (by (repeat (first | exact Keep.refl _ _ | apply Keep.drew | apply Keep.drewN | apply Keep.alloc))))⟩
/-- What a handle is. -/
theorem al_state (b : Nat) (a : AlS) (i g : Int) (ha : a.Ok) (w : World) (h : RdAl w b a) :
    Calls Tryz.prog 62 #[ptr b, hdV i g] w (Ret w (.int .i64 (a.st i g))) := by
  by_cases ho : i < 0 ∨ (a.gens.length : Int) ≤ i
  · have e : a.st i g = 0 := by
      unfold AlS.st
      rw [if_neg (by omega)]
    rw [e]
    exact al_state_no b a i g ho ha.len w h
  · obtain ⟨k, rfl⟩ : ∃ k : Nat, i = k := ⟨i.toNat, by omega⟩
    exact al_state_in b a k g (by omega) ha w h
end Go.Proofs.YtkiikblpgppmkaaGreatDoor

namespace Go.Proofs.YtkiikblpgppmkaaGreatDoor
open Go Go.RowKit
set_option linter.unusedVariables false
set_option linter.unusedSimpArgs false

theorem Tab.st {w0 w : World} {L : List Asr} (h : Tab w0) (H : St w0 w L) : Tab w :=
  ⟨Nat.lt_of_lt_of_le h.1 H.le, fun k hk => (H.bel.cell (p := ⟨0, k, none⟩) h.1).trans (h.2 k hk)⟩
theorem gensV_set (a : AlS) (k v : Nat) : (gensV a.gens).set k (.int .i64 (v : Nat)) = gensV (a.gens.set k v) := by simp [gensV, List.map_set]
theorem St.alP {w0 w : World} {R : List Asr} {b : Nat} {a : AlS} {p : AlB} (H : St w0 w (alL b a p ++ R)) (ha : a.Ok) : RdAlP w b a p := by
  refine ⟨H.blk 0 rfl, H.hibRd 1 rfl ha.f64, H.hibRd 2 rfl ha.l64, H.hibRd 3 rfl ha.r64, fun k hk => ?_⟩
  obtain ⟨g', e, _, _, hc, _⟩ := H.store 4 (n := a.gens.length) (a := some ⟨p.g, 0, none⟩) (c := p.c) (xs := gensV a.gens) rfl (by omega)
  injection e with e
  injection e with e
  subst e
  rw [hc k (by omega)]
  exact gensV_get a k hk
theorem Blk.two {w : World} {b : Nat} {x y : Value} {t : TypeId} (h : Blk w b #[x, y] t) : w.cell? ⟨b, 0, none⟩ = some x ∧ w.cell? ⟨b, 1, none⟩ = some y ∧ w.frozen? ⟨b, 0, none⟩ = false ∧ w.frozen? ⟨b, 1, none⟩ = false :=
  ⟨by rw [h.cell]; rfl, by rw [h.cell]; rfl, h.frozen 0, h.frozen 1⟩
theorem Blk.set2 {w : World} {b : Nat} {x y : Value} {t : TypeId} (h : Blk w b #[x, y] t) (u v : Value) : Blk ((w.setCell ⟨b, 0, none⟩ u).setCell ⟨b, 1, none⟩ v) b #[u, v] t := (h.setCell 0 u).setCell 1 v
theorem Blk.three {w : World} {b : Nat} {x y z : Value} {t : TypeId} (h : Blk w b #[x, y, z] t) : w.cell? ⟨b, 0, none⟩ = some x ∧ w.cell? ⟨b, 1, none⟩ = some y ∧ w.cell? ⟨b, 2, none⟩ = some z ∧ w.frozen? ⟨b, 0, none⟩ = false ∧ w.frozen? ⟨b, 1, none⟩ = false ∧ w.frozen? ⟨b, 2, none⟩ = false :=
  ⟨by rw [h.cell]; rfl, by rw [h.cell]; rfl, by rw [h.cell]; rfl, h.frozen 0, h.frozen 1, h.frozen 2⟩
theorem Blk.set3 {w : World} {b : Nat} {x y z : Value} {t : TypeId} (h : Blk w b #[x, y, z] t) (u v s : Value) : Blk (((w.setCell ⟨b, 0, none⟩ u).setCell ⟨b, 1, none⟩ v).setCell ⟨b, 2, none⟩ s) b #[u, v, s] t := ((h.setCell 0 u).setCell 1 v).setCell 2 s
theorem firstW_free {a : AlS} {k : Nat} (h : firstW a.free 0 = (k : Int)) : a.free.testBit k = true := (firstW_some h).2.2.1

set_option maxHeartbeats 1000000 in
theorem al_give_live {w0 w : World} {R : List Asr} {b : Nat} {a : AlS} {p : AlB} (H : St w0 w (alL b a p ++ R)) (hT : Tab w0) (ha : a.Ok) (k : Nat) (hk : firstW a.free 0 = (k : Int)) :
    Calls Tryz.prog 75 #[ptr b, ptr p.l] w (fun e w' => e = .returned (.tuple #[hdV k ((a.gen k + 1 : Nat) : Int), .int .i64 0]) ∧ St w0 w' (alL b (a.made k) p ++ R)) := by
  have hkf := firstW_free hk
  have hkl := ha.free k hkf
  have hl64 := ha.len
  have hgb := ha.gens k
  have htop := ha.top
  have HA := Lib.hid ha
  have HA2 := Lib.hid (ha.made hkf)
  have HT := Lib.hid hT
  have HKF := Lib.hid hkf
  have HB := Lib.hid (show St w0 (w.alloc (.cells #[.int .i64 0, .int .i64 0] 45)) (blkA w.heap.size #[.int .i64 0, .int .i64 0] 45 :: [blkA b (alCs a p) 190, hibA p.f a.free, hibA p.l a.live, hibA p.r a.raised, slA 2 1 (.slice (some ⟨p.g, 0, none⟩) a.gens.length p.c) a.gens.length (gensV a.gens)] ++ R) from H.box0 _ _)
  have HN := Lib.hid (hib_next p.f a.free 0 (by omega) _ (HT.out.st HB.out) (HB.out.hibRd 2 rfl HA.out.f64))
  rw [hk] at HN
  have hc0 : (w.alloc (.cells #[.int .i64 0, .int .i64 0] 45)).cell? ⟨b, 0, none⟩ = some (.pointer (some ⟨p.f, 0, none⟩)) := by rw [(HB.out.blk 1 rfl).cell]; rfl
  clear H hT ha hk hkf
  unfold ptr hdV at *
  have e0 : decide ((k : Int) ≥ 0) = true := decide_eq_true (by omega)
  go_enter Tryz.func75, Tryz.ntmps75
  go_upto_block 0 with (go_at_call 146; refine HN.out.mono ?_; rintro e w1 ⟨rfl, hk1⟩; have HB1 := Lib.hid (HB.out.keep hk1); clear hk1 HN; have hc1 : w1.cell? ⟨b, 0, none⟩ = some (.pointer (some ⟨p.f, 0, none⟩)) := (by rw [(HB1.out.blk 1 rfl).cell]; rfl); clear HB hc0)
  go_upto_region 8 with (first
    | (go_at_call 148; refine (hib_remove HB1.out 2 rfl HA.out.f64 k (by omega)).mono ?_; rintro e w2 ⟨rfl, h2⟩; have HB2 := Lib.hid (show St w0 w2 (blkA w.heap.size #[.int .i64 0, .int .i64 0] 45 :: [blkA b (alCs a p) 190, hibA p.f (delW a.free k), hibA p.l a.live, hibA p.r a.raised, slA 2 1 (.slice (some ⟨p.g, 0, none⟩) a.gens.length p.c) a.gens.length (gensV a.gens)] ++ R) from h2); clear h2 HB1 hc1)
    | (go_at_call 123; refine (hib_add HB2.out 3 rfl HA.out.l64 k (by omega)).mono ?_; rintro e w3 ⟨rfl, h3⟩; have HB3 := Lib.hid (show St w0 w3 (blkA w.heap.size #[.int .i64 0, .int .i64 0] 45 :: [blkA b (alCs a p) 190, hibA p.f (delW a.free k), hibA p.l (addW a.live k), hibA p.r a.raised, slA 2 1 (.slice (some ⟨p.g, 0, none⟩) a.gens.length p.c) a.gens.length (gensV a.gens)] ++ R) from h3); clear h3 HB2))
  obtain ⟨g', e, hgl, hgf, hgc, hgs⟩ := HB3.out.store 5 (n := a.gens.length) (a := some ⟨p.g, 0, none⟩) (c := p.c) (xs := gensV a.gens) rfl (by omega)
  injection e with e
  injection e with e
  subst e
  have hck := hgc k (by omega)
  rw [gensV_get a k hkl] at hck
  have hfk := hgf k
  have hc4 : w3.cell? ⟨b, 4, none⟩ = some (.slice (some ⟨p.g, 0, none⟩) a.gens.length p.c) := by rw [(HB3.out.blk 1 rfl).cell]; rfl
  have HB4 := Lib.hid (show St w0 (w3.setCell ⟨p.g, k, none⟩ (.int .i64 ((a.gen k + 1 : Nat) : Int))) (blkA w.heap.size #[.int .i64 0, .int .i64 0] 45 :: [blkA b (alCs a p) 190, hibA p.f (delW a.free k), hibA p.l (addW a.live k), hibA p.r a.raised, slA 2 1 (.slice (some ⟨p.g, 0, none⟩) a.gens.length p.c) a.gens.length (gensV (a.gens.set k (a.gen k + 1)))] ++ R) by have h := hgs k (.int .i64 ((a.gen k + 1 : Nat) : Int)); rw [gensV_set] at h; exact h)
  obtain ⟨n, hn⟩ : ∃ n, a.gens.length = n := ⟨_, rfl⟩
  obtain ⟨v, hv⟩ : ∃ v, a.gen k = v := ⟨_, rfl⟩
  have HN := Lib.hid hn
  have HV := Lib.hid hv
  rw [hn] at hc4 hkl hl64
  rw [hv] at hck hgb
  rw [show ((a.gen k + 1 : Nat) : Int) = (v : Int) + 1 by rw [hv]; omega] at *
  clear hgl hgf hgc hgs hn hv HB3
  go_upto_region 9 with fail
  obtain ⟨w4, hw4⟩ : ∃ x, w3.setCell ⟨p.g, k, none⟩ (.int .i64 ((v : Int) + 1)) = x := ⟨_, rfl⟩
  rw [hw4] at HB4 ⊢
  clear hw4 hck hfk hc4
  have HJ := Lib.hid (show St w0 w4 (alL b (a.made k) p ++ R) by
    have h := HB4.out.rest
    unfold alL AlS.made AlS.gave alCs
    simp only [List.length_set]
    exact h)
  have HH := Lib.hid (al_handle b (a.made k) k (by have := HN.out; show k < (a.gens.set k _).length; rw [List.length_set]; omega) (by have := HN.out; show (a.gens.set k _).length ≤ 64; rw [List.length_set]; omega) w4 ⟨p, HJ.out.alP HA2.out⟩)
  rw [show (((a.made k).gen k : Nat) : Int) = (v : Int) + 1 by
    have h := a.gen_set k (a.gen k + 1) k (by have := HN.out; omega)
    rw [if_pos rfl] at h
    have h2 := HV.out
    show (((a.gens.set k (a.gen k + 1)).getD k 0 : Nat) : Int) = _
    rw [h]
    omega] at HH
  unfold ptr hdV at HH
  go_wp2_with (go_at_call 149; refine HH.out.mono ?_; rintro e w5 ⟨rfl, hk5⟩; have HB5 := Lib.hid (HB4.out.keep hk5); clear hk5; obtain ⟨z0, z1, y0, y1⟩ := (HB5.out.blk 0 rfl).two)
  obtain ⟨e0, e1, _, _⟩ := ((HB5.out.blk 0 rfl).set2 (.int .i64 (k : Nat)) (.int .i64 ((v : Int) + 1))).two
  have HF := Lib.hid (((HB5.out.write 0 rfl 0 (.int .i64 (k : Nat))).write 0 rfl 1 (.int .i64 ((v : Int) + 1))).rest)
  clear z0 z1 y0 y1
  refine bodyPost_ret (v := .tuple #[.agg #[.int .i64 (k : Nat), .int .i64 ((v : Int) + 1)], .int .i64 0]) (by simp [results, Tryz.results75, go_sem, e0, e1]) rfl ⟨by rw [show ((a.gen k + 1 : Nat) : Int) = (v : Int) + 1 by have := HV.out; omega], ?_⟩
  have h := HF.out
  unfold alL AlS.made AlS.gave alCs
  simp only [List.length_set]
  exact h

set_option maxHeartbeats 1000000 in
theorem al_give_raised {w0 w : World} {R : List Asr} {b : Nat} {a : AlS} {p : AlB} (H : St w0 w (alL b a p ++ R)) (hT : Tab w0) (ha : a.Ok) (k : Nat) (hk : firstW a.free 0 = (k : Int)) :
    Calls Tryz.prog 75 #[ptr b, ptr p.r] w (fun e w' => e = .returned (.tuple #[hdV k ((a.gen k + 1 : Nat) : Int), .int .i64 0]) ∧ St w0 w' (alL b (a.rose k) p ++ R)) := by
  have hkf := firstW_free hk
  have hkl := ha.free k hkf
  have hl64 := ha.len
  have hgb := ha.gens k
  have htop := ha.top
  have HA := Lib.hid ha
  have HA2 := Lib.hid (ha.rose hkf)
  have HT := Lib.hid hT
  have HKF := Lib.hid hkf
  have HB := Lib.hid (show St w0 (w.alloc (.cells #[.int .i64 0, .int .i64 0] 45)) (blkA w.heap.size #[.int .i64 0, .int .i64 0] 45 :: [blkA b (alCs a p) 190, hibA p.f a.free, hibA p.l a.live, hibA p.r a.raised, slA 2 1 (.slice (some ⟨p.g, 0, none⟩) a.gens.length p.c) a.gens.length (gensV a.gens)] ++ R) from H.box0 _ _)
  have HN := Lib.hid (hib_next p.f a.free 0 (by omega) _ (HT.out.st HB.out) (HB.out.hibRd 2 rfl HA.out.f64))
  rw [hk] at HN
  have hc0 : (w.alloc (.cells #[.int .i64 0, .int .i64 0] 45)).cell? ⟨b, 0, none⟩ = some (.pointer (some ⟨p.f, 0, none⟩)) := by rw [(HB.out.blk 1 rfl).cell]; rfl
  clear H hT ha hk hkf
  unfold ptr hdV at *
  have e0 : decide ((k : Int) ≥ 0) = true := decide_eq_true (by omega)
  go_enter Tryz.func75, Tryz.ntmps75
  go_upto_block 0 with (go_at_call 146; refine HN.out.mono ?_; rintro e w1 ⟨rfl, hk1⟩; have HB1 := Lib.hid (HB.out.keep hk1); clear hk1 HN; have hc1 : w1.cell? ⟨b, 0, none⟩ = some (.pointer (some ⟨p.f, 0, none⟩)) := (by rw [(HB1.out.blk 1 rfl).cell]; rfl); clear HB hc0)
  go_upto_region 8 with (first
    | (go_at_call 148; refine (hib_remove HB1.out 2 rfl HA.out.f64 k (by omega)).mono ?_; rintro e w2 ⟨rfl, h2⟩; have HB2 := Lib.hid (show St w0 w2 (blkA w.heap.size #[.int .i64 0, .int .i64 0] 45 :: [blkA b (alCs a p) 190, hibA p.f (delW a.free k), hibA p.l a.live, hibA p.r a.raised, slA 2 1 (.slice (some ⟨p.g, 0, none⟩) a.gens.length p.c) a.gens.length (gensV a.gens)] ++ R) from h2); clear h2 HB1 hc1)
    | (go_at_call 123; refine (hib_add HB2.out 4 rfl HA.out.r64 k (by omega)).mono ?_; rintro e w3 ⟨rfl, h3⟩; have HB3 := Lib.hid (show St w0 w3 (blkA w.heap.size #[.int .i64 0, .int .i64 0] 45 :: [blkA b (alCs a p) 190, hibA p.f (delW a.free k), hibA p.l a.live, hibA p.r (addW a.raised k), slA 2 1 (.slice (some ⟨p.g, 0, none⟩) a.gens.length p.c) a.gens.length (gensV a.gens)] ++ R) from h3); clear h3 HB2))
  obtain ⟨g', e, hgl, hgf, hgc, hgs⟩ := HB3.out.store 5 (n := a.gens.length) (a := some ⟨p.g, 0, none⟩) (c := p.c) (xs := gensV a.gens) rfl (by omega)
  injection e with e
  injection e with e
  subst e
  have hck := hgc k (by omega)
  rw [gensV_get a k hkl] at hck
  have hfk := hgf k
  have hc4 : w3.cell? ⟨b, 4, none⟩ = some (.slice (some ⟨p.g, 0, none⟩) a.gens.length p.c) := by rw [(HB3.out.blk 1 rfl).cell]; rfl
  have HB4 := Lib.hid (show St w0 (w3.setCell ⟨p.g, k, none⟩ (.int .i64 ((a.gen k + 1 : Nat) : Int))) (blkA w.heap.size #[.int .i64 0, .int .i64 0] 45 :: [blkA b (alCs a p) 190, hibA p.f (delW a.free k), hibA p.l a.live, hibA p.r (addW a.raised k), slA 2 1 (.slice (some ⟨p.g, 0, none⟩) a.gens.length p.c) a.gens.length (gensV (a.gens.set k (a.gen k + 1)))] ++ R) by have h := hgs k (.int .i64 ((a.gen k + 1 : Nat) : Int)); rw [gensV_set] at h; exact h)
  obtain ⟨n, hn⟩ : ∃ n, a.gens.length = n := ⟨_, rfl⟩
  obtain ⟨v, hv⟩ : ∃ v, a.gen k = v := ⟨_, rfl⟩
  have HN := Lib.hid hn
  have HV := Lib.hid hv
  rw [hn] at hc4 hkl hl64
  rw [hv] at hck hgb
  rw [show ((a.gen k + 1 : Nat) : Int) = (v : Int) + 1 by rw [hv]; omega] at *
  clear hgl hgf hgc hgs hn hv HB3
  go_upto_region 9 with fail
  obtain ⟨w4, hw4⟩ : ∃ x, w3.setCell ⟨p.g, k, none⟩ (.int .i64 ((v : Int) + 1)) = x := ⟨_, rfl⟩
  rw [hw4] at HB4 ⊢
  clear hw4 hck hfk hc4
  have HJ := Lib.hid (show St w0 w4 (alL b (a.rose k) p ++ R) by
    have h := HB4.out.rest
    unfold alL AlS.rose AlS.gave alCs
    simp only [List.length_set]
    exact h)
  have HH := Lib.hid (al_handle b (a.rose k) k (by have := HN.out; show k < (a.gens.set k _).length; rw [List.length_set]; omega) (by have := HN.out; show (a.gens.set k _).length ≤ 64; rw [List.length_set]; omega) w4 ⟨p, HJ.out.alP HA2.out⟩)
  rw [show (((a.rose k).gen k : Nat) : Int) = (v : Int) + 1 by
    have h := a.gen_set k (a.gen k + 1) k (by have := HN.out; omega)
    rw [if_pos rfl] at h
    have h2 := HV.out
    show (((a.gens.set k (a.gen k + 1)).getD k 0 : Nat) : Int) = _
    rw [h]
    omega] at HH
  unfold ptr hdV at HH
  go_wp2_with (go_at_call 149; refine HH.out.mono ?_; rintro e w5 ⟨rfl, hk5⟩; have HB5 := Lib.hid (HB4.out.keep hk5); clear hk5; obtain ⟨z0, z1, y0, y1⟩ := (HB5.out.blk 0 rfl).two)
  obtain ⟨e0, e1, _, _⟩ := ((HB5.out.blk 0 rfl).set2 (.int .i64 (k : Nat)) (.int .i64 ((v : Int) + 1))).two
  have HF := Lib.hid (((HB5.out.write 0 rfl 0 (.int .i64 (k : Nat))).write 0 rfl 1 (.int .i64 ((v : Int) + 1))).rest)
  clear z0 z1 y0 y1
  refine bodyPost_ret (v := .tuple #[.agg #[.int .i64 (k : Nat), .int .i64 ((v : Int) + 1)], .int .i64 0]) (by simp [results, Tryz.results75, go_sem, e0, e1]) rfl ⟨by rw [show ((a.gen k + 1 : Nat) : Int) = (v : Int) + 1 by have := HV.out; omega], ?_⟩
  have h := HF.out
  unfold alL AlS.rose AlS.gave alCs
  simp only [List.length_set]
  exact h
end Go.Proofs.YtkiikblpgppmkaaGreatDoor
