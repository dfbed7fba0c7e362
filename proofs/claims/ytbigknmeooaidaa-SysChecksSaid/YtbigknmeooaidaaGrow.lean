/-
  The library's Grow, by the kit's contract, laid at this program (as the kit's command shelf_lay_g lays); at a nil row.
-/
import Derived.Shelf.Spec.SlicesGrow
import Derived.Test.YtbigknmeooaidaaStg3
namespace Go.Proofs
open Go.Shelf
def Try.laysNm84_ren : Go.Shelf.Ren := ⟨fun | 4 => 100 | n => n, fun | 22 => 23 | 25 => 3 | n => n, fun | n => n⟩
theorem Try.laysNm84 : Go.Proofs.Lays8.n4 Try.prog Try.laysNm84_ren := {
  mixed := by kernel_rfl
  f4 := ⟨"slices.Grow[[]int,int]", by decide, Try.func100.trans (congrArg some (by kernel_rfl))⟩
  t0 := Try.underlying0
  a0 := Try.isAgg0
  z0 := Try.sizeOf0
  v0 := Try.zeroValue0
  t3 := Try.underlying3
  a3 := Try.isAgg3
  z3 := Try.sizeOf3
  v3 := Try.zeroValue3
  t4 := Try.underlying4
  a4 := Try.isAgg4
  z4 := Try.sizeOf4
  v4 := Try.zeroValue4
  t9 := Try.underlying9
  a9 := Try.isAgg9
  z9 := Try.sizeOf9
  v9 := Try.zeroValue9
  t20 := Try.underlying20
  a20 := Try.isAgg20
  z20 := Try.sizeOf20
  v20 := Try.zeroValue20
  t22 := Try.underlying23
  a22 := Try.isAgg23
  z22 := Try.sizeOf23
  v22 := Try.zeroValue23 }
end Go.Proofs
namespace Go.Proofs.Ytbigknmeooaidaa
open Go Go.RowKit
set_option linter.unusedVariables false
set_option linter.unusedSimpArgs false
theorem int_info : ∃ i, Try.prog.info? 3 = some i ∧ i.zero = some (.int .i64 0) ∧ i.size = 1 ∧ i.bytes = 8 := by
  obtain ⟨ht, ⟨i, z, hi, hz, hsize, hby, hzs⟩, hsz⟩ := slInt
  refine ⟨i, hi, ?_, hsize, hby⟩
  have : (Try.prog.info? 3).bind (·.zero) = some (.int .i64 0) := by kernel_rfl
  rw [hi] at this
  exact this
/-- Room for n numbers, of a nil row. -/
theorem grow_nil (n : Nat) (hn : n ≤ 1000000) (w : World) :
    Calls Try.prog 100 #[.slice none 0 0, .int .i64 (n : Int)] w (fun e w' => ∃ (a : Option Addr) (c : Nat), e = .returned (.slice a 0 c) ∧ Keep w w' Nope ∧ Own (New w w') w' 3 1 (.slice a 0 c) 0 []) := by
  by_cases h0 : n = 0
  · subst h0
    refine (Any8.slices_Grow_room Try.laysNm84 none 0 0 0 w (Nat.le_refl _) (by omega) (by omega) (Nat.le_refl _)).mono ?_
    rintro e w' ⟨rfl, rfl⟩
    exact ⟨none, 0, rfl, Keep.refl _ _, Own.nil _ _ _ _⟩
  · obtain ⟨i, hi, hz, hs, hb⟩ := int_info
    refine (Any8.slices_Grow_grow Try.laysNm84 i _ hi hz (by omega) none 0 0 n [] w (Nat.le_refl _) (by omega) (by rw [hb]; omega) (by omega) (by simp) (fun _ => rfl) (fun a h => by cases h)).mono ?_
    rintro e w' ⟨rfl, rfl⟩
    have hge := grownCap_ge w (0 + n) 0 (Try.laysNm84_ren.t 25)
    have hle := grownCap_le_maxLen w (0 + n) 0 (Try.laysNm84_ren.t 25) (by unfold maxLen; omega)
    refine ⟨_, _, rfl, (Keep.refl w Nope).drew.alloc _, ⟨⟨rfl, .inr ⟨w.heap.size, _, _, rfl, Nat.zero_le _, heap_alloc_new w.drew _, Nat.zero_le _, hle, ?_, by simp⟩⟩, fun g hg => ?_⟩⟩
    · simp only [Array.size_append, List.size_toArray, size_zeroCells, List.length_nil]
      rw [Nat.zero_add] at hge ⊢
      simp [Value.cells]
      omega
    · simp [Value.ownBlock] at hg
      subst hg
      exact ⟨Nat.le_refl _, by rw [World.size_alloc]; exact Nat.lt_succ_self _⟩
/-- Room for n numbers, of a nil row: as many as memory bears. -/
theorem grow_big (n : Nat) (hn : n * 8 ≤ 281474976710656) (w : World) :
    Calls Try.prog 100 #[.slice none 0 0, .int .i64 (n : Int)] w (fun e w' => ∃ (a : Option Addr) (c : Nat), e = .returned (.slice a 0 c) ∧ n ≤ c ∧ Keep w w' Nope ∧ Own (New w w') w' 3 1 (.slice a 0 c) 0 []) := by
  by_cases h0 : n = 0
  · subst h0
    refine (Any8.slices_Grow_room Try.laysNm84 none 0 0 0 w (Nat.le_refl _) (by omega) (by omega) (Nat.le_refl _)).mono ?_
    rintro e w' ⟨rfl, rfl⟩
    exact ⟨none, 0, rfl, Nat.le_refl _, Keep.refl _ _, Own.nil _ _ _ _⟩
  · obtain ⟨i, hi, hz, hs, hb⟩ := int_info
    have hold : (Builtin.firstCells i.size 0 (.slice none 0 0)).run Try.prog w.drew = .ok ([] : List Value).toArray w.drew := run_firstCells_none w.drew i.size 0 0 0
    have hrz : ∀ ty, (Builtin.append_ #[23, 3] ty #[.slice none 0 0, .int .i64 (n : Int)]).run Try.prog w = .ok (.slice (some ⟨w.heap.size, 0, none⟩) n (grownCap w n 0 3)) (w.drew.alloc (.cells (([] : List Value).toArray ++ Builtin.zeroCells (Value.int .i64 0).cells n ++ Builtin.zeroCells (Value.int .i64 0).cells (grownCap w n 0 3 - n)) 3)) := fun ty => by
      have h := Lib.run_append_grow_zeros w 23 3 ty 3 i (.int .i64 0) .i64 .i64 Try.underlying23 Try.underlying3 hi hz none 0 0 [] hold n (by omega) (by rw [hs]; decide) (by omega) (by omega) (by rw [hb]; exact hn) (by rw [Nat.zero_add, nextslicecap_zero (by omega), hb]; exact hn)
      simp only [Nat.zero_add] at h
      exact h
    have hge := grownCap_ge w n 0 3
    have hle := grownCap_le_maxLen w n 0 3 (by unfold maxLen; omega)
    obtain ⟨G, hG⟩ : ∃ G, G = grownCap w n 0 3 := ⟨_, rfl⟩
    rw [← hG] at hrz hge hle
    have hG63 : G ≤ 9223372036854775807 := by unfold maxLen at hle; omega
    have hn0 : ¬ (n : Int) < 0 := by omega
    have hn1 : (n : Int) > 0 := by omega
    have hn2 : (n : Int) ≤ 35184372088832 := by omega
    have HLE := Lib.hid hle
    have HGE := Lib.hid hge
    clear hG hle hge hold hb hz hi hs h0 hn
    go_enter Try.func100, Try.ntmps100
    go_wp2_with (at_builtin; refine Lib.wpList_append_run _ rfl _ _ _ _ rfl _ _ rfl rfl _ _ (hrz _) ?_)
    all_goals
      go_ret
      refine ⟨_, _, rfl, HGE.out, (Keep.refl w Nope).drew.alloc _, ⟨⟨rfl, .inr ⟨w.heap.size, _, _, rfl, Nat.zero_le _, heap_alloc_new w.drew _, Nat.zero_le _, HLE.out, ?_, by simp⟩⟩, fun g hg => ?_⟩⟩
      · simp only [Array.size_append, List.size_toArray, size_zeroCells, List.length_nil]
        have := HGE.out
        simp [Value.cells]
        omega
      · simp [Value.ownBlock] at hg
        subst hg
        exact ⟨Nat.le_refl _, by show w.heap.size < (w.alloc _).heap.size; rw [World.size_alloc]; exact Nat.lt_succ_self _⟩
/-- An append that has room stays where it was. -/
theorem run_app_room {P : Program} {t e : TypeId} {size bytes : Nat} (hT : SlTy P t e size bytes) (ty : TypeId) {S S2 : Nat → Prop} {w : World} {va : Option Addr} {x : Value} {n c m : Nat} {xs news : List Value}
    (hown : Own S w e size (.slice va n c) n xs) (hx : Rd S2 w x m news) (hl : news.length = m * size) (h1 : ∀ u ∈ news, u.oneCell' = true) (hroom : n + m ≤ c) :
    ∃ w', (Builtin.append_ #[t, t] ty #[.slice va n c, x]).run P w = .ok (.slice va (n + m) c) w' ∧ Own S w' e size (.slice va (n + m) c) (n + m) (xs ++ news) ∧ Keep w w' S := by
  obtain ⟨ht, ⟨i, z, hi, hz, hsize, hby, hzs⟩, hsz⟩ := hT
  obtain ⟨a, c', rfl, hmc, hcm, hnil, hcells⟩ := hx
  subst hsize
  have hxl := hown.len
  have hlen' : (xs ++ news).length = (n + m) * i.size := by rw [List.length_append, hxl, hl, Nat.add_mul]
  rcases hown.view with ⟨he, rfl, rfl⟩ | ⟨g, cap, cur, he, hS, hb, r1, r2, r3, r4⟩
  · injection he with e1 e2 e3
    subst e1 e3
    obtain rfl : m = 0 := by omega
    have hn : news = [] := List.eq_nil_of_length_eq_zero (by simpa using hl)
    subst hn
    refine ⟨w, ?_, by simpa using hown, Keep.refl w S⟩
    cases a <;> simp [Builtin.append_, run_underlying ht, sizeOf, typeInfo, hi, Builtin.lenOf, Builtin.firstCells, loadCells, loadCellsFrom]
  · injection he with e1 e2 e3
    subst e1 e3
    by_cases hm : m = 0
    · subst hm
      have hn : news = [] := List.eq_nil_of_length_eq_zero (by simpa using hl)
      subst hn
      refine ⟨w, ?_, by simpa using hown, Keep.refl w S⟩
      cases a <;> simp [Builtin.append_, run_underlying ht, sizeOf, typeInfo, hi, Builtin.lenOf, Builtin.firstCells, loadCells, loadCellsFrom, r1, storeCells]
    · have hpos : 0 < news.length := by rw [hl]; exact Nat.mul_pos (by omega) hsz
      obtain ⟨b, o, rfl, _, _⟩ := hcells 0 _ (List.getElem?_eq_getElem hpos)
      have hnews : ∀ j u, news[j]? = some u → w.cell? ((⟨b, o, none⟩ : Addr).add j) = some u := by
        intro j u hu
        obtain ⟨b', o', he, _, hc⟩ := hcells j u hu
        injection he with he
        injection he with e1 e2
        subst e1; subst e2
        unfold Addr.add
        split
        · rename_i hj; subst hj; simpa using hc
        · exact hc
      have hfit : n * i.size + news.length ≤ cur.size := by rw [hl, r3, ← Nat.add_mul]; exact Nat.mul_le_mul_right _ hroom
      have hr := run_append_room (P := P) w t ty e i ht hi g n c cur hb ⟨b, o, none⟩ m c' news hl hnews h1 hroom hfit
      refine ⟨_, hr, ⟨⟨hlen', .inr ⟨g, c, _, rfl, Nat.zero_le _, setRow_heap w g cur _ e _ hb, hroom, r2, ?_, ?_⟩⟩, fun g' hg' => ?_⟩, (Keep.refl w S).setRow (.inl hS) _⟩
      · simp only [List.size_toArray, List.length_append, List.length_take, List.length_drop, Array.length_toList]
        omega
      · rw [r4, ← hlen']
        exact List.take_left
      · simp [Value.ownBlock] at hg'
        subst hg'
        exact hS
theorem wpList_app_room {P : Program} {t e : TypeId} {size bytes : Nat} (hT : SlTy P t e size bytes) {ops : Array Oper} {rest : List Oper} {o : Oper} {a : Act} {w : World} {Q : Exit → Act → World → Prop} (hgd : o.guard = none) (s x : Operand)
    (ho : o.op = .call { callee := .builtin .append, args := #[s, x], argTypes := #[t, t] })
    {S S2 : Nat → Prop} {va : Option Addr} {y : Value} {n c m : Nat} {xs news : List Value} (hs : a.eval s = .slice va n c) (hy : a.eval x = y)
    (hown : Own S w e size (.slice va n c) n xs) (hx : Rd S2 w y m news) (hl : news.length = m * size) (h1 : ∀ u ∈ news, u.oneCell' = true) (hroom : n + m ≤ c)
    (h : ∀ w', Own S w' e size (.slice va (n + m) c) (n + m) (xs ++ news) → Keep w w' S → wpList P ops Q rest (a.put o.dst (.slice va (n + m) c)) w') : wpList P ops Q (o :: rest) a w := by
  refine wpList_plain hgd fun K hK => ?_
  obtain ⟨w', hr, h2, h3⟩ := run_app_room hT o.type hown hx hl h1 hroom
  unfold Oper.wp execOp
  simp only [ho, resolve, invoke, builtin, Sem.run_bind, Sem.run_pure, Result.andThen_ok, List.map_toArray, List.map_cons, List.map_nil, hs, hy, hr]
  exact hK _ _ (h w' h2 h3)
end Go.Proofs.Ytbigknmeooaidaa
