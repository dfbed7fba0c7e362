/-
  The package script: acts, Do. (Printed by tools/gen_sc8.py.); The package script: Run; The package vivariumtop: awake.
-/
import Derived.Test.YtkiikblpgppmkaaGreatDoorTlM41
import Derived.Great.BuildSlice
namespace Go.Proofs.YtkiikblpgppmkaaGreatDoor
open Go Go.RowKit
set_option linter.unusedVariables false
set_option linter.unusedSimpArgs false

/-- The acts, by their kinds. -/
def actsCs : Array Value := #[.nilFunc, .func (.func 171) #[] #[], .func (.func 172) #[] #[], .func (.func 173) #[] #[], .func (.func 174) #[] #[], .func (.func 175) #[] #[], .func (.func 176) #[] #[], .func (.func 177) #[] #[], .func (.func 178) #[] #[], .func (.func 179) #[] #[], .func (.func 180) #[] #[], .func (.func 181) #[] #[], .func (.func 182) #[] #[], .func (.func 183) #[] #[], .func (.func 184) #[] #[], .func (.func 185) #[] #[], .func (.func 186) #[] #[], .func (.func 187) #[] #[], .func (.func 188) #[] #[], .func (.func 189) #[] #[], .func (.func 190) #[] #[], .func (.func 191) #[] #[]]
def actsZ : Array Value := #[.nilFunc, .nilFunc, .nilFunc, .nilFunc, .nilFunc, .nilFunc, .nilFunc, .nilFunc, .nilFunc, .nilFunc, .nilFunc, .nilFunc, .nilFunc, .nilFunc, .nilFunc, .nilFunc, .nilFunc, .nilFunc, .nilFunc, .nilFunc, .nilFunc, .nilFunc]
theorem step_alloc {P : Program} {t : TypeId} {Z : Array Value} {o : Oper} {a : Act} {w : World} {K : Act → World → Prop} {Q : Exit → Act → World → Prop} (ho : o.op = .alloc t)
    (hrun : ∀ w, (Instr.alloc t true (.tuple #[])).run P w = .ok (.pointer (some ⟨w.heap.size, 0, none⟩)) (w.alloc (.cells Z t)))
    (h : K (a.put o.dst (.pointer (some ⟨w.heap.size, 0, none⟩))) (w.alloc (.cells Z t))) : Oper.wp P o a w K Q := by
  unfold Oper.wp execOp
  simp only [ho, Sem.run_bind, hrun, Result.andThen_ok, Sem.run_pure]
  exact h
theorem alloc_acts : ∀ w, (Instr.alloc 228 true (.tuple #[])).run Tryz.prog w = .ok (.pointer (some ⟨w.heap.size, 0, none⟩)) (w.alloc (.cells actsZ 228)) := by
  intro w
  have hz := Tryz.zeroValue228 w
  simp [Instr.alloc, hz, go_sem]
  rfl
set_option maxRecDepth 100000 in
set_option maxHeartbeats 1000000 in
theorem scr_acts (w : World) : Calls Tryz.prog 99 #[] w (fun e w' => e = .returned (.agg actsCs) ∧ Keep w w' Nope) := by
  go_enter Tryz.func99, Tryz.ntmps99
  go_upto_region 1 with fail
  refine wp_region_list ?_
  refine wpList_build rfl 228 _ rfl (by kernel_rfl) ?_
  rw [show (Tryz.prog.built _ _).getD #[] = actsCs from by kernel_rfl]
  refine wpList_store_row rfl 228 _ _ rfl w.heap.size actsCs rfl rfl _ _ (Blk.new w _ _) (by kernel_rfl) rfl (by kernel_rfl) ?_
  refine wpList_nil ?_
  go_wp2_with fail
  refine bodyPost_ret (results_row rfl rfl (setRow_heap _ _ _ _ _ _ (Blk.new w _ _)) Tryz.underlying228 rfl (by kernel_rfl)) rfl ?_
  exact ⟨rfl, ((Keep.refl w Nope).alloc _).setRow (.inr (Nat.le_refl _)) _⟩
/-- A call through a function value in a slot. -/
theorem step_callv {P : Program} {o : Oper} {a : Act} {w : World} {K : Act → World → Prop} {Q : Exit → Act → World → Prop} {f : FuncId} {args : Array Value} {R : Ending → World → Prop} (x : Operand) (xs : Array Operand) (ats : Array TypeId) (ho : o.op = .call { callee := .value x, args := xs, argTypes := ats }) (hf : a.eval x = .func (.func f) #[] #[])
    (hcf : ∀ args w, (callFunc f args).run P w = .ok (.enter f args) w) (hargs : xs.map a.eval = args) (hc : Calls P f args w R) (h : ∀ e w', R e w' → ∃ v, e = .returned v ∧ K (a.put o.dst v) w') : Oper.wp P o a w K Q := by
  refine step_call (f := f) (args := args) ?_ hc h
  unfold execOp
  simp only [ho, resolve, hf, hargs, Deferred.ofValue]
  simp [invoke, hcf, go_sem]
/-- A whole row is stored, the world behind it being a name. -/
theorem St.stepRow {P : Program} {w0 w : World} {L : List Asr} {g : Nat} {old : Array Value} {t : TypeId} (H : St w0 w (blkA g old t :: L)) {o : Oper} {a : Act} {K : Act → World → Prop} {Q : Exit → Act → World → Prop} (ty : TypeId) (x y : Operand) (ho : o.op = .store ty x y) (cells : Array Value)
    (hx : a.eval x = .pointer (some ⟨g, 0, none⟩)) (hy : a.eval y = .agg cells) (hi : (P.info? ty).map (·.size) = some cells.size) (hold : old.size = cells.size) (h1 : cells.all (·.oneCell') = true)
    (h : ∀ w', St w0 w' (blkA g cells t :: L) → K (a.put o.dst undef) w') : Oper.wp P o a w K Q :=
  wp_store_row ty x y ho g cells hx hy t old (H.blk 0 rfl) hi hold h1 (h _ (H.setRowAll 0 rfl cells))
theorem St.wpRow {P : Program} {w0 w : World} {L : List Asr} {g : Nat} {old : Array Value} {t : TypeId} (H : St w0 w (blkA g old t :: L)) {ops : Array Oper} {rest : List Oper} {o : Oper} {a : Act} {Q : Exit → Act → World → Prop} (hg : o.guard = none) (ty : TypeId) (x y : Operand) (ho : o.op = .store ty x y) (cells : Array Value)
    (hx : a.eval x = .pointer (some ⟨g, 0, none⟩)) (hy : a.eval y = .agg cells) (hi : (P.info? ty).map (·.size) = some cells.size) (hold : old.size = cells.size) (h1 : cells.all (·.oneCell') = true)
    (h : ∀ w', St w0 w' (blkA g cells t :: L) → wpList P ops Q rest (a.put o.dst undef) w') : wpList P ops Q (o :: rest) a w :=
  wpList_plain hg fun _ hK => H.stepRow ty x y ho cells hx hy hi hold h1 fun w' h' => hK _ _ (h w' h')
theorem St.scBack {w0 w : World} {L E : List Asr} {s : Nat} {x : WoS} {l : List HdV} {p : ScP} {C : Asr} (H : St w0 w (C :: (scL s x l p ++ (L ++ E)))) : St w0 w (scL s x l p ++ (L ++ (E ++ [C]))) := by
  have e : scL s x l p ++ (L ++ (E ++ [C])) = (scL s x l p ++ (L ++ E)) ++ [C] := by simp
  rw [e]
  exact H.last
theorem St.scLast {w0 w : World} {L E : List Asr} {s : Nat} {x : WoS} {l : List HdV} {p : ScP} {C : Asr} (H : St w0 w (scL s x l p ++ (L ++ (E ++ [C])))) : St w0 w (C :: (scL s x l p ++ (L ++ E))) := by
  have e : scL s x l p ++ (L ++ (E ++ [C])) = (scL s x l p ++ (L ++ E)) ++ [C] := by simp
  rw [e] at H
  exact H.first
theorem Blk.repE {w : World} {b : Nat} {r : RepV} (h : Blk w b r.cs 57) (he : r.e = 0) : w.cell? ⟨b, 0, none⟩ = some (.int .i64 0) := by
  rw [h.rep.1, he]
theorem Blk.repR {w : World} {b : Nat} {r : RepV} (h : Blk w b r.cs 57) : w.rangeAt b 0 r.cells := fun j v hv => by
  rw [Nat.zero_add, h.cell]
  simpa [RepV.cs, RepV.cells] using hv
set_option maxRecDepth 100000 in
set_option maxHeartbeats 4000000 in
theorem scr_do {w0 w : World} {L : List Asr} {s : Nat} {x x' : WoS} {l l' : List HdV} {p : ScP} (H : St w0 w (scL s x l p ++ L)) (R : RepV → Prop) (a : ActV) (kind : Nat) (ha : a.kind = (kind : Int)) (h1 : 1 ≤ kind) (h2 : kind ≤ 21) (f : Nat) (hf : actsCs[kind]? = some (.func (.func f) #[] #[])) (hcf : ∀ args w, (callFunc f args).run Tryz.prog w = .ok (.enter f args) w)
    (hc : ∀ (w1 : World) (E : List Asr), St w0 w1 (scL s x l p ++ (L ++ E)) → Calls Tryz.prog f #[ptr s, a.val] w1 (fun e w' => ∃ r, r.e = 0 ∧ R r ∧ RetScr w0 (L ++ E) s x' l' r e w')) :
    Calls Tryz.prog 39 #[ptr s, a.val] w (fun e w' => ∃ r, R r ∧ RetScr w0 L s x' l' r e w') := by
  have HB := Lib.hid (H.scBox a RepV.zero)
  have HC := Lib.hid hc
  have HCF := Lib.hid hcf
  obtain ⟨wa, hwa⟩ : ∃ wa, (w.alloc (.cells a.cs 38)).alloc (.cells RepV.zero.cs 57) = wa := ⟨_, rfl⟩
  rw [hwa] at HB
  have hba : Blk wa w.heap.size a.cs 38 := HB.out.scUnbox.blk 1 rfl
  have e0 : decide ((kind : Int) < 1) = false := decide_eq_false (by omega)
  have e1 : decide ((kind : Int) > 21) = false := decide_eq_false (by omega)
  have e2 : decide (22 ≤ kind) = false := decide_eq_false (by omega)
  have e3 : decide ((kind : Int) < 0) = false := decide_eq_false (by omega)
  have HF := Lib.hid hf
  have HK := Lib.hid h2
  obtain ⟨_, ah, ac, an, ⟨vk, va, vb⟩, pl, sy, pk⟩ := a
  simp only at ha
  subst ha
  have a0 : wa.cell? ⟨w.heap.size, 0, none⟩ = some (.int .i64 (kind : Nat)) := by rw [hba.cell]; rfl
  clear H hc hf hcf hba h1 h2
  unfold ActV.val ActV.cs ptr at *
  simp only [RepV.cs, RepV.zero] at hwa
  simp only at *
  go_enter Tryz.func39, Tryz.ntmps39
  go_upto_region 3 with fail
  try rw [hwa]
  refine wp_region_list ?_
  refine wpList_call rfl (f := 99) (args := #[]) (by kernel_rfl) (scr_acts wa) (fun e w1 hr => ?_)
  obtain ⟨rfl, hk1⟩ := hr
  refine ⟨_, rfl, ?_⟩
  refine wpList_plain rfl fun K hK => step_alloc rfl alloc_acts (hK _ _ ?_)
  obtain ⟨ab, hab⟩ : ∃ ab, w1.heap.size = ab := ⟨_, rfl⟩
  have HB1 := Lib.hid (((HB.out.keep hk1).scBox1 actsZ 228).scLast)
  rw [hab] at HB1 ⊢
  refine HB1.out.wpRow rfl 228 _ _ rfl actsCs rfl rfl (by kernel_rfl) rfl (by kernel_rfl) ?_
  intro wb hb
  have HB2 := Lib.hid (St.scBack hb)
  clear hb hK K hab HB1 hk1 HB
  refine wpList_nil ?_
  have hba : Blk wb w.heap.size #[.int .i64 (kind : Nat), .int .i64 ah, .int .i64 ac, .int .i64 an, .int .i64 vk, .int .i64 va, .int .i64 vb, pl, sy, pk] 38 := HB2.out.scLast.rest.scUnbox.blk 1 rfl
  have cf : wb.cell? ⟨ab, kind, none⟩ = some (.func (.func f) #[] #[]) := by rw [(HB2.out.scLast.blk 0 rfl).cell]; exact HF.out
  clear a0
  have a0 : wb.cell? ⟨w.heap.size, 0, none⟩ = some (.int .i64 (kind : Nat)) := by rw [hba.cell]; rfl
  have a1 : wb.cell? ⟨w.heap.size, 1, none⟩ = some (.int .i64 ah) := by rw [hba.cell]; rfl
  have a2 : wb.cell? ⟨w.heap.size, 2, none⟩ = some (.int .i64 ac) := by rw [hba.cell]; rfl
  have a3 : wb.cell? ⟨w.heap.size, 3, none⟩ = some (.int .i64 an) := by rw [hba.cell]; rfl
  have a4 : wb.cell? ⟨w.heap.size, 4, none⟩ = some (.int .i64 vk) := by rw [hba.cell]; rfl
  have a5 : wb.cell? ⟨w.heap.size, 5, none⟩ = some (.int .i64 va) := by rw [hba.cell]; rfl
  have a6 : wb.cell? ⟨w.heap.size, 6, none⟩ = some (.int .i64 vb) := by rw [hba.cell]; rfl
  have a7 : wb.cell? ⟨w.heap.size, 7, none⟩ = some pl := by rw [hba.cell]; rfl
  have a8 : wb.cell? ⟨w.heap.size, 8, none⟩ = some sy := by rw [hba.cell]; rfl
  have a9 : wb.cell? ⟨w.heap.size, 9, none⟩ = some pk := by rw [hba.cell]; rfl
  clear hba
  have HKI := Lib.hid (show kind < 22 from by have := HK.out; omega)
  go_upto_region 4 with fail
  have ek : ((kind : Nat) : Int) < 22 := by have := HKI.out; omega
  refine wp_region_M (r := 6) (S := fun w' => w'.cell? ⟨ab, kind, none⟩ = some (.func (.func f) #[] #[]) ∧ w'.cell? ⟨w.heap.size, 0, none⟩ = some (.int .i64 (kind : Nat)) ∧ w'.cell? ⟨w.heap.size, 1, none⟩ = some (.int .i64 ah) ∧ w'.cell? ⟨w.heap.size, 2, none⟩ = some (.int .i64 ac) ∧ w'.cell? ⟨w.heap.size, 3, none⟩ = some (.int .i64 an) ∧ w'.cell? ⟨w.heap.size, 4, none⟩ = some (.int .i64 vk) ∧ w'.cell? ⟨w.heap.size, 5, none⟩ = some (.int .i64 va) ∧ w'.cell? ⟨w.heap.size, 6, none⟩ = some (.int .i64 vb) ∧ w'.cell? ⟨w.heap.size, 7, none⟩ = some pl ∧ w'.cell? ⟨w.heap.size, 8, none⟩ = some sy ∧ w'.cell? ⟨w.heap.size, 9, none⟩ = some pk) (by kernel_rfl) ?_ (fun hHeld => ?_)
  · (try dsimp only); (first | exact ⟨cf, a0, a1, a2, a3, a4, a5, a6, a7, a8, a9⟩ | exact ⟨((Keep.refl wb Nope).alloc _).drew.cell cf (fun f => f), ((Keep.refl wb Nope).alloc _).drew.cell a0 (fun f => f), ((Keep.refl wb Nope).alloc _).drew.cell a1 (fun f => f), ((Keep.refl wb Nope).alloc _).drew.cell a2 (fun f => f), ((Keep.refl wb Nope).alloc _).drew.cell a3 (fun f => f), ((Keep.refl wb Nope).alloc _).drew.cell a4 (fun f => f), ((Keep.refl wb Nope).alloc _).drew.cell a5 (fun f => f), ((Keep.refl wb Nope).alloc _).drew.cell a6 (fun f => f), ((Keep.refl wb Nope).alloc _).drew.cell a7 (fun f => f), ((Keep.refl wb Nope).alloc _).drew.cell a8 (fun f => f), ((Keep.refl wb Nope).alloc _).drew.cell a9 (fun f => f)⟩)
  refine tkP 0 ?_; refine tkP 4 ?_; refine tkH 5 ?_
  refine wpAnyM_ready (rs := [1, 7]) (by kernel_rfl) (by simp) ?_
  refine AllReadyM.cons (o := ?_) ?_ ?_ ?_
  rotate_left 1
  · simp only [List.getElem?_toArray, List.getElem?_cons_succ, List.getElem?_cons_zero]; exact rfl
  · intro K hK
    go_simp
    refine hK.out _ _ ?_ (fun hHeld => ?_)
    · (try dsimp only); (first | exact ⟨cf, a0, a1, a2, a3, a4, a5, a6, a7, a8, a9⟩ | exact ⟨((Keep.refl wb Nope).alloc _).drew.cell cf (fun f => f), ((Keep.refl wb Nope).alloc _).drew.cell a0 (fun f => f), ((Keep.refl wb Nope).alloc _).drew.cell a1 (fun f => f), ((Keep.refl wb Nope).alloc _).drew.cell a2 (fun f => f), ((Keep.refl wb Nope).alloc _).drew.cell a3 (fun f => f), ((Keep.refl wb Nope).alloc _).drew.cell a4 (fun f => f), ((Keep.refl wb Nope).alloc _).drew.cell a5 (fun f => f), ((Keep.refl wb Nope).alloc _).drew.cell a6 (fun f => f), ((Keep.refl wb Nope).alloc _).drew.cell a7 (fun f => f), ((Keep.refl wb Nope).alloc _).drew.cell a8 (fun f => f), ((Keep.refl wb Nope).alloc _).drew.cell a9 (fun f => f)⟩)
    clear hK K
    refine tkP 2 ?_; refine tkH 3 ?_
    refine wpAnyM_ready (rs := [6, 7]) (by kernel_rfl) (by simp) ?_
    refine AllReadyM.free (o := ?_) ?_ (by kernel_rfl) ?_ ?_
    rotate_left 1
    · simp only [List.getElem?_toArray, List.getElem?_cons_succ, List.getElem?_cons_zero]; exact rfl
    · intro K hK
      rw [if_pos (by rfl)]
      (first | refine step_callv (f := f) (args := #[.pointer (some ⟨s, 0, none⟩), .agg #[.int .i64 (kind : Nat), .int .i64 ah, .int .i64 ac, .int .i64 an, .int .i64 vk, .int .i64 va, .int .i64 vb, pl, sy, pk]]) _ _ _ rfl rfl HCF.out (by kernel_rfl) (HC.out _ _ HB2.out.drew) ?_ | refine step_callv (f := f) (args := #[.pointer (some ⟨s, 0, none⟩), .agg #[.int .i64 (kind : Nat), .int .i64 ah, .int .i64 ac, .int .i64 an, .int .i64 vk, .int .i64 va, .int .i64 vb, pl, sy, pk]]) _ _ _ rfl rfl HCF.out (by kernel_rfl) (HC.out _ _ (HB2.out.scBox1 RepV.zero.cs 57).drew) ?_); rintro e w2 ⟨r, hr, hR, p2, rfl, h2⟩; have H2 := Lib.hid h2; have HRE := Lib.hid hr; have HRR := Lib.hid hR; clear h2 hr hR HC HB2; refine ⟨_, rfl, ?_⟩
      refine hK.out _ _ ?_
      clear hK K
      (try simp only [List.getElem_toArray, List.getElem_cons_succ, List.getElem_cons_zero, Act.put, List.setIfInBounds_toArray, List.set_cons_zero, List.set_cons_succ])
      refine tkF 7 ?_
      intro K hK
      go_simp
      refine hK.out _ _ ?_
      clear hK K
      refine tkF 8 ?_
      intro K hK
      rw [if_pos (by rfl)]
      (first | refine St.stepRow (H2.out.scLast) 57 _ _ rfl r.cs rfl rfl (by kernel_rfl) rfl (all_oneCell_toArray (RepV.one r)) ?_ | refine St.stepRow ((H2.out.scBox1 RepV.zero.cs 57).scLast) 57 _ _ rfl r.cs rfl rfl (by kernel_rfl) rfl (all_oneCell_toArray (RepV.one r)) ?_); intro w3 h3; have H3 := Lib.hid h3; clear h3 H2
      refine hK.out _ _ ?_
      clear hK K
      (try simp only [List.getElem_toArray, List.getElem_cons_succ, List.getElem_cons_zero, Act.put, List.setIfInBounds_toArray, List.set_cons_zero, List.set_cons_succ])
      refine wpAnyM_done (by kernel_rfl) ?_ _
      have x0 := (H3.out.blk 0 rfl).repE HRE.out
      have HRG := Lib.hid (H3.out.blk 0 rfl).repR
      clear hHeld cf a0 a1 a2 a3 a4 a5 a6 a7 a8 a9
      go_upto_region 7 with fail
      refine wp_region_list ?_
      refine wpList_load_mid rfl 57 _ rfl _ 0 rfl r.cells _ HRG.out Tryz.underlying57 rfl (by kernel_rfl) ?_
      refine (H3.out.rest.scLast.rest.scUnbox).wpRow rfl 57 _ _ rfl r.cs rfl rfl (by kernel_rfl) rfl (all_oneCell_toArray (RepV.one r)) ?_
      intro w4 h4
      have H4 := Lib.hid h4
      clear h4
      refine wpList_nil ?_
      go_wp2_with fail
      refine bodyPost_ret (results_rep rfl rfl (H4.out.blk 0 rfl)) rfl ?_
      exact ⟨r, HRR.out, p2, rfl, H4.out.rest.rest⟩
    refine AllReadyM.cons (o := ?_) ?_ ?_ ?_
    rotate_left 1
    · simp only [List.getElem?_toArray, List.getElem?_cons_succ, List.getElem?_cons_zero]; exact rfl
    · intro K hK
      go_simp
      refine hK.out _ _ ?_ (fun hHeld => ?_)
      · (try dsimp only); (first | exact ⟨cf, a0, a1, a2, a3, a4, a5, a6, a7, a8, a9⟩ | exact ⟨((Keep.refl wb Nope).alloc _).drew.cell cf (fun f => f), ((Keep.refl wb Nope).alloc _).drew.cell a0 (fun f => f), ((Keep.refl wb Nope).alloc _).drew.cell a1 (fun f => f), ((Keep.refl wb Nope).alloc _).drew.cell a2 (fun f => f), ((Keep.refl wb Nope).alloc _).drew.cell a3 (fun f => f), ((Keep.refl wb Nope).alloc _).drew.cell a4 (fun f => f), ((Keep.refl wb Nope).alloc _).drew.cell a5 (fun f => f), ((Keep.refl wb Nope).alloc _).drew.cell a6 (fun f => f), ((Keep.refl wb Nope).alloc _).drew.cell a7 (fun f => f), ((Keep.refl wb Nope).alloc _).drew.cell a8 (fun f => f), ((Keep.refl wb Nope).alloc _).drew.cell a9 (fun f => f)⟩)
      clear hK K
      refine tkF 6 ?_
      intro K hK
      rw [if_pos (by rfl)]
      (first | refine step_callv (f := f) (args := #[.pointer (some ⟨s, 0, none⟩), .agg #[.int .i64 (kind : Nat), .int .i64 ah, .int .i64 ac, .int .i64 an, .int .i64 vk, .int .i64 va, .int .i64 vb, pl, sy, pk]]) _ _ _ rfl rfl HCF.out (by kernel_rfl) (HC.out _ _ HB2.out.drew) ?_ | refine step_callv (f := f) (args := #[.pointer (some ⟨s, 0, none⟩), .agg #[.int .i64 (kind : Nat), .int .i64 ah, .int .i64 ac, .int .i64 an, .int .i64 vk, .int .i64 va, .int .i64 vb, pl, sy, pk]]) _ _ _ rfl rfl HCF.out (by kernel_rfl) (HC.out _ _ (HB2.out.scBox1 RepV.zero.cs 57).drew) ?_); rintro e w2 ⟨r, hr, hR, p2, rfl, h2⟩; have H2 := Lib.hid h2; have HRE := Lib.hid hr; have HRR := Lib.hid hR; clear h2 hr hR HC HB2; refine ⟨_, rfl, ?_⟩
      refine hK.out _ _ ?_
      clear hK K
      (try simp only [List.getElem_toArray, List.getElem_cons_succ, List.getElem_cons_zero, Act.put, List.setIfInBounds_toArray, List.set_cons_zero, List.set_cons_succ])
      refine tkF 8 ?_
      intro K hK
      rw [if_pos (by rfl)]
      (first | refine St.stepRow (H2.out.scLast) 57 _ _ rfl r.cs rfl rfl (by kernel_rfl) rfl (all_oneCell_toArray (RepV.one r)) ?_ | refine St.stepRow ((H2.out.scBox1 RepV.zero.cs 57).scLast) 57 _ _ rfl r.cs rfl rfl (by kernel_rfl) rfl (all_oneCell_toArray (RepV.one r)) ?_); intro w3 h3; have H3 := Lib.hid h3; clear h3 H2
      refine hK.out _ _ ?_
      clear hK K
      (try simp only [List.getElem_toArray, List.getElem_cons_succ, List.getElem_cons_zero, Act.put, List.setIfInBounds_toArray, List.set_cons_zero, List.set_cons_succ])
      refine wpAnyM_done (by kernel_rfl) ?_ _
      have x0 := (H3.out.blk 0 rfl).repE HRE.out
      have HRG := Lib.hid (H3.out.blk 0 rfl).repR
      clear hHeld cf a0 a1 a2 a3 a4 a5 a6 a7 a8 a9
      go_upto_region 7 with fail
      refine wp_region_list ?_
      refine wpList_load_mid rfl 57 _ rfl _ 0 rfl r.cells _ HRG.out Tryz.underlying57 rfl (by kernel_rfl) ?_
      refine (H3.out.rest.scLast.rest.scUnbox).wpRow rfl 57 _ _ rfl r.cs rfl rfl (by kernel_rfl) rfl (all_oneCell_toArray (RepV.one r)) ?_
      intro w4 h4
      have H4 := Lib.hid h4
      clear h4
      refine wpList_nil ?_
      go_wp2_with fail
      refine bodyPost_ret (results_rep rfl rfl (H4.out.blk 0 rfl)) rfl ?_
      exact ⟨r, HRR.out, p2, rfl, H4.out.rest.rest⟩
    exact AllReadyM.nil
  refine AllReadyM.cons (o := ?_) ?_ ?_ ?_
  rotate_left 1
  · simp only [List.getElem?_toArray, List.getElem?_cons_succ, List.getElem?_cons_zero]; exact rfl
  · intro K hK
    go_simp
    refine hK.out _ _ ?_ (fun hHeld => ?_)
    · (try dsimp only); (first | exact ⟨cf, a0, a1, a2, a3, a4, a5, a6, a7, a8, a9⟩ | exact ⟨((Keep.refl wb Nope).alloc _).drew.cell cf (fun f => f), ((Keep.refl wb Nope).alloc _).drew.cell a0 (fun f => f), ((Keep.refl wb Nope).alloc _).drew.cell a1 (fun f => f), ((Keep.refl wb Nope).alloc _).drew.cell a2 (fun f => f), ((Keep.refl wb Nope).alloc _).drew.cell a3 (fun f => f), ((Keep.refl wb Nope).alloc _).drew.cell a4 (fun f => f), ((Keep.refl wb Nope).alloc _).drew.cell a5 (fun f => f), ((Keep.refl wb Nope).alloc _).drew.cell a6 (fun f => f), ((Keep.refl wb Nope).alloc _).drew.cell a7 (fun f => f), ((Keep.refl wb Nope).alloc _).drew.cell a8 (fun f => f), ((Keep.refl wb Nope).alloc _).drew.cell a9 (fun f => f)⟩)
    clear hK K
    refine tkC 1 ?_
    intro K hK
    go_simp
    refine hK.out _ _ ?_ (fun hHeld => ?_)
    · (try dsimp only); (first | exact ⟨cf, a0, a1, a2, a3, a4, a5, a6, a7, a8, a9⟩ | exact ⟨((Keep.refl wb Nope).alloc _).drew.cell cf (fun f => f), ((Keep.refl wb Nope).alloc _).drew.cell a0 (fun f => f), ((Keep.refl wb Nope).alloc _).drew.cell a1 (fun f => f), ((Keep.refl wb Nope).alloc _).drew.cell a2 (fun f => f), ((Keep.refl wb Nope).alloc _).drew.cell a3 (fun f => f), ((Keep.refl wb Nope).alloc _).drew.cell a4 (fun f => f), ((Keep.refl wb Nope).alloc _).drew.cell a5 (fun f => f), ((Keep.refl wb Nope).alloc _).drew.cell a6 (fun f => f), ((Keep.refl wb Nope).alloc _).drew.cell a7 (fun f => f), ((Keep.refl wb Nope).alloc _).drew.cell a8 (fun f => f), ((Keep.refl wb Nope).alloc _).drew.cell a9 (fun f => f)⟩)
    clear hK K
    refine tkP 2 ?_; refine tkH 3 ?_; refine tkF 6 ?_
    intro K hK
    rw [if_pos (by rfl)]
    (first | refine step_callv (f := f) (args := #[.pointer (some ⟨s, 0, none⟩), .agg #[.int .i64 (kind : Nat), .int .i64 ah, .int .i64 ac, .int .i64 an, .int .i64 vk, .int .i64 va, .int .i64 vb, pl, sy, pk]]) _ _ _ rfl rfl HCF.out (by kernel_rfl) (HC.out _ _ HB2.out.drew) ?_ | refine step_callv (f := f) (args := #[.pointer (some ⟨s, 0, none⟩), .agg #[.int .i64 (kind : Nat), .int .i64 ah, .int .i64 ac, .int .i64 an, .int .i64 vk, .int .i64 va, .int .i64 vb, pl, sy, pk]]) _ _ _ rfl rfl HCF.out (by kernel_rfl) (HC.out _ _ (HB2.out.scBox1 RepV.zero.cs 57).drew) ?_); rintro e w2 ⟨r, hr, hR, p2, rfl, h2⟩; have H2 := Lib.hid h2; have HRE := Lib.hid hr; have HRR := Lib.hid hR; clear h2 hr hR HC HB2; refine ⟨_, rfl, ?_⟩
    refine hK.out _ _ ?_
    clear hK K
    (try simp only [List.getElem_toArray, List.getElem_cons_succ, List.getElem_cons_zero, Act.put, List.setIfInBounds_toArray, List.set_cons_zero, List.set_cons_succ])
    refine tkF 8 ?_
    intro K hK
    rw [if_pos (by rfl)]
    (first | refine St.stepRow (H2.out.scLast) 57 _ _ rfl r.cs rfl rfl (by kernel_rfl) rfl (all_oneCell_toArray (RepV.one r)) ?_ | refine St.stepRow ((H2.out.scBox1 RepV.zero.cs 57).scLast) 57 _ _ rfl r.cs rfl rfl (by kernel_rfl) rfl (all_oneCell_toArray (RepV.one r)) ?_); intro w3 h3; have H3 := Lib.hid h3; clear h3 H2
    refine hK.out _ _ ?_
    clear hK K
    (try simp only [List.getElem_toArray, List.getElem_cons_succ, List.getElem_cons_zero, Act.put, List.setIfInBounds_toArray, List.set_cons_zero, List.set_cons_succ])
    refine wpAnyM_done (by kernel_rfl) ?_ _
    have x0 := (H3.out.blk 0 rfl).repE HRE.out
    have HRG := Lib.hid (H3.out.blk 0 rfl).repR
    clear hHeld cf a0 a1 a2 a3 a4 a5 a6 a7 a8 a9
    go_upto_region 7 with fail
    refine wp_region_list ?_
    refine wpList_load_mid rfl 57 _ rfl _ 0 rfl r.cells _ HRG.out Tryz.underlying57 rfl (by kernel_rfl) ?_
    refine (H3.out.rest.scLast.rest.scUnbox).wpRow rfl 57 _ _ rfl r.cs rfl rfl (by kernel_rfl) rfl (all_oneCell_toArray (RepV.one r)) ?_
    intro w4 h4
    have H4 := Lib.hid h4
    clear h4
    refine wpList_nil ?_
    go_wp2_with fail
    refine bodyPost_ret (results_rep rfl rfl (H4.out.blk 0 rfl)) rfl ?_
    exact ⟨r, HRR.out, p2, rfl, H4.out.rest.rest⟩
  exact AllReadyM.nil
end Go.Proofs.YtkiikblpgppmkaaGreatDoor

namespace Go.Proofs.YtkiikblpgppmkaaGreatDoor
open Go Go.RowKit
set_option linter.unusedVariables false
set_option linter.unusedSimpArgs false

def ActV.cells (a : ActV) : List Value := [.int .i64 a.kind, .int .i64 a.h, .int .i64 a.c, .int .i64 a.n, .int .i64 a.v.k, .int .i64 a.v.a, .int .i64 a.v.b, a.pl, a.sy, a.pk]
def ActV.sl (a : ActV) : Prop := ∃ pa pn pc sa sn sc ka kn kc, a.pl = .slice pa pn pc ∧ a.sy = .slice sa sn sc ∧ a.pk = .slice ka kn kc
def flatAct (l : List ActV) : List Value := l.flatMap ActV.cells
def flatRep (l : List RepV) : List Value := l.flatMap RepV.cells
theorem flatRep_app (a b : List RepV) : flatRep (a ++ b) = flatRep a ++ flatRep b := by simp [flatRep]
theorem slRp : SlTy Tryz.prog 39 57 23 264 := SlTy.mk' RepV.zero.val Tryz.underlying39 (by kernel_rfl) rfl (by decide)
theorem wpList_rep1 {ops : Array Oper} {rest : List Oper} {o : Oper} {a : Act} {w : World} {Q : Exit → Act → World → Prop} (hg : o.guard = none) (x : Operand) (ho : o.op = .buildSlice 39 1 #[(0, x)]) (r : RepV) (hx : a.eval x = .agg r.cs)
    (h : wpList Tryz.prog ops Q rest (a.put o.dst (.slice (some ⟨w.heap.size, 0, none⟩) 1 1)) (w.alloc (.cells r.cs 57))) : wpList Tryz.prog ops Q (o :: rest) a w := by
  obtain ⟨i, h1, h2, h3, h4⟩ := info_parts (show (Tryz.prog.info? 57).map (fun i => (i.zero, i.size, i.bytes)) = some (some RepV.zero.val, 23, 264) from by kernel_rfl)
  refine wpList_buildSlice hg 39 57 1 #[(0, x)] ho r.cs i RepV.zero.val Tryz.underlying39 h1 h2 (by rw [h3]; decide) (by rw [h3]; decide) ?_ h
  rw [h3]
  simp only [List.map_toArray, List.map_cons, List.map_nil, hx]
  obtain ⟨e, hi, hg, vk, va, vb, fl, n, la, ln, lc⟩ := r
  kernel_rfl
theorem St.scBack0 {w0 w : World} {L : List Asr} {s : Nat} {x : WoS} {l : List HdV} {p : ScP} {C : Asr} (H : St w0 w (C :: (scL s x l p ++ L))) : St w0 w (scL s x l p ++ (L ++ [C])) := by
  rw [← List.append_assoc]
  exact H.last
theorem St.scLast0 {w0 w : World} {L : List Asr} {s : Nat} {x : WoS} {l : List HdV} {p : ScP} {C : Asr} (H : St w0 w (scL s x l p ++ (L ++ [C]))) : St w0 w (C :: (scL s x l p ++ L)) := by
  rw [← List.append_assoc] at H
  exact H.first
theorem St.keep3 {w0 w : World} {L : List Asr} {s : Nat} {x : WoS} {l : List HdV} {p : ScP} {oa : Option Addr} {j oc : Nat} {rs : List RepV} (H : St w0 w (slA 57 23 (.slice oa j oc) j (flatRep rs) :: (scL s x l p ++ L))) : St w0 w (slA 57 23 (.slice oa j oc) j (flatRep rs) :: L) := by
  have h1 : St w0 w (scL s x l p ++ (L ++ [slA 57 23 (.slice oa j oc) j (flatRep rs)])) := H.scBack0
  exact (St.init (St.comm h1)).first
theorem wpList_assign {P : Program} {ops : Array Oper} {rest : List Oper} {o : Oper} {a : Act} {w : World} {Q : Exit → Act → World → Prop} (hg : o.guard = none) (x : Operand) (ho : o.op = .assign x)
    (h : wpList P ops Q rest (a.put o.dst (a.eval x)) w) : wpList P ops Q (o :: rest) a w := wpList_plain hg fun _ hK => by
  unfold Oper.wp execOp
  simp only [ho, Sem.run_bind, Sem.run_pure, Result.andThen_ok]
  exact hK _ _ h
/-- Acts that go on, one by one. -/
def DoesL (w0 : World) (L : List Asr) (al : List ActV) (xs : Nat → WoS) (ls : Nat → List HdV) (R : Nat → RepV → Prop) : Prop :=
  ∀ (i : Nat) (a : ActV), al[i]? = some a → ∀ (s : Nat) (p : ScP) (w1 : World) (E : List Asr), St w0 w1 (scL s (xs i) (ls i) p ++ (L ++ E)) →
    Calls Tryz.prog 39 #[ptr s, a.val] w1 (fun e w' => ∃ r, R i r ∧ RetScr w0 (L ++ E) s (xs (i + 1)) (ls (i + 1)) r e w')
def RunL (s : Nat) (x : WoS) (l : List HdV) (p : ScP) (oa : Option Addr) (j oc : Nat) (rs : List RepV) (L : List Asr) : List Asr := slA 57 23 (.slice oa j oc) j (flatRep rs) :: (scL s x l p ++ L)
def LoopRun (w0 : World) (L : List Asr) (s : Nat) (xs : Nat → WoS) (ls : Nat → List HdV) (R : Nat → RepV → Prop) (n : Nat) (g : Nat) (v8 v21 : Value) (wr : World) : Prop :=
  ∃ (j : Nat) (p : ScP) (rs : List RepV) (oa : Option Addr) (oc : Nat), g + j = n ∧ v21 = .int .i64 (j : Nat) ∧ v8 = .slice oa j oc ∧ rs.length = j ∧ (∀ i r, rs[i]? = some r → R i r) ∧ St w0 wr (RunL s (xs j) (ls j) p oa j oc rs L)
def RetRun (w0 : World) (L : List Asr) (R : Nat → RepV → Prop) (n : Nat) (e : Ending) (w' : World) : Prop :=
  ∃ (rs : List RepV) (oa : Option Addr) (oc : Nat), e = .returned (.tuple #[.slice oa n oc, .int .i64 0]) ∧ rs.length = n ∧ (∀ i r, rs[i]? = some r → R i r) ∧ St w0 w' (slA 57 23 (.slice oa n oc) n (flatRep rs) :: L)
set_option maxRecDepth 100000 in
set_option maxHeartbeats 4000000 in
theorem scr_run {w0 w : World} {L : List Asr} (H : St w0 w L) (n top : Nat) (h1 : 1 ≤ n) (h2 : n ≤ 64) (h3 : 1 ≤ top) (h4 : top < 4294967296) (ds : List DescV) (hds : ∀ d, d ∈ ds → d.Ok) (hdl : ds.length ≤ 64) (v : Value) (hv : ReadIn w0 L v ds.length (flatDesc ds)) (f : Nat → VV)
    (al : List ActV) (va : Value) (hva : ReadIn w0 L va al.length (flatAct al)) (hlen : al.length ≤ 1000) (xs : Nat → WoS) (ls : Nat → List HdV) (R : Nat → RepV → Prop) (hx0 : xs 0 = newWo n top ds f []) (hl0 : ls 0 = []) (hsl : ∀ a, a ∈ al → a.sl) (hdo : DoesL w0 L al xs ls R) :
    Calls Tryz.prog 10 #[.agg #[.int .i64 (n : Nat), .int .i64 (top : Nat), v, .slice none 0 0], va] w (RetRun w0 L R al.length) := by
  obtain ⟨S0, hr0⟩ := hv w [] H
  obtain ⟨vda, vdc, rfl, _, _, _, _⟩ := id hr0
  obtain ⟨S1, hr1⟩ := hva w [] H
  obtain ⟨ava, avc, rfl, _, _, _, _⟩ := id hr1
  have HN := Lib.hid (scr_new (H.alloc (.cells #[.int .i64 (n : Nat), .int .i64 (top : Nat), .slice vda ds.length vdc, .slice none 0 0] 27)) n top h1 h2 h3 h4 ds hds hdl _ hv f)
  obtain ⟨dl, hdl'⟩ : ∃ dl, ds.length = dl := ⟨_, rfl⟩
  rw [hdl', ← hx0] at HN
  rw [hdl']
  have HA := Lib.hid hva
  have HDO := Lib.hid hdo
  have HL0 := Lib.hid hl0
  have HSL := Lib.hid hsl
  obtain ⟨m, hm⟩ : ∃ m, al.length = m := ⟨_, rfl⟩
  have HM := Lib.hid hm
  rw [hm] at HA hlen ⊢
  clear H hv hr0 hds hdl hdl' h1 h2 h3 h4 hva hr1 hdo hsl hx0 hl0 hm
  unfold ptr at *
  go_enter Tryz.func10, Tryz.ntmps10
  go_wp2_with (go_at_call 38; refine HN.out.mono ?_; rintro e w1 ⟨s, rfl, p, h1⟩; have H1 := Lib.hid h1; clear h1 HN)
  go_loopg [8, 21] m (fun g v8 v21 wr => LoopRun w0 L s xs ls R m g v8 v21 wr)
  case atStart =>
    refine ⟨0, p, [], none, 0, rfl, rfl, rfl, rfl, fun i r h => (nomatch h), ?_⟩
    have h := H1.out.add (Keep.refl _ _) (A := slA 57 23 (.slice none 0 0) 0 []) (Own.nil _ _ _ _)
    unfold RunL
    rw [HL0.out]
    exact h.first
  case round =>
    obtain ⟨j, p, rs, oa, oc, hg, rfl, rfl, hrs, hR, hst⟩ := hrel
    have HG := Lib.hid hg
    have HST := Lib.hid hst
    have HRS := Lib.hid hrs
    have HRR := Lib.hid hR
    clear hst hrs hR
    by_cases hlt : j < m
    · obtain ⟨a, ha⟩ : ∃ a, al[j]? = some a := ⟨_, List.getElem?_eq_getElem (by rw [HM.out]; exact hlt)⟩
      obtain ⟨SA, hrd⟩ := HA.out wr (slA 57 23 (.slice oa j oc) j (flatRep rs) :: scL s (xs j) (ls j) p) HST.out
      obtain ⟨ab, ao, rfl, _, hco⟩ := Rd.elem (cells := ActV.cells) (size := 10) hrd (fun _ => rfl) (by decide) ha
      have x0 := hco 0 (by decide)
      have x1 := hco 1 (by decide)
      have x2 := hco 2 (by decide)
      have x3 := hco 3 (by decide)
      have x4 := hco 4 (by decide)
      have x5 := hco 5 (by decide)
      have x6 := hco 6 (by decide)
      have x7 := hco 7 (by decide)
      have x8 := hco 8 (by decide)
      have x9 := hco 9 (by decide)
      have HB := Lib.hid ((St.scBack0 HST.out).scBox1 a.cs 38)
      have HD := Lib.hid (HDO.out j a ha s p _ _ HB.out)
      obtain ⟨pa, pn, pc, sa, sn, sc, ka, kn, kc, hpl, hsy, hpk⟩ := HSL.out a (List.mem_of_getElem? ha)
      obtain ⟨kind, ah, ac, an, ⟨vk, va, vb⟩, pl, sy, pk⟩ := a
      simp only at hpl hsy hpk
      subst hpl hsy hpk
      simp only [ActV.cells, List.getElem?_cons_zero, List.getElem?_cons_succ, Nat.add_zero] at x0 x1 x2 x3 x4 x5 x6 x7 x8 x9
      have e0 : decide (m ≤ j) = false := decide_eq_false (by omega)
      have e1 : decide ((j : Int) < (m : Int)) = true := decide_eq_true (by omega)
      simp only [ActV.cs] at HB
      simp only [ActV.cs, ActV.val] at HD
      have HLT := Lib.hid hlt
      clear ha hrd hco HST
      unfold ptr at HD
      go_upto_region 8 with fail
      obtain ⟨wa, hwa⟩ : ∃ wa, wr.alloc (.cells #[.int .i64 kind, .int .i64 ah, .int .i64 ac, .int .i64 an, .int .i64 vk, .int .i64 va, .int .i64 vb, (.slice pa pn pc), (.slice sa sn sc), (.slice ka kn kc)] 38) = wa := ⟨_, rfl⟩
      rw [hwa] at HB HD ⊢
      clear x0 x1 x2 x3 x4 x5 x6 x7 x8 x9 hwa
      trace_state
      refine wp_region_list ?_
      refine wpList_move rfl _ rfl ?_
      refine wpList_move rfl _ rfl ?_
      refine wpList_load_mid rfl 38 _ rfl wr.heap.size 0 rfl [.int .i64 kind, .int .i64 ah, .int .i64 ac, .int .i64 an, .int .i64 vk, .int .i64 va, .int .i64 vb, (.slice pa pn pc), (.slice sa sn sc), (.slice ka kn kc)] _ (fun i v hv => by rw [Nat.zero_add, (HB.out.scLast.blk 0 rfl).cell]; simpa using hv) Tryz.underlying38 rfl (by kernel_rfl) ?_
      refine wpList_call rfl (f := 39) (args := #[.pointer (some ⟨s, 0, none⟩), .agg #[.int .i64 kind, .int .i64 ah, .int .i64 ac, .int .i64 an, .int .i64 vk, .int .i64 va, .int .i64 vb, (.slice pa pn pc), (.slice sa sn sc), (.slice ka kn kc)]]) (by kernel_rfl) HD.out (fun e w2 hr => ?_)
      obtain ⟨r, hr, p2, rfl, h2⟩ := hr
      have H2 := Lib.hid h2.scLast.rest.scLast0
      have HR := Lib.hid hr
      clear h2 hr HD HB
      refine ⟨_, rfl, ?_⟩
      refine wpList_rep1 rfl _ rfl r rfl ?_
      obtain ⟨G, hown, _, hup, _⟩ := H2.out.opens 0 rfl
      refine wpList_plain rfl fun K hK => step_app (P := Tryz.prog) slRp _ _ rfl (S := G) (S2 := fun z => z = w2.heap.size) (n := j) (xs := flatRep rs) (m := 1) (news := r.cells) rfl rfl (hown.keep (T := Nope) ((Keep.refl w2 Nope).alloc _) (fun _ _ f => f)) (Own.lit (S := fun z => z = w2.heap.size) w2 57 23 1 r.cs (by decide) rfl rfl).rd rfl r.one (by omega) (by unfold maxLen; omega) ?_
      intro a' k' c' w5 happ
      obtain ⟨z1, z2⟩ := app_up (wr := w2) ((Keep.refl w2 Nope).alloc _) happ
      obtain rfl := happ.num
      have H5 := Lib.hid (hup w5 _ z1 z2)
      clear happ z1 z2 hup hown
      refine hK _ _ ?_
      clear hK K
      refine wpList_assign rfl _ rfl ?_
      refine wpList_nil ?_
      go_wp2_with fail
      go_roundg (m - (j + 1))
      case measure => have := HG.out; omega
      case rel =>
        refine ⟨j + 1, p2, rs ++ [r], a', c', by have := HG.out; omega, by go_num, rfl, by rw [List.length_append, HRS.out]; rfl, ?_, ?_⟩
        · intro i r' h
          rw [List.getElem?_append] at h
          split at h
          · exact HRR.out i r' h
          · rename_i hi
            rw [HRS.out] at h hi
            obtain ⟨h3, h4⟩ := List.getElem?_eq_some_iff.1 h
            simp only [List.length_cons, List.length_nil] at h3
            have e : i = j := by omega
            subst e
            simp at h4
            rw [← h4]
            exact HR.out
        · unfold RunL
          rw [flatRep_app, show flatRep [r] = r.cells from by simp [flatRep]]
          exact H5.out
    · have hjn : j = m := by omega
      subst hjn
      go_wp2_with fail
      go_ret2
      exact ⟨rs, oa, oc, rfl, HRS.out, HRR.out, St.keep3 HST.out⟩
end Go.Proofs.YtkiikblpgppmkaaGreatDoor

namespace Go.Proofs.YtkiikblpgppmkaaGreatDoor
open Go Go.RowKit
set_option linter.unusedVariables false
set_option linter.unusedSimpArgs false

def awF : Nat → VV := fun _ => ⟨0, 0, 0⟩
def awX0 : WoS := newWo 3 2 [⟨1, 3, 0⟩] awF []
def awX1 : WoS := awX0.withE (awX0.en.withA (awX0.en.al.made 0))
def awX2 : WoS := awX1.withE (awX1.en.ins 0 0 ⟨1, 5, 0⟩)
def awX4 : WoS := awX2.withE (awX2.en.del 0)
def awXs : Nat → WoS
  | 0 => awX0
  | 1 => awX1
  | 2 => awX2
  | 3 => awX2
  | _ => awX4
def awLs : Nat → List HdV
  | 0 => []
  | _ => [⟨0, 1⟩]
def nilS : Value := .slice none 0 0
def awAl (cb : Nat) : List ActV := [⟨1, 0, 0, 0, ⟨0, 0, 0⟩, nilS, nilS, nilS⟩, ⟨4, 0, 0, 0, ⟨1, 5, 0⟩, nilS, nilS, nilS⟩, ⟨16, 0, 0, 0, ⟨0, 0, 0⟩, .slice (some ⟨cb, 0, none⟩) 1 1, nilS, nilS⟩, ⟨3, 0, 0, 0, ⟨0, 0, 0⟩, nilS, nilS, nilS⟩]
def awR : Nat → RepV → Prop
  | 2, r => r.ln = 1
  | 3, r => r.n = 1
  | _, _ => True
theorem aw_ok0 : awX0.en.al.Ok := newAl_ok (by decide) (by decide) (by decide) (by decide)
theorem aw_ok1 : awX1.en.Ok 90000 := ⟨aw_ok0.made (by decide), fun s hs => by
  rw [List.mem_singleton.1 hs]
  exact ⟨VarOk.v3, .inl (by decide), fun h => absurd h (by decide), by decide, fun F hF => by cases hF⟩, by decide⟩
theorem aw_ok2 : awX2.en.Ok 90000 := ⟨aw_ok0.made (by decide), fun s hs => by
  rw [List.mem_singleton.1 hs]
  exact ⟨VarOk.v3, .inl (by decide), fun h => absurd h (by decide), by decide, fun F hF => by cases hF⟩, by decide⟩
theorem call_create (args : Array Value) (w : World) : (callFunc 171 args).run Tryz.prog w = .ok (.enter 171 args) w := by kernel_rfl
theorem call_insert (args : Array Value) (w : World) : (callFunc 174 args).run Tryz.prog w = .ok (.enter 174 args) w := by kernel_rfl
theorem call_rows (args : Array Value) (w : World) : (callFunc 186 args).run Tryz.prog w = .ok (.enter 186 args) w := by kernel_rfl
theorem call_remove (args : Array Value) (w : World) : (callFunc 173 args).run Tryz.prog w = .ok (.enter 173 args) w := by kernel_rfl
def awL (cb : Nat) (v1 v2 : Value) : List Asr := [slA 60 3 v1 1 (flatDesc [⟨1, 3, 0⟩]), slA 92 2 (.slice (some ⟨cb, 0, none⟩) 1 1) 1 [.int .i64 1, .int .i64 0], slA 38 10 v2 4 (flatAct (awAl cb))]
set_option maxRecDepth 10000 in
theorem aw_does {w : World} (hT : Tab w) (cb : Nat) (v1 v2 : Value) : DoesL w (awL cb v1 v2) (awAl cb) awXs awLs awR := by
  intro i a ha s p w1 E H
  match i, ha with
  | 0, ha =>
    cases ha
    refine scr_do (x' := awX1) (l' := [⟨0, 1⟩]) H (awR 0) _ 1 rfl (by decide) (by decide) 171 rfl call_create (fun w2 E2 H2 => ?_)
    refine (scr_create H2 (by decide) hT aw_ok0 0 (by decide) _).mono ?_
    exact fun e w' h => ⟨_, rfl, trivial, h⟩
  | 1, ha =>
    cases ha
    refine scr_do (x' := awX2) (l' := [⟨0, 1⟩]) H (awR 1) _ 4 rfl (by decide) (by decide) 174 rfl call_insert (fun w2 E2 H2 => ?_)
    refine (scr_insert H2 (by decide) aw_ok1 0 1 (by decide) 0 rfl _ rfl 0 rfl (newSl 1 3 0 awF) rfl (by decide) rfl).mono ?_
    exact fun e w' h => ⟨_, rfl, trivial, h⟩
  | 2, ha =>
    cases ha
    refine scr_do (x' := awX2) (l' := [⟨0, 1⟩]) H (awR 2) _ 16 rfl (by decide) (by decide) 186 rfl call_rows (fun w2 E2 H2 => ?_)
    have hr : ReadIn w (awL cb v1 v2) (.slice (some ⟨cb, 0, none⟩) 1 1) 1 [.int .i64 1, .int .i64 0] := ReadIn.own 1 rfl
    have H3 : St w w2 (((E ++ E2) ++ scL s awX2 [⟨0, 1⟩] p) ++ awL cb v1 v2) := by
      have h := St.comm (X := awL cb v1 v2) (Y := (E ++ E2) ++ scL s awX2 [⟨0, 1⟩] p) (w0 := w) (w := w2) (by
        have h := St.comm (X := scL s awX2 [⟨0, 1⟩] p) H2
        simpa [List.append_assoc] using h)
      exact h
    obtain ⟨S, hrd⟩ := hr w2 _ H3
    obtain ⟨b, o, e, _, hc⟩ := hrd.at (by decide)
    cases e
    refine (scr_rows H2 hT aw_ok2.al (by decide) _ rfl (by decide) cb 0 1 (by unfold maxLen; omega) (hc 0 (by decide)) (hc 1 (by decide)) _ rfl).mono ?_
    rintro e w' ⟨q, qc, h⟩
    refine ⟨_, ?_, ?_, h⟩
    · rfl
    · show (listW (awX2.en.al.live &&& ((newSl 1 3 0 awF).put 0 ⟨1, 5, 0⟩).m)).length = 1
      decide
  | 3, ha =>
    cases ha
    refine scr_do (x' := awX4) (l' := [⟨0, 1⟩]) H (awR 3) _ 3 rfl (by decide) (by decide) 173 rfl call_remove (fun w2 E2 H2 => ?_)
    refine (scr_remove H2 (by decide) aw_ok2 (by decide) 0 (by decide) 0 rfl _ rfl).mono ?_
    intro e w' h
    refine ⟨_, ?_, ?_, h⟩
    · rfl
    · show (((ofL awX2.en.sl 0).length : Nat) : Int) = 1
      decide
  | (_ + 4), ha => cases ha
theorem list4 {α : Type} {l : List α} (h : l.length = 4) : ∃ a b c d, l = [a, b, c, d] := by
  match l, h with
  | [a, b, c, d], _ => exact ⟨a, b, c, d, rfl⟩
theorem rep_ln {w : World} {p : Addr} {r0 r1 r2 r3 : RepV} (h : w.cell? p = (flatRep [r0, r1, r2, r3])[54]?) (hl : awR 2 r2) : w.cell? p = some (.slice r2.la 1 r2.lc) := by
  rw [h]
  show some (Value.slice r2.la r2.ln r2.lc) = _
  rw [show r2.ln = 1 from hl]
theorem rep_n {w : World} {p : Addr} {r0 r1 r2 r3 : RepV} (h : w.cell? p = (flatRep [r0, r1, r2, r3])[76]?) (hl : awR 3 r3) : w.cell? p = some (.int .i64 1) := by
  rw [h]
  show some (Value.int .i64 r3.n) = _
  rw [show r3.n = 1 from hl]
set_option maxRecDepth 100000 in
set_option maxHeartbeats 4000000 in
theorem top_awake {w : World} (hT : Tab w) : Calls Tryz.prog 9 #[] w (fun e w' => e = .returned (.bool true) ∧ Keep w w' Nope) := by
  have h1 := (St.start w).lit 60 3 1 #[.int .i64 1, .int .i64 3, .int .i64 0] (by decide) rfl
  have h2 := h1.lit 92 2 1 #[.int .i64 1, .int .i64 0] (by decide) rfl
  rw [World.size_alloc] at h2
  have h3 := h2.lit 38 10 4 #[.int .i64 1, .int .i64 0, .int .i64 0, .int .i64 0, .int .i64 0, .int .i64 0, .int .i64 0, .slice none 0 0, .slice none 0 0, .slice none 0 0, .int .i64 4, .int .i64 0, .int .i64 0, .int .i64 0, .int .i64 1, .int .i64 5, .int .i64 0, .slice none 0 0, .slice none 0 0, .slice none 0 0, .int .i64 16, .int .i64 0, .int .i64 0, .int .i64 0, .int .i64 0, .int .i64 0, .int .i64 0, .slice (some ⟨w.heap.size + 1, 0, none⟩) 1 1, .slice none 0 0, .slice none 0 0, .int .i64 3, .int .i64 0, .int .i64 0, .int .i64 0, .int .i64 0, .int .i64 0, .int .i64 0, .slice none 0 0, .slice none 0 0, .slice none 0 0] (by decide) rfl
  rw [World.size_alloc, World.size_alloc] at h3
  have HRUN := Lib.hid (show Calls Tryz.prog 10 #[.agg #[.int .i64 3, .int .i64 2, .slice (some ⟨w.heap.size, 0, none⟩) 1 1, .slice none 0 0], .slice (some ⟨w.heap.size + 1 + 1, 0, none⟩) 4 4] _ (RetRun w (awL (w.heap.size + 1) (.slice (some ⟨w.heap.size, 0, none⟩) 1 1) (.slice (some ⟨w.heap.size + 1 + 1, 0, none⟩) 4 4)) awR 4) from
    scr_run (L := awL (w.heap.size + 1) (.slice (some ⟨w.heap.size, 0, none⟩) 1 1) (.slice (some ⟨w.heap.size + 1 + 1, 0, none⟩) 4 4)) h3 3 2 (by decide) (by decide) (by decide) (by decide) [⟨1, 3, 0⟩] (fun d hd => by rw [List.mem_singleton.1 hd]; exact ⟨.inl rfl, VarOk.v3, fun h => absurd h (by decide), by decide⟩) (by decide) _ (ReadIn.own 0 rfl) awF (awAl (w.heap.size + 1)) _ (ReadIn.own 2 rfl) (by decide : 4 ≤ 1000) awXs awLs awR rfl rfl (fun a ha => by
      simp only [awAl, List.mem_cons, List.not_mem_nil, or_false] at ha
      rcases ha with rfl | rfl | rfl | rfl <;> exact ⟨_, _, _, _, _, _, _, _, _, rfl, rfl, rfl⟩) (aw_does hT (w.heap.size + 1) _ _))
  clear h1 h2 h3
  go_enter Tryz.func9, Tryz.ntmps9
  go_wp2_with (go_at_call 10; refine HRUN.out.mono ?_; rintro e w4 ⟨rs, oa, oc, rfl, hrl, hR, h4⟩; have H4 := Lib.hid h4; have HRL := Lib.hid hrl; have HR := Lib.hid hR; clear h4 hrl hR HRUN; obtain ⟨r0, r1, r2, r3, rfl⟩ := list4 HRL.out; obtain ⟨G, hown, _⟩ := H4.out.rd 0 rfl; obtain ⟨g, rfl, _, _, _, hc, _⟩ := hown.head (by decide); have y2 := rep_ln (hc 54 (by decide)) (HR.out 2 r2 rfl); have y3 := rep_n (hc 76 (by decide)) (HR.out 3 r3 rfl); clear hc hown)
  go_ret
  exact ⟨rfl, Keep.ofSt H4.out⟩
end Go.Proofs.YtkiikblpgppmkaaGreatDoor
