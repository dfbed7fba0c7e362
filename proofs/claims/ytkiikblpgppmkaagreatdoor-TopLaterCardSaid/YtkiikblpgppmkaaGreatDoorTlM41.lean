/-
  The package script: insert. (Printed by tools/gen_sc7.py.).
-/
import Derived.Test.YtkiikblpgppmkaaGreatDoorTlM40
namespace Go.Proofs.YtkiikblpgppmkaaGreatDoor
open Go Go.RowKit
set_option linter.unusedVariables false
set_option linter.unusedSimpArgs false

/-- One more box of the call's own. -/
theorem St.scBox1 {w0 w : World} {L E : List Asr} {s : Nat} {x : WoS} {l : List HdV} {p : ScP} (H : St w0 w (scL s x l p ++ (L ++ E))) (cs : Array Value) (t : TypeId) : St w0 (w.alloc (.cells cs t)) (scL s x l p ++ (L ++ (E ++ [blkA w.heap.size cs t]))) := by
  have h := H.box cs t
  have e : scL s x l p ++ (L ++ (E ++ [blkA w.heap.size cs t])) = (scL s x l p ++ (L ++ E)) ++ [blkA w.heap.size cs t] := by simp
  rw [e]
  exact h
theorem St.scUnbox3 {w0 w : World} {L : List Asr} {s : Nat} {x : WoS} {l : List HdV} {p : ScP} {A B C : Asr} (H : St w0 w (scL s x l p ++ (L ++ ([A, B] ++ [C])))) : St w0 w (C :: A :: B :: (scL s x l p ++ L)) := by
  have e : scL s x l p ++ (L ++ ([A, B] ++ [C])) = ((scL s x l p ++ (L ++ [A, B]))) ++ [C] := by simp
  rw [e] at H
  have h := H.first
  have h2 := St.unrot2 (X := C :: scL s x l p) (R := L) (a := A) (b := B) (by rw [List.cons_append]; exact h)
  exact h2.sel (P := [_, _, _]) (P' := [C, A, B]) (R := scL s x l p ++ L) [2, 0, 1] (by decide) rfl rfl
set_option maxRecDepth 100000 in
set_option maxHeartbeats 4000000 in
theorem scr_insert {w0 w : World} {L : List Asr} {s : Nat} {x : WoS} {l : List HdV} {p : ScP} (H : St w0 w (scL s x l p ++ L)) (hn : l.length ≤ 1000) (hx : x.en.Ok 90000) (k : Nat) (g : Int) (hs : x.en.al.st k g = 1) (j : Nat) (hj : l[j]? = some ⟨k, g⟩) (a : ActV) (ha : a.h = (j : Int)) (c : Nat) (hac : a.c = (c : Int)) (t : SlS) (hc : x.en.sl[c]? = some t) (hv : okV a.v.k a.v.a a.v.b = true) (hkd : a.v.k = t.kind) :
    Calls Tryz.prog 174 #[ptr s, a.val] w (RetScr w0 L s (x.withE (x.en.ins k c a.v)) l ⟨0, 0, 0, (hadV t.m t.f k).k, (hadV t.m t.f k).a, (hadV t.m t.f k).b, t.m.testBit k, 0, none, 0, 0⟩) := by
  have HB := Lib.hid (H.scBox a RepV.zero)
  have HN := Lib.hid (fun (w' : World) (E : List Asr) (h : St w0 w' (scL s x l p ++ (L ++ E))) => scr_named h hn j _ hj a ha)
  have HI := Lib.hid (fun (w' : World) (E : List Asr) (h : St w0 w' (scL s x l p ++ (L ++ E))) => wo_insert (St.scWo h) hx k g hs c t hc a.v hv hkd)
  obtain ⟨⟨hk1, ha1, hb1⟩, hh⟩ : ∃ h, hadV t.m t.f k = h := ⟨_, rfl⟩
  obtain ⟨tb, ht⟩ : ∃ tb, t.m.testBit k = tb := ⟨_, rfl⟩
  obtain ⟨x', hx'⟩ : ∃ x', x.withE (x.en.ins k c a.v) = x' := ⟨_, rfl⟩
  obtain ⟨ki, hki⟩ : ∃ ki : Int, (k : Int) = ki := ⟨_, rfl⟩
  rw [hh, ht, hx'] at HI ⊢
  rw [hki] at HI HN
  rw [← hac] at HI
  obtain ⟨wb, wp, aa, cc⟩ := p
  obtain ⟨wa, hwa⟩ : ∃ wa, (w.alloc (.cells a.cs 38)).alloc (.cells RepV.zero.cs 57) = wa := ⟨_, rfl⟩
  rw [hwa] at HB
  have c0 : wa.cell? ⟨s, 0, none⟩ = some (.pointer (some ⟨wb, 0, none⟩)) := by
    rw [(HB.out.blk 0 rfl).cell]
    rfl
  have hba : Blk wa w.heap.size a.cs 38 := HB.out.scUnbox.blk 1 rfl
  obtain ⟨kind, ah, ac, an, ⟨vk, va, vb⟩, pl, sy, pk⟩ := a
  have a0 : wa.cell? ⟨w.heap.size, 0, none⟩ = some (.int .i64 kind) := by rw [hba.cell]; rfl
  have a1 : wa.cell? ⟨w.heap.size, 1, none⟩ = some (.int .i64 ah) := by rw [hba.cell]; rfl
  have a2 : wa.cell? ⟨w.heap.size, 2, none⟩ = some (.int .i64 ac) := by rw [hba.cell]; rfl
  have a3 : wa.cell? ⟨w.heap.size, 3, none⟩ = some (.int .i64 an) := by rw [hba.cell]; rfl
  have a4 : wa.cell? ⟨w.heap.size, 4, none⟩ = some (.int .i64 vk) := by rw [hba.cell]; rfl
  have a5 : wa.cell? ⟨w.heap.size, 5, none⟩ = some (.int .i64 va) := by rw [hba.cell]; rfl
  have a6 : wa.cell? ⟨w.heap.size, 6, none⟩ = some (.int .i64 vb) := by rw [hba.cell]; rfl
  have a7 : wa.cell? ⟨w.heap.size, 7, none⟩ = some pl := by rw [hba.cell]; rfl
  have a8 : wa.cell? ⟨w.heap.size, 8, none⟩ = some sy := by rw [hba.cell]; rfl
  have a9 : wa.cell? ⟨w.heap.size, 9, none⟩ = some pk := by rw [hba.cell]; rfl
  clear H hx hx' hh ht hki hba hs hj ha hac hc hv hkd
  unfold ActV.val ActV.cs ptr hdV VV.val at *
  simp only [RepV.cs, RepV.zero] at hwa
  simp only at *
  go_enter Tryz.func174, Tryz.ntmps174
  go_wp2_with fail
  try rw [hwa]
  refine wp_region_M (r := 11) (S := fun w' => w'.cell? ⟨s, 0, none⟩ = some (.pointer (some ⟨wb, 0, none⟩)) ∧ w'.cell? ⟨w.heap.size, 0, none⟩ = some (.int .i64 kind) ∧ w'.cell? ⟨w.heap.size, 1, none⟩ = some (.int .i64 ah) ∧ w'.cell? ⟨w.heap.size, 2, none⟩ = some (.int .i64 ac) ∧ w'.cell? ⟨w.heap.size, 3, none⟩ = some (.int .i64 an) ∧ w'.cell? ⟨w.heap.size, 4, none⟩ = some (.int .i64 vk) ∧ w'.cell? ⟨w.heap.size, 5, none⟩ = some (.int .i64 va) ∧ w'.cell? ⟨w.heap.size, 6, none⟩ = some (.int .i64 vb) ∧ w'.cell? ⟨w.heap.size, 7, none⟩ = some pl ∧ w'.cell? ⟨w.heap.size, 8, none⟩ = some sy ∧ w'.cell? ⟨w.heap.size, 9, none⟩ = some pk) (by kernel_rfl) ?_ (fun hHeld => ?_)
  · (try dsimp only); (first | exact ⟨c0, a0, a1, a2, a3, a4, a5, a6, a7, a8, a9⟩ | exact ⟨HK1.out.cell c0 (fun f => f), HK1.out.cell a0 (fun f => f), HK1.out.cell a1 (fun f => f), HK1.out.cell a2 (fun f => f), HK1.out.cell a3 (fun f => f), HK1.out.cell a4 (fun f => f), HK1.out.cell a5 (fun f => f), HK1.out.cell a6 (fun f => f), HK1.out.cell a7 (fun f => f), HK1.out.cell a8 (fun f => f), HK1.out.cell a9 (fun f => f)⟩ | exact ⟨(HK1.out.alloc _).cell c0 (fun f => f), (HK1.out.alloc _).cell a0 (fun f => f), (HK1.out.alloc _).cell a1 (fun f => f), (HK1.out.alloc _).cell a2 (fun f => f), (HK1.out.alloc _).cell a3 (fun f => f), (HK1.out.alloc _).cell a4 (fun f => f), (HK1.out.alloc _).cell a5 (fun f => f), (HK1.out.alloc _).cell a6 (fun f => f), (HK1.out.alloc _).cell a7 (fun f => f), (HK1.out.alloc _).cell a8 (fun f => f), (HK1.out.alloc _).cell a9 (fun f => f)⟩ | exact ⟨((Keep.refl wa Nope).alloc _).drew.cell c0 (fun f => f), ((Keep.refl wa Nope).alloc _).drew.cell a0 (fun f => f), ((Keep.refl wa Nope).alloc _).drew.cell a1 (fun f => f), ((Keep.refl wa Nope).alloc _).drew.cell a2 (fun f => f), ((Keep.refl wa Nope).alloc _).drew.cell a3 (fun f => f), ((Keep.refl wa Nope).alloc _).drew.cell a4 (fun f => f), ((Keep.refl wa Nope).alloc _).drew.cell a5 (fun f => f), ((Keep.refl wa Nope).alloc _).drew.cell a6 (fun f => f), ((Keep.refl wa Nope).alloc _).drew.cell a7 (fun f => f), ((Keep.refl wa Nope).alloc _).drew.cell a8 (fun f => f), ((Keep.refl wa Nope).alloc _).drew.cell a9 (fun f => f)⟩)
  refine tkP 0 ?_; refine tkP 1 ?_; refine tkP 2 ?_; refine tkH 3 ?_; refine tkP 4 ?_; refine tkP 7 ?_; refine tkH 8 ?_; refine tkP 9 ?_; refine tkH 10 ?_
  refine wpAnyM_ready (rs := [5, 16]) (by kernel_rfl) (by simp) ?_
  refine AllReadyM.cons (o := ?_) ?_ ?_ ?_
  rotate_left 1
  · simp only [List.getElem?_toArray, List.getElem?_cons_succ, List.getElem?_cons_zero]; exact rfl
  · intro K hK
    go_simp
    refine hK.out _ _ ?_ (fun hHeld => ?_)
    · (try dsimp only); (first | exact ⟨c0, a0, a1, a2, a3, a4, a5, a6, a7, a8, a9⟩ | exact ⟨HK1.out.cell c0 (fun f => f), HK1.out.cell a0 (fun f => f), HK1.out.cell a1 (fun f => f), HK1.out.cell a2 (fun f => f), HK1.out.cell a3 (fun f => f), HK1.out.cell a4 (fun f => f), HK1.out.cell a5 (fun f => f), HK1.out.cell a6 (fun f => f), HK1.out.cell a7 (fun f => f), HK1.out.cell a8 (fun f => f), HK1.out.cell a9 (fun f => f)⟩ | exact ⟨(HK1.out.alloc _).cell c0 (fun f => f), (HK1.out.alloc _).cell a0 (fun f => f), (HK1.out.alloc _).cell a1 (fun f => f), (HK1.out.alloc _).cell a2 (fun f => f), (HK1.out.alloc _).cell a3 (fun f => f), (HK1.out.alloc _).cell a4 (fun f => f), (HK1.out.alloc _).cell a5 (fun f => f), (HK1.out.alloc _).cell a6 (fun f => f), (HK1.out.alloc _).cell a7 (fun f => f), (HK1.out.alloc _).cell a8 (fun f => f), (HK1.out.alloc _).cell a9 (fun f => f)⟩ | exact ⟨((Keep.refl wa Nope).alloc _).drew.cell c0 (fun f => f), ((Keep.refl wa Nope).alloc _).drew.cell a0 (fun f => f), ((Keep.refl wa Nope).alloc _).drew.cell a1 (fun f => f), ((Keep.refl wa Nope).alloc _).drew.cell a2 (fun f => f), ((Keep.refl wa Nope).alloc _).drew.cell a3 (fun f => f), ((Keep.refl wa Nope).alloc _).drew.cell a4 (fun f => f), ((Keep.refl wa Nope).alloc _).drew.cell a5 (fun f => f), ((Keep.refl wa Nope).alloc _).drew.cell a6 (fun f => f), ((Keep.refl wa Nope).alloc _).drew.cell a7 (fun f => f), ((Keep.refl wa Nope).alloc _).drew.cell a8 (fun f => f), ((Keep.refl wa Nope).alloc _).drew.cell a9 (fun f => f)⟩)
    clear hK K
    refine wpAnyM_ready (rs := [6, 16]) (by kernel_rfl) (by simp) ?_
    refine AllReadyM.cons (o := ?_) ?_ ?_ ?_
    rotate_left 1
    · simp only [List.getElem?_toArray, List.getElem?_cons_succ, List.getElem?_cons_zero]; exact rfl
    · intro K hK
      go_simp
      go_wp2_with ((go_at_call 229; first | (refine (HN.out _ _ HB.out.drew).mono ?_; rintro e w1 ⟨rfl, hk1⟩; have HB1 := Lib.hid (HB.out.drew.keep hk1); have HK1 := Lib.hid ((show Keep wa _ Nope from (by (repeat (first | exact Keep.refl _ _ | apply Keep.drew | apply Keep.drewN | apply Keep.alloc)))).trans hk1 (fun _ f => f.elim)); clear hk1 HN HB) | (refine (HN.out _ _ (HB.out.scBox1 #[.int .i64 0, .int .i64 0, .int .i64 0] 34).drew).mono ?_; rintro e w1 ⟨rfl, hk1⟩; have HB1 := Lib.hid ((HB.out.scBox1 #[.int .i64 0, .int .i64 0, .int .i64 0] 34).drew.keep hk1); have HK1 := Lib.hid ((show Keep wa _ Nope from (by (repeat (first | exact Keep.refl _ _ | apply Keep.drew | apply Keep.drewN | apply Keep.alloc)))).trans hk1 (fun _ f => f.elim)); clear hk1 HN HB)))
      refine hK.out _ _ ?_ (fun hHeld => ?_)
      · (try dsimp only); (first | exact ⟨c0, a0, a1, a2, a3, a4, a5, a6, a7, a8, a9⟩ | exact ⟨HK1.out.cell c0 (fun f => f), HK1.out.cell a0 (fun f => f), HK1.out.cell a1 (fun f => f), HK1.out.cell a2 (fun f => f), HK1.out.cell a3 (fun f => f), HK1.out.cell a4 (fun f => f), HK1.out.cell a5 (fun f => f), HK1.out.cell a6 (fun f => f), HK1.out.cell a7 (fun f => f), HK1.out.cell a8 (fun f => f), HK1.out.cell a9 (fun f => f)⟩ | exact ⟨(HK1.out.alloc _).cell c0 (fun f => f), (HK1.out.alloc _).cell a0 (fun f => f), (HK1.out.alloc _).cell a1 (fun f => f), (HK1.out.alloc _).cell a2 (fun f => f), (HK1.out.alloc _).cell a3 (fun f => f), (HK1.out.alloc _).cell a4 (fun f => f), (HK1.out.alloc _).cell a5 (fun f => f), (HK1.out.alloc _).cell a6 (fun f => f), (HK1.out.alloc _).cell a7 (fun f => f), (HK1.out.alloc _).cell a8 (fun f => f), (HK1.out.alloc _).cell a9 (fun f => f)⟩ | exact ⟨((Keep.refl wa Nope).alloc _).drew.cell c0 (fun f => f), ((Keep.refl wa Nope).alloc _).drew.cell a0 (fun f => f), ((Keep.refl wa Nope).alloc _).drew.cell a1 (fun f => f), ((Keep.refl wa Nope).alloc _).drew.cell a2 (fun f => f), ((Keep.refl wa Nope).alloc _).drew.cell a3 (fun f => f), ((Keep.refl wa Nope).alloc _).drew.cell a4 (fun f => f), ((Keep.refl wa Nope).alloc _).drew.cell a5 (fun f => f), ((Keep.refl wa Nope).alloc _).drew.cell a6 (fun f => f), ((Keep.refl wa Nope).alloc _).drew.cell a7 (fun f => f), ((Keep.refl wa Nope).alloc _).drew.cell a8 (fun f => f), ((Keep.refl wa Nope).alloc _).drew.cell a9 (fun f => f)⟩)
      clear hK K
      refine wpAnyM_ready (rs := [11, 16]) (by kernel_rfl) (by simp) ?_
      refine AllReadyM.free (o := ?_) ?_ (by kernel_rfl) ?_ ?_
      rotate_left 1
      · simp only [List.getElem?_toArray, List.getElem?_cons_succ, List.getElem?_cons_zero]; exact rfl
      · intro K hK
        go_simp
        go_wp2_with ((go_at_call 15; (first | (refine (HI.out _ _ HB1.out).mono ?_; rintro e w2 ⟨rfl, h2⟩; have HB2 := Lib.hid (St.scWo' (p := ⟨wb, wp, aa, cc⟩) h2); clear h2 HI HB1) | (refine (HI.out _ _ (HB1.out.scBox1 #[.int .i64 0, .int .i64 0, .int .i64 0] 34)).mono ?_; rintro e w2 ⟨rfl, h2⟩; have HB2 := Lib.hid (St.scWo' (p := ⟨wb, wp, aa, cc⟩) h2); clear h2 HI HB1)); (first | (obtain ⟨z0, z1, z2, y0, y1, y2⟩ := (HB2.out.scUnbox3.blk 0 rfl).three) | skip)))
        refine hK.out _ _ ?_
        clear hK K
        refine tkP 12 ?_; refine tkP 13 ?_; refine tkP 14 ?_; refine tkP 15 ?_; refine tkF 16 ?_
        intro K hK
        go_simp
        refine hK.out _ _ ?_
        clear hK K
        refine tkF 17 ?_
        intro K hK
        go_simp
        refine hK.out _ _ ?_
        clear hK K
        refine tkP 18 ?_; refine tkP 19 ?_
        refine wpAnyM_done (by kernel_rfl) ?_ _
        clear hHeld c0 a0 a1 a2 a3 a4 a5 a6 a7 a8 a9
        first | (have H3 := Lib.hid (HB2.out.scBox1 #[.int .i64 hk1, .int .i64 ha1, .int .i64 hb1] 34).scUnbox3) | (have H3 := Lib.hid (HB2.out.scUnbox3.write3 (.int .i64 hk1) (.int .i64 ha1) (.int .i64 hb1)))
        go_upto_region 2 with fail
        refine wp_region_list ?_
        refine wpList_move rfl _ rfl ?_
        refine wpList_load_mid rfl 34 _ rfl _ 0 rfl [.int .i64 hk1, .int .i64 ha1, .int .i64 hb1] _ (by have hb := H3.out.blk 0 rfl; intro j v hv; rw [Nat.zero_add, hb.cell]; simpa using hv) Tryz.underlying34 rfl (by kernel_rfl) ?_
        refine wpList_move rfl _ rfl ?_
        refine wpList_build rfl 57 _ rfl (by kernel_rfl) ?_
        rw [show (Tryz.prog.built _ _).getD #[] = RepV.cs ⟨0, 0, 0, hk1, ha1, hb1, tb, 0, none, 0, 0⟩ from by kernel_rfl]
        refine wpList_store_row rfl 57 _ _ rfl (w.heap.size + 1) (RepV.cs ⟨0, 0, 0, hk1, ha1, hb1, tb, 0, none, 0, 0⟩) rfl rfl _ _ (H3.out.blk 1 rfl) (by kernel_rfl) rfl (all_oneCell_toArray (RepV.one ⟨0, 0, 0, hk1, ha1, hb1, tb, 0, none, 0, 0⟩)) ?_
        have H4 := Lib.hid (H3.out.setRowAll 1 rfl (RepV.cs ⟨0, 0, 0, hk1, ha1, hb1, tb, 0, none, 0, 0⟩))
        refine wpList_nil ?_
        go_wp2_with fail
        refine bodyPost_ret (results_rep rfl rfl (H4.out.blk 1 rfl)) rfl ?_
        exact ⟨⟨wb, wp, aa, cc⟩, rfl, H4.out.rest.rest.rest⟩
      refine AllReadyM.cons (o := ?_) ?_ ?_ ?_
      rotate_left 1
      · simp only [List.getElem?_toArray, List.getElem?_cons_succ, List.getElem?_cons_zero]; exact rfl
      · intro K hK
        go_simp
        refine hK.out _ _ ?_ (fun hHeld => ?_)
        · (try dsimp only); (first | exact ⟨c0, a0, a1, a2, a3, a4, a5, a6, a7, a8, a9⟩ | exact ⟨HK1.out.cell c0 (fun f => f), HK1.out.cell a0 (fun f => f), HK1.out.cell a1 (fun f => f), HK1.out.cell a2 (fun f => f), HK1.out.cell a3 (fun f => f), HK1.out.cell a4 (fun f => f), HK1.out.cell a5 (fun f => f), HK1.out.cell a6 (fun f => f), HK1.out.cell a7 (fun f => f), HK1.out.cell a8 (fun f => f), HK1.out.cell a9 (fun f => f)⟩ | exact ⟨(HK1.out.alloc _).cell c0 (fun f => f), (HK1.out.alloc _).cell a0 (fun f => f), (HK1.out.alloc _).cell a1 (fun f => f), (HK1.out.alloc _).cell a2 (fun f => f), (HK1.out.alloc _).cell a3 (fun f => f), (HK1.out.alloc _).cell a4 (fun f => f), (HK1.out.alloc _).cell a5 (fun f => f), (HK1.out.alloc _).cell a6 (fun f => f), (HK1.out.alloc _).cell a7 (fun f => f), (HK1.out.alloc _).cell a8 (fun f => f), (HK1.out.alloc _).cell a9 (fun f => f)⟩ | exact ⟨((Keep.refl wa Nope).alloc _).drew.cell c0 (fun f => f), ((Keep.refl wa Nope).alloc _).drew.cell a0 (fun f => f), ((Keep.refl wa Nope).alloc _).drew.cell a1 (fun f => f), ((Keep.refl wa Nope).alloc _).drew.cell a2 (fun f => f), ((Keep.refl wa Nope).alloc _).drew.cell a3 (fun f => f), ((Keep.refl wa Nope).alloc _).drew.cell a4 (fun f => f), ((Keep.refl wa Nope).alloc _).drew.cell a5 (fun f => f), ((Keep.refl wa Nope).alloc _).drew.cell a6 (fun f => f), ((Keep.refl wa Nope).alloc _).drew.cell a7 (fun f => f), ((Keep.refl wa Nope).alloc _).drew.cell a8 (fun f => f), ((Keep.refl wa Nope).alloc _).drew.cell a9 (fun f => f)⟩)
        clear hK K
        refine tkF 11 ?_
        intro K hK
        go_simp
        go_wp2_with ((go_at_call 15; (first | (refine (HI.out _ _ HB1.out).mono ?_; rintro e w2 ⟨rfl, h2⟩; have HB2 := Lib.hid (St.scWo' (p := ⟨wb, wp, aa, cc⟩) h2); clear h2 HI HB1) | (refine (HI.out _ _ (HB1.out.scBox1 #[.int .i64 0, .int .i64 0, .int .i64 0] 34)).mono ?_; rintro e w2 ⟨rfl, h2⟩; have HB2 := Lib.hid (St.scWo' (p := ⟨wb, wp, aa, cc⟩) h2); clear h2 HI HB1)); (first | (obtain ⟨z0, z1, z2, y0, y1, y2⟩ := (HB2.out.scUnbox3.blk 0 rfl).three) | skip)))
        refine hK.out _ _ ?_
        clear hK K
        refine tkP 12 ?_; refine tkP 13 ?_; refine tkP 14 ?_; refine tkP 15 ?_; refine tkF 17 ?_
        intro K hK
        go_simp
        refine hK.out _ _ ?_
        clear hK K
        refine tkP 18 ?_; refine tkP 19 ?_
        refine wpAnyM_done (by kernel_rfl) ?_ _
        clear hHeld c0 a0 a1 a2 a3 a4 a5 a6 a7 a8 a9
        first | (have H3 := Lib.hid (HB2.out.scBox1 #[.int .i64 hk1, .int .i64 ha1, .int .i64 hb1] 34).scUnbox3) | (have H3 := Lib.hid (HB2.out.scUnbox3.write3 (.int .i64 hk1) (.int .i64 ha1) (.int .i64 hb1)))
        go_upto_region 2 with fail
        refine wp_region_list ?_
        refine wpList_move rfl _ rfl ?_
        refine wpList_load_mid rfl 34 _ rfl _ 0 rfl [.int .i64 hk1, .int .i64 ha1, .int .i64 hb1] _ (by have hb := H3.out.blk 0 rfl; intro j v hv; rw [Nat.zero_add, hb.cell]; simpa using hv) Tryz.underlying34 rfl (by kernel_rfl) ?_
        refine wpList_move rfl _ rfl ?_
        refine wpList_build rfl 57 _ rfl (by kernel_rfl) ?_
        rw [show (Tryz.prog.built _ _).getD #[] = RepV.cs ⟨0, 0, 0, hk1, ha1, hb1, tb, 0, none, 0, 0⟩ from by kernel_rfl]
        refine wpList_store_row rfl 57 _ _ rfl (w.heap.size + 1) (RepV.cs ⟨0, 0, 0, hk1, ha1, hb1, tb, 0, none, 0, 0⟩) rfl rfl _ _ (H3.out.blk 1 rfl) (by kernel_rfl) rfl (all_oneCell_toArray (RepV.one ⟨0, 0, 0, hk1, ha1, hb1, tb, 0, none, 0, 0⟩)) ?_
        have H4 := Lib.hid (H3.out.setRowAll 1 rfl (RepV.cs ⟨0, 0, 0, hk1, ha1, hb1, tb, 0, none, 0, 0⟩))
        refine wpList_nil ?_
        go_wp2_with fail
        refine bodyPost_ret (results_rep rfl rfl (H4.out.blk 1 rfl)) rfl ?_
        exact ⟨⟨wb, wp, aa, cc⟩, rfl, H4.out.rest.rest.rest⟩
      exact AllReadyM.nil
    refine AllReadyM.cons (o := ?_) ?_ ?_ ?_
    rotate_left 1
    · simp only [List.getElem?_toArray, List.getElem?_cons_succ, List.getElem?_cons_zero]; exact rfl
    · intro K hK
      go_simp
      refine hK.out _ _ ?_ (fun hHeld => ?_)
      · (try dsimp only); (first | exact ⟨c0, a0, a1, a2, a3, a4, a5, a6, a7, a8, a9⟩ | exact ⟨HK1.out.cell c0 (fun f => f), HK1.out.cell a0 (fun f => f), HK1.out.cell a1 (fun f => f), HK1.out.cell a2 (fun f => f), HK1.out.cell a3 (fun f => f), HK1.out.cell a4 (fun f => f), HK1.out.cell a5 (fun f => f), HK1.out.cell a6 (fun f => f), HK1.out.cell a7 (fun f => f), HK1.out.cell a8 (fun f => f), HK1.out.cell a9 (fun f => f)⟩ | exact ⟨(HK1.out.alloc _).cell c0 (fun f => f), (HK1.out.alloc _).cell a0 (fun f => f), (HK1.out.alloc _).cell a1 (fun f => f), (HK1.out.alloc _).cell a2 (fun f => f), (HK1.out.alloc _).cell a3 (fun f => f), (HK1.out.alloc _).cell a4 (fun f => f), (HK1.out.alloc _).cell a5 (fun f => f), (HK1.out.alloc _).cell a6 (fun f => f), (HK1.out.alloc _).cell a7 (fun f => f), (HK1.out.alloc _).cell a8 (fun f => f), (HK1.out.alloc _).cell a9 (fun f => f)⟩ | exact ⟨((Keep.refl wa Nope).alloc _).drew.cell c0 (fun f => f), ((Keep.refl wa Nope).alloc _).drew.cell a0 (fun f => f), ((Keep.refl wa Nope).alloc _).drew.cell a1 (fun f => f), ((Keep.refl wa Nope).alloc _).drew.cell a2 (fun f => f), ((Keep.refl wa Nope).alloc _).drew.cell a3 (fun f => f), ((Keep.refl wa Nope).alloc _).drew.cell a4 (fun f => f), ((Keep.refl wa Nope).alloc _).drew.cell a5 (fun f => f), ((Keep.refl wa Nope).alloc _).drew.cell a6 (fun f => f), ((Keep.refl wa Nope).alloc _).drew.cell a7 (fun f => f), ((Keep.refl wa Nope).alloc _).drew.cell a8 (fun f => f), ((Keep.refl wa Nope).alloc _).drew.cell a9 (fun f => f)⟩)
      clear hK K
      refine tkC 6 ?_
      intro K hK
      go_simp
      go_wp2_with ((go_at_call 229; first | (refine (HN.out _ _ HB.out.drew).mono ?_; rintro e w1 ⟨rfl, hk1⟩; have HB1 := Lib.hid (HB.out.drew.keep hk1); have HK1 := Lib.hid ((show Keep wa _ Nope from (by (repeat (first | exact Keep.refl _ _ | apply Keep.drew | apply Keep.drewN | apply Keep.alloc)))).trans hk1 (fun _ f => f.elim)); clear hk1 HN HB) | (refine (HN.out _ _ (HB.out.scBox1 #[.int .i64 0, .int .i64 0, .int .i64 0] 34).drew).mono ?_; rintro e w1 ⟨rfl, hk1⟩; have HB1 := Lib.hid ((HB.out.scBox1 #[.int .i64 0, .int .i64 0, .int .i64 0] 34).drew.keep hk1); have HK1 := Lib.hid ((show Keep wa _ Nope from (by (repeat (first | exact Keep.refl _ _ | apply Keep.drew | apply Keep.drewN | apply Keep.alloc)))).trans hk1 (fun _ f => f.elim)); clear hk1 HN HB)))
      refine hK.out _ _ ?_ (fun hHeld => ?_)
      · (try dsimp only); (first | exact ⟨c0, a0, a1, a2, a3, a4, a5, a6, a7, a8, a9⟩ | exact ⟨HK1.out.cell c0 (fun f => f), HK1.out.cell a0 (fun f => f), HK1.out.cell a1 (fun f => f), HK1.out.cell a2 (fun f => f), HK1.out.cell a3 (fun f => f), HK1.out.cell a4 (fun f => f), HK1.out.cell a5 (fun f => f), HK1.out.cell a6 (fun f => f), HK1.out.cell a7 (fun f => f), HK1.out.cell a8 (fun f => f), HK1.out.cell a9 (fun f => f)⟩ | exact ⟨(HK1.out.alloc _).cell c0 (fun f => f), (HK1.out.alloc _).cell a0 (fun f => f), (HK1.out.alloc _).cell a1 (fun f => f), (HK1.out.alloc _).cell a2 (fun f => f), (HK1.out.alloc _).cell a3 (fun f => f), (HK1.out.alloc _).cell a4 (fun f => f), (HK1.out.alloc _).cell a5 (fun f => f), (HK1.out.alloc _).cell a6 (fun f => f), (HK1.out.alloc _).cell a7 (fun f => f), (HK1.out.alloc _).cell a8 (fun f => f), (HK1.out.alloc _).cell a9 (fun f => f)⟩ | exact ⟨((Keep.refl wa Nope).alloc _).drew.cell c0 (fun f => f), ((Keep.refl wa Nope).alloc _).drew.cell a0 (fun f => f), ((Keep.refl wa Nope).alloc _).drew.cell a1 (fun f => f), ((Keep.refl wa Nope).alloc _).drew.cell a2 (fun f => f), ((Keep.refl wa Nope).alloc _).drew.cell a3 (fun f => f), ((Keep.refl wa Nope).alloc _).drew.cell a4 (fun f => f), ((Keep.refl wa Nope).alloc _).drew.cell a5 (fun f => f), ((Keep.refl wa Nope).alloc _).drew.cell a6 (fun f => f), ((Keep.refl wa Nope).alloc _).drew.cell a7 (fun f => f), ((Keep.refl wa Nope).alloc _).drew.cell a8 (fun f => f), ((Keep.refl wa Nope).alloc _).drew.cell a9 (fun f => f)⟩)
      clear hK K
      refine tkF 11 ?_
      intro K hK
      go_simp
      go_wp2_with ((go_at_call 15; (first | (refine (HI.out _ _ HB1.out).mono ?_; rintro e w2 ⟨rfl, h2⟩; have HB2 := Lib.hid (St.scWo' (p := ⟨wb, wp, aa, cc⟩) h2); clear h2 HI HB1) | (refine (HI.out _ _ (HB1.out.scBox1 #[.int .i64 0, .int .i64 0, .int .i64 0] 34)).mono ?_; rintro e w2 ⟨rfl, h2⟩; have HB2 := Lib.hid (St.scWo' (p := ⟨wb, wp, aa, cc⟩) h2); clear h2 HI HB1)); (first | (obtain ⟨z0, z1, z2, y0, y1, y2⟩ := (HB2.out.scUnbox3.blk 0 rfl).three) | skip)))
      refine hK.out _ _ ?_
      clear hK K
      refine tkP 12 ?_; refine tkP 13 ?_; refine tkP 14 ?_; refine tkP 15 ?_; refine tkF 17 ?_
      intro K hK
      go_simp
      refine hK.out _ _ ?_
      clear hK K
      refine tkP 18 ?_; refine tkP 19 ?_
      refine wpAnyM_done (by kernel_rfl) ?_ _
      clear hHeld c0 a0 a1 a2 a3 a4 a5 a6 a7 a8 a9
      first | (have H3 := Lib.hid (HB2.out.scBox1 #[.int .i64 hk1, .int .i64 ha1, .int .i64 hb1] 34).scUnbox3) | (have H3 := Lib.hid (HB2.out.scUnbox3.write3 (.int .i64 hk1) (.int .i64 ha1) (.int .i64 hb1)))
      go_upto_region 2 with fail
      refine wp_region_list ?_
      refine wpList_move rfl _ rfl ?_
      refine wpList_load_mid rfl 34 _ rfl _ 0 rfl [.int .i64 hk1, .int .i64 ha1, .int .i64 hb1] _ (by have hb := H3.out.blk 0 rfl; intro j v hv; rw [Nat.zero_add, hb.cell]; simpa using hv) Tryz.underlying34 rfl (by kernel_rfl) ?_
      refine wpList_move rfl _ rfl ?_
      refine wpList_build rfl 57 _ rfl (by kernel_rfl) ?_
      rw [show (Tryz.prog.built _ _).getD #[] = RepV.cs ⟨0, 0, 0, hk1, ha1, hb1, tb, 0, none, 0, 0⟩ from by kernel_rfl]
      refine wpList_store_row rfl 57 _ _ rfl (w.heap.size + 1) (RepV.cs ⟨0, 0, 0, hk1, ha1, hb1, tb, 0, none, 0, 0⟩) rfl rfl _ _ (H3.out.blk 1 rfl) (by kernel_rfl) rfl (all_oneCell_toArray (RepV.one ⟨0, 0, 0, hk1, ha1, hb1, tb, 0, none, 0, 0⟩)) ?_
      have H4 := Lib.hid (H3.out.setRowAll 1 rfl (RepV.cs ⟨0, 0, 0, hk1, ha1, hb1, tb, 0, none, 0, 0⟩))
      refine wpList_nil ?_
      go_wp2_with fail
      refine bodyPost_ret (results_rep rfl rfl (H4.out.blk 1 rfl)) rfl ?_
      exact ⟨⟨wb, wp, aa, cc⟩, rfl, H4.out.rest.rest.rest⟩
    exact AllReadyM.nil
  refine AllReadyM.cons (o := ?_) ?_ ?_ ?_
  rotate_left 1
  · simp only [List.getElem?_toArray, List.getElem?_cons_succ, List.getElem?_cons_zero]; exact rfl
  · intro K hK
    go_simp
    refine hK.out _ _ ?_ (fun hHeld => ?_)
    · (try dsimp only); (first | exact ⟨c0, a0, a1, a2, a3, a4, a5, a6, a7, a8, a9⟩ | exact ⟨HK1.out.cell c0 (fun f => f), HK1.out.cell a0 (fun f => f), HK1.out.cell a1 (fun f => f), HK1.out.cell a2 (fun f => f), HK1.out.cell a3 (fun f => f), HK1.out.cell a4 (fun f => f), HK1.out.cell a5 (fun f => f), HK1.out.cell a6 (fun f => f), HK1.out.cell a7 (fun f => f), HK1.out.cell a8 (fun f => f), HK1.out.cell a9 (fun f => f)⟩ | exact ⟨(HK1.out.alloc _).cell c0 (fun f => f), (HK1.out.alloc _).cell a0 (fun f => f), (HK1.out.alloc _).cell a1 (fun f => f), (HK1.out.alloc _).cell a2 (fun f => f), (HK1.out.alloc _).cell a3 (fun f => f), (HK1.out.alloc _).cell a4 (fun f => f), (HK1.out.alloc _).cell a5 (fun f => f), (HK1.out.alloc _).cell a6 (fun f => f), (HK1.out.alloc _).cell a7 (fun f => f), (HK1.out.alloc _).cell a8 (fun f => f), (HK1.out.alloc _).cell a9 (fun f => f)⟩ | exact ⟨((Keep.refl wa Nope).alloc _).drew.cell c0 (fun f => f), ((Keep.refl wa Nope).alloc _).drew.cell a0 (fun f => f), ((Keep.refl wa Nope).alloc _).drew.cell a1 (fun f => f), ((Keep.refl wa Nope).alloc _).drew.cell a2 (fun f => f), ((Keep.refl wa Nope).alloc _).drew.cell a3 (fun f => f), ((Keep.refl wa Nope).alloc _).drew.cell a4 (fun f => f), ((Keep.refl wa Nope).alloc _).drew.cell a5 (fun f => f), ((Keep.refl wa Nope).alloc _).drew.cell a6 (fun f => f), ((Keep.refl wa Nope).alloc _).drew.cell a7 (fun f => f), ((Keep.refl wa Nope).alloc _).drew.cell a8 (fun f => f), ((Keep.refl wa Nope).alloc _).drew.cell a9 (fun f => f)⟩)
    clear hK K
    refine tkC 5 ?_
    intro K hK
    go_simp
    refine hK.out _ _ ?_ (fun hHeld => ?_)
    · (try dsimp only); (first | exact ⟨c0, a0, a1, a2, a3, a4, a5, a6, a7, a8, a9⟩ | exact ⟨HK1.out.cell c0 (fun f => f), HK1.out.cell a0 (fun f => f), HK1.out.cell a1 (fun f => f), HK1.out.cell a2 (fun f => f), HK1.out.cell a3 (fun f => f), HK1.out.cell a4 (fun f => f), HK1.out.cell a5 (fun f => f), HK1.out.cell a6 (fun f => f), HK1.out.cell a7 (fun f => f), HK1.out.cell a8 (fun f => f), HK1.out.cell a9 (fun f => f)⟩ | exact ⟨(HK1.out.alloc _).cell c0 (fun f => f), (HK1.out.alloc _).cell a0 (fun f => f), (HK1.out.alloc _).cell a1 (fun f => f), (HK1.out.alloc _).cell a2 (fun f => f), (HK1.out.alloc _).cell a3 (fun f => f), (HK1.out.alloc _).cell a4 (fun f => f), (HK1.out.alloc _).cell a5 (fun f => f), (HK1.out.alloc _).cell a6 (fun f => f), (HK1.out.alloc _).cell a7 (fun f => f), (HK1.out.alloc _).cell a8 (fun f => f), (HK1.out.alloc _).cell a9 (fun f => f)⟩ | exact ⟨((Keep.refl wa Nope).alloc _).drew.cell c0 (fun f => f), ((Keep.refl wa Nope).alloc _).drew.cell a0 (fun f => f), ((Keep.refl wa Nope).alloc _).drew.cell a1 (fun f => f), ((Keep.refl wa Nope).alloc _).drew.cell a2 (fun f => f), ((Keep.refl wa Nope).alloc _).drew.cell a3 (fun f => f), ((Keep.refl wa Nope).alloc _).drew.cell a4 (fun f => f), ((Keep.refl wa Nope).alloc _).drew.cell a5 (fun f => f), ((Keep.refl wa Nope).alloc _).drew.cell a6 (fun f => f), ((Keep.refl wa Nope).alloc _).drew.cell a7 (fun f => f), ((Keep.refl wa Nope).alloc _).drew.cell a8 (fun f => f), ((Keep.refl wa Nope).alloc _).drew.cell a9 (fun f => f)⟩)
    clear hK K
    refine tkC 6 ?_
    intro K hK
    go_simp
    go_wp2_with ((go_at_call 229; first | (refine (HN.out _ _ HB.out.drew).mono ?_; rintro e w1 ⟨rfl, hk1⟩; have HB1 := Lib.hid (HB.out.drew.keep hk1); have HK1 := Lib.hid ((show Keep wa _ Nope from (by (repeat (first | exact Keep.refl _ _ | apply Keep.drew | apply Keep.drewN | apply Keep.alloc)))).trans hk1 (fun _ f => f.elim)); clear hk1 HN HB) | (refine (HN.out _ _ (HB.out.scBox1 #[.int .i64 0, .int .i64 0, .int .i64 0] 34).drew).mono ?_; rintro e w1 ⟨rfl, hk1⟩; have HB1 := Lib.hid ((HB.out.scBox1 #[.int .i64 0, .int .i64 0, .int .i64 0] 34).drew.keep hk1); have HK1 := Lib.hid ((show Keep wa _ Nope from (by (repeat (first | exact Keep.refl _ _ | apply Keep.drew | apply Keep.drewN | apply Keep.alloc)))).trans hk1 (fun _ f => f.elim)); clear hk1 HN HB)))
    refine hK.out _ _ ?_ (fun hHeld => ?_)
    · (try dsimp only); (first | exact ⟨c0, a0, a1, a2, a3, a4, a5, a6, a7, a8, a9⟩ | exact ⟨HK1.out.cell c0 (fun f => f), HK1.out.cell a0 (fun f => f), HK1.out.cell a1 (fun f => f), HK1.out.cell a2 (fun f => f), HK1.out.cell a3 (fun f => f), HK1.out.cell a4 (fun f => f), HK1.out.cell a5 (fun f => f), HK1.out.cell a6 (fun f => f), HK1.out.cell a7 (fun f => f), HK1.out.cell a8 (fun f => f), HK1.out.cell a9 (fun f => f)⟩ | exact ⟨(HK1.out.alloc _).cell c0 (fun f => f), (HK1.out.alloc _).cell a0 (fun f => f), (HK1.out.alloc _).cell a1 (fun f => f), (HK1.out.alloc _).cell a2 (fun f => f), (HK1.out.alloc _).cell a3 (fun f => f), (HK1.out.alloc _).cell a4 (fun f => f), (HK1.out.alloc _).cell a5 (fun f => f), (HK1.out.alloc _).cell a6 (fun f => f), (HK1.out.alloc _).cell a7 (fun f => f), (HK1.out.alloc _).cell a8 (fun f => f), (HK1.out.alloc _).cell a9 (fun f => f)⟩ | exact ⟨((Keep.refl wa Nope).alloc _).drew.cell c0 (fun f => f), ((Keep.refl wa Nope).alloc _).drew.cell a0 (fun f => f), ((Keep.refl wa Nope).alloc _).drew.cell a1 (fun f => f), ((Keep.refl wa Nope).alloc _).drew.cell a2 (fun f => f), ((Keep.refl wa Nope).alloc _).drew.cell a3 (fun f => f), ((Keep.refl wa Nope).alloc _).drew.cell a4 (fun f => f), ((Keep.refl wa Nope).alloc _).drew.cell a5 (fun f => f), ((Keep.refl wa Nope).alloc _).drew.cell a6 (fun f => f), ((Keep.refl wa Nope).alloc _).drew.cell a7 (fun f => f), ((Keep.refl wa Nope).alloc _).drew.cell a8 (fun f => f), ((Keep.refl wa Nope).alloc _).drew.cell a9 (fun f => f)⟩)
    clear hK K
    refine tkF 11 ?_
    intro K hK
    go_simp
    go_wp2_with ((go_at_call 15; (first | (refine (HI.out _ _ HB1.out).mono ?_; rintro e w2 ⟨rfl, h2⟩; have HB2 := Lib.hid (St.scWo' (p := ⟨wb, wp, aa, cc⟩) h2); clear h2 HI HB1) | (refine (HI.out _ _ (HB1.out.scBox1 #[.int .i64 0, .int .i64 0, .int .i64 0] 34)).mono ?_; rintro e w2 ⟨rfl, h2⟩; have HB2 := Lib.hid (St.scWo' (p := ⟨wb, wp, aa, cc⟩) h2); clear h2 HI HB1)); (first | (obtain ⟨z0, z1, z2, y0, y1, y2⟩ := (HB2.out.scUnbox3.blk 0 rfl).three) | skip)))
    refine hK.out _ _ ?_
    clear hK K
    refine tkP 12 ?_; refine tkP 13 ?_; refine tkP 14 ?_; refine tkP 15 ?_; refine tkF 17 ?_
    intro K hK
    go_simp
    refine hK.out _ _ ?_
    clear hK K
    refine tkP 18 ?_; refine tkP 19 ?_
    refine wpAnyM_done (by kernel_rfl) ?_ _
    clear hHeld c0 a0 a1 a2 a3 a4 a5 a6 a7 a8 a9
    first | (have H3 := Lib.hid (HB2.out.scBox1 #[.int .i64 hk1, .int .i64 ha1, .int .i64 hb1] 34).scUnbox3) | (have H3 := Lib.hid (HB2.out.scUnbox3.write3 (.int .i64 hk1) (.int .i64 ha1) (.int .i64 hb1)))
    go_upto_region 2 with fail
    refine wp_region_list ?_
    refine wpList_move rfl _ rfl ?_
    refine wpList_load_mid rfl 34 _ rfl _ 0 rfl [.int .i64 hk1, .int .i64 ha1, .int .i64 hb1] _ (by have hb := H3.out.blk 0 rfl; intro j v hv; rw [Nat.zero_add, hb.cell]; simpa using hv) Tryz.underlying34 rfl (by kernel_rfl) ?_
    refine wpList_move rfl _ rfl ?_
    refine wpList_build rfl 57 _ rfl (by kernel_rfl) ?_
    rw [show (Tryz.prog.built _ _).getD #[] = RepV.cs ⟨0, 0, 0, hk1, ha1, hb1, tb, 0, none, 0, 0⟩ from by kernel_rfl]
    refine wpList_store_row rfl 57 _ _ rfl (w.heap.size + 1) (RepV.cs ⟨0, 0, 0, hk1, ha1, hb1, tb, 0, none, 0, 0⟩) rfl rfl _ _ (H3.out.blk 1 rfl) (by kernel_rfl) rfl (all_oneCell_toArray (RepV.one ⟨0, 0, 0, hk1, ha1, hb1, tb, 0, none, 0, 0⟩)) ?_
    have H4 := Lib.hid (H3.out.setRowAll 1 rfl (RepV.cs ⟨0, 0, 0, hk1, ha1, hb1, tb, 0, none, 0, 0⟩))
    refine wpList_nil ?_
    go_wp2_with fail
    refine bodyPost_ret (results_rep rfl rfl (H4.out.blk 1 rfl)) rfl ?_
    exact ⟨⟨wb, wp, aa, cc⟩, rfl, H4.out.rest.rest.rest⟩
  exact AllReadyM.nil
end Go.Proofs.YtkiikblpgppmkaaGreatDoor
