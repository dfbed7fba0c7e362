/-
  The package script: Handle, named; The package script: create; The package script: remove, rows.
-/
import Derived.Test.YtkiikblpgppmkaaGreatDoorTlM39
namespace Go.Proofs.YtkiikblpgppmkaaGreatDoor
open Go Go.RowKit
set_option linter.unusedVariables false
set_option linter.unusedSimpArgs false

structure ActV where
  kind : Int
  h : Int
  c : Int
  n : Int
  v : VV
  pl : Value
  sy : Value
  pk : Value
def ActV.cs (a : ActV) : Array Value := #[.int .i64 a.kind, .int .i64 a.h, .int .i64 a.c, .int .i64 a.n, .int .i64 a.v.k, .int .i64 a.v.a, .int .i64 a.v.b, a.pl, a.sy, a.pk]
def ActV.val (a : ActV) : Value := .agg a.cs
set_option maxHeartbeats 1000000 in
theorem scr_handle {w0 w : World} {L : List Asr} {s : Nat} {x : WoS} {l : List HdV} {p : ScP} (H : St w0 w (scL s x l p ++ L)) (hn : l.length ≤ 1000) (k : Nat) (h : HdV) (hk : l[k]? = some h) :
    Calls Tryz.prog 266 #[ptr s, .int .i64 (k : Nat)] w (Ret w (.tuple #[hdV h.i h.g, .bool true])) := by
  obtain ⟨wb, wp, a, c⟩ := p
  have hkl : k < l.length := (List.getElem?_eq_some_iff.1 hk).1
  have hk1 := (show Keep w (w.alloc (.cells #[.int .i64 0, .int .i64 0] 45)) Nope from (Keep.refl w Nope).alloc _)
  have c1 : w.cell? ⟨s, 1, none⟩ = some (.slice a l.length c) := by
    rw [(H.blk 0 rfl).cell]
    rfl
  obtain ⟨G, _, hrd, _⟩ := H.rd 1 rfl
  obtain ⟨g, o, rfl, _, hc⟩ := Rd.elem (cells := HdV.cells) (size := 2) hrd (fun _ => rfl) (by decide) hk
  have x0 : w.cell? ⟨g, o + k * 2, none⟩ = some (.int .i64 h.i) := hc 0 (by decide)
  have x1 : w.cell? ⟨g, o + k * 2 + 1, none⟩ = some (.int .i64 h.g) := hc 1 (by decide)
  obtain ⟨i, gg⟩ := h
  obtain ⟨n, hN⟩ : ∃ n, l.length = n := ⟨_, rfl⟩
  rw [hN] at hn c1 hkl
  replace c1 := hk1.cell c1 (fun f => f)
  replace x0 := hk1.cell x0 (fun f => f)
  replace x1 := hk1.cell x1 (fun f => f)
  have e0 : decide ((k : Int) < 0) = false := decide_eq_false (by omega)
  have e1 : decide ((k : Int) ≥ (n : Int)) = false := decide_eq_false (by omega)
  have e2 : decide (n ≤ k) = false := decide_eq_false (by omega)
  have HK := Lib.hid hkl
  clear H hk hrd hc hN hk1
  unfold ptr hdV
  simp only at x0 x1 ⊢
  go_enter Tryz.func266, Tryz.ntmps266
  go_wp2_with fail
  refine bodyPost_ret (v := .tuple #[.agg #[.int .i64 i, .int .i64 gg], .bool true]) (by simp [results, Tryz.results266, go_sem]) rfl ⟨rfl, ?_⟩
  exact (show Keep w _ Nope from (by (repeat (first | exact Keep.refl _ _ | apply Keep.drew | apply Keep.drewN | apply Keep.alloc))))
set_option maxHeartbeats 1000000 in
theorem scr_named {w0 w : World} {L : List Asr} {s : Nat} {x : WoS} {l : List HdV} {p : ScP} (H : St w0 w (scL s x l p ++ L)) (hn : l.length ≤ 1000) (k : Nat) (h : HdV) (hk : l[k]? = some h) (a : ActV) (ha : a.h = (k : Int)) :
    Calls Tryz.prog 229 #[ptr s, a.val] w (Ret w (hdV h.i h.g)) := by
  have HH := Lib.hid (fun w' (hk1 : Keep w w' Nope) => scr_handle (H.keep hk1) hn k h hk)
  have HB := Lib.hid (show Blk ((w.alloc (.cells a.cs 38)).alloc (.cells #[.int .i64 0, .int .i64 0] 45)) (w.heap.size + 1) #[.int .i64 0, .int .i64 0] 45 from by
    have h := Blk.new (w.alloc (.cells a.cs 38)) #[.int .i64 0, .int .i64 0] 45
    rwa [World.size_alloc] at h)
  obtain ⟨kind, _, ac, an, ⟨vk, va, vb⟩, pl, sy, pk⟩ := a
  obtain ⟨i, g⟩ := h
  simp only at ha
  subst ha
  clear H hn hk
  unfold ActV.val ActV.cs ptr hdV at *
  simp only
  go_enter Tryz.func229, Tryz.ntmps229
  go_wp2_with (go_at_call 266; refine (HH.out _ (show Keep w _ Nope from (by (repeat (first | exact Keep.refl _ _ | apply Keep.drew | apply Keep.drewN | apply Keep.alloc))))).mono ?_; rintro e w1 ⟨rfl, hk1⟩; have HK1 := Lib.hid ((show Keep w _ Nope from (by (repeat (first | exact Keep.refl _ _ | apply Keep.drew | apply Keep.drewN | apply Keep.alloc)))).trans hk1 (fun _ f => f.elim)); have hb := HB.out.keep hk1 (fun f => f); have HB1 := Lib.hid hb; obtain ⟨x0, x1, y0, y1⟩ := hb.two; have hlt := hb.lt; clear hk1 hb)
  refine bodyPost_ret (v := .agg #[.int .i64 i, .int .i64 g]) ?_ rfl ⟨rfl, ?_⟩
  · exact results_row (cs := #[.int .i64 i, .int .i64 g]) rfl rfl ((HB1.out.set2 (.int .i64 i) (.int .i64 g)).alloc _) Tryz.underlying45 rfl (by kernel_rfl)
  · exact ((HK1.out.setCell (p := ⟨w.heap.size + 1, 0, none⟩) (.inr (Nat.le_succ _)) _).setCell (p := ⟨w.heap.size + 1, 1, none⟩) (.inr (Nat.le_succ _)) _).alloc _
end Go.Proofs.YtkiikblpgppmkaaGreatDoor

namespace Go.Proofs.YtkiikblpgppmkaaGreatDoor
open Go Go.RowKit
set_option linter.unusedVariables false
set_option linter.unusedSimpArgs false

theorem St.scWo {w0 w : World} {L : List Asr} {s : Nat} {x : WoS} {l : List HdV} {p : ScP} (H : St w0 w (scL s x l p ++ L)) : St w0 w (woL p.wb x p.wp ++ (L ++ [blkA s (scCs p.wb p.a l.length p.c) 226, slA 45 2 (.slice p.a l.length p.c) l.length (flatHd l)])) := H.rot2
theorem St.scWo' {w0 w : World} {L : List Asr} {s : Nat} {x : WoS} {l : List HdV} {p : ScP} (H : St w0 w (woL p.wb x p.wp ++ (L ++ [blkA s (scCs p.wb p.a l.length p.c) 226, slA 45 2 (.slice p.a l.length p.c) l.length (flatHd l)]))) : St w0 w (scL s x l p ++ L) := St.unrot2 H
/-- A call's own boxes: the act's, the reply's. -/
theorem St.scBox {w0 w : World} {L : List Asr} {s : Nat} {x : WoS} {l : List HdV} {p : ScP} (H : St w0 w (scL s x l p ++ L)) (a : ActV) (r : RepV) : St w0 ((w.alloc (.cells a.cs 38)).alloc (.cells r.cs 57)) (scL s x l p ++ (L ++ [repA (w.heap.size + 1) r, blkA w.heap.size a.cs 38])) :=
  St.rot2 (H.box2 a.cs r.cs 38 57)
theorem St.scUnbox {w0 w : World} {L : List Asr} {s : Nat} {x : WoS} {l : List HdV} {p : ScP} {A B : Asr} (H : St w0 w (scL s x l p ++ (L ++ [A, B]))) : St w0 w (A :: B :: (scL s x l p ++ L)) := St.unrot2 H
set_option maxRecDepth 100000 in
set_option maxHeartbeats 2000000 in
theorem scr_create {w0 w : World} {L : List Asr} {s : Nat} {x : WoS} {l : List HdV} {p : ScP} (H : St w0 w (scL s x l p ++ L)) (hn : l.length ≤ 1000) (hT : Tab w0) (hx : x.en.al.Ok) (k : Nat) (hk : firstW x.en.al.free 0 = (k : Int)) (a : ActV) :
    Calls Tryz.prog 171 #[ptr s, a.val] w (RetScr w0 L s (x.withE (x.en.withA (x.en.al.made k))) (l ++ [⟨k, ((x.en.al.gen k + 1 : Nat) : Int)⟩]) ⟨0, k, ((x.en.al.gen k + 1 : Nat) : Int), 0, 0, 0, false, 0, none, 0, 0⟩) := by
  have HB := Lib.hid (H.scBox a RepV.zero)
  have HC := Lib.hid (wo_create HB.out.scWo hT hx k hk)
  obtain ⟨x', hx'⟩ : ∃ x', x.withE (x.en.withA (x.en.al.made k)) = x' := ⟨_, rfl⟩
  obtain ⟨g, hg⟩ : ∃ g : Int, ((x.en.al.gen k + 1 : Nat) : Int) = g := ⟨_, rfl⟩
  rw [hx', hg] at HC ⊢
  have HT := Lib.hid (fun (w1 : World) (p1 : ScP) (h : St w0 w1 (scL s x' l p1 ++ (L ++ [repA (w.heap.size + 1) RepV.zero, blkA w.heap.size a.cs 38]))) => scr_told h hn k g)
  obtain ⟨wb, wp, aa, c⟩ := p
  have c0 : ((w.alloc (.cells a.cs 38)).alloc (.cells RepV.zero.cs 57)).cell? ⟨s, 0, none⟩ = some (.pointer (some ⟨wb, 0, none⟩)) := by
    rw [(HB.out.blk 0 rfl).cell]
    rfl
  obtain ⟨kind, ah, ac, an, ⟨vk, va, vb⟩, pl, sy, pk⟩ := a
  clear H hx hk hx' hg HB
  unfold ActV.val ActV.cs ptr hdV at *
  simp only [RepV.cs, RepV.zero] at *
  go_enter Tryz.func171, Tryz.ntmps171
  go_wp2_with (first
    | (go_at_call 14; refine HC.out.mono ?_; rintro e w1 ⟨rfl, h1⟩; have H1 := Lib.hid (St.scWo' (p := ⟨wb, wp, aa, c⟩) h1); clear h1 HC)
    | (go_at_call 228; go_loud (refine (HT.out w1 ⟨wb, wp, aa, c⟩ H1.out).mono ?_; rintro e w2 ⟨p2, rfl, h2⟩; have H2 := Lib.hid h2.scUnbox; clear h2 HT; dsimp only; refine (‹∀ (a : Act) (w : World), wpList Tryz.prog _ _ _ a w → _›) _ _ ?_; refine wpList_store_row rfl 57 _ _ rfl (w.heap.size + 1) (RepV.cs ⟨0, k, g, 0, 0, 0, false, 0, none, 0, 0⟩) rfl rfl _ _ (H2.out.blk 0 rfl) (by kernel_rfl) rfl (all_oneCell_toArray (RepV.one ⟨0, k, g, 0, 0, 0, false, 0, none, 0, 0⟩)) ?_; have H3 := Lib.hid (H2.out.setRowAll 0 rfl (RepV.cs ⟨0, k, g, 0, 0, 0, false, 0, none, 0, 0⟩)); obtain ⟨w3, hw3⟩ : ∃ w3, w2.setRow (w.heap.size + 1) (RepV.cs ⟨0, k, g, 0, 0, 0, false, 0, none, 0, 0⟩) = w3 := ⟨_, rfl⟩; rw [hw3] at H3 ⊢; clear hw3 H2; refine wpList_nil ?_)))
  refine bodyPost_ret (results_rep rfl rfl (H3.out.blk 0 rfl)) rfl ?_
  exact ⟨p2, rfl, H3.out.rest.rest⟩
end Go.Proofs.YtkiikblpgppmkaaGreatDoor

namespace Go.Proofs.YtkiikblpgppmkaaGreatDoor
open Go Go.RowKit
set_option linter.unusedVariables false
set_option linter.unusedSimpArgs false

/-- The reply's block is written whole. -/
theorem St.scRep {w0 w : World} {L : List Asr} {s : Nat} {x : WoS} {l : List HdV} {p : ScP} {b : Nat} {r : RepV} {B : Asr} (H : St w0 w (scL s x l p ++ (L ++ [repA b r, B]))) (r' : RepV) : St w0 (w.setRow b r'.cs) (repA b r' :: (scL s x l p ++ L)) :=
  (H.scUnbox.setRowAll 0 rfl r'.cs).sel (P := [_, _]) (P' := [repA b r']) (R := scL s x l p ++ L) [0] (by decide) rfl rfl
set_option maxRecDepth 100000 in
set_option maxHeartbeats 2000000 in
theorem scr_remove {w0 w : World} {L : List Asr} {s : Nat} {x : WoS} {l : List HdV} {p : ScP} (H : St w0 w (scL s x l p ++ L)) (hn : l.length ≤ 1000) (hx : x.en.Ok 90000) (hr : x.en.al.ret ≤ 1000000) (k : Nat) (hs : x.en.al.st k (x.en.al.gen k : Nat) = 1) (j : Nat) (hj : l[j]? = some ⟨k, ((x.en.al.gen k : Nat) : Int)⟩) (a : ActV) (ha : a.h = (j : Int)) :
    Calls Tryz.prog 173 #[ptr s, a.val] w (RetScr w0 L s (x.withE (x.en.del k)) l ⟨0, 0, 0, 0, 0, 0, false, ((ofL x.en.sl k).length : Nat), none, 0, 0⟩) := by
  have HB := Lib.hid (H.scBox a RepV.zero)
  have HN := Lib.hid (scr_named HB.out.drew hn j _ hj a ha)
  have HD := Lib.hid (fun (w1 : World) (h : St w0 w1 (scL s x l p ++ (L ++ [repA (w.heap.size + 1) RepV.zero, blkA w.heap.size a.cs 38]))) => wo_delete h.scWo hx hr k hs)
  obtain ⟨x', hx'⟩ : ∃ x', x.withE (x.en.del k) = x' := ⟨_, rfl⟩
  obtain ⟨g, hg⟩ : ∃ g : Int, ((x.en.al.gen k : Nat) : Int) = g := ⟨_, rfl⟩
  obtain ⟨N, hNN⟩ : ∃ N : Int, (((ofL x.en.sl k).length : Nat) : Int) = N := ⟨_, rfl⟩
  rw [hx', hg, hNN] at HD
  rw [hx', hNN]
  rw [hg] at HN
  obtain ⟨wb, wp, aa, c⟩ := p
  obtain ⟨wa, hwa⟩ : ∃ wa, (w.alloc (.cells a.cs 38)).alloc (.cells RepV.zero.cs 57) = wa := ⟨_, rfl⟩
  rw [hwa] at HB HN
  have c0 : wa.cell? ⟨s, 0, none⟩ = some (.pointer (some ⟨wb, 0, none⟩)) := by
    rw [(HB.out.blk 0 rfl).cell]
    rfl
  have hba : Blk wa w.heap.size a.cs 38 := HB.out.scUnbox.blk 1 rfl
  obtain ⟨kind, ah, ac, an, ⟨vk, va, vb⟩, pl, sy, pk⟩ := a
  have a0 : wa.cell? ⟨w.heap.size, 0, none⟩ = some (.int .i64 kind) := by rw [hba.cell]; rfl
  have a1 : wa.cell? ⟨w.heap.size, 1, none⟩ = some (.int .i64 ah) := by rw [hba.cell]; rfl
  have a2 : wa.cell? ⟨w.heap.size, 2, none⟩ = some (.int .i64 ac) := by rw [hba.cell]; rfl
  have a3 : wa.cell? ⟨w.heap.size, 3, none⟩ = some (.int .i64 an) := by rw [hba.cell]; rfl
  have a4 : wa.cell? ⟨w.heap.size, 4, none⟩ = some (.int .i64 vk) := by rw [hba.cell]; rfl
  have a5 : wa.cell? ⟨w.heap.size, 5, none⟩ = some (.int .i64 va) := by rw [hba.cell]; rfl
  have a6 : wa.cell? ⟨w.heap.size, 6, none⟩ = some (.int .i64 vb) := by rw [hba.cell]; rfl
  have a7 : wa.cell? ⟨w.heap.size, 7, none⟩ = some pl := by rw [hba.cell]; rfl
  have a8 : wa.cell? ⟨w.heap.size, 8, none⟩ = some sy := by rw [hba.cell]; rfl
  have a9 : wa.cell? ⟨w.heap.size, 9, none⟩ = some pk := by rw [hba.cell]; rfl
  clear H hx hx' hg hNN hba hr hs hj ha
  unfold ActV.val ActV.cs ptr hdV at *
  simp only [RepV.cs, RepV.zero] at hwa
  simp only at *
  go_enter Tryz.func173, Tryz.ntmps173
  go_wp2_with fail
  try rw [hwa]
  refine wp_region_M (r := 7) (S := fun w' => w'.cell? ⟨s, 0, none⟩ = some (.pointer (some ⟨wb, 0, none⟩)) ∧ w'.cell? ⟨w.heap.size, 0, none⟩ = some (.int .i64 kind) ∧ w'.cell? ⟨w.heap.size, 1, none⟩ = some (.int .i64 ah) ∧ w'.cell? ⟨w.heap.size, 2, none⟩ = some (.int .i64 ac) ∧ w'.cell? ⟨w.heap.size, 3, none⟩ = some (.int .i64 an) ∧ w'.cell? ⟨w.heap.size, 4, none⟩ = some (.int .i64 vk) ∧ w'.cell? ⟨w.heap.size, 5, none⟩ = some (.int .i64 va) ∧ w'.cell? ⟨w.heap.size, 6, none⟩ = some (.int .i64 vb) ∧ w'.cell? ⟨w.heap.size, 7, none⟩ = some pl ∧ w'.cell? ⟨w.heap.size, 8, none⟩ = some sy ∧ w'.cell? ⟨w.heap.size, 9, none⟩ = some pk) (by kernel_rfl) ?_ (fun hHeld => ?_)
  · (try dsimp only); (first | exact ⟨c0, a0, a1, a2, a3, a4, a5, a6, a7, a8, a9⟩ | exact ⟨HK1.out.cell c0 (fun f => f), HK1.out.cell a0 (fun f => f), HK1.out.cell a1 (fun f => f), HK1.out.cell a2 (fun f => f), HK1.out.cell a3 (fun f => f), HK1.out.cell a4 (fun f => f), HK1.out.cell a5 (fun f => f), HK1.out.cell a6 (fun f => f), HK1.out.cell a7 (fun f => f), HK1.out.cell a8 (fun f => f), HK1.out.cell a9 (fun f => f)⟩)
  refine tkP 0 ?_; refine tkP 1 ?_; refine tkP 2 ?_; refine tkH 3 ?_; refine tkP 4 ?_; refine tkC 5 ?_
  intro K hK
  go_simp
  refine hK.out _ _ ?_ (fun hHeld => ?_)
  · (try dsimp only); (first | exact ⟨c0, a0, a1, a2, a3, a4, a5, a6, a7, a8, a9⟩ | exact ⟨HK1.out.cell c0 (fun f => f), HK1.out.cell a0 (fun f => f), HK1.out.cell a1 (fun f => f), HK1.out.cell a2 (fun f => f), HK1.out.cell a3 (fun f => f), HK1.out.cell a4 (fun f => f), HK1.out.cell a5 (fun f => f), HK1.out.cell a6 (fun f => f), HK1.out.cell a7 (fun f => f), HK1.out.cell a8 (fun f => f), HK1.out.cell a9 (fun f => f)⟩)
  clear hK K
  refine tkC 6 ?_
  intro K hK
  go_simp
  go_wp2_with ((go_at_call 229; refine HN.out.mono ?_; rintro e w1 ⟨rfl, hk1⟩; have HB1 := Lib.hid (HB.out.drew.keep hk1); have HK1 := Lib.hid ((Keep.refl wa Nope).drew.trans hk1 (fun _ f => f.elim)); clear hk1 HN HB))
  refine hK.out _ _ ?_ (fun hHeld => ?_)
  · (try dsimp only); (first | exact ⟨c0, a0, a1, a2, a3, a4, a5, a6, a7, a8, a9⟩ | exact ⟨HK1.out.cell c0 (fun f => f), HK1.out.cell a0 (fun f => f), HK1.out.cell a1 (fun f => f), HK1.out.cell a2 (fun f => f), HK1.out.cell a3 (fun f => f), HK1.out.cell a4 (fun f => f), HK1.out.cell a5 (fun f => f), HK1.out.cell a6 (fun f => f), HK1.out.cell a7 (fun f => f), HK1.out.cell a8 (fun f => f), HK1.out.cell a9 (fun f => f)⟩)
  clear hK K
  refine tkF 7 ?_
  intro K hK
  go_simp
  go_wp2_with ((go_at_call 18; refine (HD.out _ HB1.out).mono ?_; rintro e w2 ⟨rfl, h2⟩; have HB2 := Lib.hid (St.scWo' (p := ⟨wb, wp, aa, c⟩) h2); clear h2 HD HB1))
  refine hK.out _ _ ?_
  clear hK K
  refine tkP 8 ?_; refine tkP 9 ?_; refine tkP 10 ?_; refine tkP 11 ?_; refine tkP 12 ?_
  refine wpAnyM_done (by kernel_rfl) ?_ _
  clear hHeld c0 a0 a1 a2 a3 a4 a5 a6 a7 a8 a9
  go_upto_region 2 with fail
  refine wp_region_list ?_
  refine wpList_move rfl _ rfl ?_
  refine wpList_move rfl _ rfl ?_
  refine wpList_build rfl 57 _ rfl (by kernel_rfl) ?_
  rw [show (Tryz.prog.built _ _).getD #[] = RepV.cs ⟨0, 0, 0, 0, 0, 0, false, N, none, 0, 0⟩ from by kernel_rfl]
  refine wpList_store_row rfl 57 _ _ rfl (w.heap.size + 1) (RepV.cs ⟨0, 0, 0, 0, 0, 0, false, N, none, 0, 0⟩) rfl rfl _ _ (HB2.out.scUnbox.blk 0 rfl) (by kernel_rfl) rfl (all_oneCell_toArray (RepV.one ⟨0, 0, 0, 0, 0, 0, false, N, none, 0, 0⟩)) ?_
  have H3 := Lib.hid (HB2.out.scRep ⟨0, 0, 0, 0, 0, 0, false, N, none, 0, 0⟩)
  refine wpList_nil ?_
  go_wp2_with fail
  refine bodyPost_ret (results_rep rfl rfl (H3.out.blk 0 rfl)) rfl ?_
  exact ⟨⟨wb, wp, aa, c⟩, rfl, H3.out.rest⟩
set_option maxRecDepth 100000 in
set_option maxHeartbeats 2000000 in
theorem scr_rows {w0 w : World} {L : List Asr} {s : Nat} {x : WoS} {l : List HdV} {p : ScP} (H : St w0 w (scL s x l p ++ L)) (hT : Tab w0) (hx : x.en.al.Ok) (hl : x.en.sl.length ≤ 64) (t : SlS) (hc : x.en.sl[0]? = some t) (hm : t.m < 2 ^ 64) (g o pc : Nat) (hcm : pc ≤ maxLen) (h0 : w.cell? ⟨g, o, none⟩ = some (.int .i64 1)) (h1 : w.cell? ⟨g, o + 1, none⟩ = some (.int .i64 0)) (a : ActV) (ha : a.pl = .slice (some ⟨g, o, none⟩) 1 pc) :
    Calls Tryz.prog 186 #[ptr s, a.val] w (fun e w' => ∃ q qc, RetScr w0 L s x l ⟨0, 0, 0, 0, 0, 0, false, 0, q, (listW (x.en.al.live &&& t.m)).length, qc⟩ e w') := by
  have HB := Lib.hid (H.scBox a RepV.zero)
  have hk2 := (show Keep w ((w.alloc (.cells a.cs 38)).alloc (.cells RepV.zero.cs 57)) Nope from ((Keep.refl w Nope).alloc _).alloc _).drew
  have HR := Lib.hid (rows_of1 (HB.out.drew.scWo) (hT.st HB.out.drew) hx hl t hc hm g o pc hcm (hk2.cell h0 (fun f => f)) (hk2.cell h1 (fun f => f)))
  obtain ⟨m, hmm⟩ : ∃ m, x.en.al.live &&& t.m = m := ⟨_, rfl⟩
  rw [hmm] at HR ⊢
  obtain ⟨wb, wp, aa, c⟩ := p
  obtain ⟨wa, hwa⟩ : ∃ wa, (w.alloc (.cells a.cs 38)).alloc (.cells RepV.zero.cs 57) = wa := ⟨_, rfl⟩
  rw [hwa] at HB HR
  have c0 : wa.cell? ⟨s, 0, none⟩ = some (.pointer (some ⟨wb, 0, none⟩)) := by
    rw [(HB.out.blk 0 rfl).cell]
    rfl
  have hba : Blk wa w.heap.size a.cs 38 := HB.out.scUnbox.blk 1 rfl
  obtain ⟨kind, ah, ac, an, ⟨vk, va, vb⟩, pl, sy, pk⟩ := a
  simp only at ha
  subst ha
  have a7 : wa.cell? ⟨w.heap.size, 7, none⟩ = some (.slice (some ⟨g, o, none⟩) 1 pc) := by rw [hba.cell]; rfl
  clear H hx hmm hba hT hl hc hm hcm h0 h1 hk2
  unfold ActV.val ActV.cs ptr at *
  simp only [RepV.cs, RepV.zero] at hwa
  simp only at *
  go_enter Tryz.func186, Tryz.ntmps186
  go_wp2_with fail
  try rw [hwa]
  refine wp_region_M (r := 6) (S := fun w' => w'.cell? ⟨s, 0, none⟩ = some (.pointer (some ⟨wb, 0, none⟩)) ∧ w'.cell? ⟨w.heap.size, 7, none⟩ = some (.slice (some ⟨g, o, none⟩) 1 pc)) (by kernel_rfl) ?_ (fun hHeld => ?_)
  · (try dsimp only); exact ⟨c0, a7⟩
  refine tkP 0 ?_; refine tkP 1 ?_; refine tkP 2 ?_; refine tkH 3 ?_; refine tkP 4 ?_; refine tkH 5 ?_; refine tkF 6 ?_
  intro K hK
  go_simp
  go_wp2_with ((go_at_call 26; refine HR.out.mono ?_; rintro e w1 ⟨q, qc, rfl, h2⟩; have HB1 := Lib.hid (HB.out.drew.keep (Keep.ofSt h2)); clear h2 HR HB))
  refine hK.out _ _ ?_
  clear hK K
  refine tkP 7 ?_; refine tkP 8 ?_; refine tkP 9 ?_; refine tkP 10 ?_; refine tkP 11 ?_
  refine wpAnyM_done (by kernel_rfl) ?_ _
  clear hHeld c0 a7
  obtain ⟨n, hn⟩ : ∃ n, (listW m).length = n := ⟨_, rfl⟩
  have HNN := Lib.hid hn
  rw [hn]
  clear hn
  go_upto_region 2 with fail
  refine wp_region_list ?_
  refine wpList_move rfl _ rfl ?_
  refine wpList_move rfl _ rfl ?_
  refine wpList_build rfl 57 _ rfl (by kernel_rfl) ?_
  rw [show (Tryz.prog.built _ _).getD #[] = RepV.cs ⟨0, 0, 0, 0, 0, 0, false, 0, q, n, qc⟩ from by kernel_rfl]
  refine wpList_store_row rfl 57 _ _ rfl (w.heap.size + 1) (RepV.cs ⟨0, 0, 0, 0, 0, 0, false, 0, q, n, qc⟩) rfl rfl _ _ (HB1.out.scUnbox.blk 0 rfl) (by kernel_rfl) rfl (all_oneCell_toArray (RepV.one ⟨0, 0, 0, 0, 0, 0, false, 0, q, n, qc⟩)) ?_
  have H3 := Lib.hid (HB1.out.scRep ⟨0, 0, 0, 0, 0, 0, false, 0, q, n, qc⟩)
  refine wpList_nil ?_
  go_wp2_with fail
  refine bodyPost_ret (results_rep rfl rfl (H3.out.blk 0 rfl)) rfl ?_
  exact ⟨q, qc, ⟨wb, wp, aa, c⟩, by rw [HNN.out], H3.out.rest⟩
end Go.Proofs.YtkiikblpgppmkaaGreatDoor
