/-
  The document's world: Delete; Worlds made of numbers, plainly: what each number does; what is so of them; The laws on who comes ahead of whom: what they have in common.
-/
import Derived.Test.YtkiikblpgppmkaaGreatDoorTlM30
import Derived.Deep.CutBlock
import Derived.Test.YtkiikblpgppmkaaGreatDoorTlM29
import Derived.Test.YtkiikblpgppmkaaGreatDoorTlM04
import Derived.Test.YtkiikblpgppmkaaGreatDoorTlM02
namespace Go.Proofs.YtkiikblpgppmkaaGreatDoor
open Go Go.RowKit
set_option linter.unusedVariables false
set_option linter.unusedSimpArgs false

/-- So far: the components ahead of j have one row, one event more at most. -/
structure M5Le (ds : List DescV) (xs : List (DescV × Nat)) (N j : Nat) : Prop where
  ds : xs.map Prod.fst = ds
  le : ∀ (i : Nat) (e : DescV × Nat), xs[i]? = some e → e.2 ≤ N + 1
  lo : ∀ (i : Nat) (e : DescV × Nat), j ≤ i → xs[i]? = some e → e.2 ≤ N
theorem M5Le.start {ds : List DescV} {xs : List (DescV × Nat)} {N : Nat} (h : xs.map Prod.fst = ds) (h2 : ∀ e, e ∈ xs → e.2 ≤ N) : M5Le ds xs N 0 :=
  ⟨h, fun i e he => Nat.le_succ_of_le (h2 e (List.mem_of_getElem? he)), fun i e _ he => h2 e (List.mem_of_getElem? he)⟩
theorem M5Le.len {ds : List DescV} {xs : List (DescV × Nat)} {N j : Nat} (h : M5Le ds xs N j) : xs.length = ds.length := by rw [← h.ds, List.length_map]
theorem map_fst_set {xs : List (DescV × Nat)} {c n : Nat} {e : DescV × Nat} (he : xs[c]? = some e) : (xs.set c (e.1, n)).map Prod.fst = xs.map Prod.fst := by
  rw [List.map_set]
  apply List.ext_getElem?
  intro j
  by_cases h : c = j
  · subst h
    have hl := (List.getElem?_eq_some_iff.1 he).1
    rw [List.getElem?_set_self (by rw [List.length_map]; exact hl), List.getElem?_map, he]
    rfl
  · rw [List.getElem?_set_ne h]
theorem M5Le.step {ds : List DescV} {xs : List (DescV × Nat)} {N j : Nat} {e : DescV × Nat} (h : M5Le ds xs N j) (he : xs[j]? = some e) : M5Le ds (xs.set j (e.1, e.2 + 1)) N (j + 1) := by
  have hl := (List.getElem?_eq_some_iff.1 he).1
  have h0 := h.lo j e (Nat.le_refl _) he
  refine ⟨by rw [map_fst_set he]; exact h.ds, fun i e' he' => ?_, fun i e' hi he' => ?_⟩
  · by_cases e1 : j = i
    · subst e1
      rw [List.getElem?_set_self hl] at he'
      cases he'
      exact Nat.succ_le_succ h0
    · rw [List.getElem?_set_ne e1] at he'
      exact h.le i e' he'
  · rw [List.getElem?_set_ne (by omega)] at he'
    exact h.lo i e' (by omega) he'
theorem M5Le.all {ds : List DescV} {xs : List (DescV × Nat)} {N j : Nat} (h : M5Le ds xs N j) : ∀ e, e ∈ xs → e.2 ≤ N + 1 := fun e he => by
  obtain ⟨i, hi⟩ := List.mem_iff_getElem?.1 he
  exact h.le i e hi
def Loop5MD (w0 : World) (R : List Asr) (b hb : Nat) (i g : Int) (al : AlS) (ds : List DescV) (N m : Nat) (p : M5B) (gg : Nat) (v7 v8 : Value) (wr : World) : Prop :=
  ∃ (j n : Nat) (xs : List (DescV × Nat)), gg + j = m ∧ v8 = .int .i64 (j : Nat) ∧ v7 = .int .i64 (n : Nat) ∧ n ≤ j ∧ M5Le ds xs N j ∧ St w0 wr (blkA hb #[.int .i64 i, .int .i64 g] 45 :: (m5L b al xs p ++ R))
def Cut5MD (w0 : World) (R : List Asr) (b hb : Nat) (i g : Int) (al : AlS) (xs : List (DescV × Nat)) (p : M5B) (v9 v10 : Value) (wc : World) : Prop :=
  ∃ (ob : Nat) (t : Bool), v9 = .pointer (some ⟨ob, 0, none⟩) ∧ v10 = .bool t ∧ St w0 wc (blkA hb #[.int .i64 i, .int .i64 g] 45 :: (m5L b al xs p ++ R))
def Ret5MD (w0 : World) (R : List Asr) (b : Nat) (al : AlS) (ds : List DescV) (N : Nat) (p : M5B) (e : Ending) (w' : World) : Prop := ∃ v xs, e = .returned v ∧ M5Le ds xs N ds.length ∧ St w0 w' (m5L b al xs p ++ R)
set_option maxRecDepth 100000 in
set_option maxHeartbeats 4000000 in
theorem m5_delete {w0 w : World} {R : List Asr} {b N : Nat} {al : AlS} {ds : List DescV} {xs : List (DescV × Nat)} {p : M5B} (H : St w0 w (m5L b al xs p ++ R)) (hx : M5Le ds xs N 0) (hN : N ≤ 900) (hn : ds.length ≤ 64) (k : Nat) (hk : k < 64) (hs : al.st k (al.gen k : Nat) = 1) :
    Calls Tryz.prog 45 #[ptr b, hdV k (al.gen k : Nat)] w (Ret5MD w0 R b (al.took k (al.gen k : Nat)) ds N p) := by
  have HB := H.box0 #[.int .i64 (k : Nat), .int .i64 (al.gen k : Nat)] 45
  obtain ⟨hb, hhb⟩ : ∃ hb, w.heap.size = hb := ⟨_, rfl⟩
  obtain ⟨wa, hwa⟩ : ∃ wa, w.alloc (.cells #[.int .i64 (k : Nat), .int .i64 (al.gen k : Nat)] 45) = wa := ⟨_, rfl⟩
  rw [hwa, hhb] at HB
  have HM := Lib.hid (fun (w' : World) (h : Keep wa w' Nope) => a5A_may (St.rot1 (HB.keep h)).m5Al k (al.gen k : Nat))
  rw [hs] at HM
  rw [show liveE 1 = 0 from rfl] at HM
  have HD := Lib.hid (fun (w' : World) (R' : List Asr) (h : St w0 w' (a5A p.ab al :: R')) => a5A_delete h k hs)
  have HT := Lib.hid (fun (w' : World) (R' : List Asr) (ys : List (DescV × Nat)) (c x : Nat) (e : DescV × Nat) (h : St w0 w' (m5L b al ys p ++ R')) (h1 : p.bs[c]? = some x) (h2 : ys[c]? = some e) (h3 : e.2 ≤ 900) => m5_take h h1 h2 h3 k hk)
  have hlen := H.m5Len
  rw [hx.len] at hlen
  obtain ⟨i, hi⟩ : ∃ i : Int, (k : Int) = i := ⟨_, rfl⟩
  obtain ⟨g, hg⟩ : ∃ g : Int, ((al.gen k : Nat) : Int) = g := ⟨_, rfl⟩
  obtain ⟨al2, hal⟩ : ∃ a, al.took k (al.gen k : Nat) = a := ⟨_, rfl⟩
  rw [hal] at HD ⊢
  rw [hi, hg] at HM HD HB hwa
  rw [hi] at HT
  rw [hi, hg]
  obtain ⟨m, hm⟩ : ∃ m, ds.length = m := ⟨_, rfl⟩
  rw [hm] at hn hlen
  have HMm := Lib.hid hm
  have HX := Lib.hid hx
  have HLen := Lib.hid hlen
  have HBH := Lib.hid HB
  obtain ⟨h0, h1, _, _⟩ := (HBH.out.blk 0 rfl).two
  have c0 := (St.rot1 HBH.out).m5C.c0
  clear H HB hx hs hi hg hal hm hlen
  unfold ptr hdV at *
  go_enter Tryz.func45, Tryz.ntmps45
  go_upto_region 1 with fail
  try rw [hwa]
  try rw [hhb]
  clear hwa hhb
  refine wp_region_M (r := 5) (S := fun w' => w'.cell? ⟨b, 0, none⟩ = some (.pointer (some ⟨p.ab, 0, none⟩)) ∧ w'.cell? ⟨hb, 0, none⟩ = some (.int .i64 i) ∧ w'.cell? ⟨hb, 1, none⟩ = some (.int .i64 g)) (by kernel_rfl) ?_ (fun hHeld => ?_)
  · (try dsimp only); exact ⟨c0, h0, h1⟩
  refine tkP 0 ?_; refine tkP 1 ?_; refine tkP 2 ?_; refine tkH 3 ?_; refine tkH 4 ?_; refine tkF 5 ?_
  intro K hK
  go_simp
  go_wp2_with ((go_at_call 105; refine (HM.out _ (Keep.refl wa Nope).drew).mono ?_; rintro e w1 ⟨rfl, hk1⟩; have HB1 := Lib.hid (HBH.out.drew.keep hk1); clear hk1 HM))
  refine hK.out _ _ ?_
  clear hK K
  refine tkP 6 ?_
  refine wpAnyM_done (by kernel_rfl) ?_ _
  clear hHeld c0 h0 h1 HBH
  have c4 := (St.rot1 HB1.out).m5C.c4
  go_wp2_with fail
  clear c4
  go_loopg [7, 8] m (fun gg v7 v8 wr => Loop5MD w0 R b hb i g al ds N m p gg v7 v8 wr)
  case atStart => exact ⟨0, 0, xs, by omega, rfl, rfl, Nat.le_refl _, HX.out, HB1.out⟩
  case round =>
    obtain ⟨j, n, ys, hgj, rfl, rfl, hnj, hys, hst⟩ := hrel
    have HGJ := Lib.hid hgj
    have HYS := Lib.hid hys
    have HST := Lib.hid hst
    have HNJ := Lib.hid hnj
    have c1 := (St.rot1 hst).m5C.c1
    rw [hys.len, HMm.out] at c1
    obtain ⟨h0, h1, _, _⟩ := (hst.blk 0 rfl).two
    have hlen := hys.len
    rw [HMm.out] at hlen
    have HLY := Lib.hid hlen
    clear HB1 hys hlen
    by_cases hlt : j < m
    · obtain ⟨e, he⟩ : ∃ e, ys[j]? = some e := ⟨_, List.getElem?_eq_getElem (by rw [HLY.out]; exact hlt)⟩
      obtain ⟨x, hx⟩ : ∃ x, p.bs[j]? = some x := ⟨_, List.getElem?_eq_getElem (by rw [HLen.out]; exact hlt)⟩
      obtain ⟨gc, hga, hgc⟩ := (St.rot1 hst).m5Row hx
      rw [hga] at c1
      unfold ptr at hgc
      have HTk := Lib.hid (fun (w' : World) (R' : List Asr) (h : St w0 w' (m5L b al ys p ++ R')) => HT.out w' R' ys j x e h hx he (Nat.le_trans (HYS.out.lo j e (Nat.le_refl _) he) hN))
      have HST2 := Lib.hid (HYS.out.step he)
      obtain ⟨ys2, hys2⟩ : ∃ y, ys.set j (e.1, e.2 + 1) = y := ⟨_, rfl⟩
      rw [hys2] at HTk HST2
      have e0 : decide (m ≤ j) = false := decide_eq_false (by omega)
      have HLT := Lib.hid hlt
      have HCUR := Lib.hid hst.drew
      clear hgj hst hnj he hx hga hys2
      go_upto_region 12 with fail
      go_cut [9, 10] (fun v9 v10 wc => Cut5MD w0 R b hb i g al ys2 p v9 v10 wc)
      case first =>
        refine wp_region_M (r := 9) (S := fun w' => w'.cell? ⟨b, 1, none⟩ = some (.slice (some ⟨gc, 0, none⟩) m p.sc) ∧ w'.cell? ⟨gc, j, none⟩ = some (.pointer (some ⟨x, 0, none⟩)) ∧ w'.cell? ⟨hb, 0, none⟩ = some (.int .i64 i)) (by kernel_rfl) ?_ (fun hHeld => ?_)
        · (try dsimp only); first | exact ⟨c1, hgc, h0⟩ | exact ⟨((Keep.refl wr Nope).drew.alloc _).cell c1 (fun f => f), ((Keep.refl wr Nope).drew.alloc _).cell hgc (fun f => f), ((Keep.refl wr Nope).drew.alloc _).cell h0 (fun f => f)⟩
        refine tkP 0 ?_; refine tkP 1 ?_; refine tkP 2 ?_; refine tkP 4 ?_; refine tkP 7 ?_; refine tkH 8 ?_
        refine wpAnyM_ready (rs := [3, 13]) (by kernel_rfl) (by simp) ?_
        refine AllReadyM.cons (o := ?_) ?_ ?_ ?_
        rotate_left 1
        · simp only [List.getElem?_toArray, List.getElem?_cons_succ, List.getElem?_cons_zero]; exact rfl
        · intro K hK
          go_simp
          refine hK.out _ _ ?_ (fun hHeld => ?_)
          · (try dsimp only); first | exact ⟨c1, hgc, h0⟩ | exact ⟨((Keep.refl wr Nope).drew.alloc _).cell c1 (fun f => f), ((Keep.refl wr Nope).drew.alloc _).cell hgc (fun f => f), ((Keep.refl wr Nope).drew.alloc _).cell h0 (fun f => f)⟩
          clear hK K
          refine tkP 5 ?_; refine tkH 6 ?_
          refine wpAnyM_ready (rs := [9, 13]) (by kernel_rfl) (by simp) ?_
          refine AllReadyM.free (o := ?_) ?_ (by kernel_rfl) ?_ ?_
          rotate_left 1
          · simp only [List.getElem?_toArray, List.getElem?_cons_succ, List.getElem?_cons_zero]; exact rfl
          · intro K hK
            go_simp
            go_wp2_with ((first | (refine (HTk.out _ _ (St.rot1 HCUR.out)).mono ?_; rintro en w2 ⟨o0, o1, o2, t, rfl, h2⟩; have H2 := Lib.hid (St.unrot1 h2); clear h2) | (refine (HTk.out _ _ (St.rot2 (HST.out.box0 #[.int .i64 0, .int .i64 0, .int .i64 0] 34).drew)).mono ?_; rintro en w2 ⟨o0, o1, o2, t, rfl, h2⟩; have H2 := Lib.hid (St.unrot2 h2); clear h2; obtain ⟨z0, z1, z2, y0, y1, y2⟩ := (H2.out.blk 0 rfl).three)))
            refine hK.out _ _ ?_
            clear hK K
            refine tkP 10 ?_; refine tkP 11 ?_; refine tkP 12 ?_; refine tkF 13 ?_
            intro K hK
            go_simp
            refine hK.out _ _ ?_
            clear hK K
            refine tkF 14 ?_
            intro K hK
            go_simp
            refine hK.out _ _ ?_
            clear hK K
            refine tkP 15 ?_
            refine wpAnyM_done (by kernel_rfl) ?_ _
            go_wp2_with fail
            go_meet
            case rel =>
              first
                | exact ⟨w2.heap.size, t, rfl, rfl, (H2.out.box0 #[.int .i64 o0, .int .i64 o1, .int .i64 o2] 34).rest⟩
                | exact ⟨wr.heap.size, t, rfl, rfl, (H2.out.write3 (.int .i64 o0) (.int .i64 o1) (.int .i64 o2)).rest⟩
          refine AllReadyM.cons (o := ?_) ?_ ?_ ?_
          rotate_left 1
          · simp only [List.getElem?_toArray, List.getElem?_cons_succ, List.getElem?_cons_zero]; exact rfl
          · intro K hK
            go_simp
            refine hK.out _ _ ?_ (fun hHeld => ?_)
            · (try dsimp only); first | exact ⟨c1, hgc, h0⟩ | exact ⟨((Keep.refl wr Nope).drew.alloc _).cell c1 (fun f => f), ((Keep.refl wr Nope).drew.alloc _).cell hgc (fun f => f), ((Keep.refl wr Nope).drew.alloc _).cell h0 (fun f => f)⟩
            clear hK K
            refine tkF 9 ?_
            intro K hK
            go_simp
            go_wp2_with ((first | (refine (HTk.out _ _ (St.rot1 HCUR.out)).mono ?_; rintro en w2 ⟨o0, o1, o2, t, rfl, h2⟩; have H2 := Lib.hid (St.unrot1 h2); clear h2) | (refine (HTk.out _ _ (St.rot2 (HST.out.box0 #[.int .i64 0, .int .i64 0, .int .i64 0] 34).drew)).mono ?_; rintro en w2 ⟨o0, o1, o2, t, rfl, h2⟩; have H2 := Lib.hid (St.unrot2 h2); clear h2; obtain ⟨z0, z1, z2, y0, y1, y2⟩ := (H2.out.blk 0 rfl).three)))
            refine hK.out _ _ ?_
            clear hK K
            refine tkP 10 ?_; refine tkP 11 ?_; refine tkP 12 ?_; refine tkF 14 ?_
            intro K hK
            go_simp
            refine hK.out _ _ ?_
            clear hK K
            refine tkP 15 ?_
            refine wpAnyM_done (by kernel_rfl) ?_ _
            go_wp2_with fail
            go_meet
            case rel =>
              first
                | exact ⟨w2.heap.size, t, rfl, rfl, (H2.out.box0 #[.int .i64 o0, .int .i64 o1, .int .i64 o2] 34).rest⟩
                | exact ⟨wr.heap.size, t, rfl, rfl, (H2.out.write3 (.int .i64 o0) (.int .i64 o1) (.int .i64 o2)).rest⟩
          exact AllReadyM.nil
        refine AllReadyM.cons (o := ?_) ?_ ?_ ?_
        rotate_left 1
        · simp only [List.getElem?_toArray, List.getElem?_cons_succ, List.getElem?_cons_zero]; exact rfl
        · intro K hK
          go_simp
          refine hK.out _ _ ?_ (fun hHeld => ?_)
          · (try dsimp only); first | exact ⟨c1, hgc, h0⟩ | exact ⟨((Keep.refl wr Nope).drew.alloc _).cell c1 (fun f => f), ((Keep.refl wr Nope).drew.alloc _).cell hgc (fun f => f), ((Keep.refl wr Nope).drew.alloc _).cell h0 (fun f => f)⟩
          clear hK K
          refine tkC 3 ?_
          intro K hK
          go_simp
          refine hK.out _ _ ?_ (fun hHeld => ?_)
          · (try dsimp only); first | exact ⟨c1, hgc, h0⟩ | exact ⟨((Keep.refl wr Nope).drew.alloc _).cell c1 (fun f => f), ((Keep.refl wr Nope).drew.alloc _).cell hgc (fun f => f), ((Keep.refl wr Nope).drew.alloc _).cell h0 (fun f => f)⟩
          clear hK K
          refine tkP 5 ?_; refine tkH 6 ?_; refine tkF 9 ?_
          intro K hK
          go_simp
          go_wp2_with ((first | (refine (HTk.out _ _ (St.rot1 HCUR.out)).mono ?_; rintro en w2 ⟨o0, o1, o2, t, rfl, h2⟩; have H2 := Lib.hid (St.unrot1 h2); clear h2) | (refine (HTk.out _ _ (St.rot2 (HST.out.box0 #[.int .i64 0, .int .i64 0, .int .i64 0] 34).drew)).mono ?_; rintro en w2 ⟨o0, o1, o2, t, rfl, h2⟩; have H2 := Lib.hid (St.unrot2 h2); clear h2; obtain ⟨z0, z1, z2, y0, y1, y2⟩ := (H2.out.blk 0 rfl).three)))
          refine hK.out _ _ ?_
          clear hK K
          refine tkP 10 ?_; refine tkP 11 ?_; refine tkP 12 ?_; refine tkF 14 ?_
          intro K hK
          go_simp
          refine hK.out _ _ ?_
          clear hK K
          refine tkP 15 ?_
          refine wpAnyM_done (by kernel_rfl) ?_ _
          go_wp2_with fail
          go_meet
          case rel =>
            first
              | exact ⟨w2.heap.size, t, rfl, rfl, (H2.out.box0 #[.int .i64 o0, .int .i64 o1, .int .i64 o2] 34).rest⟩
              | exact ⟨wr.heap.size, t, rfl, rfl, (H2.out.write3 (.int .i64 o0) (.int .i64 o1) (.int .i64 o2)).rest⟩
        exact AllReadyM.nil
      case rest =>
        obtain ⟨ob, t, rfl, rfl, h2⟩ := hcut
        have H2 := Lib.hid h2
        clear h2 c1 hgc h0 h1 HST HCUR HTk
        have hn2 : n ≤ 64 := by have := HNJ.out; omega
        cases t <;> (
          go_wp2_with fail
          go_roundg (m - (j + 1))
          case measure => have := HGJ.out; have := HLT.out; omega
          case rel => first | exact ⟨j + 1, n, ys2, by have := HGJ.out; have := HLT.out; omega, by go_num, rfl, by have := HNJ.out; omega, HST2.out, H2.out⟩ | exact ⟨j + 1, n + 1, ys2, by have := HGJ.out; have := HLT.out; omega, by go_num, by go_num, by have := HNJ.out; omega, HST2.out, H2.out⟩)
    · have hjm : j = m := by omega
      have HJM := Lib.hid hjm
      have c0 := (St.rot1 hst).m5C.c0
      clear hgj hst hnj
      go_upto_region 15 with fail
      refine wp_region_M (r := 6) (S := fun w' => w'.cell? ⟨b, 0, none⟩ = some (.pointer (some ⟨p.ab, 0, none⟩)) ∧ w'.cell? ⟨hb, 0, none⟩ = some (.int .i64 i) ∧ w'.cell? ⟨hb, 1, none⟩ = some (.int .i64 g)) (by kernel_rfl) ?_ (fun hHeld => ?_)
      · (try dsimp only); exact ⟨c0, h0, h1⟩
      refine tkP 0 ?_; refine tkP 1 ?_; refine tkP 2 ?_; refine tkP 3 ?_; refine tkH 4 ?_; refine tkH 5 ?_; refine tkF 6 ?_
      intro K hK
      go_simp
      go_wp2_with ((go_at_call 107; refine (HD.out _ _ (St.rot1 HST.out.drew).m5Al).mono ?_; rintro e w3 ⟨rfl, h3⟩; have HF := Lib.hid (St.unrot1 (St.m5Al' h3)); clear h3))
      refine hK.out _ _ ?_
      clear hK K
      refine tkP 7 ?_; refine tkP 8 ?_
      refine wpAnyM_done (by kernel_rfl) ?_ _
      clear hHeld
      go_wp2_with fail
      go_ret2
      exact ⟨_, ys, rfl, by rw [HMm.out, ← HJM.out]; exact HYS.out, HF.out.rest⟩
set_option maxRecDepth 100000 in
set_option maxHeartbeats 1000000 in
theorem m5_delete_gone {w0 w : World} {R : List Asr} {b : Nat} {al : AlS} {xs : List (DescV × Nat)} {p : M5B} (H : St w0 w (m5L b al xs p ++ R)) (i g : Int) (hs : al.st i g = 0) :
    Calls Tryz.prog 45 #[ptr b, hdV i g] w (Ret w (.tuple #[.int .i64 0, .int .i64 4])) := by
  have hk1 := (Keep.refl w Nope).alloc (.cells #[.int .i64 i, .int .i64 g] 45)
  have HM := Lib.hid (fun (w' : World) (hk : Keep w w' Nope) => a5A_may (H.keep hk).m5Al i g)
  rw [hs] at HM
  rw [show liveE 0 = 4 from rfl] at HM
  obtain ⟨x0, x1, _, _⟩ := (Blk.new w #[.int .i64 i, .int .i64 g] 45).two
  have c0 := (H.keep hk1).m5C.c0
  clear H hs hk1
  unfold ptr hdV at *
  go_enter Tryz.func45, Tryz.ntmps45
  go_upto_region 1 with fail
  refine wp_region_M (r := 5) (S := fun w' => w'.cell? ⟨b, 0, none⟩ = some (.pointer (some ⟨p.ab, 0, none⟩)) ∧ w'.cell? ⟨w.heap.size, 0, none⟩ = some (.int .i64 i) ∧ w'.cell? ⟨w.heap.size, 1, none⟩ = some (.int .i64 g)) (by kernel_rfl) ?_ (fun hHeld => ?_)
  · (try dsimp only); exact ⟨c0, x0, x1⟩
  refine tkP 0 ?_; refine tkP 1 ?_; refine tkP 2 ?_; refine tkH 3 ?_; refine tkH 4 ?_; refine tkF 5 ?_
  intro K hK
  go_simp
  go_wp2_with ((go_at_call 105; refine (HM.out _ (show Keep w _ Nope from (by (repeat (first | exact Keep.refl _ _ | apply Keep.drew | apply Keep.drewN | apply Keep.alloc))))).mono ?_; rintro e w1 ⟨rfl, hk1⟩; have HK1 := Lib.hid ((show Keep w _ Nope from (by (repeat (first | exact Keep.refl _ _ | apply Keep.drew | apply Keep.drewN | apply Keep.alloc)))).trans hk1 (fun _ f => f.elim)); clear hk1))
  refine hK.out _ _ ?_
  clear hK K
  refine tkP 6 ?_
  refine wpAnyM_done (by kernel_rfl) ?_ _
  clear hHeld c0 x0 x1
  go_wp2_with fail
  go_ret2
  exact ⟨rfl, HK1.out⟩
/-- The whole of it, of a handle that is live or gone. -/
def Ret5A (w0 : World) (L : List Asr) (b : Nat) (al : AlS) (ds : List DescV) (N : Nat) (e : Ending) (w' : World) : Prop := ∃ v, e = .returned v ∧ St w0 w' (m5A b al ds N :: L)
theorem m5A_mono {w0 w : World} {L : List Asr} {b N M : Nat} {al : AlS} {ds : List DescV} (h : St w0 w (m5A b al ds N :: L)) (hNM : N ≤ M) : St w0 w (m5A b al ds M :: L) := by
  obtain ⟨xs, p, h1, h2, h3⟩ := h.m5Open
  exact St.m5Shut h1 (fun e he => Nat.le_trans (h2 e he) hNM) h3
theorem m5A_delete {w0 w : World} {L : List Asr} {b N : Nat} {al : AlS} {ds : List DescV} (H : St w0 w (m5A b al ds N :: L)) (hN : N ≤ 900) (hn : ds.length ≤ 64) (k : Nat) (hk : k < 64) (hs : al.st k (al.gen k : Nat) = 1) :
    Calls Tryz.prog 45 #[ptr b, hdV k (al.gen k : Nat)] w (Ret5A w0 L b (al.took k (al.gen k : Nat)) ds (N + 1)) := by
  obtain ⟨xs, p, h1, h2, h3⟩ := H.m5Open
  refine (m5_delete h3 (M5Le.start h1 h2) hN hn k hk hs).mono ?_
  rintro e w' ⟨v, ys, rfl, h4, h5⟩
  exact ⟨v, rfl, St.m5Shut h4.ds h4.all h5⟩
theorem m5A_delete_gone {w0 w : World} {L : List Asr} {b N : Nat} {al : AlS} {ds : List DescV} (H : St w0 w (m5A b al ds N :: L)) (i g : Int) (hs : al.st i g = 0) :
    Calls Tryz.prog 45 #[ptr b, hdV i g] w (Ret5A w0 L b al ds (N + 1)) := by
  obtain ⟨xs, p, h1, h2, h3⟩ := H.m5Open
  refine (m5_delete_gone h3 i g hs).mono ?_
  rintro e w' ⟨rfl, hk⟩
  exact ⟨_, rfl, m5A_mono (H.keep hk) (Nat.le_succ _)⟩
theorem m5A_insert {w0 w : World} {L : List Asr} {b N c : Nat} {al : AlS} {ds : List DescV} {d : DescV} (H : St w0 w (m5A b al ds N :: L)) (hN : N ≤ 900) (hn : ds.length ≤ 64) (hd : ds[c]? = some d) (k : Nat) (hk : k < 64) (g : Int) (hs : al.st k g = 1) (v : VV) (hv : okV v.k v.a v.b = true) (hkd : v.k = d.kd) :
    Calls Tryz.prog 46 #[ptr b, hdV k g, .int .i64 (c : Nat), v.val] w (Ret5A w0 L b al ds (N + 1)) := by
  obtain ⟨xs, p, h1, h2, h3⟩ := H.m5Open
  have hl : xs.length = ds.length := by rw [← h1, List.length_map]
  have hc := (List.getElem?_eq_some_iff.1 hd).1
  obtain ⟨e, he⟩ : ∃ e, xs[c]? = some e := ⟨_, List.getElem?_eq_getElem (by omega)⟩
  have hed : e.1 = d := by
    rw [← h1, List.getElem?_map, he] at hd
    exact Option.some.inj hd
  have he2 := h2 e (List.mem_of_getElem? he)
  refine (m5_insert h3 he (by omega) (by omega) k hk g hs v hv (by rw [hed]; exact hkd)).mono ?_
  rintro en w' ⟨u, rfl, h4⟩
  refine ⟨u, rfl, St.m5Shut (by rw [map_fst_set he]; exact h1) (fun e' he' => ?_) h4⟩
  obtain ⟨i, hi⟩ := List.mem_iff_getElem?.1 he'
  by_cases e1 : c = i
  · subst e1
    rw [List.getElem?_set_self (by omega)] at hi
    cases hi
    exact Nat.succ_le_succ he2
  · rw [List.getElem?_set_ne e1] at hi
    exact Nat.le_succ_of_le (h2 e' (List.mem_of_getElem? hi))
theorem m5A_insert_gone {w0 w : World} {L : List Asr} {b N : Nat} {al : AlS} {ds : List DescV} (H : St w0 w (m5A b al ds N :: L)) (i g c : Int) (hs : al.st i g = 0) (v : VV) :
    Calls Tryz.prog 46 #[ptr b, hdV i g, .int .i64 c, v.val] w (Ret5A w0 L b al ds (N + 1)) := by
  obtain ⟨xs, p, h1, h2, h3⟩ := H.m5Open
  refine (m5_insert_gone h3 i g c hs v).mono ?_
  rintro e w' ⟨u, rfl, h4⟩
  exact ⟨u, rfl, St.m5Shut h1 (fun e he => Nat.le_succ_of_le (h2 e he)) h4⟩
end Go.Proofs.YtkiikblpgppmkaaGreatDoor

namespace Go.Proofs.YtkiikblpgppmkaaGreatDoor
open Go Go.RowKit
set_option linter.unusedVariables false
set_option linter.unusedSimpArgs false

theorem noted_le {fl : Option FlagV} {e : EvV} {F : FlagV} {n : Nat} (h : ∀ G, fl = some G → G.all.length ≤ n ∧ 1 ≤ G.bound ∧ G.bound ≤ 1000) (hF : notedF fl e = some F) : F.all.length ≤ n + 1 ∧ 1 ≤ F.bound ∧ F.bound ≤ 1000 := by
  cases fl with
  | none => cases hF
  | some G =>
    cases hF
    obtain ⟨h1, h2⟩ := h G rfl
    exact ⟨by show (G.all ++ [e]).length ≤ n + 1; rw [List.length_append]; exact Nat.succ_le_succ h1, h2⟩
theorem SlS.Ok.put {s : SlS} {n : Nat} (h : s.Ok n) {k : Nat} (hk : k < 64) (v : VV) : (s.put k v).Ok (n + 1) := ⟨h.var, h.kind, h.tag, addW_lt h.m hk, fun F hF => noted_le h.fl hF⟩
theorem SlS.Ok.take {s : SlS} {n : Nat} (h : s.Ok n) (k : Nat) : (s.take k).Ok (n + 1) := ⟨h.var, h.kind, h.tag, delW_lt _ _, fun F hF => by
  have hF2 : (if s.m.testBit k then notedF s.fl ⟨3, k⟩ else s.fl) = some F := hF
  split at hF2
  · exact noted_le h.fl hF2
  · obtain ⟨h1, h2⟩ := h.fl F hF2
    exact ⟨Nat.le_succ_of_le h1, h2⟩⟩
/-- The kinds of the components. -/
def EnS.kinds (e : EnS) : List Nat := e.sl.map SlS.kind
theorem EnS.kind_at {e : EnS} {c kd : Nat} (h : e.kinds[c]? = some kd) : ∃ s, e.sl[c]? = some s ∧ s.kind = kd := by
  unfold EnS.kinds at h
  rw [List.getElem?_map] at h
  cases hs : e.sl[c]? with
  | none => rw [hs] at h; cases h
  | some s =>
    rw [hs] at h
    cases h
    exact ⟨s, rfl, rfl⟩
theorem kinds_set {l : List SlS} {c : Nat} {s s' : SlS} (h : l[c]? = some s) (hk : s'.kind = s.kind) : (l.set c s').map SlS.kind = l.map SlS.kind := by
  apply List.ext_getElem?
  intro j
  rw [List.getElem?_map, List.getElem?_map]
  by_cases e : c = j
  · subst e
    rw [List.getElem?_set_self (List.getElem?_eq_some_iff.1 h).1, h]
    simp [hk]
  · rw [List.getElem?_set_ne e]
theorem mem_set_or {l : List SlS} {c : Nat} {s x : SlS} (h : x ∈ l.set c s) : x = s ∨ x ∈ l := by
  obtain ⟨j, hj⟩ := List.mem_iff_getElem?.1 h
  by_cases e : c = j
  · subst e
    have hl := (List.getElem?_eq_some_iff.1 hj).1
    rw [List.length_set] at hl
    rw [List.getElem?_set_self hl] at hj
    cases hj
    exact .inl rfl
  · rw [List.getElem?_set_ne e] at hj
    exact .inr (List.mem_of_getElem? hj)
theorem EnS.Ok.ins {e : EnS} {n : Nat} (h : e.Ok n) {k c : Nat} (hk : k < 64) (v : VV) : (e.ins k c v).Ok (n + 1) ∧ (e.ins k c v).kinds = e.kinds := by
  cases hs : e.sl[c]? with
  | none =>
    have e1 : e.ins k c v = e := by
      unfold EnS.ins
      rw [hs]
    rw [e1]
    exact ⟨h.le (Nat.le_succ _), rfl⟩
  | some s =>
    rw [EnS.ins_some hs]
    refine ⟨⟨h.al, fun x hx => ?_, by show (e.sl.set c _).length ≤ 64; rw [List.length_set]; exact h.len⟩, kinds_set hs rfl⟩
    rcases mem_set_or hx with rfl | hx
    · exact (h.sl s (List.mem_of_getElem? hs)).put hk v
    · exact (h.sl x hx).le (Nat.le_succ _)
theorem EnS.Ok.takes {e : EnS} {n : Nat} (h : e.Ok n) (k c : Nat) : (e.takes k c).Ok (n + 1) ∧ (e.takes k c).kinds = e.kinds := by
  cases hs : e.sl[c]? with
  | none =>
    have e1 : e.takes k c = e := by
      unfold EnS.takes
      rw [hs]
    rw [e1]
    exact ⟨h.le (Nat.le_succ _), rfl⟩
  | some s =>
    rw [EnS.takes_some hs]
    refine ⟨⟨h.al, fun x hx => ?_, by show (e.sl.set c _).length ≤ 64; rw [List.length_set]; exact h.len⟩, kinds_set hs rfl⟩
    rcases mem_set_or hx with rfl | hx
    · exact (h.sl s (List.mem_of_getElem? hs)).take k
    · exact (h.sl x hx).le (Nat.le_succ _)
theorem EnS.Ok.del {e : EnS} {n : Nat} (h : e.Ok n) {k : Nat} (hk : k < e.al.gens.length) : (e.del k).Ok (n + 1) ∧ (e.del k).kinds = e.kinds := by
  refine ⟨⟨h.al.took hk rfl, fun x hx => ?_, by show (e.sl.map _).length ≤ 64; rw [List.length_map]; exact h.len⟩, ?_⟩
  · obtain ⟨s, hs, rfl⟩ := List.mem_map.1 hx
    exact (h.sl s hs).take k
  · unfold EnS.kinds EnS.del
    rw [List.map_map]
    rfl
theorem EnS.Ok.withA {e : EnS} {n : Nat} (h : e.Ok n) {a : AlS} (ha : a.Ok) : (e.withA a).Ok n := ⟨ha, h.sl, h.len⟩
/-- A world, and the handles told. -/
structure WlS where
  en : EnS
  hs : List HdV
def WlS.pick (X : WlS) (q : Nat) : HdV := X.hs.getD (q % X.hs.length) ⟨0, 0⟩
def WlS.made (X : WlS) : WlS := if firstW X.en.al.free 0 = -1 then X else ⟨X.en.withA (X.en.al.made (firstW X.en.al.free 0).toNat), X.hs ++ [⟨((firstW X.en.al.free 0).toNat : Nat), (X.en.al.gen (firstW X.en.al.free 0).toNat + 1 : Nat)⟩]⟩
def WlS.rose (X : WlS) : WlS := if firstW X.en.al.free 0 = -1 then X else ⟨X.en.withA (X.en.al.rose (firstW X.en.al.free 0).toNat), X.hs⟩
def WlS.gone (X : WlS) (h : HdV) : WlS := if X.en.al.st h.i h.g = 1 then ⟨X.en.del h.i.toNat, X.hs⟩ else X
def WlS.put (X : WlS) (h : HdV) (c : Nat) (v : VV) : WlS := if X.en.al.st h.i h.g = 1 then ⟨X.en.ins h.i.toNat c v, X.hs⟩ else X
/-- What a number does. -/
def wlStep (ks : List Nat) (X : WlS) (y : Nat) : WlS :=
  if y % 8 < 3 ∨ X.hs.length = 0 then X.made
  else if y % 8 = 3 then X.rose
  else if y % 8 = 4 ∧ y / 8 % 2 = 0 then X.gone (X.pick (y / 16))
  else if ks.length = 0 then X
  else X.put (X.pick (y / 16 % 256)) (y / 4096 % ks.length) (lawV (ks.getD (y / 4096 % ks.length) 0) (((y / 32 % 16 : Nat) : Int) - 7) ((y / 512 % 8 : Nat) : Int))
def and28 (x : Int) : Nat := (x % 268435456).toNat
def wlRun (ks : List Nat) (X : WlS) (l : List Int) : WlS := l.foldl (fun X x => wlStep ks X (and28 x)) X
/-- A handle that was told: of a thing, or of one that is gone. -/
def HdOk (a : AlS) (h : HdV) : Prop := ∃ k g : Nat, h.i = k ∧ h.g = g ∧ k < a.gens.length ∧ g ≤ a.gen k ∧ (g = a.gen k → a.raised.testBit k = false)
theorem HdOk.st {a : AlS} {h : HdV} (hh : HdOk a h) : a.st h.i h.g = 0 ∨ a.st h.i h.g = 1 := by
  obtain ⟨k, g, h1, h2, h3, h4, h5⟩ := hh
  rw [h1, h2]
  unfold AlS.st
  rw [Int.toNat_natCast]
  split
  · rename_i e
    rw [h5 (by omega)]
    split
    · exact .inr rfl
    · exact .inl rfl
  · exact .inl rfl
structure WlI (ks : List Nat) (X : WlS) (i : Nat) : Prop where
  rel : ∃ L, A5Rel X.en.al L
  ret : X.en.al.ret ≤ i
  ok : X.en.Ok i
  kinds : X.en.kinds = ks
  hs : ∀ h, h ∈ X.hs → HdOk X.en.al h
  len : X.hs.length ≤ i
theorem WlI.up {ks : List Nat} {X : WlS} {i j : Nat} (h : WlI ks X i) (hj : i ≤ j) : WlI ks X j := ⟨h.rel, Nat.le_trans h.ret hj, h.ok.le hj, h.kinds, h.hs, Nat.le_trans h.len hj⟩
theorem HdOk.made {a : AlS} {h : HdV} (hh : HdOk a h) {k : Nat} (hk : k < a.gens.length) : HdOk (a.made k) h := by
  obtain ⟨j, g, h1, h2, h3, h4, h5⟩ := hh
  have hg : (a.made k).gen j = if j = k then a.gen k + 1 else a.gen j := gave_gen a hk j
  refine ⟨j, g, h1, h2, by simpa [AlS.made, AlS.gave] using h3, ?_, ?_⟩
  · rw [hg]
    split
    · rename_i e
      rw [e] at h4
      omega
    · exact h4
  · rw [hg]
    split
    · rename_i e
      rw [e] at h4
      intro e2
      omega
    · exact h5
theorem HdOk.rose {a : AlS} {h : HdV} (hh : HdOk a h) {k : Nat} (hk : k < a.gens.length) : HdOk (a.rose k) h := by
  obtain ⟨j, g, h1, h2, h3, h4, h5⟩ := hh
  have hg : (a.rose k).gen j = if j = k then a.gen k + 1 else a.gen j := gave_gen a hk j
  refine ⟨j, g, h1, h2, by simpa [AlS.rose, AlS.gave] using h3, ?_, ?_⟩
  · rw [hg]
    split
    · rename_i e
      rw [e] at h4
      omega
    · exact h4
  · rw [hg]
    split
    · rename_i e
      rw [e] at h4
      intro e2
      omega
    · rename_i e
      intro e2
      show (addW a.raised k).testBit j = false
      rw [bit_add_ne e]
      exact h5 e2
theorem took_gens (a : AlS) (k : Nat) (g : Int) : (a.took k g).gens = a.gens ∧ (a.took k g).raised = a.raised ∧ (a.took k g).ret ≤ a.ret + 1 := by
  unfold AlS.took
  split
  · exact ⟨rfl, rfl, Nat.le_refl _⟩
  · exact ⟨rfl, rfl, Nat.le_succ _⟩
theorem HdOk.took {a : AlS} {h : HdV} (hh : HdOk a h) (k : Nat) (g : Int) : HdOk (a.took k g) h := by
  obtain ⟨j, n, h1, h2, h3, h4, h5⟩ := hh
  obtain ⟨e1, e2, _⟩ := took_gens a k g
  have e3 : (a.took k g).gen j = a.gen j := by unfold AlS.gen; rw [e1]
  exact ⟨j, n, h1, h2, by rw [e1]; exact h3, by rw [e3]; exact h4, by rw [e3, e2]; exact h5⟩
theorem firstW_cases' (m : Nat) : firstW m 0 = -1 ∨ ∃ k : Nat, firstW m 0 = (k : Int) := by
  rcases firstW_casesB m 0 with h | ⟨k, h, _⟩
  · exact .inl h
  · exact .inr ⟨k, h⟩
theorem WlI.made {ks : List Nat} {X : WlS} {i : Nat} (h : WlI ks X i) : WlI ks X.made (i + 1) := by
  unfold WlS.made
  rcases firstW_cases' X.en.al.free with e | ⟨k, e⟩
  · rw [if_pos e]
    exact h.up (Nat.le_succ _)
  · rw [if_neg (by omega), e, Int.toNat_natCast]
    obtain ⟨L, hr⟩ := h.rel
    have hf := firstW_free e
    have hkl := hr.ok.free k hf
    have hg : (X.en.al.made k).gen k = X.en.al.gen k + 1 := by
      have := gave_gen X.en.al hkl k
      rw [if_pos rfl] at this
      exact this
    refine ⟨⟨_, (hr.made e).1⟩, Nat.le_succ_of_le h.ret, (h.ok.withA (hr.ok.made hf)).le (Nat.le_succ _), h.kinds, fun x hx => ?_, by show (X.hs ++ [_]).length ≤ i + 1; rw [List.length_append]; exact Nat.succ_le_succ h.len⟩
    rcases List.mem_append.1 hx with hx | hx
    · exact (h.hs x hx).made hkl
    · rw [List.mem_singleton.1 hx]
      exact ⟨k, X.en.al.gen k + 1, rfl, rfl, by simpa [AlS.made, AlS.gave, EnS.withA] using hkl, by show _ ≤ (X.en.al.made k).gen k; rw [hg]; exact Nat.le_refl _, fun _ => hr.fd k hf⟩
theorem WlI.rose {ks : List Nat} {X : WlS} {i : Nat} (h : WlI ks X i) : WlI ks X.rose (i + 1) := by
  unfold WlS.rose
  rcases firstW_cases' X.en.al.free with e | ⟨k, e⟩
  · rw [if_pos e]
    exact h.up (Nat.le_succ _)
  · rw [if_neg (by omega), e, Int.toNat_natCast]
    obtain ⟨L, hr⟩ := h.rel
    have hf := firstW_free e
    have hkl := hr.ok.free k hf
    exact ⟨⟨_, (hr.rose e).1⟩, Nat.le_succ_of_le h.ret, (h.ok.withA (hr.ok.rose hf)).le (Nat.le_succ _), h.kinds, fun x hx => (h.hs x hx).rose hkl, Nat.le_succ_of_le h.len⟩
theorem WlI.gone {ks : List Nat} {X : WlS} {i : Nat} (h : WlI ks X i) (x : HdV) : WlI ks (X.gone x) (i + 1) := by
  unfold WlS.gone
  split
  · rename_i hs
    obtain ⟨k, hk, hkl, hg, hlv⟩ := AlS.st_live hs
    rw [hk, Int.toNat_natCast]
    obtain ⟨L, hr⟩ := h.rel
    have hd := h.ok.del hkl
    have ht := took_gens X.en.al k (X.en.al.gen k : Nat)
    exact ⟨⟨L, (hr.took hlv).1⟩, Nat.le_trans ht.2.2 (Nat.succ_le_succ h.ret), hd.1, hd.2.trans h.kinds, fun y hy => (h.hs y hy).took k _, Nat.le_succ_of_le h.len⟩
  · exact h.up (Nat.le_succ _)
theorem WlI.put {ks : List Nat} {X : WlS} {i : Nat} (h : WlI ks X i) (x : HdV) (c : Nat) (v : VV) : WlI ks (X.put x c v) (i + 1) := by
  unfold WlS.put
  split
  · rename_i hs
    obtain ⟨k, hk, hkl, hg, hlv⟩ := AlS.st_live hs
    have h64 := h.ok.al.len
    rw [hk, Int.toNat_natCast]
    have hd := h.ok.ins (k := k) (c := c) (by omega) v
    exact ⟨h.rel, Nat.le_succ_of_le h.ret, hd.1, hd.2.trans h.kinds, h.hs, Nat.le_succ_of_le h.len⟩
  · exact h.up (Nat.le_succ _)
end Go.Proofs.YtkiikblpgppmkaaGreatDoor

namespace Go.Proofs.YtkiikblpgppmkaaGreatDoor
open Go Go.RowKit
set_option linter.unusedVariables false
set_option linter.unusedSimpArgs false

end Go.Proofs.YtkiikblpgppmkaaGreatDoor
