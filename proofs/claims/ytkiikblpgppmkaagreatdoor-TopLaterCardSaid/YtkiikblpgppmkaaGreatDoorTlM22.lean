/-
  The package world: New; The package slot: Set, Flag; The package ent: Get, Set, Remove of what is live; The package ent: Remove.
-/
import Derived.Test.YtkiikblpgppmkaaGreatDoorTlM21
import Derived.Test.YtkiikblpgppmkaaGreatDoorTlM18
import Derived.Test.YtkiikblpgppmkaaGreatDoorTlM19
namespace Go.Proofs.YtkiikblpgppmkaaGreatDoor
open Go Go.RowKit
set_option linter.unusedVariables false
set_option linter.unusedSimpArgs false

theorem ReadIn.cons {w0 : World} {L : List Asr} {A : Asr} {v : Value} {n : Nat} {xs : List Value} (h : ReadIn w0 L v n xs) : ReadIn w0 (A :: L) v n xs :=
  fun w' M H => h w' (M ++ [A]) (by rw [List.append_assoc]; exact H)
theorem ReadIn.none {w0 : World} {L : List Asr} : ReadIn w0 L (.slice none 0 0) 0 [] := fun w' M H => ⟨fun _ => False, Own.rd (Own.nil (fun _ => False) w' 2 1)⟩
def newWo (n top : Nat) (ds : List DescV) (f : Nat → VV) (rs : List Int) : WoS := ⟨⟨newAl n top, ds.map (DescV.new f)⟩, rs.take 32, [], n, top⟩
/-- A claim that hangs on addresses, opened at the head. -/
theorem St.exTop {α : Type} {f : α → List Asr} {w0 w : World} {L : List Asr} (h : St w0 w ((exA fun p => starA (f p)) :: L)) : ∃ p, St w0 w (f p ++ L) := by
  obtain ⟨p, h⟩ := h.exSplit 0 rfl
  refine ⟨p, h.pick (fun i => if i < (f p).length then i else i + 1) (fun i j hi hj e => ?_) (fun i A hi => ?_)⟩
  · by_cases a1 : i < (f p).length <;> by_cases a2 : j < (f p).length <;> simp [a1, a2] at e <;> omega
  · by_cases a1 : i < (f p).length
    · simp only [a1, if_true]
      rw [List.getElem?_append_left a1] at hi ⊢
      exact hi
    · simp only [a1, if_false]
      rw [List.getElem?_append_right (by omega)] at hi
      rw [List.getElem?_append_right (by omega), show i + 1 - (f p).length = (i - (f p).length) + 1 by omega]
      exact hi
set_option maxRecDepth 100000 in
set_option maxHeartbeats 2000000 in
theorem wo_new {w0 w : World} {L : List Asr} (H : St w0 w L) (n top : Nat) (h1 : 1 ≤ n) (h2 : n ≤ 64) (h3 : 1 ≤ top) (h4 : top < 4294967296) (ds : List DescV) (hds : ∀ d, d ∈ ds → d.Ok) (hdl : ds.length ≤ 64) (v : Value) (hv : ReadIn w0 L v ds.length (flatDesc ds)) (f : Nat → VV) (rs : List Int) (vr : Value) (hr : ReadIn w0 L vr rs.length (i64s rs)) :
    Calls Tryz.prog 32 #[.agg #[.int .i64 (n : Nat), .int .i64 (top : Nat), v, vr]] w (fun e w' => ∃ b, e = .returned (.tuple #[ptr b, .int .i64 0]) ∧ St w0 w' (L ++ [woA b (newWo n top ds f rs)])) := by
  obtain ⟨S0, hr0⟩ := hv w [] H
  obtain ⟨va, vc, rfl, _, _, _, _⟩ := id hr0
  obtain ⟨S1, hr1⟩ := hr w [] H
  obtain ⟨ra, rc, rfl, _, _, _, _⟩ := id hr1
  have HB := Lib.hid (show St w0 (w.alloc (.cells #[.int .i64 (n : Nat), .int .i64 (top : Nat), .slice va ds.length vc, .slice ra rs.length rc] 27)) (blkA w.heap.size #[.int .i64 (n : Nat), .int .i64 (top : Nat), .slice va ds.length vc, .slice ra rs.length rc] 27 :: L) from H.box0 _ _)
  have HE := Lib.hid (ent_new HB.out n top h1 h2 h3 h4 ds hds hdl _ hv.cons f)
  have HR := Lib.hid hr
  obtain ⟨E, hE⟩ : ∃ E, E = (⟨newAl n top, ds.map (DescV.new f)⟩ : EnS) := ⟨_, rfl⟩
  rw [← hE] at HE
  have HEE := Lib.hid hE
  obtain ⟨dl, hdl'⟩ : ∃ dl, ds.length = dl := ⟨_, rfl⟩
  obtain ⟨rl, hrl⟩ : ∃ rl, rs.length = rl := ⟨_, rfl⟩
  rw [hdl'] at HB HE ⊢
  rw [hrl] at HB HE HR ⊢
  have HRL := Lib.hid hrl
  clear H hv hr hr0 hr1 hds hdl hE hdl' hrl h1 h2 h3 h4
  unfold ptr at *
  go_enter Tryz.func32, Tryz.ntmps32
  go_wp2_with (go_at_call 72; refine HE.out.mono ?_; rintro e w1 ⟨eb, rfl, h1⟩; have H1 := Lib.hid h1.first; clear h1 HE HB)
  have HCUR := Lib.hid H1.out.drew
  obtain ⟨cb, hcb⟩ : ∃ cb, w.heap.size = cb := ⟨_, rfl⟩
  rw [hcb] at HCUR ⊢
  clear H1 hcb
  have hb1 := HCUR.out.blk 1 rfl
  have c0 : w1.drew.cell? ⟨cb, 0, none⟩ = some (.int .i64 (n : Nat)) := by rw [hb1.cell]; rfl
  have c1 : w1.drew.cell? ⟨cb, 1, none⟩ = some (.int .i64 (top : Nat)) := by rw [hb1.cell]; rfl
  have c3 : w1.drew.cell? ⟨cb, 3, none⟩ = some (.slice ra rl rc) := by rw [hb1.cell]; rfl
  clear hb1
  refine wp_region_M (r := 14) (S := fun w' => w'.cell? ⟨cb, 0, none⟩ = some (.int .i64 (n : Nat)) ∧ w'.cell? ⟨cb, 1, none⟩ = some (.int .i64 (top : Nat)) ∧ w'.cell? ⟨cb, 3, none⟩ = some (.slice ra rl rc)) (by kernel_rfl) ?_ (fun hHeld => ?_)
  · (try dsimp only); (first | exact ⟨c0, c1, c3⟩ | (have hb2 := HCUR.out.blk 2 rfl; exact ⟨by rw [hb2.cell]; rfl, by rw [hb2.cell]; rfl, by rw [hb2.cell]; rfl⟩) | (have hb2 := HCUR.out.blk 3 rfl; exact ⟨by rw [hb2.cell]; rfl, by rw [hb2.cell]; rfl, by rw [hb2.cell]; rfl⟩) | (have hb2 := HCUR.out.blk 3 rfl; refine ⟨?_, ?_, ?_⟩ <;> exact ((Keep.refl _ Nope).alloc _).cell (by rw [hb2.cell]; rfl) (fun f => f)))
  refine tkP 0 ?_; refine tkP 1 ?_; refine tkP 2 ?_; refine tkH 3 ?_; refine tkP 8 ?_; refine tkH 9 ?_; refine tkP 10 ?_; refine tkH 11 ?_; refine tkC 4 ?_
  intro K hK
  go_simp
  go_wp2_with ((go_at_call 73; obtain ⟨SR, hrd⟩ := HR.out _ [_, _] HCUR.out; refine (st_newres HCUR.out _ rs SR (by rw [HRL.out]; exact hrd)).mono ?_; rintro e w2 ⟨rb, rfl, h⟩; replace HCUR := Lib.hid h.first; clear h hrd))
  refine hK.out _ _ ?_ (fun hHeld => ?_)
  · (try dsimp only); (first | exact ⟨c0, c1, c3⟩ | (have hb2 := HCUR.out.blk 2 rfl; exact ⟨by rw [hb2.cell]; rfl, by rw [hb2.cell]; rfl, by rw [hb2.cell]; rfl⟩) | (have hb2 := HCUR.out.blk 3 rfl; exact ⟨by rw [hb2.cell]; rfl, by rw [hb2.cell]; rfl, by rw [hb2.cell]; rfl⟩) | (have hb2 := HCUR.out.blk 3 rfl; refine ⟨?_, ?_, ?_⟩ <;> exact ((Keep.refl _ Nope).alloc _).cell (by rw [hb2.cell]; rfl) (fun f => f)))
  clear hK K
  refine tkP 5 ?_; refine tkC 6 ?_
  intro K hK
  go_simp
  go_wp2_with ((go_at_call 74; refine (st_newq HCUR.out).mono ?_; rintro e w3 ⟨qb, rfl, h⟩; replace HCUR := Lib.hid h.first; clear h))
  refine hK.out _ _ ?_ (fun hHeld => ?_)
  · (try dsimp only); (first | exact ⟨c0, c1, c3⟩ | (have hb2 := HCUR.out.blk 2 rfl; exact ⟨by rw [hb2.cell]; rfl, by rw [hb2.cell]; rfl, by rw [hb2.cell]; rfl⟩) | (have hb2 := HCUR.out.blk 3 rfl; exact ⟨by rw [hb2.cell]; rfl, by rw [hb2.cell]; rfl, by rw [hb2.cell]; rfl⟩) | (have hb2 := HCUR.out.blk 3 rfl; refine ⟨?_, ?_, ?_⟩ <;> exact ((Keep.refl _ Nope).alloc _).cell (by rw [hb2.cell]; rfl) (fun f => f)))
  clear hK K
  refine tkP 7 ?_; refine tkP 12 ?_; refine tkC 13 ?_
  intro K hK
  go_simp
  refine hK.out _ _ ?_ (fun hHeld => ?_)
  · (try dsimp only); (first | exact ⟨c0, c1, c3⟩ | (have hb2 := HCUR.out.blk 2 rfl; exact ⟨by rw [hb2.cell]; rfl, by rw [hb2.cell]; rfl, by rw [hb2.cell]; rfl⟩) | (have hb2 := HCUR.out.blk 3 rfl; exact ⟨by rw [hb2.cell]; rfl, by rw [hb2.cell]; rfl, by rw [hb2.cell]; rfl⟩) | (have hb2 := HCUR.out.blk 3 rfl; refine ⟨?_, ?_, ?_⟩ <;> exact ((Keep.refl _ Nope).alloc _).cell (by rw [hb2.cell]; rfl) (fun f => f)))
  clear hK K
  refine tkF 14 ?_
  intro K hK
  go_simp
  refine hK.out _ _ ?_
  clear hK K
  refine tkP 15 ?_
  refine wpAnyM_done (by kernel_rfl) ?_ _
  have hbx := HCUR.out.box0 #[.pointer (some ⟨eb, 0, none⟩), .pointer (some ⟨rb, 0, none⟩), .pointer (some ⟨qb, 0, none⟩), .bool false, .int .i64 (n : Nat), .int .i64 (top : Nat)] 124
  obtain ⟨pe, hs⟩ := St.exTop (f := entL eb E) (L := resA rb (rs.take 32) :: qA qb [] :: blkA w3.heap.size #[.pointer (some ⟨eb, 0, none⟩), .pointer (some ⟨rb, 0, none⟩), .pointer (some ⟨qb, 0, none⟩), .bool false, .int .i64 (n : Nat), .int .i64 (top : Nat)] 124 :: L) (St.sel (P := [_, _, _, _, _]) (P' := [entA eb E, resA rb (rs.take 32), qA qb [], blkA w3.heap.size #[.pointer (some ⟨eb, 0, none⟩), .pointer (some ⟨rb, 0, none⟩), .pointer (some ⟨qb, 0, none⟩), .bool false, .int .i64 (n : Nat), .int .i64 (top : Nat)] 124]) (R := L) [3, 2, 1, 0] hbx (by decide) rfl rfl)
  have hs2 := St.ofMid (P := entL eb E pe ++ [resA rb (rs.take 32), qA qb []]) (R := L) (by rw [List.append_assoc]; exact hs)
  have HF := Lib.hid (St.pack (woL w3.heap.size ⟨E, rs.take 32, [], n, top⟩) ⟨eb, rb, qb, pe⟩ hs2)
  clear hHeld
  go_wp2_with fail
  go_ret2
  refine ⟨w3.heap.size, rfl, ?_⟩
  have h := HF.out
  rw [HEE.out] at h
  exact h
end Go.Proofs.YtkiikblpgppmkaaGreatDoor

namespace Go.Proofs.YtkiikblpgppmkaaGreatDoor
open Go Go.RowKit
set_option linter.unusedVariables false
set_option linter.unusedSimpArgs false

end Go.Proofs.YtkiikblpgppmkaaGreatDoor

namespace Go.Proofs.YtkiikblpgppmkaaGreatDoor
open Go Go.RowKit
set_option linter.unusedVariables false
set_option linter.unusedSimpArgs false

set_option maxRecDepth 100000 in
set_option maxHeartbeats 2000000 in
theorem ent_get {w0 w : World} {R : List Asr} {b : Nat} {e : EnS} {p : EnB} (H : St w0 w (entL b e p ++ R)) (he : e.Ok 90000) (k : Nat) (g : Int) (hs : e.al.st k g = 1) (c : Nat) (s : SlS) (hc : e.sl[c]? = some s) :
    Calls Tryz.prog 71 #[ptr b, hdV k g, .int .i64 (c : Nat)] w (Ret w (.tuple #[(hadV s.m s.f k).val, .int .i64 (if s.m.testBit k then 0 else 10)])) := by
  obtain ⟨k', ek, hkl, _, _⟩ := AlS.st_live hs
  obtain rfl : k' = k := by omega
  have hl64 := he.al.len
  have HB := Lib.hid (show St w0 ((w.alloc (.cells #[.int .i64 k', .int .i64 g] 45)).alloc (.cells #[.int .i64 0, .int .i64 0, .int .i64 0] 34)) (blkA (w.heap.size + 1) #[.int .i64 0, .int .i64 0, .int .i64 0] 34 :: blkA w.heap.size #[.int .i64 k', .int .i64 g] 45 :: (entL b e p ++ R)) from H.box2 _ _ _ _)
  have HK0 := Lib.hid (show Keep w ((w.alloc (.cells #[.int .i64 k', .int .i64 g] 45)).alloc (.cells #[.int .i64 0, .int .i64 0, .int .i64 0] 34)) Nope from ((Keep.refl w Nope).alloc _).alloc _)
  have HL := Lib.hid (ent_live b p.ab e.al k' g he.al _ HB.out.rest.rest.entC0 (HB.out.rest.rest.entAl he.al))
  rw [hs] at HL
  rw [show liveE 1 = 0 from rfl] at HL
  have HC := Lib.hid hc
  have hcl := (List.getElem?_eq_some_iff.1 hc).1
  have hlen := he.len
  have hbl : p.q.bs.length = e.sl.length := HB.out.rot2.entReg.regLen
  obtain ⟨x, hx⟩ : ∃ x, p.q.bs[c]? = some x := ⟨_, List.getElem?_eq_getElem (by omega)⟩
  have HX := Lib.hid hx
  have hso := he.sl s (List.mem_of_getElem? hc)
  have HSO := Lib.hid hso
  obtain ⟨⟨hk1, ha1, hb1⟩, hh⟩ : ∃ h, hadV s.m s.f k' = h := ⟨_, rfl⟩
  obtain ⟨t, ht⟩ : ∃ t, s.m.testBit k' = t := ⟨_, rfl⟩
  have HGet := Lib.hid (fun (pp : SlB) (w' : World) (L : List Asr) (h : St w0 w' (sloL x s pp ++ L)) => pl_get h 1 rfl hso.var hso.m k' (by omega))
  have hz : t = false → hk1 = 0 ∧ ha1 = 0 ∧ hb1 = 0 := fun h => by
    unfold hadV at hh
    rw [ht, h] at hh
    simp only [Bool.false_eq_true, if_false, zVV] at hh
    injection hh with h1 h2 h3
    exact ⟨h1.symm, h2.symm, h3.symm⟩
  have HZ := Lib.hid hz
  rw [hh, ht] at HGet
  rw [hh, ht]
  clear H he hs hc hx hh ht hbl ek hso hz
  unfold ptr hdV VV.val at *
  simp only at *
  go_enter Tryz.func71, Tryz.ntmps71
  go_upto_region 7 with (first
    | (go_at_call 111; refine HL.out.mono ?_; rintro en w1 ⟨rfl, hk1⟩; have HB1 := Lib.hid (HB.out.keep hk1); have HK1 := Lib.hid (HK0.out.trans hk1 (fun _ f => f.elim)); clear hk1 HL HB HK0; have c1 := HB1.out.rest.rest.entC1)
    | (go_at_call 49; refine (reg_slot HB1.out.rot2.entReg HX.out (by omega)).mono ?_; rintro en w2 ⟨rfl, hk2⟩; have HB2 := Lib.hid (HB1.out.keep hk2); have HK2 := Lib.hid (HK1.out.trans hk2 (fun _ f => f.elim)); clear hk2 HB1 HK1 c1))
  obtain ⟨pp, hp⟩ := (HB2.out.rot2.entReg).regOpen HX.out HC.out
  have HP := Lib.hid hp
  obtain ⟨hmm, hmc⟩ := pl_mget HSO.out.var pp.p
  obtain ⟨T, hT⟩ : ∃ T, plT s.var = T := ⟨_, rfl⟩
  obtain ⟨rv, hrv⟩ : ∃ r, plR s.var pp.p = r := ⟨_, rfl⟩
  obtain ⟨gn, hgn⟩ : ∃ f, plGet s.var = f := ⟨_, rfl⟩
  have c0 : w2.cell? ⟨x, 0, none⟩ = some (.iface T rv) := by rw [(hp.blk 0 rfl).cell, ← hT, ← hrv]; rfl
  have HG2 := Lib.hid (HGet.out pp)
  rw [hT, hrv, hgn] at hmm
  rw [hgn] at hmc
  rw [hrv, hgn] at HG2
  obtain ⟨x0, x1, _, _⟩ := (HB2.out.blk 1 rfl).two
  clear hp hT hrv hgn HGet
  go_cut [11, 12] (fun v11 v12 wc => ∃ wb : Nat, v11 = .pointer (some ⟨wb, 0, none⟩) ∧ v12 = .bool t ∧ Keep w wc Nope ∧ St w0 wc (blkA wb #[.int .i64 hk1, .int .i64 ha1, .int .i64 hb1] 34 :: blkA (w.heap.size + 1) #[.int .i64 0, .int .i64 0, .int .i64 0] 34 :: blkA w.heap.size #[.int .i64 k', .int .i64 g] 45 :: (entL b e p ++ R)))
  case first =>
    refine wp_region_M (r := 6) (S := fun w' => w'.cell? ⟨x, 0, none⟩ = some (.iface T rv) ∧ w'.cell? ⟨w.heap.size, 0, none⟩ = some (.int .i64 (k' : Nat)) ∧ w'.cell? ⟨w.heap.size, 1, none⟩ = some (.int .i64 g)) (by kernel_rfl) ?_ (fun hHeld => ?_)
    · (try dsimp only); first | exact ⟨c0, x0, x1⟩ | exact ⟨((Keep.refl w2 Nope).drew.alloc _).cell c0 (fun f => f), ((Keep.refl w2 Nope).drew.alloc _).cell x0 (fun f => f), ((Keep.refl w2 Nope).drew.alloc _).cell x1 (fun f => f)⟩
    refine tkP 0 ?_; refine tkP 1 ?_; refine tkP 2 ?_; refine tkH 3 ?_; refine tkP 4 ?_; refine tkH 5 ?_
    refine wpAnyM_ready (rs := [6, 10]) (by kernel_rfl) (by simp) ?_
    refine AllReadyM.free (o := ?_) ?_ (by kernel_rfl) ?_ ?_
    rotate_left 1
    · simp only [List.getElem?_toArray, List.getElem?_cons_succ, List.getElem?_cons_zero]; exact rfl
    · intro K hK
      go_simp
      go_wp2_with ((first | (refine (HG2.out _ _ HP.out.drew).mono ?_; rintro en w3 ⟨rfl, hk3⟩; have HB3 := Lib.hid (HB2.out.drew.keep hk3); have HK3 := Lib.hid (HK2.out.drew.trans hk3 (fun _ f => f.elim)); clear hk3) | (refine (HG2.out _ _ (HP.out.alloc (.cells #[.int .i64 0, .int .i64 0, .int .i64 0] 34)).drew).mono ?_; rintro en w3 ⟨rfl, hk3⟩; have HB3 := Lib.hid ((HB2.out.box0 #[.int .i64 0, .int .i64 0, .int .i64 0] 34).drew.keep hk3); have HK3 := Lib.hid ((HK2.out.alloc (.cells #[.int .i64 0, .int .i64 0, .int .i64 0] 34)).drew.trans hk3 (fun _ f => f.elim)); have hlt := HK2.out.size; obtain ⟨z0, z1, z2, y0, y1, y2⟩ := (HB3.out.blk 0 rfl).three; clear hk3)))
      refine hK.out _ _ ?_
      clear hK K
      refine tkP 7 ?_; refine tkP 8 ?_; refine tkP 9 ?_; refine tkF 10 ?_
      intro K hK
      go_simp
      refine hK.out _ _ ?_
      clear hK K
      refine tkF 11 ?_
      intro K hK
      go_simp
      refine hK.out _ _ ?_
      clear hK K
      refine tkP 12 ?_
      refine wpAnyM_done (by kernel_rfl) ?_ _
      go_wp2_with fail
      go_meet
      case rel =>
        first
          | exact ⟨w3.heap.size, rfl, rfl, HK3.out.alloc _, HB3.out.box0 _ _⟩
          | exact ⟨w2.heap.size, rfl, rfl, HK3.out.set3 (by omega) _ _ _, HB3.out.write3 _ _ _⟩
    refine AllReadyM.cons (o := ?_) ?_ ?_ ?_
    rotate_left 1
    · simp only [List.getElem?_toArray, List.getElem?_cons_succ, List.getElem?_cons_zero]; exact rfl
    · intro K hK
      go_simp
      refine hK.out _ _ ?_ (fun hHeld => ?_)
      · (try dsimp only); first | exact ⟨c0, x0, x1⟩ | exact ⟨((Keep.refl w2 Nope).drew.alloc _).cell c0 (fun f => f), ((Keep.refl w2 Nope).drew.alloc _).cell x0 (fun f => f), ((Keep.refl w2 Nope).drew.alloc _).cell x1 (fun f => f)⟩
      clear hK K
      refine tkF 6 ?_
      intro K hK
      go_simp
      go_wp2_with ((first | (refine (HG2.out _ _ HP.out.drew).mono ?_; rintro en w3 ⟨rfl, hk3⟩; have HB3 := Lib.hid (HB2.out.drew.keep hk3); have HK3 := Lib.hid (HK2.out.drew.trans hk3 (fun _ f => f.elim)); clear hk3) | (refine (HG2.out _ _ (HP.out.alloc (.cells #[.int .i64 0, .int .i64 0, .int .i64 0] 34)).drew).mono ?_; rintro en w3 ⟨rfl, hk3⟩; have HB3 := Lib.hid ((HB2.out.box0 #[.int .i64 0, .int .i64 0, .int .i64 0] 34).drew.keep hk3); have HK3 := Lib.hid ((HK2.out.alloc (.cells #[.int .i64 0, .int .i64 0, .int .i64 0] 34)).drew.trans hk3 (fun _ f => f.elim)); have hlt := HK2.out.size; obtain ⟨z0, z1, z2, y0, y1, y2⟩ := (HB3.out.blk 0 rfl).three; clear hk3)))
      refine hK.out _ _ ?_
      clear hK K
      refine tkP 7 ?_; refine tkP 8 ?_; refine tkP 9 ?_; refine tkF 11 ?_
      intro K hK
      go_simp
      refine hK.out _ _ ?_
      clear hK K
      refine tkP 12 ?_
      refine wpAnyM_done (by kernel_rfl) ?_ _
      go_wp2_with fail
      go_meet
      case rel =>
        first
          | exact ⟨w3.heap.size, rfl, rfl, HK3.out.alloc _, HB3.out.box0 _ _⟩
          | exact ⟨w2.heap.size, rfl, rfl, HK3.out.set3 (by omega) _ _ _, HB3.out.write3 _ _ _⟩
    exact AllReadyM.nil
  case rest =>
    obtain ⟨wb, rfl, rfl, hk4, h4⟩ := hcut
    obtain ⟨x0, x1, x2, _, _, _⟩ := (h4.blk 0 rfl).three
    obtain ⟨z0, z1, z2, y0, y1, y2⟩ := (h4.blk 1 rfl).three
    have H4 := Lib.hid h4
    have HK4 := Lib.hid hk4
    clear h4 hk4 c0 HB2 HP HG2 hmm hmc HK2
    have HF := Lib.hid (HK4.out.set3 (b := w.heap.size + 1) (Nat.le_succ _) (.int .i64 hk1) (.int .i64 ha1) (.int .i64 hb1))
    obtain ⟨q0, q1, q2, _, _, _⟩ := ((H4.out.blk 1 rfl).set3 (.int .i64 hk1) (.int .i64 ha1) (.int .i64 hb1)).three
    have HQ := Lib.hid (And.intro q0 (And.intro q1 q2))
    clear q0 q1 q2
    cases t
    · obtain ⟨rfl, rfl, rfl⟩ := HZ.out (by simp)
      go_wp2_with fail
      obtain ⟨q0, q1, q2⟩ := HQ.out
      clear z0 z1 z2
      refine bodyPost_ret (v := .tuple #[.agg #[.int .i64 0, .int .i64 0, .int .i64 0], .int .i64 10]) (by simp [results, Tryz.results71, go_sem, q0, q1, q2]) rfl ⟨rfl, HF.out⟩
    · go_wp2_with fail
      obtain ⟨q0, q1, q2⟩ := HQ.out
      clear z0 z1 z2
      refine bodyPost_ret (v := .tuple #[.agg #[.int .i64 hk1, .int .i64 ha1, .int .i64 hb1], .int .i64 0]) (by simp [results, Tryz.results71, go_sem, q0, q1, q2]) rfl ⟨rfl, HF.out⟩
end Go.Proofs.YtkiikblpgppmkaaGreatDoor

namespace Go.Proofs.YtkiikblpgppmkaaGreatDoor
open Go Go.RowKit
set_option linter.unusedVariables false
set_option linter.unusedSimpArgs false

/-- What a Remove leaves. -/
def EnS.takes (e : EnS) (k c : Nat) : EnS := ⟨e.al, match e.sl[c]? with
  | some s => e.sl.set c (s.take k)
  | none => e.sl⟩
theorem EnS.takes_some {e : EnS} {k c : Nat} {s : SlS} (h : e.sl[c]? = some s) : e.takes k c = ⟨e.al, e.sl.set c (s.take k)⟩ := by
  unfold EnS.takes
  rw [h]
set_option maxRecDepth 100000 in
set_option maxHeartbeats 2000000 in
theorem ent_remove {w0 w : World} {R : List Asr} {b : Nat} {e : EnS} {p : EnB} (H : St w0 w (entL b e p ++ R)) (he : e.Ok 90000) (k : Nat) (g : Int) (hs : e.al.st k g = 1) (c : Nat) (s : SlS) (hc : e.sl[c]? = some s) :
    Calls Tryz.prog 55 #[ptr b, hdV k g, .int .i64 (c : Nat)] w (fun en w' => en = .returned (.tuple #[(hadV s.m s.f k).val, .int .i64 (if s.m.testBit k then 0 else 10)]) ∧ St w0 w' (entL b (e.takes k c) p ++ R)) := by
  obtain ⟨k', ek, hkl, _, _⟩ := AlS.st_live hs
  obtain rfl : k' = k := by omega
  have hl64 := he.al.len
  have HB := Lib.hid (show St w0 ((w.alloc (.cells #[.int .i64 k', .int .i64 g] 45)).alloc (.cells #[.int .i64 0, .int .i64 0, .int .i64 0] 34)) (blkA (w.heap.size + 1) #[.int .i64 0, .int .i64 0, .int .i64 0] 34 :: blkA w.heap.size #[.int .i64 k', .int .i64 g] 45 :: (entL b e p ++ R)) from H.box2 _ _ _ _)
  have HG := Lib.hid (fun (w' : World) (R' : List Asr) (h : St w0 w' (entL b e p ++ R')) => ent_get h he k' g hs c s hc)
  rw [EnS.takes_some hc]
  have HC := Lib.hid hc
  have hcl := (List.getElem?_eq_some_iff.1 hc).1
  have hlen := he.len
  have hbl : p.q.bs.length = e.sl.length := HB.out.rot2.entReg.regLen
  obtain ⟨x, hx⟩ : ∃ x, p.q.bs[c]? = some x := ⟨_, List.getElem?_eq_getElem (by omega)⟩
  have HX := Lib.hid hx
  have hso := he.sl s (List.mem_of_getElem? hc)
  have HTk := Lib.hid (fun (w' : World) (pp : SlB) (R' : List Asr) (h : St w0 w' (sloL x s pp ++ R')) => slo_take h hso k' (by omega))
  have htn : s.m.testBit k' = false → s.take k' = s := fun h => take_no hso.m h
  have hset : e.sl.set c s = e.sl := by
    apply List.ext_getElem?
    intro j
    by_cases e1 : c = j
    · subst e1
      rw [List.getElem?_set_self hcl, hc]
    · rw [List.getElem?_set_ne e1]
  obtain ⟨⟨hk1, ha1, hb1⟩, hh⟩ : ∃ h, hadV s.m s.f k' = h := ⟨_, rfl⟩
  obtain ⟨t, ht⟩ : ∃ t, s.m.testBit k' = t := ⟨_, rfl⟩
  have hz : t = false → hk1 = 0 ∧ ha1 = 0 ∧ hb1 = 0 := fun h => by
    unfold hadV at hh
    rw [ht, h] at hh
    simp only [Bool.false_eq_true, if_false, zVV] at hh
    injection hh with h1 h2 h3
    exact ⟨h1.symm, h2.symm, h3.symm⟩
  have HZ := Lib.hid hz
  rw [ht] at htn
  have HTN := Lib.hid htn
  have HSET := Lib.hid hset
  rw [hh, ht] at HG HTk
  rw [hh, ht]
  obtain ⟨s', hs'⟩ : ∃ s', s.take k' = s' := ⟨_, rfl⟩
  rw [hs'] at HTk HTN ⊢
  clear H he hs hc hx hh ht hbl ek hso hz htn hset hs'
  unfold ptr hdV VV.val at *
  simp only at *
  go_enter Tryz.func55, Tryz.ntmps55
  obtain ⟨x0, x1, _, _⟩ := (HB.out.blk 1 rfl).two
  go_upto_region 2 with (go_at_call 71; refine (HG.out _ _ HB.out.rot2).mono ?_; rintro en w1 ⟨rfl, hkp⟩; have HB1 := Lib.hid ((HB.out.keep hkp).alloc (.cells #[.int .i64 hk1, .int .i64 ha1, .int .i64 hb1] 34)); clear hkp HB HG x0 x1)
  obtain ⟨w2, hw2⟩ : ∃ x, w1.alloc (.cells #[.int .i64 hk1, .int .i64 ha1, .int .i64 hb1] 34) = x := ⟨_, rfl⟩
  rw [hw2] at HB1 ⊢
  clear hw2
  cases t
  · obtain ⟨rfl, rfl, rfl⟩ := HZ.out (by simp)
    obtain ⟨z0, z1, z2, y0, y1, y2⟩ := (HB1.out.blk 0 rfl).three
    obtain ⟨q0, q1, q2, _, _, _⟩ := ((HB1.out.blk 0 rfl).set3 (.int .i64 0) (.int .i64 0) (.int .i64 0)).three
    have HQ := Lib.hid (And.intro q0 (And.intro q1 q2))
    have HF := Lib.hid ((HB1.out.write3 (.int .i64 0) (.int .i64 0) (.int .i64 0)).rest.rest)
    clear q0 q1 q2
    go_wp2_with fail
    obtain ⟨q0, q1, q2⟩ := HQ.out
    clear z0 z1 z2
    refine bodyPost_ret (v := .tuple #[.agg #[.int .i64 0, .int .i64 0, .int .i64 0], .int .i64 10]) (by simp [results, Tryz.results55, go_sem, q0, q1, q2]) rfl ⟨rfl, ?_⟩
    rw [HTN.out (by simp), HSET.out]
    exact HF.out
  · have c1 := HB1.out.rest.rest.entC1
    obtain ⟨h0, h1, _, _⟩ := (HB1.out.blk 1 rfl).two
    go_wp2_with (first
      | (go_at_call 49; refine (reg_slot HB1.out.rot2.entReg HX.out (by omega)).mono ?_; rintro en w3 ⟨rfl, hk3⟩; have HB3 := Lib.hid (HB1.out.keep hk3); clear hk3 HB1 c1 h0 h1; obtain ⟨h0, h1, _, _⟩ := (HB3.out.blk 1 rfl).two)
      | (go_at_call 114; obtain ⟨pp, hp⟩ := (HB3.out.rot2.entReg).regOpen HX.out HC.out; refine (HTk.out _ _ _ hp).mono ?_; rintro en w4 ⟨rfl, h4⟩; have HB4 := Lib.hid ((St.unrot2 (St.entReg' (St.regShut HX.out HC.out h4))).alloc (.cells #[.int .i64 hk1, .int .i64 ha1, .int .i64 hb1] 34)); clear h4 HB3 hp h0 h1; obtain ⟨z0, z1, z2, y0, y1, y2⟩ := (HB4.out.blk 0 rfl).three))
    obtain ⟨q0, q1, q2, _, _, _⟩ := ((HB4.out.blk 0 rfl).set3 (.int .i64 hk1) (.int .i64 ha1) (.int .i64 hb1)).three
    have HF := Lib.hid ((HB4.out.write3 (.int .i64 hk1) (.int .i64 ha1) (.int .i64 hb1)).rest.rest)
    clear z0 z1 z2 y0 y1 y2
    refine bodyPost_ret (v := .tuple #[.agg #[.int .i64 hk1, .int .i64 ha1, .int .i64 hb1], .int .i64 0]) (by simp [results, Tryz.results55, go_sem, q0, q1, q2]) rfl ⟨rfl, HF.out⟩
end Go.Proofs.YtkiikblpgppmkaaGreatDoor
