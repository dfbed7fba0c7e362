/-
  The package slot: Put; The package slot: Take; The package slot: New; The package reg: the claim; New, Slot; The package reg: Add; The package reg: Of.
-/
import Derived.Test.YtkiikblpgppmkaaGreatDoorTlM17
namespace Go.Proofs.YtkiikblpgppmkaaGreatDoor
open Go Go.RowKit
set_option linter.unusedVariables false
set_option linter.unusedSimpArgs false

theorem St.write3 {w0 w : World} {L : List Asr} {b : Nat} {x y z : Value} {t : TypeId} (h : St w0 w (blkA b #[x, y, z] t :: L)) (u v s : Value) : St w0 (((w.setCell ⟨b, 0, none⟩ u).setCell ⟨b, 1, none⟩ v).setCell ⟨b, 2, none⟩ s) (blkA b #[u, v, s] t :: L) :=
  ((h.write 0 rfl 0 u).write 0 rfl 1 v).write 0 rfl 2 s
set_option maxHeartbeats 2000000 in
set_option maxRecDepth 100000 in
theorem slo_put {w0 w : World} {R : List Asr} {b : Nat} {s : SlS} {p : SlB} (H : St w0 w (sloL b s p ++ R)) (hs : s.Ok 90000) (k : Nat) (hk : k < 64) (v : VV) (hv : okV v.k v.a v.b = true) (hkd : v.k = s.kind) :
    Calls Tryz.prog 112 #[ptr b, .int .i64 (k : Nat), v.val] w (fun e w' => e = .returned (.tuple #[(hadV s.m s.f k).val, .bool (s.m.testBit k), .int .i64 0]) ∧ St w0 w' (sloL b (s.put k v) p ++ R)) := by
  have hcap : s.var = 4 → v = tagV := fun h4 => by
    have hk3 := hs.tag h4
    rw [hk3] at hkd
    obtain ⟨vk, va, vb⟩ := v
    simp only at hkd hv
    subst hkd
    simp [okV] at hv
    obtain ⟨rfl, rfl⟩ := hv
    rfl
  have HB := Lib.hid (show St w0 ((w.alloc (.cells #[.int .i64 v.k, .int .i64 v.a, .int .i64 v.b] 34)).alloc (.cells #[.int .i64 0, .int .i64 0, .int .i64 0] 34)) (blkA (w.heap.size + 1) #[.int .i64 0, .int .i64 0, .int .i64 0] 34 :: blkA w.heap.size #[.int .i64 v.k, .int .i64 v.a, .int .i64 v.b] 34 :: (sloL b s p ++ R)) from H.box2 _ _ _ _)
  have HC := Lib.hid (slo_check b k s.kind v _ (show ((w.alloc (.cells #[.int .i64 v.k, .int .i64 v.a, .int .i64 v.b] 34)).alloc (.cells #[.int .i64 0, .int .i64 0, .int .i64 0] 34)).cell? ⟨b, 1, none⟩ = _ by rw [(HB.out.blk 2 rfl).cell]; rfl) hk hv hkd)
  have HCAP := Lib.hid hcap
  have HS := Lib.hid hs
  have HM1 := Lib.hid (pl_mput hs.var p.p)
  obtain ⟨hmm, hmc⟩ := HM1.out
  obtain ⟨T, hT⟩ : ∃ T, plT s.var = T := ⟨_, rfl⟩
  obtain ⟨rv, hrv⟩ : ∃ r, plR s.var p.p = r := ⟨_, rfl⟩
  obtain ⟨fn, hfn⟩ : ∃ f, plPut s.var = f := ⟨_, rfl⟩
  have HPut := Lib.hid (fun (w' : World) (L : List Asr) (i : Nat) (h : St w0 w' L) (hi : L[i]? = some (plA s.var p.p s.m s.f)) => pl_put h i hi hs.var hs.m k hk v hcap)
  have HT := Lib.hid hT
  have HRV := Lib.hid hrv
  rw [hT, hrv, hfn] at hmm
  rw [hfn] at hmc
  rw [hrv, hfn] at HPut
  obtain ⟨t, ht⟩ : ∃ t, s.m.testBit k = t := ⟨_, rfl⟩
  have HTB := Lib.hid ht
  rw [ht] at HPut ⊢
  obtain ⟨⟨hk1, ha1, hb1⟩, hh⟩ : ∃ h, hadV s.m s.f k = h := ⟨_, rfl⟩
  rw [hh] at HPut ⊢
  obtain ⟨vk, va, vb⟩ := v
  clear H hs hv hkd hcap hT hrv hfn HM1 ht hh
  unfold ptr VV.val at *
  simp only at *
  go_enter Tryz.func112, Tryz.ntmps112
  go_upto_region 4 with (go_at_call 196; refine HC.out.mono ?_; rintro e w1 ⟨rfl, hk1⟩; have HB1 := Lib.hid (HB.out.keep hk1); clear hk1 HB HC)
  have HCUR := Lib.hid HB1.out.drew
  go_cut [10, 11] (fun v10 v11 wc => ∃ wb : Nat, v10 = .pointer (some ⟨wb, 0, none⟩) ∧ v11 = .bool t ∧ St w0 wc (blkA wb #[.int .i64 hk1, .int .i64 ha1, .int .i64 hb1] 34 :: blkA (w.heap.size + 1) #[.int .i64 0, .int .i64 0, .int .i64 0] 34 :: blkA w.heap.size #[.int .i64 vk, .int .i64 va, .int .i64 vb] 34 :: ([blkA b (sloCs s p) 278, plA s.var p.p (addW s.m k) (updV s.f k ⟨vk, va, vb⟩), hibA p.m s.m, flA s.fl p.g] ++ R)))
  case first =>
    have c0 : w1.cell? ⟨b, 0, none⟩ = some (.iface T rv) := by rw [(HB1.out.blk 2 rfl).cell, ← HT.out, ← HRV.out]; rfl
    obtain ⟨x0, x1, x2, _, _, _⟩ := (HB1.out.blk 1 (cs := #[.int .i64 vk, .int .i64 va, .int .i64 vb]) rfl).three
    refine wp_region_M (r := 6) (S := fun w' => w'.cell? ⟨b, 0, none⟩ = some (.iface T rv) ∧ w'.cell? ⟨w.heap.size, 0, none⟩ = some (.int .i64 vk) ∧ w'.cell? ⟨w.heap.size, 1, none⟩ = some (.int .i64 va) ∧ w'.cell? ⟨w.heap.size, 2, none⟩ = some (.int .i64 vb)) (by kernel_rfl) ?_ (fun hHeld => ?_)
    · (try dsimp only); first | exact ⟨c0, x0, x1, x2⟩ | exact ⟨((Keep.refl w1 Nope).drew.alloc _).cell c0 (fun f => f), ((Keep.refl w1 Nope).drew.alloc _).cell x0 (fun f => f), ((Keep.refl w1 Nope).drew.alloc _).cell x1 (fun f => f), ((Keep.refl w1 Nope).drew.alloc _).cell x2 (fun f => f)⟩
    refine tkP 0 ?_; refine tkP 1 ?_; refine tkP 2 ?_; refine tkH 3 ?_; refine tkP 4 ?_; refine tkH 5 ?_
    refine wpAnyM_ready (rs := [6, 10]) (by kernel_rfl) (by simp) ?_
    refine AllReadyM.free (o := ?_) ?_ (by kernel_rfl) ?_ ?_
    rotate_left 1
    · simp only [List.getElem?_toArray, List.getElem?_cons_succ, List.getElem?_cons_zero]; exact rfl
    · intro K hK
      go_simp
      go_wp2_with ((first | (refine (HPut.out _ _ 3 HCUR.out rfl).mono ?_; rintro e w2 ⟨rfl, h2⟩; have H2 := Lib.hid h2; clear h2) | (refine (HPut.out _ _ 3 (HB1.out.box #[.int .i64 0, .int .i64 0, .int .i64 0] 34).drew rfl).mono ?_; rintro e w2 ⟨rfl, h2⟩; have H2 := Lib.hid (show St w0 w2 (blkA w1.heap.size #[.int .i64 0, .int .i64 0, .int .i64 0] 34 :: blkA (w.heap.size + 1) #[.int .i64 0, .int .i64 0, .int .i64 0] 34 :: blkA w.heap.size #[.int .i64 vk, .int .i64 va, .int .i64 vb] 34 :: ([blkA b (sloCs s p) 278, plA s.var p.p (addW s.m k) (updV s.f k ⟨vk, va, vb⟩), hibA p.m s.m, flA s.fl p.g] ++ R)) from h2.first); clear h2; obtain ⟨z0, z1, z2, y0, y1, y2⟩ := (H2.out.blk 0 rfl).three)))
      refine hK.out _ _ ?_
      clear hK K
      refine tkP 7 ?_; refine tkP 8 ?_; refine tkP 9 ?_; refine tkF 10 ?_
      intro K hK
      go_simp
      refine hK.out _ _ ?_
      clear hK K
      refine tkF 11 ?_
      intro K hK
      go_simp
      refine hK.out _ _ ?_
      clear hK K
      refine tkP 12 ?_
      refine wpAnyM_done (by kernel_rfl) ?_ _
      go_wp2_with fail
      go_meet
      case rel =>
        first
          | exact ⟨w2.heap.size, rfl, rfl, H2.out.box0 _ _⟩
          | exact ⟨w1.heap.size, rfl, rfl, H2.out.write3 _ _ _⟩
    refine AllReadyM.cons (o := ?_) ?_ ?_ ?_
    rotate_left 1
    · simp only [List.getElem?_toArray, List.getElem?_cons_succ, List.getElem?_cons_zero]; exact rfl
    · intro K hK
      go_simp
      refine hK.out _ _ ?_ (fun hHeld => ?_)
      · (try dsimp only); first | exact ⟨c0, x0, x1, x2⟩ | exact ⟨((Keep.refl w1 Nope).drew.alloc _).cell c0 (fun f => f), ((Keep.refl w1 Nope).drew.alloc _).cell x0 (fun f => f), ((Keep.refl w1 Nope).drew.alloc _).cell x1 (fun f => f), ((Keep.refl w1 Nope).drew.alloc _).cell x2 (fun f => f)⟩
      clear hK K
      refine tkF 6 ?_
      intro K hK
      go_simp
      go_wp2_with ((first | (refine (HPut.out _ _ 3 HCUR.out rfl).mono ?_; rintro e w2 ⟨rfl, h2⟩; have H2 := Lib.hid h2; clear h2) | (refine (HPut.out _ _ 3 (HB1.out.box #[.int .i64 0, .int .i64 0, .int .i64 0] 34).drew rfl).mono ?_; rintro e w2 ⟨rfl, h2⟩; have H2 := Lib.hid (show St w0 w2 (blkA w1.heap.size #[.int .i64 0, .int .i64 0, .int .i64 0] 34 :: blkA (w.heap.size + 1) #[.int .i64 0, .int .i64 0, .int .i64 0] 34 :: blkA w.heap.size #[.int .i64 vk, .int .i64 va, .int .i64 vb] 34 :: ([blkA b (sloCs s p) 278, plA s.var p.p (addW s.m k) (updV s.f k ⟨vk, va, vb⟩), hibA p.m s.m, flA s.fl p.g] ++ R)) from h2.first); clear h2; obtain ⟨z0, z1, z2, y0, y1, y2⟩ := (H2.out.blk 0 rfl).three)))
      refine hK.out _ _ ?_
      clear hK K
      refine tkP 7 ?_; refine tkP 8 ?_; refine tkP 9 ?_; refine tkF 11 ?_
      intro K hK
      go_simp
      refine hK.out _ _ ?_
      clear hK K
      refine tkP 12 ?_
      refine wpAnyM_done (by kernel_rfl) ?_ _
      go_wp2_with fail
      go_meet
      case rel =>
        first
          | exact ⟨w2.heap.size, rfl, rfl, H2.out.box0 _ _⟩
          | exact ⟨w1.heap.size, rfl, rfl, H2.out.write3 _ _ _⟩
    exact AllReadyM.nil
  case rest =>
    obtain ⟨wb, rfl, rfl, hst⟩ := hcut
    have H2 := Lib.hid hst
    have c4 : wc.cell? ⟨b, 4, none⟩ = some (.pointer (some ⟨p.m, 0, none⟩)) := by rw [(H2.out.blk 3 rfl).cell]; rfl
    clear hst HB1 HCUR HPut hmm hmc
    go_upto_region 6 with (go_at_call 123; refine (hib_add H2.out 5 rfl HS.out.m k hk).mono ?_; rintro e w3 ⟨rfl, h3⟩; have H3 := Lib.hid (St.rot3 (X := sloL b ⟨s.var, s.kind, addW s.m k, updV s.f k ⟨vk, va, vb⟩, s.fl⟩ p) (R := R) h3); clear h3 H2 c4)
    have HS2 := Lib.hid (show SlS.Ok ⟨s.var, s.kind, addW s.m k, updV s.f k ⟨vk, va, vb⟩, s.fl⟩ 90000 from ⟨HS.out.var, HS.out.kind, HS.out.tag, addW_lt HS.out.m hk, HS.out.fl⟩)
    have fin : ∀ (kd : Nat) (w4 : World), (kd = if t then 2 else 1) → St w0 w4 (sloL b ((⟨s.var, s.kind, addW s.m k, updV s.f k ⟨vk, va, vb⟩, s.fl⟩ : SlS).noted ⟨kd, k⟩) p ++ (R ++ [blkA wb #[.int .i64 hk1, .int .i64 ha1, .int .i64 hb1] 34, blkA (w.heap.size + 1) #[.int .i64 0, .int .i64 0, .int .i64 0] 34, blkA w.heap.size #[.int .i64 vk, .int .i64 va, .int .i64 vb] 34])) →
        St w0 w4 (blkA wb #[.int .i64 hk1, .int .i64 ha1, .int .i64 hb1] 34 :: blkA (w.heap.size + 1) #[.int .i64 0, .int .i64 0, .int .i64 0] 34 :: blkA w.heap.size #[.int .i64 vk, .int .i64 va, .int .i64 vb] 34 :: (sloL b (s.put k ⟨vk, va, vb⟩) p ++ R)) := by
      intro kd w4 hkd h
      have h2 := St.unrot3 h
      have e : (⟨s.var, s.kind, addW s.m k, updV s.f k ⟨vk, va, vb⟩, s.fl⟩ : SlS).noted ⟨kd, k⟩ = s.put k ⟨vk, va, vb⟩ := by
        unfold SlS.noted SlS.put
        rw [HTB.out, hkd]
        cases t <;> rfl
      rw [e] at h2
      exact h2
    have HFin := Lib.hid fin
    clear fin
    cases t
    · go_wp2_with (go_at_call 197; refine (slo_note H3.out HS2.out 1 k (by omega) (by omega) hk).mono ?_; rintro e w4 ⟨rfl, h4⟩; have H4 := Lib.hid (HFin.out 1 w4 rfl h4); clear h4 H3; obtain ⟨o0, o1, o2, _, _, _⟩ := (H4.out.blk 0 rfl).three; obtain ⟨z0, z1, z2, y0, y1, y2⟩ := (H4.out.blk 1 (cs := #[.int .i64 0, .int .i64 0, .int .i64 0]) rfl).three)
      obtain ⟨q0, q1, q2, _, _, _⟩ := ((H4.out.blk 1 (cs := #[.int .i64 0, .int .i64 0, .int .i64 0]) rfl).set3 (.int .i64 hk1) (.int .i64 ha1) (.int .i64 hb1)).three
      have HF := Lib.hid ((H4.out.rest.write3 (.int .i64 hk1) (.int .i64 ha1) (.int .i64 hb1)).rest.rest)
      clear o0 o1 o2 z0 z1 z2 y0 y1 y2
      refine bodyPost_ret (v := .tuple #[.agg #[.int .i64 hk1, .int .i64 ha1, .int .i64 hb1], .bool false, .int .i64 0]) (by simp [results, Tryz.results112, go_sem, q0, q1, q2]) rfl ⟨rfl, HF.out⟩
    · go_wp2_with (go_at_call 197; refine (slo_note H3.out HS2.out 2 k (by omega) (by omega) hk).mono ?_; rintro e w4 ⟨rfl, h4⟩; have H4 := Lib.hid (HFin.out 2 w4 rfl h4); clear h4 H3; obtain ⟨o0, o1, o2, _, _, _⟩ := (H4.out.blk 0 rfl).three; obtain ⟨z0, z1, z2, y0, y1, y2⟩ := (H4.out.blk 1 (cs := #[.int .i64 0, .int .i64 0, .int .i64 0]) rfl).three)
      obtain ⟨q0, q1, q2, _, _, _⟩ := ((H4.out.blk 1 (cs := #[.int .i64 0, .int .i64 0, .int .i64 0]) rfl).set3 (.int .i64 hk1) (.int .i64 ha1) (.int .i64 hb1)).three
      have HF := Lib.hid ((H4.out.rest.write3 (.int .i64 hk1) (.int .i64 ha1) (.int .i64 hb1)).rest.rest)
      clear o0 o1 o2 z0 z1 z2 y0 y1 y2
      refine bodyPost_ret (v := .tuple #[.agg #[.int .i64 hk1, .int .i64 ha1, .int .i64 hb1], .bool true, .int .i64 0]) (by simp [results, Tryz.results112, go_sem, q0, q1, q2]) rfl ⟨rfl, HF.out⟩
end Go.Proofs.YtkiikblpgppmkaaGreatDoor

namespace Go.Proofs.YtkiikblpgppmkaaGreatDoor
open Go Go.RowKit
set_option linter.unusedVariables false
set_option linter.unusedSimpArgs false

set_option maxHeartbeats 2000000 in
set_option maxRecDepth 100000 in
theorem slo_take {w0 w : World} {R : List Asr} {b : Nat} {s : SlS} {p : SlB} (H : St w0 w (sloL b s p ++ R)) (hs : s.Ok 90000) (k : Nat) (hk : k < 64) :
    Calls Tryz.prog 114 #[ptr b, .int .i64 (k : Nat)] w (fun e w' => e = .returned (.tuple #[(hadV s.m s.f k).val, .bool (s.m.testBit k)]) ∧ St w0 w' (sloL b (s.take k) p ++ R)) := by
  have HB := Lib.hid (show St w0 (w.alloc (.cells #[.int .i64 0, .int .i64 0, .int .i64 0] 34)) (blkA w.heap.size #[.int .i64 0, .int .i64 0, .int .i64 0] 34 :: (sloL b s p ++ R)) from H.box0 _ _)
  have HS := Lib.hid hs
  have HM1 := Lib.hid (pl_mtake hs.var p.p)
  obtain ⟨hmm, hmc⟩ := HM1.out
  obtain ⟨T, hT⟩ : ∃ T, plT s.var = T := ⟨_, rfl⟩
  obtain ⟨rv, hrv⟩ : ∃ r, plR s.var p.p = r := ⟨_, rfl⟩
  obtain ⟨fn, hfn⟩ : ∃ f, plTake s.var = f := ⟨_, rfl⟩
  have HTake := Lib.hid (fun (w' : World) (L : List Asr) (i : Nat) (h : St w0 w' L) (hi : L[i]? = some (plA s.var p.p s.m s.f)) => pl_take h i hi hs.var hs.m k hk)
  have HT := Lib.hid hT
  have HRV := Lib.hid hrv
  rw [hT, hrv, hfn] at hmm
  rw [hfn] at hmc
  rw [hrv, hfn] at HTake
  obtain ⟨t, ht⟩ : ∃ t, s.m.testBit k = t := ⟨_, rfl⟩
  have HTB := Lib.hid ht
  rw [ht] at HTake ⊢
  obtain ⟨⟨hk1, ha1, hb1⟩, hh⟩ : ∃ h, hadV s.m s.f k = h := ⟨_, rfl⟩
  rw [hh] at HTake ⊢
  have c0 : (w.alloc (.cells #[.int .i64 0, .int .i64 0, .int .i64 0] 34)).cell? ⟨b, 0, none⟩ = some (.iface T rv) := by rw [(HB.out.blk 1 rfl).cell, ← HT.out, ← HRV.out]; rfl
  clear H hs hT hrv hfn HM1 ht hh
  unfold ptr VV.val at *
  simp only at *
  go_enter Tryz.func114, Tryz.ntmps114
  go_upto_region 2 with (refine (HTake.out _ _ 2 HB.out rfl).mono ?_; rintro e w1 ⟨rfl, h1⟩; have H1 := Lib.hid (show St w0 w1 (blkA w.heap.size #[.int .i64 0, .int .i64 0, .int .i64 0] 34 :: ([blkA b (sloCs s p) 278, plA s.var p.p (delW s.m k) s.f, hibA p.m s.m, flA s.fl p.g] ++ R)) from h1); clear h1 HB c0 hmm hmc HTake)
  have H2 := Lib.hid (H1.out.box0 #[.int .i64 hk1, .int .i64 ha1, .int .i64 hb1] 34)
  obtain ⟨w2, hw2⟩ : ∃ x, w1.alloc (.cells #[.int .i64 hk1, .int .i64 ha1, .int .i64 hb1] 34) = x := ⟨_, rfl⟩
  obtain ⟨wb, hwb⟩ : ∃ x, w1.heap.size = x := ⟨_, rfl⟩
  rw [hw2, hwb] at H2
  rw [hw2, hwb]
  clear hw2 hwb H1
  cases t
  · obtain ⟨o0, o1, o2, _, _, _⟩ := (H2.out.blk 0 rfl).three
    obtain ⟨z0, z1, z2, y0, y1, y2⟩ := (H2.out.blk 1 (cs := #[.int .i64 0, .int .i64 0, .int .i64 0]) rfl).three
    go_wp2_with fail
    obtain ⟨q0, q1, q2, _, _, _⟩ := ((H2.out.blk 1 (cs := #[.int .i64 0, .int .i64 0, .int .i64 0]) rfl).set3 (.int .i64 hk1) (.int .i64 ha1) (.int .i64 hb1)).three
    have HF := Lib.hid ((H2.out.rest.write3 (.int .i64 hk1) (.int .i64 ha1) (.int .i64 hb1)).rest)
    clear o0 o1 o2 z0 z1 z2 y0 y1 y2
    refine bodyPost_ret (v := .tuple #[.agg #[.int .i64 hk1, .int .i64 ha1, .int .i64 hb1], .bool false]) (by simp [results, Tryz.results114, go_sem, q0, q1, q2]) rfl ⟨rfl, ?_⟩
    have e : s.take k = ⟨s.var, s.kind, delW s.m k, s.f, s.fl⟩ := by
      unfold SlS.take
      rw [HTB.out]
      rfl
    rw [e, delW_no HS.out.m HTB.out]
    have h := HF.out
    rw [delW_no HS.out.m HTB.out] at h
    exact h
  · have c4 : w2.cell? ⟨b, 4, none⟩ = some (.pointer (some ⟨p.m, 0, none⟩)) := by rw [(H2.out.blk 2 rfl).cell]; rfl
    have HS2 := Lib.hid (show SlS.Ok ⟨s.var, s.kind, delW s.m k, s.f, s.fl⟩ 90000 from ⟨HS.out.var, HS.out.kind, HS.out.tag, delW_lt _ _, HS.out.fl⟩)
    have e : (⟨s.var, s.kind, delW s.m k, s.f, s.fl⟩ : SlS).noted ⟨3, k⟩ = s.take k := by
      unfold SlS.noted SlS.take
      rw [HTB.out]
      rfl
    have HE := Lib.hid e
    clear e
    go_wp2_with (first
      | (go_at_call 148; refine (hib_remove H2.out 4 rfl HS.out.m k hk).mono ?_; rintro e w3 ⟨rfl, h3⟩; have H3 := Lib.hid (St.rot2 (X := sloL b ⟨s.var, s.kind, delW s.m k, s.f, s.fl⟩ p) (R := R) h3); clear h3 H2 c4)
      | (go_at_call 197; refine (slo_note H3.out HS2.out 3 k (by omega) (by omega) hk).mono ?_; rintro e w4 ⟨rfl, h4⟩; rw [show (((3 : Nat) : Int)) = 3 from rfl] at h4; rw [HE.out] at h4; have H4 := Lib.hid (St.unrot2 h4); clear h4 H3; obtain ⟨o0, o1, o2, _, _, _⟩ := (H4.out.blk 0 rfl).three; obtain ⟨z0, z1, z2, y0, y1, y2⟩ := (H4.out.blk 1 (cs := #[.int .i64 0, .int .i64 0, .int .i64 0]) rfl).three))
    obtain ⟨q0, q1, q2, _, _, _⟩ := ((H4.out.blk 1 (cs := #[.int .i64 0, .int .i64 0, .int .i64 0]) rfl).set3 (.int .i64 hk1) (.int .i64 ha1) (.int .i64 hb1)).three
    have HF := Lib.hid ((H4.out.rest.write3 (.int .i64 hk1) (.int .i64 ha1) (.int .i64 hb1)).rest)
    clear o0 o1 o2 z0 z1 z2 y0 y1 y2
    refine bodyPost_ret (v := .tuple #[.agg #[.int .i64 hk1, .int .i64 ha1, .int .i64 hb1], .bool true]) (by simp [results, Tryz.results114, go_sem, q0, q1, q2]) rfl ⟨rfl, HF.out⟩
end Go.Proofs.YtkiikblpgppmkaaGreatDoor

namespace Go.Proofs.YtkiikblpgppmkaaGreatDoor
open Go Go.RowKit
set_option linter.unusedVariables false
set_option linter.unusedSimpArgs false

theorem value_zero (kd : Nat) (h : kd = 1 ∨ kd = 2 ∨ kd = 3) (w : World) : Calls Tryz.prog 283 #[.int .i64 (kd : Nat)] w (Ret w (.tuple #[.agg #[.int .i64 (kd : Nat), .int .i64 0, .int .i64 0], .bool true])) := by
  have HO := Lib.hid (value_ok kd 0 0)
  have e : okV kd 0 0 = true := by rcases h with rfl | rfl | rfl <;> rfl
  rw [e] at HO
  clear e h
  go_enter Tryz.func283, Tryz.ntmps283
  go_wp2_with (go_at_call 119; refine (HO.out _).mono ?_; rintro e w2 ⟨rfl, hk2⟩; have HK2 := Lib.hid ((show Keep w _ Nope from (by (repeat (first | exact Keep.refl _ _ | apply Keep.drew | apply Keep.drewN | apply Keep.alloc)))).trans hk2 (fun _ f => f.elim)); obtain ⟨o0, o1, o2, _, _, _⟩ := ((Blk.new1 w (.cells #[.int .i64 0, .int .i64 0, .int .i64 0] 34) #[.int .i64 (kd : Nat), .int .i64 0, .int .i64 0] 34).keep hk2 (fun f => f)).three; have HBR := Lib.hid (((Blk.new w #[.int .i64 0, .int .i64 0, .int .i64 0] 34).alloc (.cells #[.int .i64 (kd : Nat), .int .i64 0, .int .i64 0] 34)).keep hk2 (fun f => f)); clear hk2; obtain ⟨z0, z1, z2, y0, y1, y2⟩ := HBR.out.three)
  obtain ⟨q0, q1, q2, _, _, _⟩ := (HBR.out.set3 (.int .i64 (kd : Nat)) (.int .i64 0) (.int .i64 0)).three
  have HF := Lib.hid (HK2.out.set3 (b := w.heap.size) (Nat.le_refl _) (.int .i64 (kd : Nat)) (.int .i64 0) (.int .i64 0))
  clear o0 o1 o2 z0 z1 z2 y0 y1 y2
  refine bodyPost_ret (v := .tuple #[.agg #[.int .i64 (kd : Nat), .int .i64 0, .int .i64 0], .bool true]) (by simp [results, Tryz.results283, go_sem, q0, q1, q2]) rfl ⟨rfl, HF.out⟩
/-- A component that may be. -/
structure DescOk (kd var bd : Nat) : Prop where
  hk : kd = 1 ∨ kd = 2 ∨ kd = 3
  hv : VarOk var
  ht : var = 4 → kd = 3
  hb : bd ≤ 1000
theorem VarOk.le {var : Nat} (h : VarOk var) : 1 ≤ var ∧ var ≤ 4 := by rcases h with rfl | rfl | rfl | rfl <;> omega
set_option maxHeartbeats 1000000 in
theorem slo_ck (kd var bd : Nat) (h : DescOk kd var bd) (w : World) : Calls Tryz.prog 257 #[.agg #[.int .i64 (kd : Nat), .int .i64 (var : Nat), .int .i64 (bd : Nat)]] w (Ret w (.int .i64 0)) := by
  have HZ := Lib.hid (value_zero kd h.hk)
  have hvl := h.hv.le
  have hbd := h.hb
  have e0 : decide ((var : Int) < 1) = false := decide_eq_false (by omega)
  have e1 : decide ((var : Int) > 4) = false := decide_eq_false (by omega)
  have e2 : decide ((bd : Int) < 0) = false := decide_eq_false (by omega)
  have e3 : decide ((bd : Int) > 1000) = false := decide_eq_false (by omega)
  have e4 : decide (var < 1) = false := decide_eq_false (by omega)
  have e5 : decide (4 < var) = false := decide_eq_false (by omega)
  have e6 : decide (1000 < bd) = false := decide_eq_false (by omega)
  have ht := h.ht
  clear h
  go_enter Tryz.func257, Tryz.ntmps257
  go_upto_block 0 with (go_at_call 283; refine (HZ.out _).mono ?_; rintro e w2 ⟨rfl, hk2⟩; have HK2 := Lib.hid ((show Keep w _ Nope from (by (repeat (first | exact Keep.refl _ _ | apply Keep.drew | apply Keep.drewN | apply Keep.alloc)))).trans hk2 (fun _ f => f.elim)); have HB2 := Lib.hid ((Blk.new w #[.int .i64 (kd : Nat), .int .i64 (var : Nat), .int .i64 (bd : Nat)] 60).keep hk2 (fun f => f)); clear hk2)
  have HK3 := Lib.hid (HK2.out.alloc (.cells #[.int .i64 (kd : Nat), .int .i64 0, .int .i64 0] 34))
  obtain ⟨x0, x1, x2, _, _, _⟩ := (HB2.out.alloc (.cells #[.int .i64 (kd : Nat), .int .i64 0, .int .i64 0] 34)).three
  by_cases h4 : var = 4
  · obtain rfl := ht h4
    subst h4
    have y0 : (w2.alloc (.cells #[.int .i64 3, .int .i64 0, .int .i64 0] 34)).cell? ⟨w.heap.size, 0, none⟩ = some (.int .i64 3) := x0
    have y1 : (w2.alloc (.cells #[.int .i64 3, .int .i64 0, .int .i64 0] 34)).cell? ⟨w.heap.size, 1, none⟩ = some (.int .i64 4) := x1
    have y2 : (w2.alloc (.cells #[.int .i64 3, .int .i64 0, .int .i64 0] 34)).cell? ⟨w.heap.size, 2, none⟩ = some (.int .i64 (bd : Nat)) := x2
    clear x0 x1 x2
    go_wp2_with fail
    go_ret
    exact ⟨rfl, HK3.out⟩
  · have e7 : ((var : Int) == 4) = false := by simp; omega
    go_wp2_with fail
    go_ret
    exact ⟨rfl, HK3.out⟩
theorem slo_kept (var : Nat) (h : VarOk var) (f : Nat → VV) (w : World) : Calls Tryz.prog 258 #[.int .i64 (var : Nat)] w (fun e w' => ∃ pb, e = .returned (.iface (plT var) (plR var pb)) ∧ St w w' [plA var pb 0 f]) := by
  rcases h with rfl | rfl | rfl | rfl
  · have HN := Lib.hid (pl_new1 (St.start w) f)
    go_enter Tryz.func258, Tryz.ntmps258
    go_wp2_with (go_at_call 284; refine HN.out.mono ?_; rintro e w2 ⟨pb, rfl, h2⟩; have H2 := Lib.hid h2; clear h2)
    go_ret
    exact ⟨pb, rfl, H2.out⟩
  · have HN := Lib.hid (pl_new2 (St.start w) f)
    go_enter Tryz.func258, Tryz.ntmps258
    go_wp2_with (go_at_call 285; refine HN.out.mono ?_; rintro e w2 ⟨pb, rfl, h2⟩; have H2 := Lib.hid h2; clear h2)
    go_ret
    exact ⟨pb, rfl, H2.out⟩
  · have HN := Lib.hid (pl_new3 (St.start w) f)
    go_enter Tryz.func258, Tryz.ntmps258
    go_wp2_with (go_at_call 286; refine HN.out.mono ?_; rintro e w2 ⟨pb, rfl, h2⟩; have H2 := Lib.hid h2; clear h2)
    go_ret
    exact ⟨pb, rfl, H2.out⟩
  · have HN := Lib.hid (hib_new' w)
    go_enter Tryz.func258, Tryz.ntmps258
    go_wp2_with (go_at_call 215; refine HN.out.mono ?_; rintro e w2 ⟨pb, rfl, hA, hK⟩; have H2 := Lib.hid (pl_new4 (L := []) f ((St.start w).add hK hA)); clear hA hK)
    go_ret
    exact ⟨pb, rfl, H2.out⟩
/-- As it is made. -/
def newSl (kd var bd : Nat) (f : Nat → VV) : SlS := ⟨var, kd, 0, f, if bd = 0 then none else some ⟨bd, [], []⟩⟩
theorem newSl_ok {kd var bd : Nat} {f : Nat → VV} (h : DescOk kd var bd) : (newSl kd var bd f).Ok 0 := by
  refine ⟨h.hv, h.hk, h.ht, (by show 0 < 2 ^ 64; decide), fun F hF => ?_⟩
  unfold newSl at hF
  simp only at hF
  split at hF
  · cases hF
  · cases hF
    exact ⟨Nat.le_refl _, by show 1 ≤ bd; omega, h.hb⟩
theorem sloA_mk {w0 w : World} {L : List Asr} {b : Nat} {s : SlS} (p : SlB) (h : St w0 w (sloL b s p ++ L)) : St w0 w (L ++ [sloA b s]) := St.pack (sloL b s) p h
set_option maxHeartbeats 2000000 in
set_option maxRecDepth 100000 in
theorem slo_new {w0 w : World} {L : List Asr} (H : St w0 w L) (kd var bd : Nat) (h : DescOk kd var bd) (f : Nat → VV) :
    Calls Tryz.prog 216 #[.agg #[.int .i64 (kd : Nat), .int .i64 (var : Nat), .int .i64 (bd : Nat)]] w (fun e w' => ∃ b, e = .returned (.tuple #[ptr b, .int .i64 0]) ∧ St w0 w' (L ++ [sloA b (newSl kd var bd f)])) := by
  have HCk := Lib.hid (slo_ck kd var bd h)
  have HKe := Lib.hid (slo_kept var h.hv f)
  have HB := Lib.hid (H.box0 #[.int .i64 (kd : Nat), .int .i64 (var : Nat), .int .i64 (bd : Nat)] 60)
  have HD := Lib.hid h
  obtain ⟨T, hT⟩ : ∃ T, plT var = T := ⟨_, rfl⟩
  obtain ⟨rv, hrv⟩ : ∃ r, plR var = r := ⟨_, rfl⟩
  have HT := Lib.hid hT
  have HRV := Lib.hid hrv
  rw [hT, hrv] at HKe
  have hbd := h.hb
  clear H h hT hrv
  unfold ptr
  go_enter Tryz.func216, Tryz.ntmps216
  go_upto_region 4 with (go_at_call 257; refine (HCk.out _).mono ?_; rintro e w1 ⟨rfl, hk1⟩; have HB1 := Lib.hid (HB.out.keep hk1); clear hk1 HB HCk)
  obtain ⟨x0, x1, x2, _, _, _⟩ := (HB1.out.blk 0 rfl).three
  have HC := Lib.hid (And.intro x0 (And.intro x1 x2))
  refine wp_region_held_drew (S := fun w' => w'.cell? ⟨w.heap.size, 0, none⟩ = some (.int .i64 (kd : Nat)) ∧ w'.cell? ⟨w.heap.size, 1, none⟩ = some (.int .i64 (var : Nat)) ∧ w'.cell? ⟨w.heap.size, 2, none⟩ = some (.int .i64 (bd : Nat))) (by kernel_rfl) ?_ (fun hHeld => ?_)
  · (try dsimp only); exact ⟨x0, x1, x2⟩
  refine tkW 0 ?_; refine tkW 1 ?_; refine tkW 3 ?_
  refine wpAnyH_ready (rs := [2]) (by kernel_rfl) (by simp) ?_
  refine AllReadyH.cons rfl (fun K hK => ?_) (AllReadyH.nil)
  go_simp
  go_wp2_with ((go_at_call 258; refine (HKe.out _).mono ?_; rintro e w2 ⟨pb, rfl, h2⟩; have H2 := Lib.hid (HB1.out.drew.ofNew h2); have HK2 := Lib.hid ((Keep.refl w1 Nope).drew.trans (Keep.ofSt h2) (fun _ f => f.elim)); clear h2))
  refine hK.out _ _ ?_ (fun hHeld => ?_)
  · (try dsimp only); exact ⟨HK2.out.cell HC.out.1 (fun f => f), HK2.out.cell HC.out.2.1 (fun f => f), HK2.out.cell HC.out.2.2 (fun f => f)⟩
  clear hK K
  refine wpAnyH_ready (rs := [4]) (by kernel_rfl) (by simp) ?_
  refine AllReadyH.cons rfl (fun K hK => ?_) (AllReadyH.nil)
  go_simp
  go_wp2_with ((go_at_call 215; refine (hib_new' _).mono ?_; rintro e w3 ⟨mb, rfl, hA, hK⟩; have H3 := Lib.hid (H2.out.add hK hA); have HK3 := Lib.hid (HK2.out.trans hK (fun _ f => f.elim)); clear hA hK))
  refine hK.out _ _ ?_ (fun hHeld => ?_)
  · (try dsimp only); exact ⟨HK3.out.cell HC.out.1 (fun f => f), HK3.out.cell HC.out.2.1 (fun f => f), HK3.out.cell HC.out.2.2 (fun f => f)⟩
  clear hK K
  refine tkW 5 ?_
  refine wpAnyH_ready (rs := [6]) (by kernel_rfl) (by simp) ?_
  refine AllReadyH.cons rfl (fun K hK => ?_) (AllReadyH.nil)
  go_simp
  refine hK.out _ _ ?_ (fun hHeld => ?_)
  · (try dsimp only); exact ⟨(HK3.out.alloc _).cell HC.out.1 (fun f => f), (HK3.out.alloc _).cell HC.out.2.1 (fun f => f), (HK3.out.alloc _).cell HC.out.2.2 (fun f => f)⟩
  clear hK K
  refine tkW 7 ?_
  refine wpAnyH_done (by kernel_rfl) ?_ _
  clear hHeld x0 x1 x2
  have H4 := Lib.hid (show St w0 (w3.alloc (.cells #[.iface T (rv pb), .int .i64 (kd : Nat), .int .i64 (var : Nat), .int .i64 (bd : Nat), .pointer (some ⟨mb, 0, none⟩), .pointer none] 278)) ([blkA w3.heap.size #[.iface T (rv pb), .int .i64 (kd : Nat), .int .i64 (var : Nat), .int .i64 (bd : Nat), .pointer (some ⟨mb, 0, none⟩), .pointer none] 278, plA var pb 0 f, hibA mb 0, empA, blkA w.heap.size #[.int .i64 (kd : Nat), .int .i64 (var : Nat), .int .i64 (bd : Nat)] 60] ++ L) by
    have h1 := H3.out.box0 #[.iface T (rv pb), .int .i64 (kd : Nat), .int .i64 (var : Nat), .int .i64 (bd : Nat), .pointer (some ⟨mb, 0, none⟩), .pointer none] 278
    have h2 := St.first (L := blkA w3.heap.size _ _ :: (blkA w.heap.size _ _ :: L ++ [plA var pb 0 f])) h1
    have h3 := St.first (L := hibA mb 0 :: blkA w3.heap.size _ _ :: blkA w.heap.size _ _ :: L) h2
    have h4 := (h3.add (Keep.refl _ _) (A := empA) trivial).first
    exact St.sel (P := [_, _, _, _, _]) (R := L) [3, 1, 2, 0, 4] h4 (by decide) rfl rfl)
  obtain ⟨w4, hw4⟩ : ∃ x, w3.alloc (.cells #[.iface T (rv pb), .int .i64 (kd : Nat), .int .i64 (var : Nat), .int .i64 (bd : Nat), .pointer (some ⟨mb, 0, none⟩), .pointer none] 278) = x := ⟨_, rfl⟩
  obtain ⟨b, hb⟩ : ∃ x, w3.heap.size = x := ⟨_, rfl⟩
  rw [hw4, hb] at H4
  rw [hw4, hb]
  clear hw4 hb H3 H2 HK2 HK3 HC HB1
  obtain ⟨x0, x1, x2, _, _, _⟩ := (H4.out.blk 4 (cs := #[.int .i64 (kd : Nat), .int .i64 (var : Nat), .int .i64 (bd : Nat)]) rfl).three
  by_cases h0 : bd = 0
  · have e1 : decide ((bd : Int) > 0) = false := decide_eq_false (by omega)
    have e2 : decide (0 < bd) = false := decide_eq_false (by omega)
    go_wp2_with fail
    go_ret2
    refine ⟨b, rfl, ?_⟩
    have h := St.sel (P := [_, _, _, _, _]) (P' := [_, _, _, _]) (R := L) [0, 1, 2, 3] H4.out (by decide) rfl rfl
    have e : sloL b (newSl kd var bd f) ⟨pb, mb, 0⟩ = [blkA b #[.iface T (rv pb), .int .i64 (kd : Nat), .int .i64 (var : Nat), .int .i64 (bd : Nat), .pointer (some ⟨mb, 0, none⟩), .pointer none] 278, plA var pb 0 f, hibA mb 0, empA] := by
      rw [← HT.out, ← HRV.out]
      unfold sloL sloCs newSl SlS.bound flV flA
      rw [if_pos h0, h0]
      rfl
    exact sloA_mk ⟨pb, mb, 0⟩ (by rw [e]; exact h)
  · have e1 : decide ((bd : Int) > 0) = true := decide_eq_true (by omega)
    have e2 : decide (0 < bd) = true := decide_eq_true (by omega)
    go_wp2_with (go_at_call 259; refine (flag_new H4.out bd (by omega) hbd).mono ?_; rintro e w5 ⟨fb, rfl, h5⟩; have H5 := Lib.hid h5.first; clear h5; have c5 : w5.cell? ⟨b, 5, none⟩ = some (.pointer none) := (by rw [(H5.out.blk 1 rfl).cell]; rfl); have y5 := (H5.out.blk 1 rfl).frozen 5)
    have H6 := Lib.hid (H5.out.write 1 rfl 5 (.pointer (some ⟨fb, 0, none⟩)))
    go_ret2
    refine ⟨b, rfl, ?_⟩
    have h := St.sel (P := [_, _, _, _, _, _]) (P' := [_, _, _, _]) (R := L) [1, 2, 3, 0] H6.out (by decide) rfl rfl
    have e : sloL b (newSl kd var bd f) ⟨pb, mb, fb⟩ = [blkA b #[.iface T (rv pb), .int .i64 (kd : Nat), .int .i64 (var : Nat), .int .i64 (bd : Nat), .pointer (some ⟨mb, 0, none⟩), .pointer (some ⟨fb, 0, none⟩)] 278, plA var pb 0 f, hibA mb 0, flagA fb ⟨bd, [], []⟩] := by
      rw [← HT.out, ← HRV.out]
      unfold sloL sloCs newSl SlS.bound flV flA
      rw [if_neg h0]
      rfl
    exact sloA_mk ⟨pb, mb, fb⟩ (by rw [e]; exact h)
end Go.Proofs.YtkiikblpgppmkaaGreatDoor

namespace Go.Proofs.YtkiikblpgppmkaaGreatDoor
open Go Go.RowKit
set_option linter.unusedVariables false
set_option linter.unusedSimpArgs false

structure RgB where
  a : Option Addr
  c : Nat
  bs : List Nat
def regL (b : Nat) (l : List SlS) (q : RgB) : List Asr :=
  [blkA b #[.slice q.a l.length q.c] 243, slA 245 1 (.slice q.a l.length q.c) l.length (q.bs.map ptr), pureA (q.bs.length = l.length)] ++ List.zipWith sloA q.bs l
def regA (b : Nat) (l : List SlS) : Asr := exA fun q => starA (regL b l q)
theorem slRow : SlTy Tryz.prog 241 245 1 8 := SlTy.mk' (.agg #[.pointer none]) Tryz.underlying241 (by kernel_rfl) rfl (by decide)
theorem St.regLen {w0 w : World} {R : List Asr} {b : Nat} {l : List SlS} {q : RgB} (H : St w0 w (regL b l q ++ R)) : q.bs.length = l.length := by
  obtain ⟨G, h, _⟩ := H.get 2 rfl
  exact h
theorem reg_at {b : Nat} {l : List SlS} {q : RgB} {R : List Asr} {c x : Nat} {s : SlS} (hx : q.bs[c]? = some x) (hs : l[c]? = some s) : (regL b l q ++ R)[3 + c]? = some (sloA x s) := by
  unfold regL
  rw [List.append_assoc, List.getElem?_append_right (by simp), show 3 + c - [blkA b #[.slice q.a l.length q.c] 243, slA 245 1 (.slice q.a l.length q.c) l.length (q.bs.map ptr), pureA (q.bs.length = l.length)].length = c by simp]
  have hl : c < (List.zipWith sloA q.bs l).length := by
    rw [List.length_zipWith]
    have h1 := (List.getElem?_eq_some_iff.1 hx).1
    have h2 := (List.getElem?_eq_some_iff.1 hs).1
    omega
  rw [List.getElem?_append_left hl, List.getElem?_zipWith, hx, hs]
theorem zipWith_set (bs : List Nat) (l : List SlS) (c x : Nat) (s : SlS) (hx : bs[c]? = some x) : (List.zipWith sloA bs l).set c (sloA x s) = List.zipWith sloA bs (l.set c s) := by
  apply List.ext_getElem?
  intro j
  by_cases e : c = j
  · subst e
    by_cases hl : c < l.length
    · have hb := (List.getElem?_eq_some_iff.1 hx).1
      rw [List.getElem?_set_self (by rw [List.length_zipWith]; omega), List.getElem?_zipWith, hx, List.getElem?_set_self hl]
    · rw [List.getElem?_eq_none (by simp; omega), List.getElem?_eq_none (by simp; omega)]
  · rw [List.getElem?_set_ne e, List.getElem?_zipWith, List.getElem?_zipWith, List.getElem?_set_ne e]
theorem reg_set {b : Nat} {l : List SlS} {q : RgB} {R : List Asr} {c x : Nat} {s s' : SlS} (hx : q.bs[c]? = some x) (hs : l[c]? = some s) : (regL b l q ++ R).set (3 + c) (sloA x s') = regL b (l.set c s') q ++ R := by
  have hl : c < (List.zipWith sloA q.bs l).length := by
    rw [List.length_zipWith]
    have h1 := (List.getElem?_eq_some_iff.1 hx).1
    have h2 := (List.getElem?_eq_some_iff.1 hs).1
    omega
  unfold regL
  rw [List.length_set, List.append_assoc, List.append_assoc, List.set_append_right _ _ (by simp), show 3 + c - [blkA b #[.slice q.a l.length q.c] 243, slA 245 1 (.slice q.a l.length q.c) l.length (q.bs.map ptr), pureA (q.bs.length = l.length)].length = c by simp]
  rw [List.set_append_left _ _ hl, zipWith_set _ _ _ _ _ hx]
/-- One slot is opened; it is closed again. -/
theorem St.regOpen {w0 w : World} {R : List Asr} {b : Nat} {l : List SlS} {q : RgB} (H : St w0 w (regL b l q ++ R)) {c x : Nat} {s : SlS} (hx : q.bs[c]? = some x) (hs : l[c]? = some s) : ∃ p, St w0 w (sloL x s p ++ (regL b l q ++ R).set (3 + c) empA) :=
  H.exSplit (3 + c) (reg_at hx hs)
theorem St.regShut {w0 w : World} {R : List Asr} {b : Nat} {l : List SlS} {q : RgB} {c x : Nat} {s s' : SlS} {p : SlB} (hx : q.bs[c]? = some x) (hs : l[c]? = some s) (H : St w0 w (sloL x s' p ++ (regL b l q ++ R).set (3 + c) empA)) : St w0 w (regL b (l.set c s') q ++ R) := by
  have h := St.exJoin (sloL x s') p (3 + c) (List.getElem?_eq_some_iff.1 (reg_at hx hs)).1 H
  have e := reg_set (b := b) (R := R) (s' := s') hx hs
  unfold sloA at e
  rw [e] at h
  exact h
theorem St.regCell {w0 w : World} {R : List Asr} {b : Nat} {l : List SlS} {q : RgB} (H : St w0 w (regL b l q ++ R)) : w.cell? ⟨b, 0, none⟩ = some (.slice q.a l.length q.c) := by rw [(H.blk 0 rfl).cell]; rfl
/-- A row's cell. -/
theorem St.regRow {w0 w : World} {R : List Asr} {b : Nat} {l : List SlS} {q : RgB} (H : St w0 w (regL b l q ++ R)) {c : Nat} {x : Nat} (hx : q.bs[c]? = some x) : ∃ g, q.a = some ⟨g, 0, none⟩ ∧ w.cell? ⟨g, c, none⟩ = some (ptr x) := by
  have hl := H.regLen
  have hc := (List.getElem?_eq_some_iff.1 hx).1
  obtain ⟨g, e, _, _, hcell, _⟩ := H.store 1 (n := l.length) (a := q.a) (c := q.c) (xs := q.bs.map ptr) rfl (by omega)
  refine ⟨g, e, ?_⟩
  rw [hcell c (by omega), List.getElem?_map, hx]
  rfl

theorem reg_new {w0 w : World} {L : List Asr} (H : St w0 w L) : Calls Tryz.prog 143 #[] w (fun e w' => ∃ b, e = .returned (.pointer (some ⟨b, 0, none⟩)) ∧ St w0 w' (L ++ [regA b []])) := by
  have HB := Lib.hid (H.box0 #[.slice none 0 0] 243)
  clear H
  go_enter Tryz.func143, Tryz.ntmps143
  go_wp2_with fail
  go_ret
  refine ⟨w.heap.size, rfl, St.pack (regL w.heap.size []) ⟨none, 0, []⟩ ?_⟩
  have h1 := (HB.out.add (Keep.refl _ _) (A := slA 245 1 (.slice none 0 0) 0 []) (Own.nil _ _ _ _)).first
  have h2 := (h1.add (Keep.refl _ _) (A := pureA (([] : List Nat).length = ([] : List SlS).length)) rfl).first
  exact St.sel (P := [_, _, _]) (R := L) [2, 1, 0] h2 (by decide) rfl rfl
theorem reg_slot {w0 w : World} {R : List Asr} {b : Nat} {l : List SlS} {q : RgB} (H : St w0 w (regL b l q ++ R)) {c x : Nat} (hx : q.bs[c]? = some x) (hn : l.length ≤ 1000000) :
    Calls Tryz.prog 49 #[ptr b, .int .i64 (c : Nat)] w (Ret w (.tuple #[.pointer (some ⟨x, 0, none⟩), .int .i64 0])) := by
  have h0 := H.regCell
  obtain ⟨g, e, hcell⟩ := H.regRow hx
  rw [e] at h0
  have hl := H.regLen
  have hc := (List.getElem?_eq_some_iff.1 hx).1
  rw [hl] at hc
  obtain ⟨n, hN⟩ : ∃ n, l.length = n := ⟨_, rfl⟩
  rw [hN] at h0 hc hn
  have e0 : decide ((c : Int) < 0) = false := decide_eq_false (by omega)
  have e1 : decide ((c : Int) ≥ (n : Int)) = false := decide_eq_false (by omega)
  have e2 : decide (n ≤ c) = false := decide_eq_false (by omega)
  clear H hx hl hN e
  unfold ptr at *
  go_enter Tryz.func49, Tryz.ntmps49
  go_wp2_with fail
  go_ret2
  exact ⟨rfl, Keep.refl _ _⟩
end Go.Proofs.YtkiikblpgppmkaaGreatDoor

namespace Go.Proofs.YtkiikblpgppmkaaGreatDoor
open Go Go.RowKit
set_option linter.unusedVariables false
set_option linter.unusedSimpArgs false

theorem St.toMid {w0 w : World} {A : Asr} {P R : List Asr} (h : St w0 w (A :: (P ++ R))) : St w0 w (P ++ A :: R) := by
  refine h.pick (fun i => if i < P.length then i + 1 else if i = P.length then 0 else i) (fun i j hi hj e => ?_) (fun i B hi => ?_)
  · by_cases a1 : i < P.length <;> by_cases a2 : j < P.length <;> by_cases a3 : i = P.length <;> by_cases a4 : j = P.length <;> simp [a1, a2, a3, a4] at e <;> omega
  · by_cases a1 : i < P.length
    · rw [List.getElem?_append_left a1] at hi
      simp only [a1, if_true]
      rw [List.getElem?_cons_succ, List.getElem?_append_left a1]
      exact hi
    · by_cases a2 : i = P.length
      · subst a2
        simp at hi
        subst hi
        simp
      · obtain ⟨j, rfl⟩ : ∃ j, i = P.length + 1 + j := ⟨i - P.length - 1, by omega⟩
        simp only [a1, a2, if_false]
        rw [List.getElem?_append_right (by omega), show P.length + 1 + j - P.length = j + 1 by omega, List.getElem?_cons_succ] at hi
        rw [show P.length + 1 + j = (P.length + j) + 1 by omega, List.getElem?_cons_succ, List.getElem?_append_right (by omega), show P.length + j - P.length = j by omega]
        exact hi
theorem reg_snoc {w0 w : World} {R : List Asr} {b x n c : Nat} {a : Option Addr} {l : List SlS} {bs : List Nat} {s : SlS} (hl : bs.length = l.length) (hn : n = l.length + 1)
    (h : St w0 w ([blkA b #[.slice a n c] 243, slA 245 1 (.slice a n c) n (bs.map ptr ++ [ptr x])] ++ ([empA] ++ List.zipWith sloA bs l ++ R) ++ [sloA x s])) : St w0 w (regL b (l ++ [s]) ⟨a, c, bs ++ [x]⟩ ++ R) := by
  subst hn
  have h1 := h.first
  have h2 := h1.weaken 3 (B := pureA ((bs ++ [x]).length = (l ++ [s]).length)) rfl (fun G _ => by show (bs ++ [x]).length = (l ++ [s]).length; simp [hl])
  have h3 : St w0 w (sloA x s :: (([blkA b #[.slice a (l.length + 1) c] 243, slA 245 1 (.slice a (l.length + 1) c) (l.length + 1) (bs.map ptr ++ [ptr x]), pureA ((bs ++ [x]).length = (l ++ [s]).length)] ++ List.zipWith sloA bs l) ++ R)) := by
    simpa using h2
  have h4 := h3.toMid
  unfold regL
  rw [List.zipWith_append hl]
  simpa using h4
set_option maxHeartbeats 1000000 in
theorem reg_add {w0 w : World} {R : List Asr} {b : Nat} {l : List SlS} {q : RgB} (H : St w0 w (regL b l q ++ R)) (hn : l.length < 64) (kd var bd : Nat) (h : DescOk kd var bd) (f : Nat → VV) :
    Calls Tryz.prog 144 #[ptr b, .agg #[.int .i64 (kd : Nat), .int .i64 (var : Nat), .int .i64 (bd : Nat)]] w (fun e w' => e = .returned (.tuple #[.int .i64 (l.length : Nat), .int .i64 0]) ∧ ∃ q', St w0 w' (regL b (l ++ [newSl kd var bd f]) q' ++ R)) := by
  have hl := H.regLen
  obtain ⟨a, c, bs⟩ := q
  have HB := Lib.hid (H.box0 #[.int .i64 (kd : Nat), .int .i64 (var : Nat), .int .i64 (bd : Nat)] 60)
  have HN := Lib.hid (fun (w' : World) (L' : List Asr) (h' : St w0 w' L') => slo_new h' kd var bd h f)
  have HL := Lib.hid hl
  obtain ⟨n, hN⟩ : ∃ n, l.length = n := ⟨_, rfl⟩
  have HNN := Lib.hid hN
  rw [hN] at hn ⊢
  clear H h hl hN
  have e0 : decide ((n : Int) ≥ 64) = false := decide_eq_false (by omega)
  have e1 : decide (64 ≤ n) = false := decide_eq_false (by omega)
  unfold ptr at *
  go_enter Tryz.func144, Tryz.ntmps144
  go_upto_region 6 with (go_at_call 216; refine (HN.out _ _ HB.out).mono ?_; rintro e w1 ⟨x, rfl, h1⟩; have H1 := Lib.hid h1; clear h1 HB; have c0 : w1.cell? ⟨b, 0, none⟩ = some (.slice a n c) := (by rw [(H1.out.blk 1 rfl).cell]; show some (Value.slice a l.length c) = _; rw [HNN.out]))
  obtain ⟨G, hown, _, hup, _⟩ := H1.out.opens 2 rfl
  have HOwn := Lib.hid (show Own G w1 245 1 (.slice a n c) n (bs.map ptr) from HNN.out ▸ hown)
  have HUP := Lib.hid hup
  clear hown hup
  go_wp2_with (at_builtin; refine wpList_app (P := Tryz.prog) slRow rfl _ _ rfl (S := G) (S2 := fun z => z = w1.heap.size) (n := n) (xs := bs.map ptr) (m := 1) (news := [ptr x]) rfl rfl ?_ (Own.lit (S := fun z => z = w1.heap.size) w1 245 1 1 #[ptr x] (by decide) rfl rfl).rd rfl (by intro u hu; simp at hu; subst hu; rfl) (by omega) (by unfold maxLen; omega) ?_; (· exact HOwn.out.keep (T := Nope) ((Keep.refl w1 Nope).alloc _) (fun _ _ f => f)); rintro a' k' c' w5 happ; obtain ⟨z1, z2⟩ := app_up (wr := w1) ((Keep.refl w1 Nope).alloc _) happ; obtain rfl := happ.num; have h5 := HUP.out w5 _ z1 z2; have H5 := Lib.hid h5; clear happ z1 z2 h5; have k0 : w5.cell? ⟨b, 0, none⟩ = some (.slice a l.length c) := (by rw [(H5.out.blk 1 rfl).cell]; rfl); have y0 := (H5.out.blk 1 rfl).frozen 0; have H6 := Lib.hid (H5.out.write 1 rfl 0 (.slice a' (n + 1) c')); have k9 : (w5.setCell ⟨b, 0, none⟩ (.slice a' (n + 1) c')).cell? ⟨b, 0, none⟩ = some (.slice a' (n + 1) c') := (by rw [(H6.out.blk 1 rfl).cell]; rfl))
  go_ret2
  refine ⟨by go_num, ⟨a', c', bs ++ [x]⟩, reg_snoc HL.out (by rw [HNN.out]) ?_⟩
  have h2 : St w0 (w5.setCell ⟨b, 0, none⟩ (.slice a' (n + 1) c')) ([blkA b #[.slice a' (n + 1) c'] 243, slA 245 1 (.slice a' (n + 1) c') (n + 1) (bs.map ptr ++ [ptr x])] ++ ([empA] ++ List.zipWith sloA bs l ++ R) ++ [sloA x (newSl kd var bd f)]) := by
    have h3 := H6.out.rest.empty 2
    unfold regL at h3
    simpa using h3
  exact h2
end Go.Proofs.YtkiikblpgppmkaaGreatDoor

namespace Go.Proofs.YtkiikblpgppmkaaGreatDoor
open Go Go.RowKit
set_option linter.unusedVariables false
set_option linter.unusedSimpArgs false

theorem slIn : SlTy Tryz.prog 22 3 1 8 := SlTy.mk' (.int .i64 0) Tryz.underlying22 (by kernel_rfl) rfl (by decide)
/-- Whether a component has an index; the components that have it. -/
def hasS (l : List SlS) (c k : Nat) : Bool := (l[c]?.map (fun s => s.m.testBit k)).getD false
def ofTo (l : List SlS) (k j : Nat) : List Nat := (List.range j).filter (fun c => hasS l c k)
def ofL (l : List SlS) (k : Nat) : List Nat := ofTo l k l.length
def intsN (l : List Nat) : List Value := l.map (fun n : Nat => .int .i64 (n : Int))
theorem intsN_len (l : List Nat) : (intsN l).length = l.length := by simp [intsN]
theorem ofTo_succ (l : List SlS) (k j : Nat) : ofTo l k (j + 1) = if hasS l j k then ofTo l k j ++ [j] else ofTo l k j := by
  unfold ofTo
  rw [List.range_succ, List.filter_append]
  cases h : hasS l j k <;> simp [h]
theorem ofTo_len (l : List SlS) (k j : Nat) : (ofTo l k j).length ≤ j := by
  have := List.length_filter_le (fun c => hasS l c k) (List.range j)
  simpa [ofTo] using this
def LoopOf (w : World) (l : List SlS) (k : Nat) (g : Nat) (v5 v15 : Value) (wr : World) : Prop :=
  ∃ (j n : Nat) (a5 : Option Addr) (c5 : Nat), g + j = l.length ∧ v15 = .int .i64 (j : Nat) ∧ v5 = .slice a5 n c5 ∧ n = (ofTo l k j).length ∧ St w wr [slA 3 1 (.slice a5 n c5) n (intsN (ofTo l k j))]
set_option maxHeartbeats 2000000 in
set_option maxRecDepth 100000 in
theorem reg_of {w0 w : World} {R : List Asr} {b : Nat} {l : List SlS} {q : RgB} (H : St w0 w (regL b l q ++ R)) (hs : ∀ s, s ∈ l → VarOk s.var ∧ s.m < 2 ^ 64) (hn : l.length ≤ 64) (k : Nat) (hk : k < 64) :
    Calls Tryz.prog 198 #[ptr b, .int .i64 (k : Nat)] w (fun e w' => ∃ a5 c5, e = .returned (.slice a5 (ofL l k).length c5) ∧ St w w' [slA 3 1 (.slice a5 (ofL l k).length c5) (ofL l k).length (intsN (ofL l k))]) := by
  have c0 := H.regCell
  have HH := Lib.hid H
  have HS := Lib.hid hs
  obtain ⟨qa, qc, bs⟩ := q
  obtain ⟨n, hN⟩ : ∃ n, l.length = n := ⟨_, rfl⟩
  have HNN := Lib.hid hN
  rw [hN] at c0 hn
  simp only at c0
  clear H hs hN
  unfold ptr at *
  go_enter Tryz.func198, Tryz.ntmps198
  go_wp2_with fail
  go_loopg [5, 15] n (fun g v5 v15 wr => LoopOf w l k g v5 v15 wr)
  case atStart => exact ⟨0, 0, none, 0, by rw [HNN.out]; rfl, rfl, rfl, rfl, (St.start w).add (Keep.refl _ _) (A := slA 3 1 (.slice none 0 0) 0 []) (Own.nil _ _ _ _)⟩
  case round =>
    obtain ⟨j, m, a5, c5, hg, rfl, rfl, hm, hst⟩ := hrel
    have HG := Lib.hid hg
    have HM := Lib.hid hm
    have HST := Lib.hid hst
    have hmb : m ≤ 64 := by have := ofTo_len l k j; have := HNN.out; omega
    have hjn : j ≤ n := by have := HNN.out; omega
    clear hg hm hst
    by_cases hlt : j < n
    · have HW := Lib.hid (HH.out.keep (Keep.ofSt HST.out))
      have hbl := HH.out.regLen
      obtain ⟨x, hx⟩ : ∃ x, bs[j]? = some x := ⟨_, List.getElem?_eq_getElem (by have := HNN.out; simp at hbl; omega)⟩
      obtain ⟨s, hsj⟩ : ∃ s, l[j]? = some s := ⟨_, List.getElem?_eq_getElem (by have := HNN.out; omega)⟩
      obtain ⟨g, hga, hrow⟩ := HW.out.regRow hx
      simp only at hga
      subst hga
      obtain ⟨p, H1⟩ := HW.out.regOpen hx hsj
      obtain ⟨hsv, hsm⟩ := HS.out s (List.mem_of_getElem? hsj)
      obtain ⟨hmm, hmc⟩ := pl_mget hsv p.p
      have HSt := Lib.hid (show hasS l j k = s.m.testBit k by unfold hasS; rw [hsj]; rfl)
      have hA := (H1.alloc (.cells #[.pointer (some ⟨x, 0, none⟩)] 245))
      have HGet := Lib.hid (pl_get hA 1 rfl hsv hsm k hk)
      have hc0 : (wr.alloc (.cells #[.pointer (some ⟨x, 0, none⟩)] 245)).cell? ⟨x, 0, none⟩ = some (.iface (plT s.var) (plR s.var p.p)) := by rw [(hA.blk 0 rfl).cell]; rfl
      obtain ⟨T, hT⟩ : ∃ T, plT s.var = T := ⟨_, rfl⟩
      obtain ⟨rv, hrv⟩ : ∃ r, plR s.var p.p = r := ⟨_, rfl⟩
      obtain ⟨fn, hfn⟩ : ∃ f, plGet s.var = f := ⟨_, rfl⟩
      obtain ⟨t, ht⟩ : ∃ t, s.m.testBit k = t := ⟨_, rfl⟩
      obtain ⟨⟨hk1, ha1, hb1⟩, hh⟩ : ∃ h, hadV s.m s.f k = h := ⟨_, rfl⟩
      rw [hT, hrv, hfn] at hmm
      rw [hfn] at hmc
      rw [hrv, hfn, ht, hh] at HGet
      rw [hT, hrv] at hc0
      rw [ht] at HSt
      unfold VV.val at HGet
      simp only at HGet
      unfold ptr at hrow
      clear hx hsj H1 hA hT hrv hfn ht hh hsv hsm hbl HW
      go_upto_region 6 with (refine HGet.out.mono ?_; rintro e w2 ⟨rfl, hk2⟩; have HST2 := Lib.hid ((HST.out.alloc (.cells #[.pointer (some ⟨x, 0, none⟩)] 245)).keep hk2); clear hk2 HGet hmm hmc hc0 HST)
      have HST3 := Lib.hid (HST2.out.alloc (.cells #[.int .i64 hk1, .int .i64 ha1, .int .i64 hb1] 34))
      obtain ⟨w3, hw3⟩ : ∃ x, w2.alloc (.cells #[.int .i64 hk1, .int .i64 ha1, .int .i64 hb1] 34) = x := ⟨_, rfl⟩
      rw [hw3] at HST3 ⊢
      clear hw3 HST2
      cases t
      · go_wp2_with fail
        go_roundg (n - (j + 1))
        case measure => have := HG.out; have := HNN.out; omega
        case rel => exact ⟨j + 1, m, a5, c5, by have := HG.out; have := HNN.out; omega, by go_num, rfl, by rw [ofTo_succ, HSt.out]; exact HM.out, by rw [ofTo_succ, HSt.out]; exact HST3.out⟩
      · obtain ⟨G, hown, _, hup, _⟩ := HST3.out.opens 0 rfl
        have HOwn := Lib.hid (show Own G w3 3 1 (.slice a5 m c5) m (intsN (ofTo l k j)) from hown)
        have HUP := Lib.hid hup
        clear hown hup
        go_wp2_with (at_builtin; refine wpList_app (P := Tryz.prog) slIn rfl _ _ rfl (S := G) (S2 := fun z => z = w3.heap.size) (n := m) (xs := intsN (ofTo l k j)) (m := 1) (news := ints [(j : Int)]) rfl rfl ?_ (rd_lit1 w3 (j : Int)) rfl (by intro u hu; simp [ints] at hu; subst hu; rfl) (by omega) (by unfold maxLen; omega) ?_; (· exact HOwn.out.keep (T := Nope) ((Keep.refl w3 Nope).alloc _) (fun _ _ f => f)); rintro a' k' c' w5 happ; obtain ⟨z1, z2⟩ := app_up (wr := w3) ((Keep.refl w3 Nope).alloc _) happ; obtain rfl := happ.num; have h5 := HUP.out w5 _ z1 z2; have H5 := Lib.hid h5; clear happ z1 z2 h5)
        go_roundg (n - (j + 1))
        case measure => have := HG.out; have := HNN.out; omega
        case rel =>
          refine ⟨j + 1, m + 1, a', c', by have := HG.out; have := HNN.out; omega, by go_num, rfl, by rw [ofTo_succ, HSt.out]; simp; exact HM.out, ?_⟩
          rw [ofTo_succ, HSt.out]
          simp only [if_true]
          have e : intsN (ofTo l k j ++ [j]) = intsN (ofTo l k j) ++ ints [(j : Int)] := by simp [intsN, ints]
          rw [e]
          exact H5.out
    · have hjn2 : j = n := by omega
      subst hjn2
      go_wp2_with fail
      go_ret
      unfold ofL
      rw [HNN.out, ← HM.out]
      exact ⟨a5, c5, rfl, HST.out⟩
end Go.Proofs.YtkiikblpgppmkaaGreatDoor
