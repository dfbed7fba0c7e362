/-
  The package alloc: give where none is free; Create, Raise; The package alloc: Delete; The package alloc: all, Merge; The package alloc: Merge.
-/
import Derived.Test.YtkiikblpgppmkaaGreatDoorTlM10
import Derived.Test.YtkiikblpgppmkaaGreatDoorTlM02
namespace Go.Proofs.YtkiikblpgppmkaaGreatDoor
open Go Go.RowKit
set_option linter.unusedVariables false
set_option linter.unusedSimpArgs false

/-- The claim that stands first is put last. -/
theorem St.last {w0 w : World} {L : List Asr} {A : Asr} (h : St w0 w (A :: L)) : St w0 w (L ++ [A]) := by
  refine h.pick (fun i => if i = L.length then 0 else i + 1) (fun i j hi hj e => ?_) (fun i B hi => ?_)
  · simp at hi hj
    by_cases h1 : i = L.length <;> by_cases h2 : j = L.length <;> simp [h1, h2] at e <;> omega
  · by_cases h1 : i = L.length
    · subst h1
      simp at hi
      subst hi
      simp
    · have hl := (List.getElem?_eq_some_iff.1 hi).1
      simp at hl
      rw [List.getElem?_append_left (by omega)] at hi
      simp [h1]
      exact hi
/-- The error of a give where no index is free. -/
def AlS.noE (a : AlS) : Int := if pop a.live + pop a.raised = 0 then 7 else 6
set_option maxHeartbeats 1000000 in
theorem al_give_no {b tb : Nat} {a : AlS} {p : AlB} {w : World} (hR : RdAlP w b a p) (hT : Tab w) (hk : firstW a.free 0 = -1) :
    Calls Tryz.prog 75 #[ptr b, ptr tb] w (Ret w (.tuple #[hdV 0 0, .int .i64 a.noE])) := by
  have hk0 := (show Keep w (w.alloc (.cells #[.int .i64 0, .int .i64 0] 45)) Nope from (Keep.refl w Nope).alloc _)
  have HN := Lib.hid (hib_next p.f a.free 0 (by omega) _ (hT.keep hk0 (fun f => f)) (hR.f.keep hk0))
  rw [hk] at HN
  have HLl := Lib.hid (fun w' => hib_len p.l a.live w')
  have HLr := Lib.hid (fun w' => hib_len p.r a.raised w')
  have HR := Lib.hid hR
  have hc0 := hk0.cell hR.cells.1 (fun f => f)
  have HE := Lib.hid (show a.noE = if pop a.live + pop a.raised = 0 then 7 else 6 from rfl)
  obtain ⟨s, hs⟩ : ∃ s, a.noE = s := ⟨_, rfl⟩
  have hp1 := pop_le a.live
  have hp2 := pop_le a.raised
  obtain ⟨n1, hn1⟩ : ∃ n, pop a.live = n := ⟨_, rfl⟩
  obtain ⟨n2, hn2⟩ : ∃ n, pop a.raised = n := ⟨_, rfl⟩
  rw [hs] at HE ⊢
  rw [hn1] at HE HLl hp1
  rw [hn2] at HE HLr hp2
  clear hR hT hk hk0 hs hn1 hn2
  unfold ptr hdV at *
  go_enter Tryz.func75, Tryz.ntmps75
  go_wp2_with (go_at_call 146; refine HN.out.mono ?_; rintro e w1 ⟨rfl, hk1⟩; have HK1 := Lib.hid (((Keep.refl w Nope).alloc _).trans hk1 (fun _ f => f.elim)); have HBR := Lib.hid ((Blk.new w #[.int .i64 0, .int .i64 0] 45).keep hk1 (fun f => f)); clear hk1 HN hc0)
  have c1 := HK1.out.cell HR.out.cells.2.1 (fun f => f)
  have c2 := HK1.out.cell HR.out.cells.2.2.1 (fun f => f)
  refine wp_region_held_drew (S := fun w' => w'.cell? ⟨b, 1, none⟩ = some (.pointer (some ⟨p.l, 0, none⟩)) ∧ w'.cell? ⟨b, 2, none⟩ = some (.pointer (some ⟨p.r, 0, none⟩))) (by kernel_rfl) ?_ (fun hHeld => ?_)
  · (try dsimp only); exact ⟨c1, c2⟩
  refine tkW 0 ?_; refine tkW 1 ?_; refine tkW 2 ?_; refine tkW 3 ?_; refine tkW 4 ?_; refine tkW 6 ?_; refine tkW 7 ?_; refine tkW 8 ?_; refine tkW 9 ?_; refine tkW 10 ?_
  refine wpAnyH_ready (rs := [5]) (by kernel_rfl) (by simp) ?_
  refine AllReadyH.cons rfl (fun K hK => ?_) (AllReadyH.nil)
  go_simp
  go_wp2_with ((go_at_call 147; refine (HLl.out _ (HR.out.l.keep (HK1.out.trans (show Keep w1 _ Nope from (by (repeat (first | exact Keep.refl _ _ | apply Keep.drew | apply Keep.drewN | apply Keep.alloc)))) (fun _ f => f.elim)))).mono ?_; rintro e w' ⟨rfl, rfl⟩))
  refine hK.out _ _ ?_ (fun hHeld => ?_)
  · (try dsimp only); exact ⟨c1, c2⟩
  clear hK K
  refine wpAnyH_ready (rs := [11]) (by kernel_rfl) (by simp) ?_
  refine AllReadyH.cons rfl (fun K hK => ?_) (AllReadyH.nil)
  go_simp
  go_wp2_with ((go_at_call 147; refine (HLr.out _ (HR.out.r.keep (HK1.out.trans (show Keep w1 _ Nope from (by (repeat (first | exact Keep.refl _ _ | apply Keep.drew | apply Keep.drewN | apply Keep.alloc)))) (fun _ f => f.elim)))).mono ?_; rintro e w' ⟨rfl, rfl⟩))
  refine hK.out _ _ ?_ (fun hHeld => ?_)
  · (try dsimp only); exact ⟨c1, c2⟩
  clear hK K
  refine tkW 12 ?_; refine tkW 13 ?_; refine tkW 14 ?_
  refine wpAnyH_done (by kernel_rfl) ?_ _
  rw [IntWalk.i64_in ((n1 : Int) + n2) (by omega)]
  have hbr : Blk w1.drew w.heap.size #[.int .i64 0, .int .i64 0] 45 := HBR.out
  have hkk := HK1.out.drew
  obtain ⟨w2, hw2⟩ : ∃ x, w1.drew = x := ⟨_, rfl⟩
  rw [hw2] at hbr hkk ⊢
  obtain ⟨z0, z1, y0, y1⟩ := hbr.two
  obtain ⟨q0, q1, _, _⟩ := (hbr.set2 (.int .i64 0) (.int .i64 0)).two
  have HF := Lib.hid (show Keep w ((w2.setCell ⟨w.heap.size, 0, none⟩ (.int .i64 0)).setCell ⟨w.heap.size, 1, none⟩ (.int .i64 0)) Nope from (hkk.setCell (p := ⟨w.heap.size, 0, none⟩) (.inr (Nat.le_refl _)) _).setCell (p := ⟨w.heap.size, 1, none⟩) (.inr (Nat.le_refl _)) _)
  clear hw2 hkk
  clear hHeld hbr c1 c2
  by_cases h0 : n1 + n2 = 0
  · obtain ⟨rfl, rfl⟩ : n1 = 0 ∧ n2 = 0 := by omega
    obtain rfl : s = 7 := by rw [HE.out]; rfl
    go_wp2_with fail
    refine bodyPost_ret (v := .tuple #[.agg #[.int .i64 0, .int .i64 0], .int .i64 7]) (by simp [results, Tryz.results75, go_sem, q0, q1]) rfl ⟨rfl, HF.out⟩
  · have e0 : decide ((0 : Int) < (n1 : Int) + (n2 : Int)) = true := decide_eq_true (by omega)
    have e5 : decide (0 < n1 + n2) = true := decide_eq_true (by omega)
    obtain rfl : s = 6 := by rw [HE.out, if_neg h0]
    go_wp2_with fail
    refine bodyPost_ret (v := .tuple #[.agg #[.int .i64 0, .int .i64 0], .int .i64 6]) (by simp [results, Tryz.results75, go_sem, q0, q1]) rfl ⟨rfl, HF.out⟩

theorem al_create {w0 w : World} {L : List Asr} {b : Nat} {a : AlS} (H : St w0 w L) (i : Nat) (hi : L[i]? = some (alA b a)) (hT : Tab w0) (ha : a.Ok) (k : Nat) (hk : firstW a.free 0 = (k : Int)) :
    Calls Tryz.prog 51 #[ptr b] w (fun e w' => e = .returned (.tuple #[hdV k ((a.gen k + 1 : Nat) : Int), .int .i64 0]) ∧ St w0 w' (L.set i (alA b (a.made k)))) := by
  have hil := (List.getElem?_eq_some_iff.1 hi).1
  obtain ⟨p, H1⟩ := H.exSplit i hi
  have HB := Lib.hid (show St w0 (w.alloc (.cells #[.int .i64 0, .int .i64 0] 45)) (blkA w.heap.size #[.int .i64 0, .int .i64 0] 45 :: (alL b a p ++ L.set i empA)) from H1.box0 _ _)
  have HG := Lib.hid (fun (w1 : World) (h : St w0 w1 (alL b a p ++ (L.set i empA ++ [blkA w.heap.size #[.int .i64 0, .int .i64 0] 45]))) => al_give_live h hT ha k hk)
  have hc := (HB.out.rest.alP ha).cells.2.1
  have HIL := Lib.hid hil
  obtain ⟨v, hv⟩ : ∃ v : Int, ((a.gen k + 1 : Nat) : Int) = v := ⟨_, rfl⟩
  rw [hv] at HG ⊢
  clear hv
  clear H hi hT ha hk H1 hil
  unfold ptr hdV at *
  have HL := Lib.hid (show St w0 (w.alloc (.cells #[.int .i64 0, .int .i64 0] 45)) (alL b a p ++ (L.set i empA ++ [blkA w.heap.size #[.int .i64 0, .int .i64 0] 45])) from by rw [← List.append_assoc]; exact HB.out.last)
  go_enter Tryz.func51, Tryz.ntmps51
  go_wp2_with (go_at_call 75; refine (HG.out _ HL.out).mono ?_; rintro e w1 ⟨rfl, h1⟩; have H1 := Lib.hid (show St w0 w1 (blkA w.heap.size #[.int .i64 0, .int .i64 0] 45 :: (alL b (a.made k) p ++ L.set i empA)) from (by rw [← List.append_assoc] at h1; exact h1.first)); clear h1; obtain ⟨z0, z1, y0, y1⟩ := (H1.out.blk 0 rfl).two)
  obtain ⟨e0, e1, _, _⟩ := ((H1.out.blk 0 rfl).set2 (.int .i64 (k : Nat)) (.int .i64 v)).two
  have HF := Lib.hid (((H1.out.write 0 rfl 0 (.int .i64 (k : Nat))).write 0 rfl 1 (.int .i64 v)).rest)
  clear z0 z1 y0 y1
  refine bodyPost_ret (v := .tuple #[.agg #[.int .i64 (k : Nat), .int .i64 v], .int .i64 0]) (by simp [results, Tryz.results51, go_sem, e0, e1]) rfl ⟨rfl, ?_⟩
  exact St.exJoin (alL b (a.made k)) p i HIL.out HF.out
theorem al_create_no {b : Nat} {a : AlS} {w : World} (hR : RdAl w b a) (hT : Tab w) (hk : firstW a.free 0 = -1) :
    Calls Tryz.prog 51 #[ptr b] w (Ret w (.tuple #[hdV 0 0, .int .i64 a.noE])) := by
  obtain ⟨p, hR⟩ := hR
  have hk0 := (show Keep w (w.alloc (.cells #[.int .i64 0, .int .i64 0] 45)) Nope from (Keep.refl w Nope).alloc _)
  have HG := Lib.hid (al_give_no (tb := p.l) (hR.keep hk0) (hT.keep hk0 (fun f => f)) hk)
  have hc := hk0.cell hR.cells.2.1 (fun f => f)
  obtain ⟨s, hs⟩ : ∃ s, a.noE = s := ⟨_, rfl⟩
  rw [hs] at HG ⊢
  clear hk0 hR hT hk hs
  unfold ptr hdV at *
  go_enter Tryz.func51, Tryz.ntmps51
  go_wp2_with (go_at_call 75; refine (HG.out).mono ?_; rintro e w1 ⟨rfl, hk1⟩; have HK1 := Lib.hid (((Keep.refl w Nope).alloc _).trans hk1 (fun _ f => f.elim)); have HBR := Lib.hid ((Blk.new w #[.int .i64 0, .int .i64 0] 45).keep hk1 (fun f => f)); clear hk1; obtain ⟨z0, z1, y0, y1⟩ := HBR.out.two)
  obtain ⟨q0, q1, _, _⟩ := (HBR.out.set2 (.int .i64 0) (.int .i64 0)).two
  have HF := Lib.hid (show Keep w ((w1.setCell ⟨w.heap.size, 0, none⟩ (.int .i64 0)).setCell ⟨w.heap.size, 1, none⟩ (.int .i64 0)) Nope from (HK1.out.setCell (p := ⟨w.heap.size, 0, none⟩) (.inr (Nat.le_refl _)) _).setCell (p := ⟨w.heap.size, 1, none⟩) (.inr (Nat.le_refl _)) _)
  refine bodyPost_ret (v := .tuple #[.agg #[.int .i64 0, .int .i64 0], .int .i64 s]) (by simp [results, Tryz.results51, go_sem, q0, q1]) rfl ⟨rfl, HF.out⟩

theorem al_raise {w0 w : World} {L : List Asr} {b : Nat} {a : AlS} (H : St w0 w L) (i : Nat) (hi : L[i]? = some (alA b a)) (hT : Tab w0) (ha : a.Ok) (k : Nat) (hk : firstW a.free 0 = (k : Int)) :
    Calls Tryz.prog 33 #[ptr b] w (fun e w' => e = .returned (.tuple #[hdV k ((a.gen k + 1 : Nat) : Int), .int .i64 0]) ∧ St w0 w' (L.set i (alA b (a.rose k)))) := by
  have hil := (List.getElem?_eq_some_iff.1 hi).1
  obtain ⟨p, H1⟩ := H.exSplit i hi
  have HB := Lib.hid (show St w0 (w.alloc (.cells #[.int .i64 0, .int .i64 0] 45)) (blkA w.heap.size #[.int .i64 0, .int .i64 0] 45 :: (alL b a p ++ L.set i empA)) from H1.box0 _ _)
  have HG := Lib.hid (fun (w1 : World) (h : St w0 w1 (alL b a p ++ (L.set i empA ++ [blkA w.heap.size #[.int .i64 0, .int .i64 0] 45]))) => al_give_raised h hT ha k hk)
  have hc := (HB.out.rest.alP ha).cells.2.2.1
  have HIL := Lib.hid hil
  obtain ⟨v, hv⟩ : ∃ v : Int, ((a.gen k + 1 : Nat) : Int) = v := ⟨_, rfl⟩
  rw [hv] at HG ⊢
  clear hv
  clear H hi hT ha hk H1 hil
  unfold ptr hdV at *
  have HL := Lib.hid (show St w0 (w.alloc (.cells #[.int .i64 0, .int .i64 0] 45)) (alL b a p ++ (L.set i empA ++ [blkA w.heap.size #[.int .i64 0, .int .i64 0] 45])) from by rw [← List.append_assoc]; exact HB.out.last)
  go_enter Tryz.func33, Tryz.ntmps33
  go_wp2_with (go_at_call 75; refine (HG.out _ HL.out).mono ?_; rintro e w1 ⟨rfl, h1⟩; have H1 := Lib.hid (show St w0 w1 (blkA w.heap.size #[.int .i64 0, .int .i64 0] 45 :: (alL b (a.rose k) p ++ L.set i empA)) from (by rw [← List.append_assoc] at h1; exact h1.first)); clear h1; obtain ⟨z0, z1, y0, y1⟩ := (H1.out.blk 0 rfl).two)
  obtain ⟨e0, e1, _, _⟩ := ((H1.out.blk 0 rfl).set2 (.int .i64 (k : Nat)) (.int .i64 v)).two
  have HF := Lib.hid (((H1.out.write 0 rfl 0 (.int .i64 (k : Nat))).write 0 rfl 1 (.int .i64 v)).rest)
  clear z0 z1 y0 y1
  refine bodyPost_ret (v := .tuple #[.agg #[.int .i64 (k : Nat), .int .i64 v], .int .i64 0]) (by simp [results, Tryz.results33, go_sem, e0, e1]) rfl ⟨rfl, ?_⟩
  exact St.exJoin (alL b (a.rose k)) p i HIL.out HF.out
theorem al_raise_no {b : Nat} {a : AlS} {w : World} (hR : RdAl w b a) (hT : Tab w) (hk : firstW a.free 0 = -1) :
    Calls Tryz.prog 33 #[ptr b] w (Ret w (.tuple #[hdV 0 0, .int .i64 a.noE])) := by
  obtain ⟨p, hR⟩ := hR
  have hk0 := (show Keep w (w.alloc (.cells #[.int .i64 0, .int .i64 0] 45)) Nope from (Keep.refl w Nope).alloc _)
  have HG := Lib.hid (al_give_no (tb := p.r) (hR.keep hk0) (hT.keep hk0 (fun f => f)) hk)
  have hc := hk0.cell hR.cells.2.2.1 (fun f => f)
  obtain ⟨s, hs⟩ : ∃ s, a.noE = s := ⟨_, rfl⟩
  rw [hs] at HG ⊢
  clear hk0 hR hT hk hs
  unfold ptr hdV at *
  go_enter Tryz.func33, Tryz.ntmps33
  go_wp2_with (go_at_call 75; refine (HG.out).mono ?_; rintro e w1 ⟨rfl, hk1⟩; have HK1 := Lib.hid (((Keep.refl w Nope).alloc _).trans hk1 (fun _ f => f.elim)); have HBR := Lib.hid ((Blk.new w #[.int .i64 0, .int .i64 0] 45).keep hk1 (fun f => f)); clear hk1; obtain ⟨z0, z1, y0, y1⟩ := HBR.out.two)
  obtain ⟨q0, q1, _, _⟩ := (HBR.out.set2 (.int .i64 0) (.int .i64 0)).two
  have HF := Lib.hid (show Keep w ((w1.setCell ⟨w.heap.size, 0, none⟩ (.int .i64 0)).setCell ⟨w.heap.size, 1, none⟩ (.int .i64 0)) Nope from (HK1.out.setCell (p := ⟨w.heap.size, 0, none⟩) (.inr (Nat.le_refl _)) _).setCell (p := ⟨w.heap.size, 1, none⟩) (.inr (Nat.le_refl _)) _)
  refine bodyPost_ret (v := .tuple #[.agg #[.int .i64 0, .int .i64 0], .int .i64 s]) (by simp [results, Tryz.results33, go_sem, q0, q1]) rfl ⟨rfl, HF.out⟩
end Go.Proofs.YtkiikblpgppmkaaGreatDoor

namespace Go.Proofs.YtkiikblpgppmkaaGreatDoor
open Go Go.RowKit
set_option linter.unusedVariables false
set_option linter.unusedSimpArgs false

theorem AlS.st_live {a : AlS} {i g : Int} (h : a.st i g = 1) : ∃ k : Nat, i = k ∧ k < a.gens.length ∧ ((a.gen k : Nat) : Int) = g ∧ a.live.testBit k = true := by
  unfold AlS.st at h
  split at h
  · rename_i hc
    refine ⟨i.toNat, by omega, by omega, hc.2.2, ?_⟩
    split at h
    · assumption
    · split at h <;> cases h
  · cases h
set_option maxHeartbeats 1000000 in
theorem al_delete {w0 w : World} {L : List Asr} {b : Nat} {a : AlS} (H : St w0 w L) (i : Nat) (hi : L[i]? = some (alA b a)) (ha : a.Ok) (hr : a.ret ≤ 1000000) (k : Nat) (hs : a.st k (a.gen k : Nat) = 1) :
    Calls Tryz.prog 116 #[ptr b, hdV k (a.gen k : Nat)] w (fun e w' => e = .returned (.int .i64 0) ∧ St w0 w' (L.set i (alA b (a.took k (a.gen k : Nat))))) := by
  obtain ⟨k', ek, hkl, _, hlb⟩ := AlS.st_live hs
  obtain rfl : k' = k := by omega
  have hil := (List.getElem?_eq_some_iff.1 hi).1
  have hl64 := ha.len
  have htop := ha.top
  have hgt := ha.gens k'
  have HIL := Lib.hid hil
  have hRd := H.alRd i hi ha
  have hk0 := (show Keep w (w.alloc (.cells #[.int .i64 k', .int .i64 (a.gen k' : Nat)] 45)) Nope from (Keep.refl w Nope).alloc _)
  have HS := Lib.hid (al_state b a k' (a.gen k' : Nat) ha _ (hRd.keep hk0))
  rw [hs] at HS
  obtain ⟨p, H1⟩ := H.exSplit i hi
  have HB := Lib.hid (show St w0 (w.alloc (.cells #[.int .i64 k', .int .i64 (a.gen k' : Nat)] 45)) (blkA w.heap.size #[.int .i64 k', .int .i64 (a.gen k' : Nat)] 45 :: (alL b a p ++ L.set i empA)) from H1.box0 _ _)
  have HA := Lib.hid ha
  have HTK := Lib.hid (show a.took k' (a.gen k' : Nat) = if a.top ≤ a.gen k' then { a with live := delW a.live k', ret := a.ret + 1 } else { a with live := delW a.live k', free := addW a.free k' } by
    unfold AlS.took
    by_cases e : a.top ≤ a.gen k'
    · rw [if_pos e, if_pos (by omega)]
    · rw [if_neg e, if_neg (by omega)])
  obtain ⟨g, hg⟩ : ∃ g, a.gen k' = g := ⟨_, rfl⟩
  obtain ⟨tk, htk⟩ : ∃ t, a.took k' (a.gen k' : Nat) = t := ⟨_, rfl⟩
  rw [htk] at HTK ⊢
  rw [hg] at HS HB HTK hgt ⊢
  clear H hi ha hs hRd hk0 H1 hil hlb ek htk hg
  unfold ptr hdV at *
  go_enter Tryz.func116, Tryz.ntmps116
  go_wp2_with (go_at_call 62; refine HS.out.mono ?_; rintro e w1 ⟨rfl, hk1⟩; have HB1 := Lib.hid (HB.out.keep hk1); clear hk1 HS HB)
  have c1 : w1.cell? ⟨b, 1, none⟩ = some (.pointer (some ⟨p.l, 0, none⟩)) := by rw [(HB1.out.blk 1 rfl).cell]; rfl
  have x0 : w1.cell? ⟨w.heap.size, 0, none⟩ = some (.int .i64 k') := by rw [(HB1.out.blk 0 rfl).cell]; rfl
  refine wp_region_M (r := 7) (S := fun w' => w'.cell? ⟨b, 1, none⟩ = some (.pointer (some ⟨p.l, 0, none⟩)) ∧ w'.cell? ⟨w.heap.size, 0, none⟩ = some (.int .i64 k')) (by kernel_rfl) ?_ (fun hHeld => ?_)
  · (try dsimp only); exact ⟨c1, x0⟩
  refine tkP 0 ?_; refine tkP 1 ?_; refine tkP 2 ?_; refine tkP 3 ?_; refine tkH 4 ?_; refine tkP 5 ?_; refine tkH 6 ?_; refine tkF 7 ?_
  intro K hK
  go_simp
  go_wp2_with ((go_at_call 148; refine (hib_remove HB1.out.drew 3 rfl HA.out.l64 k' (by omega)).mono ?_; rintro e w2 ⟨rfl, h2⟩; have HB2 := Lib.hid (show St w0 w2 (blkA w.heap.size #[.int .i64 k', .int .i64 g] 45 :: ([blkA b (alCs a p) 190, hibA p.f a.free, hibA p.l (delW a.live k'), hibA p.r a.raised, slA 2 1 (.slice (some ⟨p.g, 0, none⟩) a.gens.length p.c) a.gens.length (gensV a.gens)] ++ L.set i empA)) from h2); clear h2 HB1))
  refine hK.out _ _ ?_
  clear hK K
  refine wpAnyM_done (by kernel_rfl) ?_ _
  clear hHeld c1 x0
  have x1 : w2.cell? ⟨w.heap.size, 1, none⟩ = some (.int .i64 g) := by rw [(HB2.out.blk 0 rfl).cell]; rfl
  have c3 : w2.cell? ⟨b, 3, none⟩ = some (.int .i64 (a.top : Nat)) := by rw [(HB2.out.blk 1 rfl).cell]; rfl
  by_cases e : a.top ≤ g
  · have e1 : decide ((g : Int) ≥ (a.top : Int)) = true := decide_eq_true (by omega)
    have e2 : decide (a.top ≤ g) = true := decide_eq_true e
    have HE := Lib.hid (HTK.out.trans (if_pos e))
    clear HTK
    go_wp2_with fail
    go_quiet (fail)
    have HB3 := Lib.hid (HB2.out.drewN nq)
    obtain ⟨w3, hw3⟩ : ∃ x, w2.drewN nq = x := ⟨_, rfl⟩
    rw [hw3] at HB3 ⊢
    have c5 : w3.cell? ⟨b, 5, none⟩ = some (.int .i64 (a.ret : Nat)) := by rw [(HB3.out.blk 1 rfl).cell]; rfl
    have y5 := (HB3.out.blk 1 rfl).frozen 5
    clear hw3 x1 c3 HB2
    go_wp2_with fail
    have HF := Lib.hid (HB3.out.write 1 rfl 5 (.int .i64 ((a.ret + 1 : Nat) : Int))).rest
    go_ret
    refine ⟨rfl, ?_⟩
    rw [HE.out]
    exact St.exJoin (alL b { a with live := delW a.live k', ret := a.ret + 1 }) p i HIL.out HF.out
  · have e1 : decide ((g : Int) ≥ (a.top : Int)) = false := decide_eq_false (by omega)
    have e2 : decide (a.top ≤ g) = false := decide_eq_false e
    have HE := Lib.hid (HTK.out.trans (if_neg e))
    clear HTK
    go_wp2_with fail
    go_quiet (fail)
    have HB3 := Lib.hid (HB2.out.drewN nq)
    obtain ⟨w3, hw3⟩ : ∃ x, w2.drewN nq = x := ⟨_, rfl⟩
    rw [hw3] at HB3 ⊢
    have c0 : w3.cell? ⟨b, 0, none⟩ = some (.pointer (some ⟨p.f, 0, none⟩)) := by rw [(HB3.out.blk 1 rfl).cell]; rfl
    have x0 : w3.cell? ⟨w.heap.size, 0, none⟩ = some (.int .i64 k') := by rw [(HB3.out.blk 0 rfl).cell]; rfl
    clear hw3 x1 c3 HB2
    go_wp2_with fail
    refine wp_region_M (r := 7) (S := fun w' => w'.cell? ⟨b, 0, none⟩ = some (.pointer (some ⟨p.f, 0, none⟩)) ∧ w'.cell? ⟨w.heap.size, 0, none⟩ = some (.int .i64 k')) (by kernel_rfl) ?_ (fun hHeld => ?_)
    · (try dsimp only); exact ⟨c0, x0⟩
    refine tkP 0 ?_; refine tkP 1 ?_; refine tkP 2 ?_; refine tkP 3 ?_; refine tkH 4 ?_; refine tkP 5 ?_; refine tkH 6 ?_; refine tkF 7 ?_
    intro K hK
    go_simp
    go_wp2_with ((go_at_call 123; refine (hib_add HB3.out.drew 2 rfl HA.out.f64 k' (by omega)).mono ?_; rintro e w4 ⟨rfl, h4⟩; have HF := Lib.hid (h4.rest); clear h4 HB3))
    refine hK.out _ _ ?_
    clear hK K
    refine wpAnyM_done (by kernel_rfl) ?_ _
    go_wp2_with fail
    go_ret
    refine ⟨rfl, ?_⟩
    rw [HE.out]
    exact St.exJoin (alL b { a with live := delW a.live k', free := addW a.free k' }) p i HIL.out HF.out
end Go.Proofs.YtkiikblpgppmkaaGreatDoor

namespace Go.Proofs.YtkiikblpgppmkaaGreatDoor
open Go Go.RowKit
set_option linter.unusedVariables false
set_option linter.unusedSimpArgs false

theorem Keep.ofSt {w w' : World} {L : List Asr} (h : St w w' L) : Keep w w' Nope := ⟨h.bel.os, h.bel.tape, h.bel.output, h.bel.size, fun k hk _ => h.bel.block k hk⟩
theorem St.ofNew {w0 w w' : World} {L : List Asr} {A : Asr} (h : St w0 w L) (h2 : St w w' [A]) : St w0 w' (L ++ [A]) := by
  obtain ⟨G, h3, h4⟩ := h2.get 0 rfl
  exact h.add (Keep.ofSt h2) (A.mono h3 h4)
/-- A handle. -/
structure HdV where
  i : Int
  g : Int
deriving DecidableEq
def HdV.cells (h : HdV) : List Value := [.int .i64 h.i, .int .i64 h.g]
def flatHd (l : List HdV) : List Value := l.flatMap HdV.cells
theorem flatHd_app (a b : List HdV) : flatHd (a ++ b) = flatHd a ++ flatHd b := by simp [flatHd]
theorem slHd : SlTy Tryz.prog 67 45 2 16 := SlTy.mk' (.agg #[.int .i64 0, .int .i64 0]) Tryz.underlying67 (by kernel_rfl) rfl (by decide)
def AlS.hd (a : AlS) (k : Nat) : HdV := ⟨k, (a.gen k : Nat)⟩
theorem listTo_len (m j : Nat) : (listTo m j).length ≤ j := by
  have := List.length_filter_le (fun d => m.testBit d) (List.range j)
  simpa [listTo] using this
def LoopHd (w : World) (a : AlS) (m : Nat) (g : Nat) (v5 v6 : Value) (wr : World) : Prop :=
  ∃ (j n : Nat) (a5 : Option Addr) (c5 : Nat), g + j = 64 ∧ v6 = .int .i64 (firstW m j) ∧ v5 = .slice a5 n c5 ∧ n = (listTo m j).length ∧ St w wr [slA 45 2 (.slice a5 n c5) n (flatHd ((listTo m j).map a.hd))]

set_option maxHeartbeats 1000000 in
theorem al_all (b s m : Nat) (a : AlS) (ha : a.Ok) (hm : ∀ k, m.testBit k = true → k < a.gens.length) (w : World) (hT : Tab w) (h : RdAl w b a) (hs : RdHib w s m) :
    Calls Tryz.prog 122 #[ptr b, ptr s] w (fun e w' => ∃ a5 c5, e = .returned (.slice a5 (listW m).length c5) ∧ St w w' [slA 45 2 (.slice a5 (listW m).length c5) (listW m).length (flatHd ((listW m).map a.hd))]) := by
  have HN := Lib.hid (fun (w' : World) (hk : Keep w w' Nope) (j : Nat) (hj : j ≤ 64) => hib_next s m j hj w' (hT.keep hk (fun f => f)) (hs.keep hk))
  have HH := Lib.hid (fun (w' : World) (hk : Keep w w' Nope) (k : Nat) (hk2 : m.testBit k = true) => al_handle b a k (hm k hk2) ha.len w' (h.keep hk))
  clear hT h hs
  unfold ptr hdV at *
  go_enter Tryz.func122, Tryz.ntmps122
  go_wp2_with (go_at_call 146; refine (HN.out _ (Keep.refl _ _) 0 (by omega)).mono ?_; rintro e w1 ⟨rfl, hk1⟩; have HK1 := Lib.hid hk1; clear hk1)
  go_loopg [5, 6] 64 (fun g v5 v6 wr => LoopHd w a m g v5 v6 wr)
  case atStart => exact ⟨0, 0, none, 0, rfl, rfl, rfl, rfl, ((St.start w).keep HK1.out).add (Keep.refl _ _) (A := slA 45 2 (.slice none 0 0) 0 []) (Own.nil _ _ _ _)⟩
  case round =>
    obtain ⟨j, n, a5, c5, hg, rfl, rfl, hn, hst⟩ := hrel
    have hj : j ≤ 64 := by omega
    have HG := Lib.hid hg
    have HNn := Lib.hid hn
    have HST := Lib.hid hst
    have hnb : n ≤ 64 := by have := listTo_len m j; omega
    clear hg hn hst
    rcases firstW_casesB m j with hf | ⟨d, hf, hd⟩
    · have HE := Lib.hid (listTo_end hj hf)
      rw [hf]
      go_wp2_with fail
      go_ret
      rw [← HE.out, ← HNn.out]
      exact ⟨a5, c5, rfl, HST.out⟩
    · have HStep := Lib.hid (listTo_step hf)
      have hjd := (firstW_some hf).1
      have HBit := Lib.hid (firstW_some hf).2.2.1
      rw [hf]
      have e0 : decide ((d : Int) ≥ 0) = true := decide_eq_true (by omega)
      clear hf
      obtain ⟨v, hv⟩ : ∃ v, a.gen d = v := ⟨_, rfl⟩
      have HV := Lib.hid hv
      have hHd := HH.out wr (Keep.ofSt HST.out) d HBit.out
      rw [hv] at hHd
      have HHd := Lib.hid hHd
      clear hv hHd
      go_wp2_with (first
        | (go_at_call 149; refine HHd.out.mono ?_; rintro e w2 ⟨rfl, hk2⟩; obtain ⟨G, hown, _, hup, _⟩ := (HST.out.keep hk2).opens 0 rfl; have HOwn := Lib.hid (show Own G w2 45 2 (.slice a5 n c5) n (flatHd ((listTo m j).map a.hd)) from hown); have HUP := Lib.hid hup; clear hown hup hk2 HST HHd)
        | (at_builtin; go_loud (refine wpList_app (P := Tryz.prog) slHd rfl _ _ rfl (S := G) (S2 := fun z => z = w2.heap.size) (n := n) (xs := flatHd ((listTo m j).map a.hd)) (m := 1) (news := [.int .i64 (d : Nat), .int .i64 (v : Nat)]) rfl rfl ?_ (Own.lit (S := fun z => z = w2.heap.size) w2 45 2 1 #[.int .i64 (d : Nat), .int .i64 (v : Nat)] (by decide) rfl rfl).rd rfl (by intro u hu; simp at hu; rcases hu with rfl | rfl <;> rfl) (by omega) (by unfold maxLen; omega) ?_; (· exact HOwn.out.keep (T := Nope) ((Keep.refl w2 Nope).alloc _) (fun _ _ f => f)); rintro a' k' c' w5 happ; obtain ⟨z1, z2⟩ := app_up (wr := w2) ((Keep.refl w2 Nope).alloc _) happ; obtain rfl := happ.num; have h5 := HUP.out w5 _ z1 z2; have H5 := Lib.hid h5; clear happ z1 z2 h5))
        | (go_at_call 146; refine (HN.out _ (Keep.ofSt H5.out) (d + 1) (by omega)).mono ?_; rintro e w6 ⟨rfl, hk6⟩; have H6 := Lib.hid (H5.out.keep hk6); clear hk6 H5))
      have H7 := Lib.hid (show St w w6 [slA 45 2 (.slice a' (n + 1) c') (n + 1) (flatHd ((listTo m (d + 1)).map a.hd))] by
        rw [HStep.out, List.map_append, flatHd_app]
        have e : flatHd (List.map a.hd [d]) = [.int .i64 (d : Nat), .int .i64 (v : Nat)] := by simp [flatHd, HdV.cells, AlS.hd, HV.out]
        rw [e]
        exact H6.out)
      go_roundg (64 - (d + 1))
      case measure => have := HG.out; omega
      case rel => exact ⟨d + 1, n + 1, a', c', by omega, rfl, rfl, by rw [HStep.out, List.length_append, ← HNn.out]; rfl, H7.out⟩
end Go.Proofs.YtkiikblpgppmkaaGreatDoor

namespace Go.Proofs.YtkiikblpgppmkaaGreatDoor
open Go Go.RowKit
set_option linter.unusedVariables false
set_option linter.unusedSimpArgs false

/-- Some of the raised are live. -/
def AlS.mrg (a : AlS) (l : List Nat) : AlS := { a with live := l.foldl addW a.live }
theorem AlS.Ok.mrg {a : AlS} (h : a.Ok) {l : List Nat} (hl : ∀ k, k ∈ l → k < a.gens.length) : (a.mrg l).Ok := by
  refine ⟨h.len, h.len1, h.free, fun j hj => ?_, h.raised, h.top, h.gens, h.room⟩
  rw [show (a.mrg l).live = l.foldl addW a.live from rfl, foldl_add_bit] at hj
  simp only [Bool.or_eq_true, decide_eq_true_eq] at hj
  rcases hj with hj | hj
  · exact h.live j hj
  · exact hl j hj
def MrgL (b i : Nat) (a : AlS) (p : AlB) (L : List Asr) (v : Value) (n : Nat) (l : List HdV) : List Asr :=
  slA 45 2 v n (flatHd l) :: (alL b a p ++ L.set i empA)
def LoopMrg (w0 : World) (b i : Nat) (a : AlS) (p : AlB) (L : List Asr) (v : Value) (n : Nat) (g : Nat) (v15 : Value) (wr : World) : Prop :=
  ∃ k : Nat, g + k = n ∧ v15 = .int .i64 (k : Nat) ∧ St w0 wr (MrgL b i (a.mrg ((listW a.raised).take k)) p L v n ((listW a.raised).map a.hd))
theorem mrg_last {w0 w : World} {b i : Nat} {a : AlS} {p : AlB} {L : List Asr} {v : Value} {n : Nat} {l : List HdV} (hi : i < L.length) (H : St w0 w (MrgL b i a p L v n l)) : St w0 w (L.set i (alA b a) ++ [slA 45 2 v n (flatHd l)]) := by
  refine St.exJoin1 (alL b a) p i hi ?_
  exact St.last H

set_option maxHeartbeats 1000000 in
theorem al_merge {w0 w : World} {L : List Asr} {b : Nat} {a : AlS} (H : St w0 w L) (i : Nat) (hi : L[i]? = some (alA b a)) (hT : Tab w0) (ha : a.Ok) :
    Calls Tryz.prog 64 #[ptr b] w (fun e w' => ∃ a5 c5, e = .returned (.slice a5 (listW a.raised).length c5) ∧ St w0 w' (L.set i (alA b a.merged) ++ [slA 45 2 (.slice a5 (listW a.raised).length c5) (listW a.raised).length (flatHd ((listW a.raised).map a.hd))])) := by
  have hil := (List.getElem?_eq_some_iff.1 hi).1
  have HIL := Lib.hid hil
  obtain ⟨p, H1⟩ := H.exSplit i hi
  have hP := H1.alP ha
  have HALL := Lib.hid (al_all b p.r a.raised a ha ha.raised w (hT.st H) ⟨p, hP⟩ hP.r)
  have c2 := hP.cells.2.2.1
  have HA := Lib.hid ha
  have HS := Lib.hid H1
  have HT := Lib.hid hT
  have HTL := Lib.hid (fun k (hk : k ∈ listW a.raised) => ha.raised k ((listW_mem ha.r64).1 hk))
  have hnl : (listW a.raised).length ≤ 64 := by rw [listW_len]; exact pop_le _
  obtain ⟨n, hn⟩ : ∃ n, (listW a.raised).length = n := ⟨_, rfl⟩
  have HN := Lib.hid hn
  rw [hn] at HALL hnl ⊢
  clear H hi hT ha H1 hP hil hn
  unfold ptr at *
  go_enter Tryz.func64, Tryz.ntmps64
  go_wp2_with (go_at_call 122; refine HALL.out.mono ?_; rintro e w1 ⟨a5, c5, rfl, h1⟩; have HS1 := Lib.hid (show St w0 w1 (MrgL b i a p L (.slice a5 n c5) n ((listW a.raised).map a.hd)) from (HS.out.ofNew h1).first); clear h1 HALL c2)
  go_loopg [15] n (fun g v15 wr => LoopMrg w0 b i a p L (.slice a5 n c5) n g v15 wr)
  case atStart => exact ⟨0, rfl, rfl, HS1.out⟩
  case round =>
    obtain ⟨k, hg, rfl, hst⟩ := hrel
    have HG := Lib.hid hg
    have HST := Lib.hid hst
    clear hst
    by_cases hlt : k < n
    · obtain ⟨d, hd⟩ : ∃ d, (listW a.raised)[k]? = some d := ⟨_, List.getElem?_eq_getElem (by rw [HN.out]; exact hlt)⟩
      have hdn := HTL.out d (List.mem_of_getElem? hd)
      have hl64 := HA.out.len
      have HTK := Lib.hid (show (listW a.raised).take (k + 1) = (listW a.raised).take k ++ [d] by rw [List.take_add_one, hd]; rfl)
      have hd2 : ((listW a.raised).map a.hd)[k]? = some (a.hd d) := by rw [List.getElem?_map, hd]; rfl
      have hok := HA.out.mrg (l := (listW a.raised).take k) (fun x hx => HTL.out x (List.mem_of_mem_take hx))
      obtain ⟨v, hv⟩ : ∃ v, a.gen d = v := ⟨_, rfl⟩
      obtain ⟨G, _, hrd, _⟩ := HST.out.rd 0 (e := 45) (size := 2) (n := n) (v := .slice a5 n c5) (xs := flatHd ((listW a.raised).map a.hd)) rfl
      obtain ⟨bo, oo, rfl, hbo, hco⟩ := Rd.elem (cells := HdV.cells) (size := 2) (l := (listW a.raised).map a.hd) hrd (fun _ => rfl) (by decide) hd2
      have hc0 := hco 0 (by decide)
      have hc1 := hco 1 (by decide)
      simp [HdV.cells, AlS.hd, hv] at hc0 hc1
      have HB := Lib.hid (show St w0 (wr.alloc (.cells #[.int .i64 (d : Nat), .int .i64 (v : Nat)] 45)) (blkA wr.heap.size #[.int .i64 (d : Nat), .int .i64 (v : Nat)] 45 :: MrgL b i (a.mrg ((listW a.raised).take k)) p L (.slice (some ⟨bo, oo, none⟩) n c5) n ((listW a.raised).map a.hd)) from HST.out.box0 _ _)
      have HOK := Lib.hid hok
      clear hd hd2 hrd hbo hco hok hv HST
      go_wp2_with fail
      have c1 : (wr.alloc (.cells #[.int .i64 (d : Nat), .int .i64 (v : Nat)] 45)).cell? ⟨b, 1, none⟩ = some (.pointer (some ⟨p.l, 0, none⟩)) := by rw [(HB.out.blk 2 rfl).cell]; rfl
      have x0 : (wr.alloc (.cells #[.int .i64 (d : Nat), .int .i64 (v : Nat)] 45)).cell? ⟨wr.heap.size, 0, none⟩ = some (.int .i64 (d : Nat)) := by rw [(HB.out.blk 0 rfl).cell]; rfl
      refine wp_region_M (r := 7) (S := fun w' => w'.cell? ⟨b, 1, none⟩ = some (.pointer (some ⟨p.l, 0, none⟩)) ∧ w'.cell? ⟨wr.heap.size, 0, none⟩ = some (.int .i64 (d : Nat))) (by kernel_rfl) ?_ (fun hHeld => ?_)
      · (try dsimp only); exact ⟨c1, x0⟩
      refine tkP 0 ?_; refine tkP 1 ?_; refine tkP 2 ?_; refine tkP 3 ?_; refine tkH 4 ?_; refine tkP 5 ?_; refine tkH 6 ?_; refine tkF 7 ?_
      intro K hK
      go_simp
      go_wp2_with ((go_at_call 123; refine (hib_add HB.out.drew 4 rfl HOK.out.l64 d (by omega)).mono ?_; rintro e w2 ⟨rfl, h2⟩; have H2 := Lib.hid h2.rest; clear h2 HB))
      refine hK.out _ _ ?_
      clear hK K
      refine wpAnyM_done (by kernel_rfl) ?_ _
      clear hHeld c1 x0
      go_wp2_with fail
      go_roundg (n - (k + 1))
      case measure => have := HG.out; omega
      case rel =>
        refine ⟨k + 1, by have := HG.out; omega, by go_num, ?_⟩
        rw [HTK.out]
        have e : (a.mrg ((listW a.raised).take k ++ [d])).live = addW (a.mrg ((listW a.raised).take k)).live d := by
          show List.foldl addW a.live _ = _
          rw [List.foldl_append]
          rfl
        unfold MrgL alL
        rw [e]
        exact H2.out
    · have hkn : k = n := by omega
      subst hkn
      have HM := Lib.hid (show St w0 wr (MrgL b i (a.mrg (listW a.raised)) p L (.slice a5 k c5) k ((listW a.raised).map a.hd)) by
        have h := HST.out
        rw [List.take_of_length_le (by have := HN.out; omega)] at h
        exact h)
      have HOK := Lib.hid (HA.out.mrg (l := listW a.raised) HTL.out)
      have c2 : wr.cell? ⟨b, 2, none⟩ = some (.pointer (some ⟨p.r, 0, none⟩)) := by rw [(HM.out.blk 1 rfl).cell]; rfl
      clear HST
      go_wp2_with (go_at_call 124; refine (hib_clear HM.out 4 rfl HOK.out.r64).mono ?_; rintro e w2 ⟨rfl, h2⟩; have H2 := Lib.hid h2; clear h2)
      go_ret
      refine ⟨a5, c5, rfl, mrg_last (a := a.merged) (p := p) HIL.out ?_⟩
      exact H2.out
end Go.Proofs.YtkiikblpgppmkaaGreatDoor
