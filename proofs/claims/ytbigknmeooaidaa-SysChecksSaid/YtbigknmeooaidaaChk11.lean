/-
  The package sys: may what is declared be, and is it what the plan needs.
-/
import Derived.Test.YtbigknmeooaidaaChk10
namespace Go.Proofs.Ytbigknmeooaidaa
open Go Go.RowKit
set_option linter.unusedVariables false
set_option linter.unusedSimpArgs false

structure DescV where
  kind : Int
  var : Int
  bound : Int
def DescV.cells (x : DescV) : List Value := [.int .i64 x.kind, .int .i64 x.var, .int .i64 x.bound]
/-- What a world is made of. -/
structure CfgV where
  size : Int
  top : Int
  ca : Option Addr
  cc : Nat
  dl : List DescV
  ra : Option Addr
  rn : Nat
  rc : Nat
def CfgV.val (c : CfgV) : Value := .agg #[.int .i64 c.size, .int .i64 c.top, .slice c.ca c.dl.length c.cc, .slice c.ra c.rn c.rc]
def CfgV.arr (c : CfgV) : Array Value := #[.int .i64 c.size, .int .i64 c.top, .slice c.ca c.dl.length c.cc, .slice c.ra c.rn c.rc]
abbrev RdDescs (S : Nat → Prop) (w : World) (v : Value) (l : List DescV) : Prop := Rd S w v l.length (l.flatMap DescV.cells)
/-- A system with its plan and its code. -/
structure SysF where
  x : SysX
  pll : List ColV
  cdl : List InsV
structure SysRd (S : Nat → Prop) (w : World) (y : SysF) : Prop where
  use : UseRd S w y.x
  pl : RdCols S w y.x.pl.v y.pll
  cd : RdIns S w y.x.cd.v y.cdl
theorem SysRd.keep0 {S : Nat → Prop} {w w' : World} {y : SysF} (h : SysRd S w y) (hk : Keep w w' Nope) : SysRd S w' y :=
  ⟨h.use.keep0 hk, h.pl.keep hk (fun _ _ f => f), h.cd.keep hk (fun _ _ f => f)⟩
theorem inB_congr {L M all : List Int} (h : ∀ x, x ∈ L ↔ x ∈ M) : inB L all = inB M all := by
  rw [Bool.eq_iff_iff, inB_iff, inB_iff]
  exact ⟨fun g x hx => g x ((h x).2 hx), fun g x hx => g x ((h x).1 hx)⟩

/-- The fault of what is declared. -/
def usesE (nd nr : Nat) (x : SysX) (pll : List ColV) : Int :=
  if !(risB nd (-1) x.r.l) || !(risB nd (-1) x.w.l) || !(risB (min nr 32 : Nat) (-1) x.rr.l) || !(risB (min nr 32 : Nat) (-1) x.rw'.l) then 1
  else if !(inB (compsF [2] pll) x.w.l) || !(inB (compsF [1, 3, 4] pll) (x.r.l ++ x.w.l)) then 19 else 0

set_option maxRecDepth 3000 in
set_option maxHeartbeats 4000000 in
theorem sys_uses (cf : CfgV) (y : SysF) (w : World) (S : Nat → Prop) (h : SysRd S w y) (hp : y.pll.length ≤ 1000) (hrw : (y.x.r.l.length + y.x.w.l.length) * 8 ≤ 281474976710656) :
    Calls Try.prog 49 #[cf.val, y.x.val] w (Ret w (.int .i64 (usesE cf.dl.length cf.rn y.x y.pll))) := by
  obtain ⟨r, hr⟩ : ∃ r, usesE cf.dl.length cf.rn y.x y.pll = r := ⟨_, rfl⟩
  rw [hr]
  unfold usesE at hr
  obtain ⟨x, pll, cdl⟩ := y
  obtain ⟨⟨ra, rc, rl⟩, ⟨wa, wc, wl⟩, ⟨rra, rrc, rrl⟩, ⟨rwa, rwc, rwl⟩, al, ⟨pla, pln, plc⟩, ⟨cda, cdn, cdc⟩, ⟨afa, afc, afl⟩⟩ := x
  obtain ⟨size, top, ca, cc, dl, cra, crn, crc⟩ := cf
  simp only at hr hp hrw
  unfold SysX.val CfgV.val
  simp only [RowV.v, SlV.v]
  obtain ⟨nd, hnd⟩ : ∃ nd, dl.length = nd := ⟨_, rfl⟩
  rw [hnd] at hr ⊢
  clear hnd
  obtain ⟨m, hm⟩ : ∃ m, min crn 32 = m := ⟨_, rfl⟩
  rw [hm] at hr
  have hmI : min (crn : Int) 32 = (m : Int) := by omega
  have hU := h.use
  have hP := h.pl
  have HU := Lib.hid hU
  have HP := Lib.hid hP
  clear h hU hP
  have hR1 := fun wq (hk : Keep w wq Nope) => (show Calls Try.prog 71 #[.slice ra rl.length rc, .int .i64 nd] wq (fun e w' => e = .returned (.bool (risB nd (-1) rl)) ∧ wq = w') from sys_rises _ rl nd wq S (HU.out.r.keep hk (fun _ _ f => f)))
  have hR2 := fun wq (hk : Keep w wq Nope) => (show Calls Try.prog 71 #[.slice wa wl.length wc, .int .i64 nd] wq (fun e w' => e = .returned (.bool (risB nd (-1) wl)) ∧ wq = w') from sys_rises _ wl nd wq S (HU.out.w'.keep hk (fun _ _ f => f)))
  have hR3 := fun wq (hk : Keep w wq Nope) => (show Calls Try.prog 71 #[.slice rra rrl.length rrc, .int .i64 m] wq (fun e w' => e = .returned (.bool (risB m (-1) rrl)) ∧ wq = w') from sys_rises _ rrl m wq S (HU.out.rr.keep hk (fun _ _ f => f)))
  have hR4 := fun wq (hk : Keep w wq Nope) => (show Calls Try.prog 71 #[.slice rwa rwl.length rwc, .int .i64 m] wq (fun e w' => e = .returned (.bool (risB m (-1) rwl)) ∧ wq = w') from sys_rises _ rwl m wq S (HU.out.rw'.keep hk (fun _ _ f => f)))
  obtain ⟨b1, hb1⟩ : ∃ b, risB nd (-1) rl = b := ⟨_, rfl⟩
  obtain ⟨b2, hb2⟩ : ∃ b, risB nd (-1) wl = b := ⟨_, rfl⟩
  obtain ⟨b3, hb3⟩ : ∃ b, risB m (-1) rrl = b := ⟨_, rfl⟩
  obtain ⟨b4, hb4⟩ : ∃ b, risB m (-1) rwl = b := ⟨_, rfl⟩
  simp only [hb1] at hR1
  simp only [hb2] at hR2
  simp only [hb3] at hR3
  simp only [hb4] at hR4
  rw [hb1, hb2, hb3, hb4] at hr
  have R1 := Lib.hid hR1
  have R2 := Lib.hid hR2
  have R3 := Lib.hid hR3
  have R4 := Lib.hid hR4
  clear hR1 hR2 hR3 hR4 hb1 hb2 hb3 hb4
  have hplv : ∃ n', pln = n' ∧ pll.length = n' := by
    obtain ⟨a', c', he, _⟩ := HP.out
    unfold SlV.v at he
    injection he with _ e2 _
    exact ⟨pln, rfl, e2.symm⟩
  obtain ⟨_, rfl, hpl⟩ := hplv
  obtain ⟨i1, hi1⟩ : ∃ b, inB (compsF [2] pll) wl = b := ⟨_, rfl⟩
  obtain ⟨i2, hi2⟩ : ∃ b, inB (compsF [1, 3, 4] pll) (rl ++ wl) = b := ⟨_, rfl⟩
  rw [hi1, hi2] at hr
  have HR := Lib.hid hr
  have HI1 := Lib.hid (fun L (hL : ∀ z, z ∈ L ↔ z ∈ compsF [2] pll) => (inB_congr (all := wl) hL).trans hi1)
  have HI2 := Lib.hid (fun L (hL : ∀ z, z ∈ L ↔ z ∈ compsF [1, 3, 4] pll) => (inB_congr (all := rl ++ wl) hL).trans hi2)
  clear hr hi1 hi2 hm
  have HPW := Lib.hid (fun wq (hk : Keep w wq Nope) => (show Calls Try.prog 73 #[.slice pla pln plc] wq (RetComps wq (compsF [2] pll)) from plan_Writes _ pll wq S (HP.out.keep hk (fun _ _ f => f)) hp))
  have HPR := Lib.hid (fun wq (hk : Keep w wq Nope) => (show Calls Try.prog 74 #[.slice pla pln plc] wq (RetComps wq (compsF [1, 3, 4] pll)) from plan_Reads _ pll wq S (HP.out.keep hk (fun _ _ f => f)) hp))
  obtain ⟨w1, hw1⟩ : ∃ w1, w1 = (w.alloc (.cells #[.int .i64 size, .int .i64 top, .slice ca nd cc, .slice cra crn crc] 56)).alloc (.cells #[.slice ra rl.length rc, .slice wa wl.length wc, .slice rra rrl.length rrc, .slice rwa rwl.length rwc, .bool al, .slice pla pln plc, .slice cda cdn cdc, .slice afa afl.length afc] 35) := ⟨_, rfl⟩
  have hk1 : Keep w w1 Nope := by rw [hw1]; exact ((Keep.refl w Nope).alloc _).alloc _
  have hba : Blk w1 w.heap.size #[.int .i64 size, .int .i64 top, .slice ca nd cc, .slice cra crn crc] 56 := by
    rw [hw1]; exact (Blk.new w _ _).keep ((Keep.refl _ Nope).alloc _) (fun f => f)
  have hbb : Blk w1 (w.heap.size + 1) #[.slice ra rl.length rc, .slice wa wl.length wc, .slice rra rrl.length rrc, .slice rwa rwl.length rwc, .bool al, .slice pla pln plc, .slice cda cdn cdc, .slice afa afl.length afc] 35 := by
    rw [hw1, ← World.size_alloc w]; exact Blk.new _ _ _
  have HBA := Lib.hid hba
  have HBB := Lib.hid hbb
  have HK1 := Lib.hid hk1
  have HW1 := Lib.hid hw1
  clear hba hbb hk1 hw1
  go_enter Try.func49, Try.ntmps49
  go_upto_region 1 with (fail)
  rw [← HW1.out]
  have a2 := HBA.out.cell 2
  have a3 := HBA.out.cell 3
  have b0 := HBB.out.cell 0
  have b1' := HBB.out.cell 1
  simp at a2 a3 b0 b1'
  have hcat : catR [⟨ra, rc, rl⟩, ⟨wa, wc, wl⟩] = rl ++ wl := by simp [catR]
  have hCC := slices_Concat (.slice (some ⟨w1.heap.size, 0, none⟩) 2 2) [⟨ra, rc, rl⟩, ⟨wa, wc, wl⟩] (w1.alloc (.cells #[.slice ra rl.length rc, .slice wa wl.length wc] 23)) _ (rows_lit (w := w1) [⟨ra, rc, rl⟩, ⟨wa, wc, wl⟩] 2 rfl (by decide) (fun r hr => by
    simp at hr
    rcases hr with rfl | rfl
    · exact HU.out.r.keep HK1.out (fun _ _ f => f)
    · exact HU.out.w'.keep HK1.out (fun _ _ f => f)) _ rfl) (by rw [hcat, List.length_append]; omega)
  rw [hcat] at hCC
  have HCC := Lib.hid hCC
  clear hCC hcat
  go_upto_block 0 with (go_at_call 70; refine HCC.out.mono ?_; rintro e w2 ⟨S2, a2', n2, c2, rfl, hn2, hr2, hk2⟩; have HN2 := Lib.hid hn2; have HR2 := Lib.hid hr2; have HK2 := Lib.hid (((Keep.refl w1 Nope).alloc _).trans hk2 (fun _ f => f.elim)); clear hn2 hr2 hk2)
  have HBA2 := Lib.hid (HBA.out.keep HK2.out (fun f => f))
  have HBB2 := Lib.hid (HBB.out.keep HK2.out (fun f => f))
  have HKQ := Lib.hid (HK1.out.trans HK2.out (fun _ f => f.elim))
  obtain ⟨ga, hga⟩ : ∃ g, g = w.heap.size := ⟨_, rfl⟩
  obtain ⟨gb, hgb⟩ : ∃ g, g = w.heap.size + 1 := ⟨_, rfl⟩
  rw [← hgb] at HBB2 ⊢
  rw [← hga] at HBA2 ⊢
  clear hga hgb a2 a3 b0 b1' HBA HBB HK1 HK2 HW1 HCC
  have a2 := HBA2.out.cell 2
  have a3 := HBA2.out.cell 3
  have b0 := HBB2.out.cell 0
  have b1' := HBB2.out.cell 1
  have b2' := HBB2.out.cell 2
  have b3' := HBB2.out.cell 3
  have b5 := HBB2.out.cell 5
  simp at a2 a3 b0 b1' b2' b3' b5
  cases b1
  case false =>
    go_wp2_with (go_at_call 71; first | (refine (R1.out _ HKQ.out).mono ?_; rintro e w' ⟨rfl, rfl⟩; clear R1) | (refine (R2.out _ HKQ.out).mono ?_; rintro e w' ⟨rfl, rfl⟩; clear R2) | (refine (R3.out _ HKQ.out).mono ?_; rintro e w' ⟨rfl, rfl⟩; clear R3) | (refine (R4.out _ HKQ.out).mono ?_; rintro e w' ⟨rfl, rfl⟩; clear R4))
    go_ret
    exact ⟨by rw [← HR.out]; rfl, HKQ.out⟩
  cases b2
  case false =>
    go_wp2_with (go_at_call 71; first | (refine (R1.out _ HKQ.out).mono ?_; rintro e w' ⟨rfl, rfl⟩; clear R1) | (refine (R2.out _ HKQ.out).mono ?_; rintro e w' ⟨rfl, rfl⟩; clear R2) | (refine (R3.out _ HKQ.out).mono ?_; rintro e w' ⟨rfl, rfl⟩; clear R3) | (refine (R4.out _ HKQ.out).mono ?_; rintro e w' ⟨rfl, rfl⟩; clear R4))
    go_ret
    exact ⟨by rw [← HR.out]; rfl, HKQ.out⟩
  cases b3
  case false =>
    go_wp2_with (go_at_call 71; first | (refine (R1.out _ HKQ.out).mono ?_; rintro e w' ⟨rfl, rfl⟩; clear R1) | (refine (R2.out _ HKQ.out).mono ?_; rintro e w' ⟨rfl, rfl⟩; clear R2) | (refine (R3.out _ HKQ.out).mono ?_; rintro e w' ⟨rfl, rfl⟩; clear R3) | (refine (R4.out _ HKQ.out).mono ?_; rintro e w' ⟨rfl, rfl⟩; clear R4))
    go_ret
    exact ⟨by rw [← HR.out]; rfl, HKQ.out⟩
  cases b4
  case false =>
    go_wp2_with (go_at_call 71; first | (refine (R1.out _ HKQ.out).mono ?_; rintro e w' ⟨rfl, rfl⟩; clear R1) | (refine (R2.out _ HKQ.out).mono ?_; rintro e w' ⟨rfl, rfl⟩; clear R2) | (refine (R3.out _ HKQ.out).mono ?_; rintro e w' ⟨rfl, rfl⟩; clear R3) | (refine (R4.out _ HKQ.out).mono ?_; rintro e w' ⟨rfl, rfl⟩; clear R4))
    go_ret
    exact ⟨by rw [← HR.out]; rfl, HKQ.out⟩
  go_upto_region 5 with (go_at_call 71; first | (refine (R1.out _ HKQ.out).mono ?_; rintro e w' ⟨rfl, rfl⟩; clear R1) | (refine (R2.out _ HKQ.out).mono ?_; rintro e w' ⟨rfl, rfl⟩; clear R2) | (refine (R3.out _ HKQ.out).mono ?_; rintro e w' ⟨rfl, rfl⟩; clear R3) | (refine (R4.out _ HKQ.out).mono ?_; rintro e w' ⟨rfl, rfl⟩; clear R4))
  cases i1
  case false =>
    refine wp_region_held_drew (S := fun w' => w'.cell? ⟨gb, 1, none⟩ = some (.slice wa wl.length wc) ∧ w'.cell? ⟨gb, 5, none⟩ = some (.slice pla pln plc)) (by kernel_rfl) ?_ (fun hHeld => ?_)
    · (try dsimp only); go_keep
    refine wpAnyH_take (i := 0) (oi := ?_) (v := ?_) ?_ ?_ ?_ ?_ ?_ ?_ ?_ ?_
    rotate_left 2
    · simp only [List.getElem?_toArray, List.getElem?_cons_succ, List.getElem?_cons_zero]; exact rfl
    · kernel_rfl
    · kernel_rfl
    · kernel_rfl
    · first | exact fun _ _ _ h => h | exact fun _ _ _ h => (HPan.out _ _ _ h).elim
    · (refine Or.inl ⟨by rfl, ?_⟩; (intro w hSw; (try dsimp only at hSw); go_simp) <;> with_reducible rfl)
    · assumption
    simp only [Act.put, List.setIfInBounds_toArray, List.set_cons_zero, List.set_cons_succ]
    refine wpAnyH_take (i := 1) (oi := ?_) (v := ?_) ?_ ?_ ?_ ?_ ?_ ?_ ?_ ?_
    rotate_left 2
    · simp only [List.getElem?_toArray, List.getElem?_cons_succ, List.getElem?_cons_zero]; exact rfl
    · kernel_rfl
    · kernel_rfl
    · kernel_rfl
    · first | exact fun _ _ _ h => h | exact fun _ _ _ h => (HPan.out _ _ _ h).elim
    · (refine Or.inl ⟨by rfl, ?_⟩; (intro w hSw; (try dsimp only at hSw); go_simp) <;> with_reducible rfl)
    · assumption
    simp only [Act.put, List.setIfInBounds_toArray, List.set_cons_zero, List.set_cons_succ]
    refine wpAnyH_take (i := 3) (oi := ?_) (v := ?_) ?_ ?_ ?_ ?_ ?_ ?_ ?_ ?_
    rotate_left 2
    · simp only [List.getElem?_toArray, List.getElem?_cons_succ, List.getElem?_cons_zero]; exact rfl
    · kernel_rfl
    · kernel_rfl
    · kernel_rfl
    · first | exact fun _ _ _ h => h | exact fun _ _ _ h => (HPan.out _ _ _ h).elim
    · (refine Or.inl ⟨by rfl, ?_⟩; (intro w hSw; (try dsimp only at hSw); go_simp) <;> with_reducible rfl)
    · assumption
    simp only [Act.put, List.setIfInBounds_toArray, List.set_cons_zero, List.set_cons_succ]
    refine wpAnyH_take (i := 4) (oi := ?_) (v := ?_) ?_ ?_ ?_ ?_ ?_ ?_ ?_ ?_
    rotate_left 2
    · simp only [List.getElem?_toArray, List.getElem?_cons_succ, List.getElem?_cons_zero]; exact rfl
    · kernel_rfl
    · kernel_rfl
    · kernel_rfl
    · first | exact fun _ _ _ h => h | exact fun _ _ _ h => (HPan.out _ _ _ h).elim
    · (refine Or.inl ⟨by rfl, ?_⟩; (intro w hSw; (try dsimp only at hSw); go_simp) <;> with_reducible rfl)
    · assumption
    simp only [Act.put, List.setIfInBounds_toArray, List.set_cons_zero, List.set_cons_succ]
    refine wpAnyH_take (i := 5) (oi := ?_) (v := ?_) ?_ ?_ ?_ ?_ ?_ ?_ ?_ ?_
    rotate_left 2
    · simp only [List.getElem?_toArray, List.getElem?_cons_succ, List.getElem?_cons_zero]; exact rfl
    · kernel_rfl
    · kernel_rfl
    · kernel_rfl
    · first | exact fun _ _ _ h => h | exact fun _ _ _ h => (HPan.out _ _ _ h).elim
    · (refine Or.inl ⟨by rfl, ?_⟩; (intro w hSw; (try dsimp only at hSw); go_simp) <;> with_reducible rfl)
    · assumption
    simp only [Act.put, List.setIfInBounds_toArray, List.set_cons_zero, List.set_cons_succ]
    refine wpAnyH_ready (rs := [2]) (by kernel_rfl) (by simp) ?_
    refine AllReadyH.cons rfl (fun K hK => ?_) (AllReadyH.nil)
    go_simp
    go_wp2_with ((go_at_call 73; refine (HPW.out _ (HKQ.out.trans (show Keep w2 _ Nope from (by (repeat (first | exact Keep.refl _ _ | apply Keep.drew | apply Keep.drewN | apply Keep.alloc)))) (fun _ f => f.elim))).mono ?_; rintro e w3 ⟨S3, a3', c3, L3, rfl, hm3, hr3, hk3⟩; have HK3 := Lib.hid ((show Keep w2 _ Nope from (by (repeat (first | exact Keep.refl _ _ | apply Keep.drew | apply Keep.drewN | apply Keep.alloc)))).trans hk3 (fun _ f => f.elim)); have HIN1 := Lib.hid (fun wq (hk : Keep w3 wq Nope) => sys_in _ (.slice wa wl.length wc) L3 wl wq S3 S (hr3.keep hk (fun _ _ f => f)) (HU.out.w'.keep (HKQ.out.trans (HK3.out.trans hk (fun _ f => f.elim)) (fun _ f => f.elim)) (fun _ _ f => f))); have HE1 := Lib.hid (HI1.out L3 hm3); clear hm3 hr3 hk3))
    refine hK.out _ _ ?_ (fun hHeld => ?_)
    · (try dsimp only); exact ⟨HK3.out.cell b1' (fun f => f), HK3.out.cell b5 (fun f => f)⟩
    clear hK K
    refine wpAnyH_ready (rs := [6]) (by kernel_rfl) (by simp) ?_
    refine AllReadyH.cons rfl (fun K hK => ?_) (AllReadyH.nil)
    go_simp
    go_wp2_with ((go_at_call 72; refine (HIN1.out _ (by (repeat (first | exact Keep.refl _ _ | apply Keep.drew | apply Keep.drewN | apply Keep.alloc)))).mono ?_; rintro e w4 ⟨rfl, hk4⟩; rw [HE1.out]; have HK4 := Lib.hid (HK3.out.trans ((show Keep w3 _ Nope from (by (repeat (first | exact Keep.refl _ _ | apply Keep.drew | apply Keep.drewN | apply Keep.alloc)))).trans hk4 (fun _ f => f.elim)) (fun _ f => f.elim)); clear hk4 HIN1))
    refine hK.out _ _ ?_ (fun hHeld => ?_)
    · (try dsimp only); exact ⟨HK4.out.cell b1' (fun f => f), HK4.out.cell b5 (fun f => f)⟩
    clear hK K
    refine wpAnyH_take (i := 7) (oi := ?_) (v := ?_) ?_ ?_ ?_ ?_ ?_ ?_ ?_ ?_
    rotate_left 2
    · simp only [List.getElem?_toArray, List.getElem?_cons_succ, List.getElem?_cons_zero]; exact rfl
    · kernel_rfl
    · kernel_rfl
    · kernel_rfl
    · first | exact fun _ _ _ h => h | exact fun _ _ _ h => (HPan.out _ _ _ h).elim
    · (refine Or.inl ⟨by rfl, ?_⟩; (intro w hSw; (try dsimp only at hSw); go_simp) <;> with_reducible rfl)
    · assumption
    simp only [Act.put, List.setIfInBounds_toArray, List.set_cons_zero, List.set_cons_succ]
    refine wpAnyH_take (i := 8) (oi := ?_) (v := ?_) ?_ ?_ ?_ ?_ ?_ ?_ ?_ ?_
    rotate_left 2
    · simp only [List.getElem?_toArray, List.getElem?_cons_succ, List.getElem?_cons_zero]; exact rfl
    · kernel_rfl
    · kernel_rfl
    · kernel_rfl
    · first | exact fun _ _ _ h => h | exact fun _ _ _ h => (HPan.out _ _ _ h).elim
    · (refine Or.inl ⟨by rfl, ?_⟩; (intro w hSw; (try dsimp only at hSw); go_simp) <;> with_reducible rfl)
    · assumption
    simp only [Act.put, List.setIfInBounds_toArray, List.set_cons_zero, List.set_cons_succ]
    refine wpAnyH_take (i := 9) (oi := ?_) (v := undef) ?_ ?_ ?_ ?_ ?_ ?_ ?_ ?_
    rotate_left 1
    · simp only [List.getElem?_toArray, List.getElem?_cons_succ, List.getElem?_cons_zero]; exact rfl
    · kernel_rfl
    · kernel_rfl
    · kernel_rfl
    · first | exact fun _ _ _ h => h | exact fun _ _ _ h => (HPan.out _ _ _ h).elim
    · exact Or.inr ⟨by rfl, rfl⟩
    · assumption
    simp only [Act.put, List.setIfInBounds_toArray, List.set_cons_zero, List.set_cons_succ]
    refine wpAnyH_take (i := 10) (oi := ?_) (v := undef) ?_ ?_ ?_ ?_ ?_ ?_ ?_ ?_
    rotate_left 1
    · simp only [List.getElem?_toArray, List.getElem?_cons_succ, List.getElem?_cons_zero]; exact rfl
    · kernel_rfl
    · kernel_rfl
    · kernel_rfl
    · first | exact fun _ _ _ h => h | exact fun _ _ _ h => (HPan.out _ _ _ h).elim
    · exact Or.inr ⟨by rfl, rfl⟩
    · assumption
    simp only [Act.put, List.setIfInBounds_toArray, List.set_cons_zero, List.set_cons_succ]
    refine wpAnyH_take (i := 11) (oi := ?_) (v := undef) ?_ ?_ ?_ ?_ ?_ ?_ ?_ ?_
    rotate_left 1
    · simp only [List.getElem?_toArray, List.getElem?_cons_succ, List.getElem?_cons_zero]; exact rfl
    · kernel_rfl
    · kernel_rfl
    · kernel_rfl
    · first | exact fun _ _ _ h => h | exact fun _ _ _ h => (HPan.out _ _ _ h).elim
    · exact Or.inr ⟨by rfl, rfl⟩
    · assumption
    simp only [Act.put, List.setIfInBounds_toArray, List.set_cons_zero, List.set_cons_succ]
    refine wpAnyH_take (i := 12) (oi := ?_) (v := undef) ?_ ?_ ?_ ?_ ?_ ?_ ?_ ?_
    rotate_left 1
    · simp only [List.getElem?_toArray, List.getElem?_cons_succ, List.getElem?_cons_zero]; exact rfl
    · kernel_rfl
    · kernel_rfl
    · kernel_rfl
    · first | exact fun _ _ _ h => h | exact fun _ _ _ h => (HPan.out _ _ _ h).elim
    · exact Or.inr ⟨by rfl, rfl⟩
    · assumption
    simp only [Act.put, List.setIfInBounds_toArray, List.set_cons_zero, List.set_cons_succ]
    refine wpAnyH_take (i := 13) (oi := ?_) (v := undef) ?_ ?_ ?_ ?_ ?_ ?_ ?_ ?_
    rotate_left 1
    · simp only [List.getElem?_toArray, List.getElem?_cons_succ, List.getElem?_cons_zero]; exact rfl
    · kernel_rfl
    · kernel_rfl
    · kernel_rfl
    · first | exact fun _ _ _ h => h | exact fun _ _ _ h => (HPan.out _ _ _ h).elim
    · exact Or.inr ⟨by rfl, rfl⟩
    · assumption
    simp only [Act.put, List.setIfInBounds_toArray, List.set_cons_zero, List.set_cons_succ]
    refine wpAnyH_take (i := 14) (oi := ?_) (v := undef) ?_ ?_ ?_ ?_ ?_ ?_ ?_ ?_
    rotate_left 1
    · simp only [List.getElem?_toArray, List.getElem?_cons_succ, List.getElem?_cons_zero]; exact rfl
    · kernel_rfl
    · kernel_rfl
    · kernel_rfl
    · first | exact fun _ _ _ h => h | exact fun _ _ _ h => (HPan.out _ _ _ h).elim
    · exact Or.inr ⟨by rfl, rfl⟩
    · assumption
    simp only [Act.put, List.setIfInBounds_toArray, List.set_cons_zero, List.set_cons_succ]
    refine wpAnyH_take (i := 15) (oi := ?_) (v := ?_) ?_ ?_ ?_ ?_ ?_ ?_ ?_ ?_
    rotate_left 2
    · simp only [List.getElem?_toArray, List.getElem?_cons_succ, List.getElem?_cons_zero]; exact rfl
    · kernel_rfl
    · kernel_rfl
    · kernel_rfl
    · first | exact fun _ _ _ h => h | exact fun _ _ _ h => (HPan.out _ _ _ h).elim
    · (refine Or.inl ⟨by rfl, ?_⟩; (intro w hSw; (try dsimp only at hSw); go_simp) <;> with_reducible rfl)
    · assumption
    simp only [Act.put, List.setIfInBounds_toArray, List.set_cons_zero, List.set_cons_succ]
    refine wpAnyH_take (i := 16) (oi := ?_) (v := ?_) ?_ ?_ ?_ ?_ ?_ ?_ ?_ ?_
    rotate_left 2
    · simp only [List.getElem?_toArray, List.getElem?_cons_succ, List.getElem?_cons_zero]; exact rfl
    · kernel_rfl
    · kernel_rfl
    · kernel_rfl
    · first | exact fun _ _ _ h => h | exact fun _ _ _ h => (HPan.out _ _ _ h).elim
    · (refine Or.inl ⟨by rfl, ?_⟩; (intro w hSw; (try dsimp only at hSw); go_simp) <;> with_reducible rfl)
    · assumption
    simp only [Act.put, List.setIfInBounds_toArray, List.set_cons_zero, List.set_cons_succ]
    refine wpAnyH_done (by kernel_rfl) ?_ _
    go_wp2_with fail
    go_ret
    exact ⟨by rw [← HR.out]; rfl, HKQ.out.trans HK4.out (fun _ f => f.elim)⟩
  case true =>
    refine wp_region_held_drew (S := fun w' => w'.cell? ⟨gb, 1, none⟩ = some (.slice wa wl.length wc) ∧ w'.cell? ⟨gb, 5, none⟩ = some (.slice pla pln plc)) (by kernel_rfl) ?_ (fun hHeld => ?_)
    · (try dsimp only); go_keep
    refine wpAnyH_take (i := 0) (oi := ?_) (v := ?_) ?_ ?_ ?_ ?_ ?_ ?_ ?_ ?_
    rotate_left 2
    · simp only [List.getElem?_toArray, List.getElem?_cons_succ, List.getElem?_cons_zero]; exact rfl
    · kernel_rfl
    · kernel_rfl
    · kernel_rfl
    · first | exact fun _ _ _ h => h | exact fun _ _ _ h => (HPan.out _ _ _ h).elim
    · (refine Or.inl ⟨by rfl, ?_⟩; (intro w hSw; (try dsimp only at hSw); go_simp) <;> with_reducible rfl)
    · assumption
    simp only [Act.put, List.setIfInBounds_toArray, List.set_cons_zero, List.set_cons_succ]
    refine wpAnyH_take (i := 1) (oi := ?_) (v := ?_) ?_ ?_ ?_ ?_ ?_ ?_ ?_ ?_
    rotate_left 2
    · simp only [List.getElem?_toArray, List.getElem?_cons_succ, List.getElem?_cons_zero]; exact rfl
    · kernel_rfl
    · kernel_rfl
    · kernel_rfl
    · first | exact fun _ _ _ h => h | exact fun _ _ _ h => (HPan.out _ _ _ h).elim
    · (refine Or.inl ⟨by rfl, ?_⟩; (intro w hSw; (try dsimp only at hSw); go_simp) <;> with_reducible rfl)
    · assumption
    simp only [Act.put, List.setIfInBounds_toArray, List.set_cons_zero, List.set_cons_succ]
    refine wpAnyH_take (i := 3) (oi := ?_) (v := ?_) ?_ ?_ ?_ ?_ ?_ ?_ ?_ ?_
    rotate_left 2
    · simp only [List.getElem?_toArray, List.getElem?_cons_succ, List.getElem?_cons_zero]; exact rfl
    · kernel_rfl
    · kernel_rfl
    · kernel_rfl
    · first | exact fun _ _ _ h => h | exact fun _ _ _ h => (HPan.out _ _ _ h).elim
    · (refine Or.inl ⟨by rfl, ?_⟩; (intro w hSw; (try dsimp only at hSw); go_simp) <;> with_reducible rfl)
    · assumption
    simp only [Act.put, List.setIfInBounds_toArray, List.set_cons_zero, List.set_cons_succ]
    refine wpAnyH_take (i := 4) (oi := ?_) (v := ?_) ?_ ?_ ?_ ?_ ?_ ?_ ?_ ?_
    rotate_left 2
    · simp only [List.getElem?_toArray, List.getElem?_cons_succ, List.getElem?_cons_zero]; exact rfl
    · kernel_rfl
    · kernel_rfl
    · kernel_rfl
    · first | exact fun _ _ _ h => h | exact fun _ _ _ h => (HPan.out _ _ _ h).elim
    · (refine Or.inl ⟨by rfl, ?_⟩; (intro w hSw; (try dsimp only at hSw); go_simp) <;> with_reducible rfl)
    · assumption
    simp only [Act.put, List.setIfInBounds_toArray, List.set_cons_zero, List.set_cons_succ]
    refine wpAnyH_take (i := 5) (oi := ?_) (v := ?_) ?_ ?_ ?_ ?_ ?_ ?_ ?_ ?_
    rotate_left 2
    · simp only [List.getElem?_toArray, List.getElem?_cons_succ, List.getElem?_cons_zero]; exact rfl
    · kernel_rfl
    · kernel_rfl
    · kernel_rfl
    · first | exact fun _ _ _ h => h | exact fun _ _ _ h => (HPan.out _ _ _ h).elim
    · (refine Or.inl ⟨by rfl, ?_⟩; (intro w hSw; (try dsimp only at hSw); go_simp) <;> with_reducible rfl)
    · assumption
    simp only [Act.put, List.setIfInBounds_toArray, List.set_cons_zero, List.set_cons_succ]
    refine wpAnyH_ready (rs := [2]) (by kernel_rfl) (by simp) ?_
    refine AllReadyH.cons rfl (fun K hK => ?_) (AllReadyH.nil)
    go_simp
    go_wp2_with ((go_at_call 73; refine (HPW.out _ (HKQ.out.trans (show Keep w2 _ Nope from (by (repeat (first | exact Keep.refl _ _ | apply Keep.drew | apply Keep.drewN | apply Keep.alloc)))) (fun _ f => f.elim))).mono ?_; rintro e w3 ⟨S3, a3', c3, L3, rfl, hm3, hr3, hk3⟩; have HK3 := Lib.hid ((show Keep w2 _ Nope from (by (repeat (first | exact Keep.refl _ _ | apply Keep.drew | apply Keep.drewN | apply Keep.alloc)))).trans hk3 (fun _ f => f.elim)); have HIN1 := Lib.hid (fun wq (hk : Keep w3 wq Nope) => sys_in _ (.slice wa wl.length wc) L3 wl wq S3 S (hr3.keep hk (fun _ _ f => f)) (HU.out.w'.keep (HKQ.out.trans (HK3.out.trans hk (fun _ f => f.elim)) (fun _ f => f.elim)) (fun _ _ f => f))); have HE1 := Lib.hid (HI1.out L3 hm3); clear hm3 hr3 hk3))
    refine hK.out _ _ ?_ (fun hHeld => ?_)
    · (try dsimp only); exact ⟨HK3.out.cell b1' (fun f => f), HK3.out.cell b5 (fun f => f)⟩
    clear hK K
    refine wpAnyH_ready (rs := [6]) (by kernel_rfl) (by simp) ?_
    refine AllReadyH.cons rfl (fun K hK => ?_) (AllReadyH.nil)
    go_simp
    go_wp2_with ((go_at_call 72; refine (HIN1.out _ (by (repeat (first | exact Keep.refl _ _ | apply Keep.drew | apply Keep.drewN | apply Keep.alloc)))).mono ?_; rintro e w4 ⟨rfl, hk4⟩; rw [HE1.out]; have HK4 := Lib.hid (HK3.out.trans ((show Keep w3 _ Nope from (by (repeat (first | exact Keep.refl _ _ | apply Keep.drew | apply Keep.drewN | apply Keep.alloc)))).trans hk4 (fun _ f => f.elim)) (fun _ f => f.elim)); clear hk4 HIN1))
    refine hK.out _ _ ?_ (fun hHeld => ?_)
    · (try dsimp only); exact ⟨HK4.out.cell b1' (fun f => f), HK4.out.cell b5 (fun f => f)⟩
    clear hK K
    refine wpAnyH_take (i := 7) (oi := ?_) (v := ?_) ?_ ?_ ?_ ?_ ?_ ?_ ?_ ?_
    rotate_left 2
    · simp only [List.getElem?_toArray, List.getElem?_cons_succ, List.getElem?_cons_zero]; exact rfl
    · kernel_rfl
    · kernel_rfl
    · kernel_rfl
    · first | exact fun _ _ _ h => h | exact fun _ _ _ h => (HPan.out _ _ _ h).elim
    · (refine Or.inl ⟨by rfl, ?_⟩; (intro w hSw; (try dsimp only at hSw); go_simp) <;> with_reducible rfl)
    · assumption
    simp only [Act.put, List.setIfInBounds_toArray, List.set_cons_zero, List.set_cons_succ]
    refine wpAnyH_take (i := 8) (oi := ?_) (v := ?_) ?_ ?_ ?_ ?_ ?_ ?_ ?_ ?_
    rotate_left 2
    · simp only [List.getElem?_toArray, List.getElem?_cons_succ, List.getElem?_cons_zero]; exact rfl
    · kernel_rfl
    · kernel_rfl
    · kernel_rfl
    · first | exact fun _ _ _ h => h | exact fun _ _ _ h => (HPan.out _ _ _ h).elim
    · (refine Or.inl ⟨by rfl, ?_⟩; (intro w hSw; (try dsimp only at hSw); go_simp) <;> with_reducible rfl)
    · assumption
    simp only [Act.put, List.setIfInBounds_toArray, List.set_cons_zero, List.set_cons_succ]
    refine wpAnyH_take (i := 9) (oi := ?_) (v := ?_) ?_ ?_ ?_ ?_ ?_ ?_ ?_ ?_
    rotate_left 2
    · simp only [List.getElem?_toArray, List.getElem?_cons_succ, List.getElem?_cons_zero]; exact rfl
    · kernel_rfl
    · kernel_rfl
    · kernel_rfl
    · first | exact fun _ _ _ h => h | exact fun _ _ _ h => (HPan.out _ _ _ h).elim
    · (refine Or.inl ⟨by rfl, ?_⟩; (intro w hSw; (try dsimp only at hSw); go_simp) <;> with_reducible rfl)
    · assumption
    simp only [Act.put, List.setIfInBounds_toArray, List.set_cons_zero, List.set_cons_succ]
    refine wpAnyH_take (i := 10) (oi := ?_) (v := ?_) ?_ ?_ ?_ ?_ ?_ ?_ ?_ ?_
    rotate_left 2
    · simp only [List.getElem?_toArray, List.getElem?_cons_succ, List.getElem?_cons_zero]; exact rfl
    · kernel_rfl
    · kernel_rfl
    · kernel_rfl
    · first | exact fun _ _ _ h => h | exact fun _ _ _ h => (HPan.out _ _ _ h).elim
    · (refine Or.inl ⟨by rfl, ?_⟩; (intro w hSw; (try dsimp only at hSw); go_simp) <;> with_reducible rfl)
    · assumption
    simp only [Act.put, List.setIfInBounds_toArray, List.set_cons_zero, List.set_cons_succ]
    refine wpAnyH_take (i := 12) (oi := ?_) (v := ?_) ?_ ?_ ?_ ?_ ?_ ?_ ?_ ?_
    rotate_left 2
    · simp only [List.getElem?_toArray, List.getElem?_cons_succ, List.getElem?_cons_zero]; exact rfl
    · kernel_rfl
    · kernel_rfl
    · kernel_rfl
    · first | exact fun _ _ _ h => h | exact fun _ _ _ h => (HPan.out _ _ _ h).elim
    · (refine Or.inl ⟨by rfl, ?_⟩; (intro w hSw; (try dsimp only at hSw); go_simp) <;> with_reducible rfl)
    · assumption
    simp only [Act.put, List.setIfInBounds_toArray, List.set_cons_zero, List.set_cons_succ]
    refine wpAnyH_ready (rs := [11]) (by kernel_rfl) (by simp) ?_
    refine AllReadyH.cons rfl (fun K hK => ?_) (AllReadyH.nil)
    go_simp
    go_wp2_with ((go_at_call 74; refine (HPR.out _ (HKQ.out.trans (HK4.out.trans (show Keep w4 _ Nope from (by (repeat (first | exact Keep.refl _ _ | apply Keep.drew | apply Keep.drewN | apply Keep.alloc)))) (fun _ f => f.elim)) (fun _ f => f.elim))).mono ?_; rintro e w5 ⟨S5, a5', c5, L5, rfl, hm5, hr5, hk5⟩; have HK5 := Lib.hid (HK4.out.trans ((show Keep w4 _ Nope from (by (repeat (first | exact Keep.refl _ _ | apply Keep.drew | apply Keep.drewN | apply Keep.alloc)))).trans hk5 (fun _ f => f.elim)) (fun _ f => f.elim)); have HIN2 := Lib.hid (fun wq (hk : Keep w5 wq Nope) => sys_in _ (.slice a2' n2 c2) L5 (rl ++ wl) wq S5 S2 (hr5.keep hk (fun _ _ f => f)) (HN2.out ▸ HR2.out.keep (HK5.out.trans hk (fun _ f => f.elim)) (fun _ _ f => f))); have HE2 := Lib.hid (HI2.out L5 hm5); clear hm5 hr5 hk5))
    refine hK.out _ _ ?_ (fun hHeld => ?_)
    · (try dsimp only); exact ⟨HK5.out.cell b1' (fun f => f), HK5.out.cell b5 (fun f => f)⟩
    clear hK K
    refine wpAnyH_ready (rs := [13]) (by kernel_rfl) (by simp) ?_
    refine AllReadyH.cons rfl (fun K hK => ?_) (AllReadyH.nil)
    go_simp
    go_wp2_with ((go_at_call 72; refine (HIN2.out _ (by (repeat (first | exact Keep.refl _ _ | apply Keep.drew | apply Keep.drewN | apply Keep.alloc)))).mono ?_; rintro e w6 ⟨rfl, hk6⟩; rw [HE2.out]; have HK6 := Lib.hid (HK5.out.trans ((show Keep w5 _ Nope from (by (repeat (first | exact Keep.refl _ _ | apply Keep.drew | apply Keep.drewN | apply Keep.alloc)))).trans hk6 (fun _ f => f.elim)) (fun _ f => f.elim)); clear hk6 HIN2))
    refine hK.out _ _ ?_ (fun hHeld => ?_)
    · (try dsimp only); exact ⟨HK6.out.cell b1' (fun f => f), HK6.out.cell b5 (fun f => f)⟩
    clear hK K
    refine wpAnyH_take (i := 14) (oi := ?_) (v := ?_) ?_ ?_ ?_ ?_ ?_ ?_ ?_ ?_
    rotate_left 2
    · simp only [List.getElem?_toArray, List.getElem?_cons_succ, List.getElem?_cons_zero]; exact rfl
    · kernel_rfl
    · kernel_rfl
    · kernel_rfl
    · first | exact fun _ _ _ h => h | exact fun _ _ _ h => (HPan.out _ _ _ h).elim
    · (refine Or.inl ⟨by rfl, ?_⟩; (intro w hSw; (try dsimp only at hSw); go_simp) <;> with_reducible rfl)
    · assumption
    simp only [Act.put, List.setIfInBounds_toArray, List.set_cons_zero, List.set_cons_succ]
    refine wpAnyH_take (i := 15) (oi := ?_) (v := ?_) ?_ ?_ ?_ ?_ ?_ ?_ ?_ ?_
    rotate_left 2
    · simp only [List.getElem?_toArray, List.getElem?_cons_succ, List.getElem?_cons_zero]; exact rfl
    · kernel_rfl
    · kernel_rfl
    · kernel_rfl
    · first | exact fun _ _ _ h => h | exact fun _ _ _ h => (HPan.out _ _ _ h).elim
    · (refine Or.inl ⟨by rfl, ?_⟩; (intro w hSw; (try dsimp only at hSw); go_simp) <;> with_reducible rfl)
    · assumption
    simp only [Act.put, List.setIfInBounds_toArray, List.set_cons_zero, List.set_cons_succ]
    refine wpAnyH_take (i := 16) (oi := ?_) (v := ?_) ?_ ?_ ?_ ?_ ?_ ?_ ?_ ?_
    rotate_left 2
    · simp only [List.getElem?_toArray, List.getElem?_cons_succ, List.getElem?_cons_zero]; exact rfl
    · kernel_rfl
    · kernel_rfl
    · kernel_rfl
    · first | exact fun _ _ _ h => h | exact fun _ _ _ h => (HPan.out _ _ _ h).elim
    · (refine Or.inl ⟨by rfl, ?_⟩; (intro w hSw; (try dsimp only at hSw); go_simp) <;> with_reducible rfl)
    · assumption
    simp only [Act.put, List.setIfInBounds_toArray, List.set_cons_zero, List.set_cons_succ]
    refine wpAnyH_done (by kernel_rfl) ?_ _
    cases i2
    all_goals
      go_wp2_with fail
      go_ret
      exact ⟨by rw [← HR.out]; rfl, HKQ.out.trans HK6.out (fun _ f => f.elim)⟩
end Go.Proofs.Ytbigknmeooaidaa
