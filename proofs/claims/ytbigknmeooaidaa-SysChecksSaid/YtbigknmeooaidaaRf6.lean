/-
  The document's answer for systems: may a system be.
-/
import Derived.Test.YtbigknmeooaidaaRf
import Derived.Test.YtbigknmeooaidaaRf5
import Derived.Test.YtbigknmeooaidaaChk14
import Derived.Test.YtbigknmeooaidaaMk2
namespace Go.Proofs.Ytbigknmeooaidaa
open Go Go.RowKit
set_option linter.unusedVariables false
set_option linter.unusedSimpArgs false

theorem risB_rises {b : Int} : ∀ {l : List Int} {last : Int}, risB b last l = true → Rises l ∧ ∀ z, z ∈ l → last < z ∧ z < b
  | [], _, _ => ⟨List.Pairwise.nil, fun z hz => by simp at hz⟩
  | n :: t, last, h => by
    unfold risB at h
    simp only [Bool.and_eq_true, Bool.not_eq_true', Bool.or_eq_false_iff, decide_eq_false_iff_not] at h
    obtain ⟨⟨h1, h2⟩, h3⟩ := h
    obtain ⟨h4, h5⟩ := risB_rises h3
    refine ⟨List.pairwise_cons.2 ⟨fun z hz => (h5 z hz).1, h4⟩, fun z hz => ?_⟩
    rcases List.mem_cons.1 hz with rfl | hz
    · omega
    · have := h5 z hz
      omega
theorem inB_cons {x : Int} {t all : List Int} : inB (x :: t) all = (decide (x ∈ all) && inB t all) := by
  rw [Bool.eq_iff_iff]
  simp only [inB_iff, Bool.and_eq_true, decide_eq_true_eq, List.forall_mem_cons]
theorem drop_at {α : Type} {l : List α} {k : Nat} {x : α} (h : l[k]? = some x) : l.drop k = x :: l.drop (k + 1) := by
  obtain ⟨hlt, hx⟩ := List.getElem?_eq_some_iff.1 h
  rw [List.drop_eq_getElem_cons hlt, hx]
def LoopSM (wb : World) (L all : List Int) (g : Nat) (v : Value) (wr : World) : Prop :=
  ∃ k : Nat, g + k = L.length ∧ v = .int .i64 k ∧ inB L all = inB (L.drop k) all ∧ Keep wb wr Nope
def LoopSI (wb : World) (e : List InsV → Int) (l : List InsV) (g : Nat) (v : Value) (wr : World) : Prop :=
  ∃ k : Nat, g + k = l.length ∧ v = .int .i64 k ∧ e l = e (l.drop k) ∧ Keep wb wr Nope

set_option maxRecDepth 100000 in
set_option maxHeartbeats 8000000 in
theorem ref_SysMay (cf : CfgV) (y : SysF) (w : World) (S : Nat → Prop) (h : SysRd S w y) (hd : RdDescs S w (.slice cf.ca cf.dl.length cf.cc) cf.dl) (hdl : cf.dl.length ≤ 1000) :
    Calls Try.prog 28 #[cf.val, y.x.val] w (Ret w (.int .i64 (sysE cf.dl cf.rn y))) := by
  obtain ⟨r, hr⟩ : ∃ r, sysE cf.dl cf.rn y = r := ⟨_, rfl⟩
  rw [hr]
  unfold sysE at hr
  have hIMz := fun (hz : planE cf.dl.length y.pll = 0) (hz2 : codeE y.cdl = 0) (hz3 : risB ((min cf.rn 32 : Nat) : Int) (-1) y.x.rr.l = true) (hz4 : risB ((min cf.rn 32 : Nat) : Int) (-1) y.x.rw'.l = true) (i : InsV) (hi : i ∈ y.cdl) wq (hk : Keep w wq Nope) => ref_insMay cf y i wq S (h.keep0 hk) (hd.keep hk (fun _ _ f => f)) (by
      obtain ⟨b, hb⟩ := (codeE_zero hz2).2 i hi
      unfold okI shIs at hb
      simp only [Bool.and_eq_true, decide_eq_true_eq] at hb
      exact hb.1.1.1.1.1) (fun hu => by
      obtain ⟨b, hb⟩ := (codeE_zero hz2).2 i hi
      exact okI_up hb hu) (planE_zero hz).2 (planE_zero hz).1 hdl ⟨(risB_rises hz3).1, fun z hz => by have := ((risB_rises hz3).2 z hz).2; omega⟩ ⟨(risB_rises hz4).1, fun z hz => by have := ((risB_rises hz4).2 z hz).2; omega⟩ (by have := risB_len hz3; omega) (by have := risB_len hz4; omega)
  obtain ⟨x, pll, cdl⟩ := y
  obtain ⟨⟨ra, rc, rl⟩, ⟨wa, wc', wl⟩, ⟨rra, rrc, rrl⟩, ⟨rwa, rwc, rwl⟩, al, ⟨pla, pln, plc⟩, ⟨cda, cdn, cdc⟩, ⟨afa, afc, afl⟩⟩ := x
  obtain ⟨size, top, ca, cc, dl, cra, crn, crc⟩ := cf
  have hpn : pln = pll.length := by
    obtain ⟨_, _, he, _⟩ := h.pl
    injection he
  have hcn : cdn = cdl.length := by
    obtain ⟨_, _, he, _⟩ := h.cd
    injection he
  subst hpn hcn
  simp only at hdl hr
  have H := Lib.hid h
  have HD := Lib.hid hd
  have HIMZ := Lib.hid hIMz
  have HP := Lib.hid (show RdCols S w (.slice pla pll.length plc) pll from h.pl)
  have HC := Lib.hid (show RdIns S w (.slice cda cdl.length cdc) cdl from h.cd)
  have HUr := Lib.hid (show Rd S w (.slice ra rl.length rc) rl.length (ints rl) from h.use.r)
  have HUw := Lib.hid (show Rd S w (.slice wa wl.length wc') wl.length (ints wl) from h.use.w')
  have HUrr := Lib.hid (show Rd S w (.slice rra rrl.length rrc) rrl.length (ints rrl) from h.use.rr)
  have HUrw := Lib.hid (show Rd S w (.slice rwa rwl.length rwc) rwl.length (ints rwl) from h.use.rw')
  clear h hd hIMz
  obtain ⟨mres, hmres⟩ : ∃ m : Nat, min crn 32 = m := ⟨_, rfl⟩
  have hmin : min (crn : Int) 32 = (mres : Int) := by omega
  obtain ⟨pe, hpe⟩ : ∃ pe, planE dl.length pll = pe := ⟨_, rfl⟩
  obtain ⟨ce, hce⟩ : ∃ ce, codeE cdl = ce := ⟨_, rfl⟩
  obtain ⟨ue, hue⟩ : ∃ ue, usesE dl.length crn ⟨⟨ra, rc, rl⟩, ⟨wa, wc', wl⟩, ⟨rra, rrc, rrl⟩, ⟨rwa, rwc, rwl⟩, al, ⟨pla, pll.length, plc⟩, ⟨cda, cdl.length, cdc⟩, ⟨afa, afc, afl⟩⟩ pll = ue := ⟨_, rfl⟩
  rw [hpe, hce, hue] at hr
  unfold usesE at hue
  simp only [hmres] at hue
  obtain ⟨z1, hz1⟩ : ∃ z, risB dl.length (-1) rl = z := ⟨_, rfl⟩
  obtain ⟨z2, hz2⟩ : ∃ z, risB dl.length (-1) wl = z := ⟨_, rfl⟩
  obtain ⟨z3, hz3⟩ : ∃ z, risB (mres : Int) (-1) rrl = z := ⟨_, rfl⟩
  obtain ⟨z4, hz4⟩ : ∃ z, risB (mres : Int) (-1) rwl = z := ⟨_, rfl⟩
  rw [hz1, hz2, hz3, hz4] at hue
  have HR := Lib.hid hr
  have HUE := Lib.hid hue
  have HPE := Lib.hid hpe
  have HCE := Lib.hid hce
  have HZ1 := Lib.hid hz1
  have HZ2 := Lib.hid hz2
  have HZ3 := Lib.hid hz3
  have HZ4 := Lib.hid hz4
  have HMR := Lib.hid hmres
  clear hr hue hpe hce hz1 hz2 hz3 hz4 hmres
  unfold SysX.val CfgV.val
  simp only [RowV.v, SlV.v]
  obtain ⟨w1, hw1⟩ : ∃ w1, w1 = (w.alloc (.cells #[.int .i64 size, .int .i64 top, .slice ca dl.length cc, .slice cra crn crc] 56)).alloc (.cells #[.slice ra rl.length rc, .slice wa wl.length wc', .slice rra rrl.length rrc, .slice rwa rwl.length rwc, .bool al, .slice pla pll.length plc, .slice cda cdl.length cdc, .slice afa afl.length afc] 35) := ⟨_, rfl⟩
  have hk1 : Keep w w1 Nope := by rw [hw1]; exact ((Keep.refl w Nope).alloc _).alloc _
  have hba : Blk w1 w.heap.size #[.int .i64 size, .int .i64 top, .slice ca dl.length cc, .slice cra crn crc] 56 := by
    rw [hw1]; exact (Blk.new w _ _).keep ((Keep.refl _ Nope).alloc _) (fun f => f)
  have hbb : Blk w1 (w.heap.size + 1) #[.slice ra rl.length rc, .slice wa wl.length wc', .slice rra rrl.length rrc, .slice rwa rwl.length rwc, .bool al, .slice pla pll.length plc, .slice cda cdl.length cdc, .slice afa afl.length afc] 35 := by
    rw [hw1, ← World.size_alloc w]; exact Blk.new _ _ _
  obtain ⟨ga, hga⟩ : ∃ g, g = w.heap.size := ⟨_, rfl⟩
  rw [← hga] at hba hbb
  obtain ⟨gb, hgb⟩ : ∃ g, g = ga + 1 := ⟨_, rfl⟩
  rw [← hgb] at hbb
  have HK1 := Lib.hid hk1
  have HW1 := Lib.hid hw1
  have HBA := Lib.hid hba
  have HBB := Lib.hid hbb
  have HGA := Lib.hid hga
  have HGB := Lib.hid hgb
  have HPM := Lib.hid (show ∀ wq, Keep w1 wq Nope → Calls Try.prog 51 #[.int .i64 dl.length, .slice pla pll.length plc] wq (Ret wq (.int .i64 pe)) from fun wq hk => HPE.out ▸ ref_PlanMay dl.length _ pll wq S (HP.out.keep (HK1.out.trans hk (fun _ f => f.elim)) (fun _ _ f => f)))
  have HCM := Lib.hid (show ∀ wq, Keep w1 wq Nope → Calls Try.prog 52 #[.slice cda cdl.length cdc] wq (Ret wq (.int .i64 ce)) from fun wq hk => HCE.out ▸ ref_CodeMay _ cdl wq S (HC.out.keep (HK1.out.trans hk (fun _ f => f.elim)) (fun _ _ f => f)))
  have HRS1 := Lib.hid (show ∀ wq, Keep w1 wq Nope → Calls Try.prog 53 #[.slice ra rl.length rc, .int .i64 dl.length] wq (Ret wq (.bool z1)) from fun wq hk => HZ1.out ▸ ref_rising _ rl _ wq S (HUr.out.keep (HK1.out.trans hk (fun _ f => f.elim)) (fun _ _ f => f)))
  have HRS2 := Lib.hid (show ∀ wq, Keep w1 wq Nope → Calls Try.prog 53 #[.slice wa wl.length wc', .int .i64 dl.length] wq (Ret wq (.bool z2)) from fun wq hk => HZ2.out ▸ ref_rising _ wl _ wq S (HUw.out.keep (HK1.out.trans hk (fun _ f => f.elim)) (fun _ _ f => f)))
  have HRS3 := Lib.hid (show ∀ wq, Keep w1 wq Nope → Calls Try.prog 53 #[.slice rra rrl.length rrc, .int .i64 mres] wq (Ret wq (.bool z3)) from fun wq hk => HZ3.out ▸ ref_rising _ rrl _ wq S (HUrr.out.keep (HK1.out.trans hk (fun _ f => f.elim)) (fun _ _ f => f)))
  have HRS4 := Lib.hid (show ∀ wq, Keep w1 wq Nope → Calls Try.prog 53 #[.slice rwa rwl.length rwc, .int .i64 mres] wq (Ret wq (.bool z4)) from fun wq hk => HZ4.out ▸ ref_rising _ rwl _ wq S (HUrw.out.keep (HK1.out.trans hk (fun _ f => f.elim)) (fun _ _ f => f)))
  clear hga hgb hba hbb hk1 hw1
  have a0 := HBA.out.cell 0; have a1 := HBA.out.cell 1; have a2 := HBA.out.cell 2; have a3 := HBA.out.cell 3; simp at a0 a1 a2 a3
  have b0 := HBB.out.cell 0; have b1 := HBB.out.cell 1; have b2 := HBB.out.cell 2; have b3 := HBB.out.cell 3; have b4 := HBB.out.cell 4; have b5 := HBB.out.cell 5; have b6 := HBB.out.cell 6; have b7 := HBB.out.cell 7; simp at b0 b1 b2 b3 b4 b5 b6 b7
  have KK := Lib.hid (Keep.refl w1 Nope)
  go_enter Try.func28, Try.ntmps28
  go_upto_region 1 with (fail)
  rw [← HW1.out, ← HGA.out]
  (try rw [← HGB.out])
  go_upto_region 2 with (go_at_call 51; refine (HPM.out _ KK.out).mono ?_; rintro e wn ⟨rfl, hk⟩; have KK := Lib.hid (KK.out.trans hk (fun _ f => f.elim)); clear hk a0 a1 a2 a3 b0 b1 b2 b3 b4 b5 b6 b7; have a0 := (HBA.out.keep KK.out (fun f => f)).cell 0; have a1 := (HBA.out.keep KK.out (fun f => f)).cell 1; have a2 := (HBA.out.keep KK.out (fun f => f)).cell 2; have a3 := (HBA.out.keep KK.out (fun f => f)).cell 3; simp at a0 a1 a2 a3; have b0 := (HBB.out.keep KK.out (fun f => f)).cell 0; have b1 := (HBB.out.keep KK.out (fun f => f)).cell 1; have b2 := (HBB.out.keep KK.out (fun f => f)).cell 2; have b3 := (HBB.out.keep KK.out (fun f => f)).cell 3; have b4 := (HBB.out.keep KK.out (fun f => f)).cell 4; have b5 := (HBB.out.keep KK.out (fun f => f)).cell 5; have b6 := (HBB.out.keep KK.out (fun f => f)).cell 6; have b7 := (HBB.out.keep KK.out (fun f => f)).cell 7; simp at b0 b1 b2 b3 b4 b5 b6 b7)
  by_cases hp : pe = 0
  case neg =>
    have hpb : (pe != 0) = true := by simpa using hp
    have HRE := Lib.hid (show r = pe from by rw [← HR.out, if_neg hp])
    clear hp
    go_wp2_with fail
    go_ret
    exact ⟨by rw [HRE.out]; rfl, HK1.out.trans KK.out (fun _ f => f.elim)⟩
  subst hp
  rw [if_pos rfl] at HR
  go_upto_region 5 with (go_at_call 52; refine (HCM.out _ KK.out).mono ?_; rintro e wn ⟨rfl, hk⟩; have KK := Lib.hid (KK.out.trans hk (fun _ f => f.elim)); clear hk a0 a1 a2 a3 b0 b1 b2 b3 b4 b5 b6 b7; have a0 := (HBA.out.keep KK.out (fun f => f)).cell 0; have a1 := (HBA.out.keep KK.out (fun f => f)).cell 1; have a2 := (HBA.out.keep KK.out (fun f => f)).cell 2; have a3 := (HBA.out.keep KK.out (fun f => f)).cell 3; simp at a0 a1 a2 a3; have b0 := (HBB.out.keep KK.out (fun f => f)).cell 0; have b1 := (HBB.out.keep KK.out (fun f => f)).cell 1; have b2 := (HBB.out.keep KK.out (fun f => f)).cell 2; have b3 := (HBB.out.keep KK.out (fun f => f)).cell 3; have b4 := (HBB.out.keep KK.out (fun f => f)).cell 4; have b5 := (HBB.out.keep KK.out (fun f => f)).cell 5; have b6 := (HBB.out.keep KK.out (fun f => f)).cell 6; have b7 := (HBB.out.keep KK.out (fun f => f)).cell 7; simp at b0 b1 b2 b3 b4 b5 b6 b7)
  by_cases hp : ce = 0
  case neg =>
    have hpb : (ce != 0) = true := by simpa using hp
    have HRE := Lib.hid (show r = ce from by rw [← HR.out, if_neg hp])
    clear hp
    go_wp2_with fail
    go_ret
    exact ⟨by rw [HRE.out]; rfl, HK1.out.trans KK.out (fun _ f => f.elim)⟩
  subst hp
  rw [if_pos rfl] at HR
  go_upto_region 7 with (fail)
  go_quiet (fail)
  have KK := Lib.hid (KK.out.drewN nq)
  cases z1
  case false =>
    have HRE := Lib.hid (show r = 1 from by rw [← HR.out, ← HUE.out]; rfl)
    go_wp2_with (go_at_call 53; first | (refine (HRS1.out _ KK.out).mono ?_; rintro e wn ⟨rfl, hk⟩; have KK := Lib.hid (KK.out.trans hk (fun _ f => f.elim)); clear hk HRS1 a0 a1 a2 a3 b0 b1 b2 b3 b4 b5 b6 b7; have a0 := (HBA.out.keep KK.out (fun f => f)).cell 0; have a1 := (HBA.out.keep KK.out (fun f => f)).cell 1; have a2 := (HBA.out.keep KK.out (fun f => f)).cell 2; have a3 := (HBA.out.keep KK.out (fun f => f)).cell 3; simp at a0 a1 a2 a3; have b0 := (HBB.out.keep KK.out (fun f => f)).cell 0; have b1 := (HBB.out.keep KK.out (fun f => f)).cell 1; have b2 := (HBB.out.keep KK.out (fun f => f)).cell 2; have b3 := (HBB.out.keep KK.out (fun f => f)).cell 3; have b4 := (HBB.out.keep KK.out (fun f => f)).cell 4; have b5 := (HBB.out.keep KK.out (fun f => f)).cell 5; have b6 := (HBB.out.keep KK.out (fun f => f)).cell 6; have b7 := (HBB.out.keep KK.out (fun f => f)).cell 7; simp at b0 b1 b2 b3 b4 b5 b6 b7) | (refine (HRS2.out _ KK.out).mono ?_; rintro e wn ⟨rfl, hk⟩; have KK := Lib.hid (KK.out.trans hk (fun _ f => f.elim)); clear hk HRS2 a0 a1 a2 a3 b0 b1 b2 b3 b4 b5 b6 b7; have a0 := (HBA.out.keep KK.out (fun f => f)).cell 0; have a1 := (HBA.out.keep KK.out (fun f => f)).cell 1; have a2 := (HBA.out.keep KK.out (fun f => f)).cell 2; have a3 := (HBA.out.keep KK.out (fun f => f)).cell 3; simp at a0 a1 a2 a3; have b0 := (HBB.out.keep KK.out (fun f => f)).cell 0; have b1 := (HBB.out.keep KK.out (fun f => f)).cell 1; have b2 := (HBB.out.keep KK.out (fun f => f)).cell 2; have b3 := (HBB.out.keep KK.out (fun f => f)).cell 3; have b4 := (HBB.out.keep KK.out (fun f => f)).cell 4; have b5 := (HBB.out.keep KK.out (fun f => f)).cell 5; have b6 := (HBB.out.keep KK.out (fun f => f)).cell 6; have b7 := (HBB.out.keep KK.out (fun f => f)).cell 7; simp at b0 b1 b2 b3 b4 b5 b6 b7) | (refine (HRS3.out _ KK.out).mono ?_; rintro e wn ⟨rfl, hk⟩; have KK := Lib.hid (KK.out.trans hk (fun _ f => f.elim)); clear hk HRS3 a0 a1 a2 a3 b0 b1 b2 b3 b4 b5 b6 b7; have a0 := (HBA.out.keep KK.out (fun f => f)).cell 0; have a1 := (HBA.out.keep KK.out (fun f => f)).cell 1; have a2 := (HBA.out.keep KK.out (fun f => f)).cell 2; have a3 := (HBA.out.keep KK.out (fun f => f)).cell 3; simp at a0 a1 a2 a3; have b0 := (HBB.out.keep KK.out (fun f => f)).cell 0; have b1 := (HBB.out.keep KK.out (fun f => f)).cell 1; have b2 := (HBB.out.keep KK.out (fun f => f)).cell 2; have b3 := (HBB.out.keep KK.out (fun f => f)).cell 3; have b4 := (HBB.out.keep KK.out (fun f => f)).cell 4; have b5 := (HBB.out.keep KK.out (fun f => f)).cell 5; have b6 := (HBB.out.keep KK.out (fun f => f)).cell 6; have b7 := (HBB.out.keep KK.out (fun f => f)).cell 7; simp at b0 b1 b2 b3 b4 b5 b6 b7) | (refine (HRS4.out _ KK.out).mono ?_; rintro e wn ⟨rfl, hk⟩; have KK := Lib.hid (KK.out.trans hk (fun _ f => f.elim)); clear hk HRS4 a0 a1 a2 a3 b0 b1 b2 b3 b4 b5 b6 b7; have a0 := (HBA.out.keep KK.out (fun f => f)).cell 0; have a1 := (HBA.out.keep KK.out (fun f => f)).cell 1; have a2 := (HBA.out.keep KK.out (fun f => f)).cell 2; have a3 := (HBA.out.keep KK.out (fun f => f)).cell 3; simp at a0 a1 a2 a3; have b0 := (HBB.out.keep KK.out (fun f => f)).cell 0; have b1 := (HBB.out.keep KK.out (fun f => f)).cell 1; have b2 := (HBB.out.keep KK.out (fun f => f)).cell 2; have b3 := (HBB.out.keep KK.out (fun f => f)).cell 3; have b4 := (HBB.out.keep KK.out (fun f => f)).cell 4; have b5 := (HBB.out.keep KK.out (fun f => f)).cell 5; have b6 := (HBB.out.keep KK.out (fun f => f)).cell 6; have b7 := (HBB.out.keep KK.out (fun f => f)).cell 7; simp at b0 b1 b2 b3 b4 b5 b6 b7))
    go_ret
    exact ⟨by rw [HRE.out]; rfl, HK1.out.trans KK.out (fun _ f => f.elim)⟩
  cases z2
  case false =>
    have HRE := Lib.hid (show r = 1 from by rw [← HR.out, ← HUE.out]; rfl)
    go_wp2_with (go_at_call 53; first | (refine (HRS1.out _ KK.out).mono ?_; rintro e wn ⟨rfl, hk⟩; have KK := Lib.hid (KK.out.trans hk (fun _ f => f.elim)); clear hk HRS1 a0 a1 a2 a3 b0 b1 b2 b3 b4 b5 b6 b7; have a0 := (HBA.out.keep KK.out (fun f => f)).cell 0; have a1 := (HBA.out.keep KK.out (fun f => f)).cell 1; have a2 := (HBA.out.keep KK.out (fun f => f)).cell 2; have a3 := (HBA.out.keep KK.out (fun f => f)).cell 3; simp at a0 a1 a2 a3; have b0 := (HBB.out.keep KK.out (fun f => f)).cell 0; have b1 := (HBB.out.keep KK.out (fun f => f)).cell 1; have b2 := (HBB.out.keep KK.out (fun f => f)).cell 2; have b3 := (HBB.out.keep KK.out (fun f => f)).cell 3; have b4 := (HBB.out.keep KK.out (fun f => f)).cell 4; have b5 := (HBB.out.keep KK.out (fun f => f)).cell 5; have b6 := (HBB.out.keep KK.out (fun f => f)).cell 6; have b7 := (HBB.out.keep KK.out (fun f => f)).cell 7; simp at b0 b1 b2 b3 b4 b5 b6 b7) | (refine (HRS2.out _ KK.out).mono ?_; rintro e wn ⟨rfl, hk⟩; have KK := Lib.hid (KK.out.trans hk (fun _ f => f.elim)); clear hk HRS2 a0 a1 a2 a3 b0 b1 b2 b3 b4 b5 b6 b7; have a0 := (HBA.out.keep KK.out (fun f => f)).cell 0; have a1 := (HBA.out.keep KK.out (fun f => f)).cell 1; have a2 := (HBA.out.keep KK.out (fun f => f)).cell 2; have a3 := (HBA.out.keep KK.out (fun f => f)).cell 3; simp at a0 a1 a2 a3; have b0 := (HBB.out.keep KK.out (fun f => f)).cell 0; have b1 := (HBB.out.keep KK.out (fun f => f)).cell 1; have b2 := (HBB.out.keep KK.out (fun f => f)).cell 2; have b3 := (HBB.out.keep KK.out (fun f => f)).cell 3; have b4 := (HBB.out.keep KK.out (fun f => f)).cell 4; have b5 := (HBB.out.keep KK.out (fun f => f)).cell 5; have b6 := (HBB.out.keep KK.out (fun f => f)).cell 6; have b7 := (HBB.out.keep KK.out (fun f => f)).cell 7; simp at b0 b1 b2 b3 b4 b5 b6 b7) | (refine (HRS3.out _ KK.out).mono ?_; rintro e wn ⟨rfl, hk⟩; have KK := Lib.hid (KK.out.trans hk (fun _ f => f.elim)); clear hk HRS3 a0 a1 a2 a3 b0 b1 b2 b3 b4 b5 b6 b7; have a0 := (HBA.out.keep KK.out (fun f => f)).cell 0; have a1 := (HBA.out.keep KK.out (fun f => f)).cell 1; have a2 := (HBA.out.keep KK.out (fun f => f)).cell 2; have a3 := (HBA.out.keep KK.out (fun f => f)).cell 3; simp at a0 a1 a2 a3; have b0 := (HBB.out.keep KK.out (fun f => f)).cell 0; have b1 := (HBB.out.keep KK.out (fun f => f)).cell 1; have b2 := (HBB.out.keep KK.out (fun f => f)).cell 2; have b3 := (HBB.out.keep KK.out (fun f => f)).cell 3; have b4 := (HBB.out.keep KK.out (fun f => f)).cell 4; have b5 := (HBB.out.keep KK.out (fun f => f)).cell 5; have b6 := (HBB.out.keep KK.out (fun f => f)).cell 6; have b7 := (HBB.out.keep KK.out (fun f => f)).cell 7; simp at b0 b1 b2 b3 b4 b5 b6 b7) | (refine (HRS4.out _ KK.out).mono ?_; rintro e wn ⟨rfl, hk⟩; have KK := Lib.hid (KK.out.trans hk (fun _ f => f.elim)); clear hk HRS4 a0 a1 a2 a3 b0 b1 b2 b3 b4 b5 b6 b7; have a0 := (HBA.out.keep KK.out (fun f => f)).cell 0; have a1 := (HBA.out.keep KK.out (fun f => f)).cell 1; have a2 := (HBA.out.keep KK.out (fun f => f)).cell 2; have a3 := (HBA.out.keep KK.out (fun f => f)).cell 3; simp at a0 a1 a2 a3; have b0 := (HBB.out.keep KK.out (fun f => f)).cell 0; have b1 := (HBB.out.keep KK.out (fun f => f)).cell 1; have b2 := (HBB.out.keep KK.out (fun f => f)).cell 2; have b3 := (HBB.out.keep KK.out (fun f => f)).cell 3; have b4 := (HBB.out.keep KK.out (fun f => f)).cell 4; have b5 := (HBB.out.keep KK.out (fun f => f)).cell 5; have b6 := (HBB.out.keep KK.out (fun f => f)).cell 6; have b7 := (HBB.out.keep KK.out (fun f => f)).cell 7; simp at b0 b1 b2 b3 b4 b5 b6 b7))
    go_ret
    exact ⟨by rw [HRE.out]; rfl, HK1.out.trans KK.out (fun _ f => f.elim)⟩
  cases z3
  case false =>
    have HRE := Lib.hid (show r = 1 from by rw [← HR.out, ← HUE.out]; rfl)
    go_wp2_with (go_at_call 53; first | (refine (HRS1.out _ KK.out).mono ?_; rintro e wn ⟨rfl, hk⟩; have KK := Lib.hid (KK.out.trans hk (fun _ f => f.elim)); clear hk HRS1 a0 a1 a2 a3 b0 b1 b2 b3 b4 b5 b6 b7; have a0 := (HBA.out.keep KK.out (fun f => f)).cell 0; have a1 := (HBA.out.keep KK.out (fun f => f)).cell 1; have a2 := (HBA.out.keep KK.out (fun f => f)).cell 2; have a3 := (HBA.out.keep KK.out (fun f => f)).cell 3; simp at a0 a1 a2 a3; have b0 := (HBB.out.keep KK.out (fun f => f)).cell 0; have b1 := (HBB.out.keep KK.out (fun f => f)).cell 1; have b2 := (HBB.out.keep KK.out (fun f => f)).cell 2; have b3 := (HBB.out.keep KK.out (fun f => f)).cell 3; have b4 := (HBB.out.keep KK.out (fun f => f)).cell 4; have b5 := (HBB.out.keep KK.out (fun f => f)).cell 5; have b6 := (HBB.out.keep KK.out (fun f => f)).cell 6; have b7 := (HBB.out.keep KK.out (fun f => f)).cell 7; simp at b0 b1 b2 b3 b4 b5 b6 b7) | (refine (HRS2.out _ KK.out).mono ?_; rintro e wn ⟨rfl, hk⟩; have KK := Lib.hid (KK.out.trans hk (fun _ f => f.elim)); clear hk HRS2 a0 a1 a2 a3 b0 b1 b2 b3 b4 b5 b6 b7; have a0 := (HBA.out.keep KK.out (fun f => f)).cell 0; have a1 := (HBA.out.keep KK.out (fun f => f)).cell 1; have a2 := (HBA.out.keep KK.out (fun f => f)).cell 2; have a3 := (HBA.out.keep KK.out (fun f => f)).cell 3; simp at a0 a1 a2 a3; have b0 := (HBB.out.keep KK.out (fun f => f)).cell 0; have b1 := (HBB.out.keep KK.out (fun f => f)).cell 1; have b2 := (HBB.out.keep KK.out (fun f => f)).cell 2; have b3 := (HBB.out.keep KK.out (fun f => f)).cell 3; have b4 := (HBB.out.keep KK.out (fun f => f)).cell 4; have b5 := (HBB.out.keep KK.out (fun f => f)).cell 5; have b6 := (HBB.out.keep KK.out (fun f => f)).cell 6; have b7 := (HBB.out.keep KK.out (fun f => f)).cell 7; simp at b0 b1 b2 b3 b4 b5 b6 b7) | (refine (HRS3.out _ KK.out).mono ?_; rintro e wn ⟨rfl, hk⟩; have KK := Lib.hid (KK.out.trans hk (fun _ f => f.elim)); clear hk HRS3 a0 a1 a2 a3 b0 b1 b2 b3 b4 b5 b6 b7; have a0 := (HBA.out.keep KK.out (fun f => f)).cell 0; have a1 := (HBA.out.keep KK.out (fun f => f)).cell 1; have a2 := (HBA.out.keep KK.out (fun f => f)).cell 2; have a3 := (HBA.out.keep KK.out (fun f => f)).cell 3; simp at a0 a1 a2 a3; have b0 := (HBB.out.keep KK.out (fun f => f)).cell 0; have b1 := (HBB.out.keep KK.out (fun f => f)).cell 1; have b2 := (HBB.out.keep KK.out (fun f => f)).cell 2; have b3 := (HBB.out.keep KK.out (fun f => f)).cell 3; have b4 := (HBB.out.keep KK.out (fun f => f)).cell 4; have b5 := (HBB.out.keep KK.out (fun f => f)).cell 5; have b6 := (HBB.out.keep KK.out (fun f => f)).cell 6; have b7 := (HBB.out.keep KK.out (fun f => f)).cell 7; simp at b0 b1 b2 b3 b4 b5 b6 b7) | (refine (HRS4.out _ KK.out).mono ?_; rintro e wn ⟨rfl, hk⟩; have KK := Lib.hid (KK.out.trans hk (fun _ f => f.elim)); clear hk HRS4 a0 a1 a2 a3 b0 b1 b2 b3 b4 b5 b6 b7; have a0 := (HBA.out.keep KK.out (fun f => f)).cell 0; have a1 := (HBA.out.keep KK.out (fun f => f)).cell 1; have a2 := (HBA.out.keep KK.out (fun f => f)).cell 2; have a3 := (HBA.out.keep KK.out (fun f => f)).cell 3; simp at a0 a1 a2 a3; have b0 := (HBB.out.keep KK.out (fun f => f)).cell 0; have b1 := (HBB.out.keep KK.out (fun f => f)).cell 1; have b2 := (HBB.out.keep KK.out (fun f => f)).cell 2; have b3 := (HBB.out.keep KK.out (fun f => f)).cell 3; have b4 := (HBB.out.keep KK.out (fun f => f)).cell 4; have b5 := (HBB.out.keep KK.out (fun f => f)).cell 5; have b6 := (HBB.out.keep KK.out (fun f => f)).cell 6; have b7 := (HBB.out.keep KK.out (fun f => f)).cell 7; simp at b0 b1 b2 b3 b4 b5 b6 b7))
    go_ret
    exact ⟨by rw [HRE.out]; rfl, HK1.out.trans KK.out (fun _ f => f.elim)⟩
  cases z4
  case false =>
    have HRE := Lib.hid (show r = 1 from by rw [← HR.out, ← HUE.out]; rfl)
    go_wp2_with (go_at_call 53; first | (refine (HRS1.out _ KK.out).mono ?_; rintro e wn ⟨rfl, hk⟩; have KK := Lib.hid (KK.out.trans hk (fun _ f => f.elim)); clear hk HRS1 a0 a1 a2 a3 b0 b1 b2 b3 b4 b5 b6 b7; have a0 := (HBA.out.keep KK.out (fun f => f)).cell 0; have a1 := (HBA.out.keep KK.out (fun f => f)).cell 1; have a2 := (HBA.out.keep KK.out (fun f => f)).cell 2; have a3 := (HBA.out.keep KK.out (fun f => f)).cell 3; simp at a0 a1 a2 a3; have b0 := (HBB.out.keep KK.out (fun f => f)).cell 0; have b1 := (HBB.out.keep KK.out (fun f => f)).cell 1; have b2 := (HBB.out.keep KK.out (fun f => f)).cell 2; have b3 := (HBB.out.keep KK.out (fun f => f)).cell 3; have b4 := (HBB.out.keep KK.out (fun f => f)).cell 4; have b5 := (HBB.out.keep KK.out (fun f => f)).cell 5; have b6 := (HBB.out.keep KK.out (fun f => f)).cell 6; have b7 := (HBB.out.keep KK.out (fun f => f)).cell 7; simp at b0 b1 b2 b3 b4 b5 b6 b7) | (refine (HRS2.out _ KK.out).mono ?_; rintro e wn ⟨rfl, hk⟩; have KK := Lib.hid (KK.out.trans hk (fun _ f => f.elim)); clear hk HRS2 a0 a1 a2 a3 b0 b1 b2 b3 b4 b5 b6 b7; have a0 := (HBA.out.keep KK.out (fun f => f)).cell 0; have a1 := (HBA.out.keep KK.out (fun f => f)).cell 1; have a2 := (HBA.out.keep KK.out (fun f => f)).cell 2; have a3 := (HBA.out.keep KK.out (fun f => f)).cell 3; simp at a0 a1 a2 a3; have b0 := (HBB.out.keep KK.out (fun f => f)).cell 0; have b1 := (HBB.out.keep KK.out (fun f => f)).cell 1; have b2 := (HBB.out.keep KK.out (fun f => f)).cell 2; have b3 := (HBB.out.keep KK.out (fun f => f)).cell 3; have b4 := (HBB.out.keep KK.out (fun f => f)).cell 4; have b5 := (HBB.out.keep KK.out (fun f => f)).cell 5; have b6 := (HBB.out.keep KK.out (fun f => f)).cell 6; have b7 := (HBB.out.keep KK.out (fun f => f)).cell 7; simp at b0 b1 b2 b3 b4 b5 b6 b7) | (refine (HRS3.out _ KK.out).mono ?_; rintro e wn ⟨rfl, hk⟩; have KK := Lib.hid (KK.out.trans hk (fun _ f => f.elim)); clear hk HRS3 a0 a1 a2 a3 b0 b1 b2 b3 b4 b5 b6 b7; have a0 := (HBA.out.keep KK.out (fun f => f)).cell 0; have a1 := (HBA.out.keep KK.out (fun f => f)).cell 1; have a2 := (HBA.out.keep KK.out (fun f => f)).cell 2; have a3 := (HBA.out.keep KK.out (fun f => f)).cell 3; simp at a0 a1 a2 a3; have b0 := (HBB.out.keep KK.out (fun f => f)).cell 0; have b1 := (HBB.out.keep KK.out (fun f => f)).cell 1; have b2 := (HBB.out.keep KK.out (fun f => f)).cell 2; have b3 := (HBB.out.keep KK.out (fun f => f)).cell 3; have b4 := (HBB.out.keep KK.out (fun f => f)).cell 4; have b5 := (HBB.out.keep KK.out (fun f => f)).cell 5; have b6 := (HBB.out.keep KK.out (fun f => f)).cell 6; have b7 := (HBB.out.keep KK.out (fun f => f)).cell 7; simp at b0 b1 b2 b3 b4 b5 b6 b7) | (refine (HRS4.out _ KK.out).mono ?_; rintro e wn ⟨rfl, hk⟩; have KK := Lib.hid (KK.out.trans hk (fun _ f => f.elim)); clear hk HRS4 a0 a1 a2 a3 b0 b1 b2 b3 b4 b5 b6 b7; have a0 := (HBA.out.keep KK.out (fun f => f)).cell 0; have a1 := (HBA.out.keep KK.out (fun f => f)).cell 1; have a2 := (HBA.out.keep KK.out (fun f => f)).cell 2; have a3 := (HBA.out.keep KK.out (fun f => f)).cell 3; simp at a0 a1 a2 a3; have b0 := (HBB.out.keep KK.out (fun f => f)).cell 0; have b1 := (HBB.out.keep KK.out (fun f => f)).cell 1; have b2 := (HBB.out.keep KK.out (fun f => f)).cell 2; have b3 := (HBB.out.keep KK.out (fun f => f)).cell 3; have b4 := (HBB.out.keep KK.out (fun f => f)).cell 4; have b5 := (HBB.out.keep KK.out (fun f => f)).cell 5; have b6 := (HBB.out.keep KK.out (fun f => f)).cell 6; have b7 := (HBB.out.keep KK.out (fun f => f)).cell 7; simp at b0 b1 b2 b3 b4 b5 b6 b7))
    go_ret
    exact ⟨by rw [HRE.out]; rfl, HK1.out.trans KK.out (fun _ f => f.elim)⟩
  go_upto_region 10 with (go_at_call 53; first | (refine (HRS1.out _ KK.out).mono ?_; rintro e wn ⟨rfl, hk⟩; have KK := Lib.hid (KK.out.trans hk (fun _ f => f.elim)); clear hk HRS1 a0 a1 a2 a3 b0 b1 b2 b3 b4 b5 b6 b7; have a0 := (HBA.out.keep KK.out (fun f => f)).cell 0; have a1 := (HBA.out.keep KK.out (fun f => f)).cell 1; have a2 := (HBA.out.keep KK.out (fun f => f)).cell 2; have a3 := (HBA.out.keep KK.out (fun f => f)).cell 3; simp at a0 a1 a2 a3; have b0 := (HBB.out.keep KK.out (fun f => f)).cell 0; have b1 := (HBB.out.keep KK.out (fun f => f)).cell 1; have b2 := (HBB.out.keep KK.out (fun f => f)).cell 2; have b3 := (HBB.out.keep KK.out (fun f => f)).cell 3; have b4 := (HBB.out.keep KK.out (fun f => f)).cell 4; have b5 := (HBB.out.keep KK.out (fun f => f)).cell 5; have b6 := (HBB.out.keep KK.out (fun f => f)).cell 6; have b7 := (HBB.out.keep KK.out (fun f => f)).cell 7; simp at b0 b1 b2 b3 b4 b5 b6 b7) | (refine (HRS2.out _ KK.out).mono ?_; rintro e wn ⟨rfl, hk⟩; have KK := Lib.hid (KK.out.trans hk (fun _ f => f.elim)); clear hk HRS2 a0 a1 a2 a3 b0 b1 b2 b3 b4 b5 b6 b7; have a0 := (HBA.out.keep KK.out (fun f => f)).cell 0; have a1 := (HBA.out.keep KK.out (fun f => f)).cell 1; have a2 := (HBA.out.keep KK.out (fun f => f)).cell 2; have a3 := (HBA.out.keep KK.out (fun f => f)).cell 3; simp at a0 a1 a2 a3; have b0 := (HBB.out.keep KK.out (fun f => f)).cell 0; have b1 := (HBB.out.keep KK.out (fun f => f)).cell 1; have b2 := (HBB.out.keep KK.out (fun f => f)).cell 2; have b3 := (HBB.out.keep KK.out (fun f => f)).cell 3; have b4 := (HBB.out.keep KK.out (fun f => f)).cell 4; have b5 := (HBB.out.keep KK.out (fun f => f)).cell 5; have b6 := (HBB.out.keep KK.out (fun f => f)).cell 6; have b7 := (HBB.out.keep KK.out (fun f => f)).cell 7; simp at b0 b1 b2 b3 b4 b5 b6 b7) | (refine (HRS3.out _ KK.out).mono ?_; rintro e wn ⟨rfl, hk⟩; have KK := Lib.hid (KK.out.trans hk (fun _ f => f.elim)); clear hk HRS3 a0 a1 a2 a3 b0 b1 b2 b3 b4 b5 b6 b7; have a0 := (HBA.out.keep KK.out (fun f => f)).cell 0; have a1 := (HBA.out.keep KK.out (fun f => f)).cell 1; have a2 := (HBA.out.keep KK.out (fun f => f)).cell 2; have a3 := (HBA.out.keep KK.out (fun f => f)).cell 3; simp at a0 a1 a2 a3; have b0 := (HBB.out.keep KK.out (fun f => f)).cell 0; have b1 := (HBB.out.keep KK.out (fun f => f)).cell 1; have b2 := (HBB.out.keep KK.out (fun f => f)).cell 2; have b3 := (HBB.out.keep KK.out (fun f => f)).cell 3; have b4 := (HBB.out.keep KK.out (fun f => f)).cell 4; have b5 := (HBB.out.keep KK.out (fun f => f)).cell 5; have b6 := (HBB.out.keep KK.out (fun f => f)).cell 6; have b7 := (HBB.out.keep KK.out (fun f => f)).cell 7; simp at b0 b1 b2 b3 b4 b5 b6 b7) | (refine (HRS4.out _ KK.out).mono ?_; rintro e wn ⟨rfl, hk⟩; have KK := Lib.hid (KK.out.trans hk (fun _ f => f.elim)); clear hk HRS4 a0 a1 a2 a3 b0 b1 b2 b3 b4 b5 b6 b7; have a0 := (HBA.out.keep KK.out (fun f => f)).cell 0; have a1 := (HBA.out.keep KK.out (fun f => f)).cell 1; have a2 := (HBA.out.keep KK.out (fun f => f)).cell 2; have a3 := (HBA.out.keep KK.out (fun f => f)).cell 3; simp at a0 a1 a2 a3; have b0 := (HBB.out.keep KK.out (fun f => f)).cell 0; have b1 := (HBB.out.keep KK.out (fun f => f)).cell 1; have b2 := (HBB.out.keep KK.out (fun f => f)).cell 2; have b3 := (HBB.out.keep KK.out (fun f => f)).cell 3; have b4 := (HBB.out.keep KK.out (fun f => f)).cell 4; have b5 := (HBB.out.keep KK.out (fun f => f)).cell 5; have b6 := (HBB.out.keep KK.out (fun f => f)).cell 6; have b7 := (HBB.out.keep KK.out (fun f => f)).cell 7; simp at b0 b1 b2 b3 b4 b5 b6 b7))
  have hpl := (planE_zero HPE.out).1
  have hcl := (codeE_zero HCE.out).1
  have HRI1 := Lib.hid (risB_rises HZ1.out).1
  have HRI2 := Lib.hid (risB_rises HZ2.out).1
  obtain ⟨i1, hi1⟩ : ∃ i, inB (compsF [2] pll) wl = i := ⟨_, rfl⟩
  obtain ⟨i2, hi2⟩ : ∃ i, inB (compsF [1, 3, 4] pll) (rl ++ wl) = i := ⟨_, rfl⟩
  have hue2 := HUE.out
  rw [hi1, hi2] at hue2
  have HUE2 := Lib.hid (show (if (!i1 || !i2) = true then (19 : Int) else 0) = ue from hue2)
  have HI1 := Lib.hid hi1
  have HI2 := Lib.hid hi2
  have HCW := Lib.hid (show ∀ wq, Keep w1 wq Nope → Calls Try.prog 44 #[.slice pla pll.length plc, .slice (some ⟨wq.heap.size, 0, none⟩) 1 1] (wq.alloc (.cells #[.int .i64 2] 3)) (RetRise (wq.alloc (.cells #[.int .i64 2] 3)) (compsF [2] pll) (pll.length * 10)) from fun wq hk =>
    ref_comps _ _ pll [2] _ S _ (HP.out.keep ((HK1.out.trans hk (fun _ f => f.elim)).alloc _) (fun _ _ f => f)) (rd_one wq 2) (by omega) (by decide))
  have HCR := Lib.hid (show ∀ wq, Keep w1 wq Nope → Calls Try.prog 44 #[.slice pla pll.length plc, .slice (some ⟨wq.heap.size, 0, none⟩) 3 3] (wq.alloc (.cells #[.int .i64 1, .int .i64 3, .int .i64 4] 3)) (RetRise (wq.alloc (.cells #[.int .i64 1, .int .i64 3, .int .i64 4] 3)) (compsF [1, 3, 4] pll) (pll.length * 10)) from fun wq hk =>
    ref_comps _ _ pll [1, 3, 4] _ S (fun i => i = wq.heap.size) (HP.out.keep ((HK1.out.trans hk (fun _ f => f.elim)).alloc _) (fun _ _ f => f)) (Own.lit (S := fun i => i = wq.heap.size) wq 3 1 3 #[.int .i64 1, .int .i64 3, .int .i64 4] (by decide) rfl rfl).rd (by omega) (by decide))
  have HIW := Lib.hid (show ∀ (z : Int) wq, Keep w1 wq Nope → Calls Try.prog 13 #[.slice wa wl.length wc', .int .i64 z] wq (Ret wq (.bool (decide (z ∈ wl)))) from fun z wq hk => ref_in _ wl z wq S (HUw.out.keep (HK1.out.trans hk (fun _ f => f.elim)) (fun _ _ f => f)) HRI2.out (by have := risB_len HZ2.out; omega))
  have HIR := Lib.hid (show ∀ (z : Int) wq, Keep w1 wq Nope → Calls Try.prog 13 #[.slice ra rl.length rc, .int .i64 z] wq (Ret wq (.bool (decide (z ∈ rl)))) from fun z wq hk => ref_in _ rl z wq S (HUr.out.keep (HK1.out.trans hk (fun _ f => f.elim)) (fun _ _ f => f)) HRI1.out (by have := risB_len HZ1.out; omega))
  clear hi1 hi2 hue2 HUE HPM HCM HW1
  go_upto_region 11 with (go_at_call 44; refine (HCW.out _ KK.out).mono ?_; rintro e w3 ⟨aL, cL, L, rfl, hri, hme, hle, hrd, hk⟩; have KK := Lib.hid (KK.out.trans (((Keep.refl _ Nope).alloc _).trans hk (fun _ f => f.elim)) (fun _ f => f.elim)); clear hk a0 a1 a2 a3 b0 b1 b2 b3 b4 b5 b6 b7 HCW)
  have HLD := Lib.hid hrd
  have HLI := Lib.hid (show inB L wl = i1 from by rw [← HI1.out]; exact inB_congr hme)
  have hLL : L.length ≤ 160 := by omega
  clear hrd hri hme hle
  go_wp2_with fail
  go_loopg [10] L.length (fun g v10 wr => LoopSM w3 L wl g v10 wr)
  case atStart => exact ⟨0, rfl, rfl, rfl, Keep.refl _ _⟩
  case round =>
    obtain ⟨k, hk, rfl, hco, hkp⟩ := hrel
    have hkl : k ≤ L.length := by omega
    have HK := Lib.hid hk; clear hk
    have HCO := Lib.hid hco; clear hco
    have HKP := Lib.hid hkp
    have KK := Lib.hid (KK.out.trans hkp (fun _ f => f.elim))
    clear hkp
    have a0 := (HBA.out.keep KK.out (fun f => f)).cell 0; have a1 := (HBA.out.keep KK.out (fun f => f)).cell 1; have a2 := (HBA.out.keep KK.out (fun f => f)).cell 2; have a3 := (HBA.out.keep KK.out (fun f => f)).cell 3; simp at a0 a1 a2 a3; have b0 := (HBB.out.keep KK.out (fun f => f)).cell 0; have b1 := (HBB.out.keep KK.out (fun f => f)).cell 1; have b2 := (HBB.out.keep KK.out (fun f => f)).cell 2; have b3 := (HBB.out.keep KK.out (fun f => f)).cell 3; have b4 := (HBB.out.keep KK.out (fun f => f)).cell 4; have b5 := (HBB.out.keep KK.out (fun f => f)).cell 5; have b6 := (HBB.out.keep KK.out (fun f => f)).cell 6; have b7 := (HBB.out.keep KK.out (fun f => f)).cell 7; simp at b0 b1 b2 b3 b4 b5 b6 b7
    by_cases hlt : k < L.length
    · obtain ⟨x, hx⟩ : ∃ x, L[k]? = some x := ⟨_, List.getElem?_eq_getElem hlt⟩
      obtain ⟨bo, oo, ⟨c', hv⟩, _, hc0⟩ := (HLD.out.keep HKP.out (fun _ _ f => f)).int hx
      injection hv with hv1 hv2 hv3
      subst hv1; subst hv3; clear hv2
      have hki : (k : Int) < L.length := by omega
      have HST := Lib.hid (show inB L wl = (decide (x ∈ wl) && inB (L.drop (k + 1)) wl) from by rw [HCO.out, drop_at hx, inB_cons])
      obtain ⟨z, hz⟩ : ∃ z, decide (x ∈ wl) = z := ⟨_, rfl⟩
      rw [hz] at HST
      have HZ := Lib.hid hz
      clear hz hx
      go_upto_region 14 with (fail)
      refine wp_region_held_drew (S := fun w' => w'.cell? ⟨gb, 1, none⟩ = some (.slice wa wl.length wc') ∧ w'.cell? ⟨bo, oo + k, none⟩ = some (.int .i64 x)) (by kernel_rfl) ?_ (fun hHeld => ?_)
      · (try dsimp only); go_keep
      refine wpAnyH_take (i := 0) (oi := ?_) (v := ?_) ?_ ?_ ?_ ?_ ?_ ?_ ?_ ?_
      rotate_left 2
      · simp only [List.getElem?_toArray, List.getElem?_cons_succ, List.getElem?_cons_zero]; exact rfl
      · kernel_rfl
      · kernel_rfl
      · kernel_rfl
      · first | exact fun _ _ _ h => h | exact fun _ _ _ h => (HPan.out _ _ _ h).elim
      · (refine Or.inl ⟨by rfl, ?_⟩; (intro w hSw; (try dsimp only at hSw); go_simp) <;> with_reducible rfl)
      · assumption
      simp only [Act.put, List.setIfInBounds_toArray, List.set_cons_zero, List.set_cons_succ]
      refine wpAnyH_take (i := 1) (oi := ?_) (v := ?_) ?_ ?_ ?_ ?_ ?_ ?_ ?_ ?_
      rotate_left 2
      · simp only [List.getElem?_toArray, List.getElem?_cons_succ, List.getElem?_cons_zero]; exact rfl
      · kernel_rfl
      · kernel_rfl
      · kernel_rfl
      · first | exact fun _ _ _ h => h | exact fun _ _ _ h => (HPan.out _ _ _ h).elim
      · (refine Or.inl ⟨by rfl, ?_⟩; (intro w hSw; (try dsimp only at hSw); go_simp) <;> with_reducible rfl)
      · assumption
      simp only [Act.put, List.setIfInBounds_toArray, List.set_cons_zero, List.set_cons_succ]
      refine wpAnyH_take (i := 2) (oi := ?_) (v := ?_) ?_ ?_ ?_ ?_ ?_ ?_ ?_ ?_
      rotate_left 2
      · simp only [List.getElem?_toArray, List.getElem?_cons_succ, List.getElem?_cons_zero]; exact rfl
      · kernel_rfl
      · kernel_rfl
      · kernel_rfl
      · first | exact fun _ _ _ h => h | exact fun _ _ _ h => (HPan.out _ _ _ h).elim
      · (refine Or.inl ⟨by rfl, ?_⟩; (intro w hSw; (try dsimp only at hSw); go_simp) <;> with_reducible rfl)
      · assumption
      simp only [Act.put, List.setIfInBounds_toArray, List.set_cons_zero, List.set_cons_succ]
      refine wpAnyH_take (i := 3) (oi := ?_) (v := ?_) ?_ ?_ ?_ ?_ ?_ ?_ ?_ ?_
      rotate_left 2
      · simp only [List.getElem?_toArray, List.getElem?_cons_succ, List.getElem?_cons_zero]; exact rfl
      · kernel_rfl
      · kernel_rfl
      · kernel_rfl
      · first | exact fun _ _ _ h => h | exact fun _ _ _ h => (HPan.out _ _ _ h).elim
      · (refine Or.inl ⟨by rfl, ?_⟩; (intro w hSw; (try dsimp only at hSw); go_simp) <;> with_reducible rfl)
      · assumption
      simp only [Act.put, List.setIfInBounds_toArray, List.set_cons_zero, List.set_cons_succ]
      refine wpAnyH_take (i := 4) (oi := ?_) (v := ?_) ?_ ?_ ?_ ?_ ?_ ?_ ?_ ?_
      rotate_left 2
      · simp only [List.getElem?_toArray, List.getElem?_cons_succ, List.getElem?_cons_zero]; exact rfl
      · kernel_rfl
      · kernel_rfl
      · kernel_rfl
      · first | exact fun _ _ _ h => h | exact fun _ _ _ h => (HPan.out _ _ _ h).elim
      · (refine Or.inl ⟨by rfl, ?_⟩; (intro w hSw; (try dsimp only at hSw); go_simp) <;> with_reducible rfl)
      · assumption
      simp only [Act.put, List.setIfInBounds_toArray, List.set_cons_zero, List.set_cons_succ]
      refine wpAnyH_take (i := 5) (oi := ?_) (v := ?_) ?_ ?_ ?_ ?_ ?_ ?_ ?_ ?_
      rotate_left 2
      · simp only [List.getElem?_toArray, List.getElem?_cons_succ, List.getElem?_cons_zero]; exact rfl
      · kernel_rfl
      · kernel_rfl
      · kernel_rfl
      · first | exact fun _ _ _ h => h | exact fun _ _ _ h => (HPan.out _ _ _ h).elim
      · (refine Or.inl ⟨by rfl, ?_⟩; (intro w hSw; (try dsimp only at hSw); go_simp) <;> with_reducible rfl)
      · assumption
      simp only [Act.put, List.setIfInBounds_toArray, List.set_cons_zero, List.set_cons_succ]
      refine wpAnyH_take (i := 6) (oi := ?_) (v := ?_) ?_ ?_ ?_ ?_ ?_ ?_ ?_ ?_
      rotate_left 2
      · simp only [List.getElem?_toArray, List.getElem?_cons_succ, List.getElem?_cons_zero]; exact rfl
      · kernel_rfl
      · kernel_rfl
      · kernel_rfl
      · first | exact fun _ _ _ h => h | exact fun _ _ _ h => (HPan.out _ _ _ h).elim
      · (refine Or.inl ⟨by rfl, ?_⟩; (intro w hSw; (try dsimp only at hSw); go_simp) <;> with_reducible rfl)
      · assumption
      simp only [Act.put, List.setIfInBounds_toArray, List.set_cons_zero, List.set_cons_succ]
      refine wpAnyH_ready (rs := [7]) (by kernel_rfl) (by simp) ?_
      refine AllReadyH.cons rfl (fun K hK => ?_) (AllReadyH.nil)
      go_simp
      go_wp2_with ((go_at_call 13; refine (HIW.out _ _ (KK.out.trans (show Keep wr _ Nope from (by (repeat (first | exact Keep.refl _ _ | apply Keep.drew | apply Keep.drewN | apply Keep.alloc)))) (fun _ f => f.elim))).mono ?_; rintro e w7 ⟨rfl, hk7⟩; rw [HZ.out]; have HK7 := Lib.hid ((show Keep wr _ Nope from (by (repeat (first | exact Keep.refl _ _ | apply Keep.drew | apply Keep.drewN | apply Keep.alloc)))).trans hk7 (fun _ f => f.elim)); clear hk7))
      refine hK.out _ _ ?_ (fun hHeld => ?_)
      · (try dsimp only); exact ⟨HK7.out.cell b1 (fun f => f), HK7.out.cell hc0 (fun f => f)⟩
      clear hK K
      refine wpAnyH_take (i := 8) (oi := ?_) (v := ?_) ?_ ?_ ?_ ?_ ?_ ?_ ?_ ?_
      rotate_left 2
      · simp only [List.getElem?_toArray, List.getElem?_cons_succ, List.getElem?_cons_zero]; exact rfl
      · kernel_rfl
      · kernel_rfl
      · kernel_rfl
      · first | exact fun _ _ _ h => h | exact fun _ _ _ h => (HPan.out _ _ _ h).elim
      · (refine Or.inl ⟨by rfl, ?_⟩; (intro w hSw; (try dsimp only at hSw); go_simp) <;> with_reducible rfl)
      · assumption
      simp only [Act.put, List.setIfInBounds_toArray, List.set_cons_zero, List.set_cons_succ]
      refine wpAnyH_done (by kernel_rfl) ?_ _
      cases z
      · have HRE := Lib.hid (show r = 19 from by
          have h1 : i1 = false := by rw [← HLI.out, HST.out]; rfl
          have h2 := HUE2.out
          rw [h1] at h2
          have h3 : ue = 19 := h2.symm
          rw [← HR.out, h3]
          rfl)
        go_wp2_with fail
        go_ret
        exact ⟨by rw [HRE.out]; rfl, (HK1.out.trans KK.out (fun _ f => f.elim)).trans HK7.out (fun _ f => f.elim)⟩
      · go_wp2_with fail
        go_roundg (L.length - (k + 1))
        case measure => have := HK.out; omega
        case rel => exact ⟨k + 1, by omega, by go_num, by rw [HST.out]; rfl, HKP.out.trans HK7.out (fun _ f => f.elim)⟩
    · obtain rfl : k = L.length := by omega
      have h1 : i1 = true := by rw [← HLI.out, HCO.out, List.drop_length]; rfl
      have HUE3 := Lib.hid (show (if (!i2) = true then (19 : Int) else 0) = ue from by have h2 := HUE2.out; rw [h1] at h2; exact h2)
      have hkd : decide ((L.length : Int) < L.length) = false := decide_eq_false (by omega)
      have hkd2 : decide (L.length < L.length) = false := decide_eq_false (by omega)
      clear h1 HLI HCO HK HLD HKP
      go_upto_region 17 with (go_at_call 44; refine (HCR.out _ KK.out).mono ?_; rintro e w4 ⟨aM, cM, M, rfl, hri, hme, hle, hrd, hk⟩; have KK := Lib.hid (KK.out.trans (((Keep.refl _ Nope).alloc _).trans hk (fun _ f => f.elim)) (fun _ f => f.elim)); clear hk a0 a1 a2 a3 b0 b1 b2 b3 b4 b5 b6 b7 HCR)
      have HLD := Lib.hid hrd
      have HLI := Lib.hid (show inB M (rl ++ wl) = i2 from by rw [← HI2.out]; exact inB_congr hme)
      have hLM : M.length ≤ 160 := by omega
      clear hrd hri hme hle
      go_wp2_with fail
      go_loopg [12] M.length (fun g v12 wr => LoopSM w4 M (rl ++ wl) g v12 wr)
      case atStart => exact ⟨0, rfl, rfl, rfl, Keep.refl _ _⟩
      case round =>
        obtain ⟨k, hk, rfl, hco, hkp⟩ := hrel
        have hkl : k ≤ M.length := by omega
        have HK := Lib.hid hk; clear hk
        have HCO := Lib.hid hco; clear hco
        have HKP := Lib.hid hkp
        have KK := Lib.hid (KK.out.trans hkp (fun _ f => f.elim))
        clear hkp
        have a0 := (HBA.out.keep KK.out (fun f => f)).cell 0; have a1 := (HBA.out.keep KK.out (fun f => f)).cell 1; have a2 := (HBA.out.keep KK.out (fun f => f)).cell 2; have a3 := (HBA.out.keep KK.out (fun f => f)).cell 3; simp at a0 a1 a2 a3; have b0 := (HBB.out.keep KK.out (fun f => f)).cell 0; have b1 := (HBB.out.keep KK.out (fun f => f)).cell 1; have b2 := (HBB.out.keep KK.out (fun f => f)).cell 2; have b3 := (HBB.out.keep KK.out (fun f => f)).cell 3; have b4 := (HBB.out.keep KK.out (fun f => f)).cell 4; have b5 := (HBB.out.keep KK.out (fun f => f)).cell 5; have b6 := (HBB.out.keep KK.out (fun f => f)).cell 6; have b7 := (HBB.out.keep KK.out (fun f => f)).cell 7; simp at b0 b1 b2 b3 b4 b5 b6 b7
        by_cases hlt : k < M.length
        · obtain ⟨x, hx⟩ : ∃ x, M[k]? = some x := ⟨_, List.getElem?_eq_getElem hlt⟩
          obtain ⟨bo, oo, ⟨c', hv⟩, _, hc0⟩ := (HLD.out.keep HKP.out (fun _ _ f => f)).int hx
          injection hv with hv1 hv2 hv3
          subst hv1; subst hv3; clear hv2
          have hki : (k : Int) < M.length := by omega
          have hin : decide (x ∈ rl ++ wl) = (decide (x ∈ rl) || decide (x ∈ wl)) := by rw [Bool.eq_iff_iff]; simp only [decide_eq_true_eq, Bool.or_eq_true, List.mem_append]
          have HST := Lib.hid (show inB M (rl ++ wl) = ((decide (x ∈ rl) || decide (x ∈ wl)) && inB (M.drop (k + 1)) (rl ++ wl)) from by rw [HCO.out, drop_at hx, inB_cons, hin])
          obtain ⟨z, hz⟩ : ∃ z, decide (x ∈ rl) = z := ⟨_, rfl⟩
          obtain ⟨z', hz'⟩ : ∃ z, decide (x ∈ wl) = z := ⟨_, rfl⟩
          rw [hz, hz'] at HST
          have HZ := Lib.hid hz
          have HZ' := Lib.hid hz'
          clear hz hz' hx hin
          go_upto_region 20 with (fail)
          cases z with
          | true =>
            refine wp_region_held_drew (S := fun w' => w'.cell? ⟨gb, 0, none⟩ = some (.slice ra rl.length rc) ∧ w'.cell? ⟨bo, oo + k, none⟩ = some (.int .i64 x)) (by kernel_rfl) ?_ (fun hHeld => ?_)
            · (try dsimp only); go_keep
            refine wpAnyH_take (i := 0) (oi := ?_) (v := ?_) ?_ ?_ ?_ ?_ ?_ ?_ ?_ ?_
            rotate_left 2
            · simp only [List.getElem?_toArray, List.getElem?_cons_succ, List.getElem?_cons_zero]; exact rfl
            · kernel_rfl
            · kernel_rfl
            · kernel_rfl
            · first | exact fun _ _ _ h => h | exact fun _ _ _ h => (HPan.out _ _ _ h).elim
            · (refine Or.inl ⟨by rfl, ?_⟩; (intro w hSw; (try dsimp only at hSw); go_simp) <;> with_reducible rfl)
            · assumption
            simp only [Act.put, List.setIfInBounds_toArray, List.set_cons_zero, List.set_cons_succ]
            refine wpAnyH_take (i := 1) (oi := ?_) (v := ?_) ?_ ?_ ?_ ?_ ?_ ?_ ?_ ?_
            rotate_left 2
            · simp only [List.getElem?_toArray, List.getElem?_cons_succ, List.getElem?_cons_zero]; exact rfl
            · kernel_rfl
            · kernel_rfl
            · kernel_rfl
            · first | exact fun _ _ _ h => h | exact fun _ _ _ h => (HPan.out _ _ _ h).elim
            · (refine Or.inl ⟨by rfl, ?_⟩; (intro w hSw; (try dsimp only at hSw); go_simp) <;> with_reducible rfl)
            · assumption
            simp only [Act.put, List.setIfInBounds_toArray, List.set_cons_zero, List.set_cons_succ]
            refine wpAnyH_take (i := 2) (oi := ?_) (v := ?_) ?_ ?_ ?_ ?_ ?_ ?_ ?_ ?_
            rotate_left 2
            · simp only [List.getElem?_toArray, List.getElem?_cons_succ, List.getElem?_cons_zero]; exact rfl
            · kernel_rfl
            · kernel_rfl
            · kernel_rfl
            · first | exact fun _ _ _ h => h | exact fun _ _ _ h => (HPan.out _ _ _ h).elim
            · (refine Or.inl ⟨by rfl, ?_⟩; (intro w hSw; (try dsimp only at hSw); go_simp) <;> with_reducible rfl)
            · assumption
            simp only [Act.put, List.setIfInBounds_toArray, List.set_cons_zero, List.set_cons_succ]
            refine wpAnyH_take (i := 3) (oi := ?_) (v := ?_) ?_ ?_ ?_ ?_ ?_ ?_ ?_ ?_
            rotate_left 2
            · simp only [List.getElem?_toArray, List.getElem?_cons_succ, List.getElem?_cons_zero]; exact rfl
            · kernel_rfl
            · kernel_rfl
            · kernel_rfl
            · first | exact fun _ _ _ h => h | exact fun _ _ _ h => (HPan.out _ _ _ h).elim
            · (refine Or.inl ⟨by rfl, ?_⟩; (intro w hSw; (try dsimp only at hSw); go_simp) <;> with_reducible rfl)
            · assumption
            simp only [Act.put, List.setIfInBounds_toArray, List.set_cons_zero, List.set_cons_succ]
            refine wpAnyH_take (i := 4) (oi := ?_) (v := ?_) ?_ ?_ ?_ ?_ ?_ ?_ ?_ ?_
            rotate_left 2
            · simp only [List.getElem?_toArray, List.getElem?_cons_succ, List.getElem?_cons_zero]; exact rfl
            · kernel_rfl
            · kernel_rfl
            · kernel_rfl
            · first | exact fun _ _ _ h => h | exact fun _ _ _ h => (HPan.out _ _ _ h).elim
            · (refine Or.inl ⟨by rfl, ?_⟩; (intro w hSw; (try dsimp only at hSw); go_simp) <;> with_reducible rfl)
            · assumption
            simp only [Act.put, List.setIfInBounds_toArray, List.set_cons_zero, List.set_cons_succ]
            refine wpAnyH_take (i := 5) (oi := ?_) (v := ?_) ?_ ?_ ?_ ?_ ?_ ?_ ?_ ?_
            rotate_left 2
            · simp only [List.getElem?_toArray, List.getElem?_cons_succ, List.getElem?_cons_zero]; exact rfl
            · kernel_rfl
            · kernel_rfl
            · kernel_rfl
            · first | exact fun _ _ _ h => h | exact fun _ _ _ h => (HPan.out _ _ _ h).elim
            · (refine Or.inl ⟨by rfl, ?_⟩; (intro w hSw; (try dsimp only at hSw); go_simp) <;> with_reducible rfl)
            · assumption
            simp only [Act.put, List.setIfInBounds_toArray, List.set_cons_zero, List.set_cons_succ]
            refine wpAnyH_take (i := 6) (oi := ?_) (v := ?_) ?_ ?_ ?_ ?_ ?_ ?_ ?_ ?_
            rotate_left 2
            · simp only [List.getElem?_toArray, List.getElem?_cons_succ, List.getElem?_cons_zero]; exact rfl
            · kernel_rfl
            · kernel_rfl
            · kernel_rfl
            · first | exact fun _ _ _ h => h | exact fun _ _ _ h => (HPan.out _ _ _ h).elim
            · (refine Or.inl ⟨by rfl, ?_⟩; (intro w hSw; (try dsimp only at hSw); go_simp) <;> with_reducible rfl)
            · assumption
            simp only [Act.put, List.setIfInBounds_toArray, List.set_cons_zero, List.set_cons_succ]
            refine wpAnyH_ready (rs := [7]) (by kernel_rfl) (by simp) ?_
            refine AllReadyH.cons rfl (fun K hK => ?_) (AllReadyH.nil)
            go_simp
            go_wp2_with ((go_at_call 13; refine (HIR.out _ _ (KK.out.trans (show Keep wr _ Nope from (by (repeat (first | exact Keep.refl _ _ | apply Keep.drew | apply Keep.drewN | apply Keep.alloc)))) (fun _ f => f.elim))).mono ?_; rintro e w7 ⟨rfl, hk7⟩; rw [HZ.out]; have HK7 := Lib.hid ((show Keep wr _ Nope from (by (repeat (first | exact Keep.refl _ _ | apply Keep.drew | apply Keep.drewN | apply Keep.alloc)))).trans hk7 (fun _ f => f.elim)); clear hk7))
            refine hK.out _ _ ?_ (fun hHeld => ?_)
            · (try dsimp only); exact ⟨HK7.out.cell b0 (fun f => f), HK7.out.cell hc0 (fun f => f)⟩
            clear hK K
            refine wpAnyH_take (i := 8) (oi := ?_) (v := ?_) ?_ ?_ ?_ ?_ ?_ ?_ ?_ ?_
            rotate_left 2
            · simp only [List.getElem?_toArray, List.getElem?_cons_succ, List.getElem?_cons_zero]; exact rfl
            · kernel_rfl
            · kernel_rfl
            · kernel_rfl
            · first | exact fun _ _ _ h => h | exact fun _ _ _ h => (HPan.out _ _ _ h).elim
            · (refine Or.inl ⟨by rfl, ?_⟩; (intro w hSw; (try dsimp only at hSw); go_simp) <;> with_reducible rfl)
            · assumption
            simp only [Act.put, List.setIfInBounds_toArray, List.set_cons_zero, List.set_cons_succ]
            refine wpAnyH_take (i := 9) (oi := ?_) (v := ?_) ?_ ?_ ?_ ?_ ?_ ?_ ?_ ?_
            rotate_left 2
            · simp only [List.getElem?_toArray, List.getElem?_cons_succ, List.getElem?_cons_zero]; exact rfl
            · kernel_rfl
            · kernel_rfl
            · kernel_rfl
            · first | exact fun _ _ _ h => h | exact fun _ _ _ h => (HPan.out _ _ _ h).elim
            · (refine Or.inl ⟨by rfl, ?_⟩; (intro w hSw; (try dsimp only at hSw); go_simp) <;> with_reducible rfl)
            · assumption
            simp only [Act.put, List.setIfInBounds_toArray, List.set_cons_zero, List.set_cons_succ]
            refine wpAnyH_take (i := 10) (oi := ?_) (v := undef) ?_ ?_ ?_ ?_ ?_ ?_ ?_ ?_
            rotate_left 1
            · simp only [List.getElem?_toArray, List.getElem?_cons_succ, List.getElem?_cons_zero]; exact rfl
            · kernel_rfl
            · kernel_rfl
            · kernel_rfl
            · first | exact fun _ _ _ h => h | exact fun _ _ _ h => (HPan.out _ _ _ h).elim
            · exact Or.inr ⟨by rfl, rfl⟩
            · assumption
            simp only [Act.put, List.setIfInBounds_toArray, List.set_cons_zero, List.set_cons_succ]
            refine wpAnyH_take (i := 11) (oi := ?_) (v := undef) ?_ ?_ ?_ ?_ ?_ ?_ ?_ ?_
            rotate_left 1
            · simp only [List.getElem?_toArray, List.getElem?_cons_succ, List.getElem?_cons_zero]; exact rfl
            · kernel_rfl
            · kernel_rfl
            · kernel_rfl
            · first | exact fun _ _ _ h => h | exact fun _ _ _ h => (HPan.out _ _ _ h).elim
            · exact Or.inr ⟨by rfl, rfl⟩
            · assumption
            simp only [Act.put, List.setIfInBounds_toArray, List.set_cons_zero, List.set_cons_succ]
            refine wpAnyH_take (i := 12) (oi := ?_) (v := undef) ?_ ?_ ?_ ?_ ?_ ?_ ?_ ?_
            rotate_left 1
            · simp only [List.getElem?_toArray, List.getElem?_cons_succ, List.getElem?_cons_zero]; exact rfl
            · kernel_rfl
            · kernel_rfl
            · kernel_rfl
            · first | exact fun _ _ _ h => h | exact fun _ _ _ h => (HPan.out _ _ _ h).elim
            · exact Or.inr ⟨by rfl, rfl⟩
            · assumption
            simp only [Act.put, List.setIfInBounds_toArray, List.set_cons_zero, List.set_cons_succ]
            refine wpAnyH_take (i := 13) (oi := ?_) (v := undef) ?_ ?_ ?_ ?_ ?_ ?_ ?_ ?_
            rotate_left 1
            · simp only [List.getElem?_toArray, List.getElem?_cons_succ, List.getElem?_cons_zero]; exact rfl
            · kernel_rfl
            · kernel_rfl
            · kernel_rfl
            · first | exact fun _ _ _ h => h | exact fun _ _ _ h => (HPan.out _ _ _ h).elim
            · exact Or.inr ⟨by rfl, rfl⟩
            · assumption
            simp only [Act.put, List.setIfInBounds_toArray, List.set_cons_zero, List.set_cons_succ]
            refine wpAnyH_take (i := 14) (oi := ?_) (v := undef) ?_ ?_ ?_ ?_ ?_ ?_ ?_ ?_
            rotate_left 1
            · simp only [List.getElem?_toArray, List.getElem?_cons_succ, List.getElem?_cons_zero]; exact rfl
            · kernel_rfl
            · kernel_rfl
            · kernel_rfl
            · first | exact fun _ _ _ h => h | exact fun _ _ _ h => (HPan.out _ _ _ h).elim
            · exact Or.inr ⟨by rfl, rfl⟩
            · assumption
            simp only [Act.put, List.setIfInBounds_toArray, List.set_cons_zero, List.set_cons_succ]
            refine wpAnyH_take (i := 15) (oi := ?_) (v := undef) ?_ ?_ ?_ ?_ ?_ ?_ ?_ ?_
            rotate_left 1
            · simp only [List.getElem?_toArray, List.getElem?_cons_succ, List.getElem?_cons_zero]; exact rfl
            · kernel_rfl
            · kernel_rfl
            · kernel_rfl
            · first | exact fun _ _ _ h => h | exact fun _ _ _ h => (HPan.out _ _ _ h).elim
            · exact Or.inr ⟨by rfl, rfl⟩
            · assumption
            simp only [Act.put, List.setIfInBounds_toArray, List.set_cons_zero, List.set_cons_succ]
            refine wpAnyH_take (i := 16) (oi := ?_) (v := undef) ?_ ?_ ?_ ?_ ?_ ?_ ?_ ?_
            rotate_left 1
            · simp only [List.getElem?_toArray, List.getElem?_cons_succ, List.getElem?_cons_zero]; exact rfl
            · kernel_rfl
            · kernel_rfl
            · kernel_rfl
            · first | exact fun _ _ _ h => h | exact fun _ _ _ h => (HPan.out _ _ _ h).elim
            · exact Or.inr ⟨by rfl, rfl⟩
            · assumption
            simp only [Act.put, List.setIfInBounds_toArray, List.set_cons_zero, List.set_cons_succ]
            refine wpAnyH_take (i := 17) (oi := ?_) (v := undef) ?_ ?_ ?_ ?_ ?_ ?_ ?_ ?_
            rotate_left 1
            · simp only [List.getElem?_toArray, List.getElem?_cons_succ, List.getElem?_cons_zero]; exact rfl
            · kernel_rfl
            · kernel_rfl
            · kernel_rfl
            · first | exact fun _ _ _ h => h | exact fun _ _ _ h => (HPan.out _ _ _ h).elim
            · exact Or.inr ⟨by rfl, rfl⟩
            · assumption
            simp only [Act.put, List.setIfInBounds_toArray, List.set_cons_zero, List.set_cons_succ]
            refine wpAnyH_take (i := 18) (oi := ?_) (v := undef) ?_ ?_ ?_ ?_ ?_ ?_ ?_ ?_
            rotate_left 1
            · simp only [List.getElem?_toArray, List.getElem?_cons_succ, List.getElem?_cons_zero]; exact rfl
            · kernel_rfl
            · kernel_rfl
            · kernel_rfl
            · first | exact fun _ _ _ h => h | exact fun _ _ _ h => (HPan.out _ _ _ h).elim
            · exact Or.inr ⟨by rfl, rfl⟩
            · assumption
            simp only [Act.put, List.setIfInBounds_toArray, List.set_cons_zero, List.set_cons_succ]
            refine wpAnyH_take (i := 19) (oi := ?_) (v := ?_) ?_ ?_ ?_ ?_ ?_ ?_ ?_ ?_
            rotate_left 2
            · simp only [List.getElem?_toArray, List.getElem?_cons_succ, List.getElem?_cons_zero]; exact rfl
            · kernel_rfl
            · kernel_rfl
            · kernel_rfl
            · first | exact fun _ _ _ h => h | exact fun _ _ _ h => (HPan.out _ _ _ h).elim
            · (refine Or.inl ⟨by rfl, ?_⟩; (intro w hSw; (try dsimp only at hSw); go_simp) <;> with_reducible rfl)
            · assumption
            simp only [Act.put, List.setIfInBounds_toArray, List.set_cons_zero, List.set_cons_succ]
            refine wpAnyH_done (by kernel_rfl) ?_ _
            go_wp2_with fail
            go_roundg (M.length - (k + 1))
            case measure => have := HK.out; omega
            case rel => exact ⟨k + 1, by omega, by go_num, by rw [HST.out]; rfl, HKP.out.trans HK7.out (fun _ f => f.elim)⟩
          | false =>
            refine wp_region_held_drew (S := fun w' => w'.cell? ⟨gb, 0, none⟩ = some (.slice ra rl.length rc) ∧ w'.cell? ⟨gb, 1, none⟩ = some (.slice wa wl.length wc') ∧ w'.cell? ⟨bo, oo + k, none⟩ = some (.int .i64 x)) (by kernel_rfl) ?_ (fun hHeld => ?_)
            · (try dsimp only); go_keep
            refine wpAnyH_take (i := 0) (oi := ?_) (v := ?_) ?_ ?_ ?_ ?_ ?_ ?_ ?_ ?_
            rotate_left 2
            · simp only [List.getElem?_toArray, List.getElem?_cons_succ, List.getElem?_cons_zero]; exact rfl
            · kernel_rfl
            · kernel_rfl
            · kernel_rfl
            · first | exact fun _ _ _ h => h | exact fun _ _ _ h => (HPan.out _ _ _ h).elim
            · (refine Or.inl ⟨by rfl, ?_⟩; (intro w hSw; (try dsimp only at hSw); go_simp) <;> with_reducible rfl)
            · assumption
            simp only [Act.put, List.setIfInBounds_toArray, List.set_cons_zero, List.set_cons_succ]
            refine wpAnyH_take (i := 1) (oi := ?_) (v := ?_) ?_ ?_ ?_ ?_ ?_ ?_ ?_ ?_
            rotate_left 2
            · simp only [List.getElem?_toArray, List.getElem?_cons_succ, List.getElem?_cons_zero]; exact rfl
            · kernel_rfl
            · kernel_rfl
            · kernel_rfl
            · first | exact fun _ _ _ h => h | exact fun _ _ _ h => (HPan.out _ _ _ h).elim
            · (refine Or.inl ⟨by rfl, ?_⟩; (intro w hSw; (try dsimp only at hSw); go_simp) <;> with_reducible rfl)
            · assumption
            simp only [Act.put, List.setIfInBounds_toArray, List.set_cons_zero, List.set_cons_succ]
            refine wpAnyH_take (i := 2) (oi := ?_) (v := ?_) ?_ ?_ ?_ ?_ ?_ ?_ ?_ ?_
            rotate_left 2
            · simp only [List.getElem?_toArray, List.getElem?_cons_succ, List.getElem?_cons_zero]; exact rfl
            · kernel_rfl
            · kernel_rfl
            · kernel_rfl
            · first | exact fun _ _ _ h => h | exact fun _ _ _ h => (HPan.out _ _ _ h).elim
            · (refine Or.inl ⟨by rfl, ?_⟩; (intro w hSw; (try dsimp only at hSw); go_simp) <;> with_reducible rfl)
            · assumption
            simp only [Act.put, List.setIfInBounds_toArray, List.set_cons_zero, List.set_cons_succ]
            refine wpAnyH_take (i := 3) (oi := ?_) (v := ?_) ?_ ?_ ?_ ?_ ?_ ?_ ?_ ?_
            rotate_left 2
            · simp only [List.getElem?_toArray, List.getElem?_cons_succ, List.getElem?_cons_zero]; exact rfl
            · kernel_rfl
            · kernel_rfl
            · kernel_rfl
            · first | exact fun _ _ _ h => h | exact fun _ _ _ h => (HPan.out _ _ _ h).elim
            · (refine Or.inl ⟨by rfl, ?_⟩; (intro w hSw; (try dsimp only at hSw); go_simp) <;> with_reducible rfl)
            · assumption
            simp only [Act.put, List.setIfInBounds_toArray, List.set_cons_zero, List.set_cons_succ]
            refine wpAnyH_take (i := 4) (oi := ?_) (v := ?_) ?_ ?_ ?_ ?_ ?_ ?_ ?_ ?_
            rotate_left 2
            · simp only [List.getElem?_toArray, List.getElem?_cons_succ, List.getElem?_cons_zero]; exact rfl
            · kernel_rfl
            · kernel_rfl
            · kernel_rfl
            · first | exact fun _ _ _ h => h | exact fun _ _ _ h => (HPan.out _ _ _ h).elim
            · (refine Or.inl ⟨by rfl, ?_⟩; (intro w hSw; (try dsimp only at hSw); go_simp) <;> with_reducible rfl)
            · assumption
            simp only [Act.put, List.setIfInBounds_toArray, List.set_cons_zero, List.set_cons_succ]
            refine wpAnyH_take (i := 5) (oi := ?_) (v := ?_) ?_ ?_ ?_ ?_ ?_ ?_ ?_ ?_
            rotate_left 2
            · simp only [List.getElem?_toArray, List.getElem?_cons_succ, List.getElem?_cons_zero]; exact rfl
            · kernel_rfl
            · kernel_rfl
            · kernel_rfl
            · first | exact fun _ _ _ h => h | exact fun _ _ _ h => (HPan.out _ _ _ h).elim
            · (refine Or.inl ⟨by rfl, ?_⟩; (intro w hSw; (try dsimp only at hSw); go_simp) <;> with_reducible rfl)
            · assumption
            simp only [Act.put, List.setIfInBounds_toArray, List.set_cons_zero, List.set_cons_succ]
            refine wpAnyH_take (i := 6) (oi := ?_) (v := ?_) ?_ ?_ ?_ ?_ ?_ ?_ ?_ ?_
            rotate_left 2
            · simp only [List.getElem?_toArray, List.getElem?_cons_succ, List.getElem?_cons_zero]; exact rfl
            · kernel_rfl
            · kernel_rfl
            · kernel_rfl
            · first | exact fun _ _ _ h => h | exact fun _ _ _ h => (HPan.out _ _ _ h).elim
            · (refine Or.inl ⟨by rfl, ?_⟩; (intro w hSw; (try dsimp only at hSw); go_simp) <;> with_reducible rfl)
            · assumption
            simp only [Act.put, List.setIfInBounds_toArray, List.set_cons_zero, List.set_cons_succ]
            refine wpAnyH_ready (rs := [7]) (by kernel_rfl) (by simp) ?_
            refine AllReadyH.cons rfl (fun K hK => ?_) (AllReadyH.nil)
            go_simp
            go_wp2_with ((go_at_call 13; refine (HIR.out _ _ (KK.out.trans (show Keep wr _ Nope from (by (repeat (first | exact Keep.refl _ _ | apply Keep.drew | apply Keep.drewN | apply Keep.alloc)))) (fun _ f => f.elim))).mono ?_; rintro e w7 ⟨rfl, hk7⟩; rw [HZ.out]; have HK7 := Lib.hid ((show Keep wr _ Nope from (by (repeat (first | exact Keep.refl _ _ | apply Keep.drew | apply Keep.drewN | apply Keep.alloc)))).trans hk7 (fun _ f => f.elim)); clear hk7))
            refine hK.out _ _ ?_ (fun hHeld => ?_)
            · (try dsimp only); exact ⟨HK7.out.cell b0 (fun f => f), HK7.out.cell b1 (fun f => f), HK7.out.cell hc0 (fun f => f)⟩
            clear hK K
            refine wpAnyH_take (i := 8) (oi := ?_) (v := ?_) ?_ ?_ ?_ ?_ ?_ ?_ ?_ ?_
            rotate_left 2
            · simp only [List.getElem?_toArray, List.getElem?_cons_succ, List.getElem?_cons_zero]; exact rfl
            · kernel_rfl
            · kernel_rfl
            · kernel_rfl
            · first | exact fun _ _ _ h => h | exact fun _ _ _ h => (HPan.out _ _ _ h).elim
            · (refine Or.inl ⟨by rfl, ?_⟩; (intro w hSw; (try dsimp only at hSw); go_simp) <;> with_reducible rfl)
            · assumption
            simp only [Act.put, List.setIfInBounds_toArray, List.set_cons_zero, List.set_cons_succ]
            refine wpAnyH_take (i := 9) (oi := ?_) (v := ?_) ?_ ?_ ?_ ?_ ?_ ?_ ?_ ?_
            rotate_left 2
            · simp only [List.getElem?_toArray, List.getElem?_cons_succ, List.getElem?_cons_zero]; exact rfl
            · kernel_rfl
            · kernel_rfl
            · kernel_rfl
            · first | exact fun _ _ _ h => h | exact fun _ _ _ h => (HPan.out _ _ _ h).elim
            · (refine Or.inl ⟨by rfl, ?_⟩; (intro w hSw; (try dsimp only at hSw); go_simp) <;> with_reducible rfl)
            · assumption
            simp only [Act.put, List.setIfInBounds_toArray, List.set_cons_zero, List.set_cons_succ]
            refine wpAnyH_take (i := 10) (oi := ?_) (v := ?_) ?_ ?_ ?_ ?_ ?_ ?_ ?_ ?_
            rotate_left 2
            · simp only [List.getElem?_toArray, List.getElem?_cons_succ, List.getElem?_cons_zero]; exact rfl
            · kernel_rfl
            · kernel_rfl
            · kernel_rfl
            · first | exact fun _ _ _ h => h | exact fun _ _ _ h => (HPan.out _ _ _ h).elim
            · (refine Or.inl ⟨by rfl, ?_⟩; (intro w hSw; (try dsimp only at hSw); go_simp) <;> with_reducible rfl)
            · assumption
            simp only [Act.put, List.setIfInBounds_toArray, List.set_cons_zero, List.set_cons_succ]
            refine wpAnyH_take (i := 11) (oi := ?_) (v := ?_) ?_ ?_ ?_ ?_ ?_ ?_ ?_ ?_
            rotate_left 2
            · simp only [List.getElem?_toArray, List.getElem?_cons_succ, List.getElem?_cons_zero]; exact rfl
            · kernel_rfl
            · kernel_rfl
            · kernel_rfl
            · first | exact fun _ _ _ h => h | exact fun _ _ _ h => (HPan.out _ _ _ h).elim
            · (refine Or.inl ⟨by rfl, ?_⟩; (intro w hSw; (try dsimp only at hSw); go_simp) <;> with_reducible rfl)
            · assumption
            simp only [Act.put, List.setIfInBounds_toArray, List.set_cons_zero, List.set_cons_succ]
            refine wpAnyH_take (i := 12) (oi := ?_) (v := ?_) ?_ ?_ ?_ ?_ ?_ ?_ ?_ ?_
            rotate_left 2
            · simp only [List.getElem?_toArray, List.getElem?_cons_succ, List.getElem?_cons_zero]; exact rfl
            · kernel_rfl
            · kernel_rfl
            · kernel_rfl
            · first | exact fun _ _ _ h => h | exact fun _ _ _ h => (HPan.out _ _ _ h).elim
            · (refine Or.inl ⟨by rfl, ?_⟩; (intro w hSw; (try dsimp only at hSw); go_simp) <;> with_reducible rfl)
            · assumption
            simp only [Act.put, List.setIfInBounds_toArray, List.set_cons_zero, List.set_cons_succ]
            refine wpAnyH_take (i := 13) (oi := ?_) (v := ?_) ?_ ?_ ?_ ?_ ?_ ?_ ?_ ?_
            rotate_left 2
            · simp only [List.getElem?_toArray, List.getElem?_cons_succ, List.getElem?_cons_zero]; exact rfl
            · kernel_rfl
            · kernel_rfl
            · kernel_rfl
            · first | exact fun _ _ _ h => h | exact fun _ _ _ h => (HPan.out _ _ _ h).elim
            · (refine Or.inl ⟨by rfl, ?_⟩; (intro w hSw; (try dsimp only at hSw); go_simp) <;> with_reducible rfl)
            · assumption
            simp only [Act.put, List.setIfInBounds_toArray, List.set_cons_zero, List.set_cons_succ]
            refine wpAnyH_take (i := 14) (oi := ?_) (v := ?_) ?_ ?_ ?_ ?_ ?_ ?_ ?_ ?_
            rotate_left 2
            · simp only [List.getElem?_toArray, List.getElem?_cons_succ, List.getElem?_cons_zero]; exact rfl
            · kernel_rfl
            · kernel_rfl
            · kernel_rfl
            · first | exact fun _ _ _ h => h | exact fun _ _ _ h => (HPan.out _ _ _ h).elim
            · (refine Or.inl ⟨by rfl, ?_⟩; (intro w hSw; (try dsimp only at hSw); go_simp) <;> with_reducible rfl)
            · assumption
            simp only [Act.put, List.setIfInBounds_toArray, List.set_cons_zero, List.set_cons_succ]
            refine wpAnyH_take (i := 15) (oi := ?_) (v := ?_) ?_ ?_ ?_ ?_ ?_ ?_ ?_ ?_
            rotate_left 2
            · simp only [List.getElem?_toArray, List.getElem?_cons_succ, List.getElem?_cons_zero]; exact rfl
            · kernel_rfl
            · kernel_rfl
            · kernel_rfl
            · first | exact fun _ _ _ h => h | exact fun _ _ _ h => (HPan.out _ _ _ h).elim
            · (refine Or.inl ⟨by rfl, ?_⟩; (intro w hSw; (try dsimp only at hSw); go_simp) <;> with_reducible rfl)
            · assumption
            simp only [Act.put, List.setIfInBounds_toArray, List.set_cons_zero, List.set_cons_succ]
            refine wpAnyH_take (i := 16) (oi := ?_) (v := ?_) ?_ ?_ ?_ ?_ ?_ ?_ ?_ ?_
            rotate_left 2
            · simp only [List.getElem?_toArray, List.getElem?_cons_succ, List.getElem?_cons_zero]; exact rfl
            · kernel_rfl
            · kernel_rfl
            · kernel_rfl
            · first | exact fun _ _ _ h => h | exact fun _ _ _ h => (HPan.out _ _ _ h).elim
            · (refine Or.inl ⟨by rfl, ?_⟩; (intro w hSw; (try dsimp only at hSw); go_simp) <;> with_reducible rfl)
            · assumption
            simp only [Act.put, List.setIfInBounds_toArray, List.set_cons_zero, List.set_cons_succ]
            refine wpAnyH_ready (rs := [17]) (by kernel_rfl) (by simp) ?_
            refine AllReadyH.cons rfl (fun K hK => ?_) (AllReadyH.nil)
            go_simp
            go_wp2_with ((go_at_call 13; refine (HIW.out _ _ (KK.out.trans (HK7.out.trans (show Keep w7 _ Nope from (by (repeat (first | exact Keep.refl _ _ | apply Keep.drew | apply Keep.drewN | apply Keep.alloc)))) (fun _ f => f.elim)) (fun _ f => f.elim))).mono ?_; rintro e w8 ⟨rfl, hk8⟩; rw [HZ'.out]; have HK8 := Lib.hid (HK7.out.trans ((show Keep w7 _ Nope from (by (repeat (first | exact Keep.refl _ _ | apply Keep.drew | apply Keep.drewN | apply Keep.alloc)))).trans hk8 (fun _ f => f.elim)) (fun _ f => f.elim)); clear hk8))
            refine hK.out _ _ ?_ (fun hHeld => ?_)
            · (try dsimp only); exact ⟨HK8.out.cell b0 (fun f => f), HK8.out.cell b1 (fun f => f), HK8.out.cell hc0 (fun f => f)⟩
            clear hK K
            refine wpAnyH_take (i := 18) (oi := ?_) (v := ?_) ?_ ?_ ?_ ?_ ?_ ?_ ?_ ?_
            rotate_left 2
            · simp only [List.getElem?_toArray, List.getElem?_cons_succ, List.getElem?_cons_zero]; exact rfl
            · kernel_rfl
            · kernel_rfl
            · kernel_rfl
            · first | exact fun _ _ _ h => h | exact fun _ _ _ h => (HPan.out _ _ _ h).elim
            · (refine Or.inl ⟨by rfl, ?_⟩; (intro w hSw; (try dsimp only at hSw); go_simp) <;> with_reducible rfl)
            · assumption
            simp only [Act.put, List.setIfInBounds_toArray, List.set_cons_zero, List.set_cons_succ]
            refine wpAnyH_take (i := 19) (oi := ?_) (v := ?_) ?_ ?_ ?_ ?_ ?_ ?_ ?_ ?_
            rotate_left 2
            · simp only [List.getElem?_toArray, List.getElem?_cons_succ, List.getElem?_cons_zero]; exact rfl
            · kernel_rfl
            · kernel_rfl
            · kernel_rfl
            · first | exact fun _ _ _ h => h | exact fun _ _ _ h => (HPan.out _ _ _ h).elim
            · (refine Or.inl ⟨by rfl, ?_⟩; (intro w hSw; (try dsimp only at hSw); go_simp) <;> with_reducible rfl)
            · assumption
            simp only [Act.put, List.setIfInBounds_toArray, List.set_cons_zero, List.set_cons_succ]
            refine wpAnyH_done (by kernel_rfl) ?_ _
            cases z'
            · have HRE := Lib.hid (show r = 19 from by
                have h1 : i2 = false := by rw [← HLI.out, HST.out]; rfl
                have h2 := HUE3.out
                rw [h1] at h2
                have h3 : ue = 19 := h2.symm
                rw [← HR.out, h3]
                rfl)
              go_wp2_with fail
              go_ret
              exact ⟨by rw [HRE.out]; rfl, (HK1.out.trans KK.out (fun _ f => f.elim)).trans HK8.out (fun _ f => f.elim)⟩
            · go_wp2_with fail
              go_roundg (M.length - (k + 1))
              case measure => have := HK.out; omega
              case rel => exact ⟨k + 1, by omega, by go_num, by rw [HST.out]; rfl, HKP.out.trans HK8.out (fun _ f => f.elim)⟩
        · obtain rfl : k = M.length := by omega
          have h1 : i2 = true := by rw [← HLI.out, HCO.out, List.drop_length]; rfl
          have h4 : ue = 0 := by have h2 := HUE3.out; rw [h1] at h2; exact h2.symm
          rw [if_pos h4] at HR
          have hkd : decide ((M.length : Int) < M.length) = false := decide_eq_false (by omega)
          have hkd2 : decide (M.length < M.length) = false := decide_eq_false (by omega)
          have HIM := Lib.hid (show ∀ (i : InsV), i ∈ cdl → ∀ wq, Keep w1 wq Nope → Calls Try.prog 54 #[.agg #[.int .i64 size, .int .i64 top, .slice ca dl.length cc, .slice cra crn crc], .agg #[.slice ra rl.length rc, .slice wa wl.length wc', .slice rra rrl.length rrc, .slice rwa rwl.length rwc, .bool al, .slice pla pll.length plc, .slice cda cdl.length cdc, .slice afa afl.length afc], i.val] wq (Ret wq (.int .i64 (insE dl.length ⟨⟨ra, rc, rl⟩, ⟨wa, wc', wl⟩, ⟨rra, rrc, rrl⟩, ⟨rwa, rwc, rwl⟩, al, ⟨pla, pll.length, plc⟩, ⟨cda, cdl.length, cdc⟩, ⟨afa, afc, afl⟩⟩ dl pll i))) from fun i hi wq hk => HIMZ.out HPE.out HCE.out (by rw [HMR.out]; exact HZ3.out) (by rw [HMR.out]; exact HZ4.out) i hi wq (HK1.out.trans hk (fun _ f => f.elim)))
          obtain ⟨eF, heF⟩ : ∃ eF : InsV → Int, eF = insE dl.length ⟨⟨ra, rc, rl⟩, ⟨wa, wc', wl⟩, ⟨rra, rrc, rrl⟩, ⟨rwa, rwc, rwl⟩, al, ⟨pla, pll.length, plc⟩, ⟨cda, cdl.length, cdc⟩, ⟨afa, afc, afl⟩⟩ dl pll := ⟨_, rfl⟩
          obtain ⟨eL, heL⟩ : ∃ eL : List InsV → Int, eL = insesE dl.length ⟨⟨ra, rc, rl⟩, ⟨wa, wc', wl⟩, ⟨rra, rrc, rrl⟩, ⟨rwa, rwc, rwl⟩, al, ⟨pla, pll.length, plc⟩, ⟨cda, cdl.length, cdc⟩, ⟨afa, afc, afl⟩⟩ dl pll := ⟨_, rfl⟩
          have HEL := Lib.hid (show ∀ i t, eL (i :: t) = if eF i = 0 then eL t else eF i from fun i t => by rw [heL, heF]; rfl)
          have HEN := Lib.hid (show eL [] = 0 from by rw [heL]; rfl)
          rw [← heL] at HR
          rw [← heF] at HIM
          clear h1 h4 heF heL HLI HCO HK HLD HKP HIMZ
          go_wp2_with fail
          go_loopg [13] cdl.length (fun g v13 wr => LoopSI w1 eL cdl g v13 wr)
          case atStart => exact ⟨0, rfl, rfl, rfl, KK.out⟩
          case round =>
            obtain ⟨k, hk, rfl, hco, hkp⟩ := hrel
            have hkl : k ≤ cdl.length := by omega
            have HK := Lib.hid hk; clear hk
            have HCO := Lib.hid hco; clear hco
            have KK := Lib.hid hkp
            clear hkp
            have a0 := (HBA.out.keep KK.out (fun f => f)).cell 0; have a1 := (HBA.out.keep KK.out (fun f => f)).cell 1; have a2 := (HBA.out.keep KK.out (fun f => f)).cell 2; have a3 := (HBA.out.keep KK.out (fun f => f)).cell 3; simp at a0 a1 a2 a3; have b0 := (HBB.out.keep KK.out (fun f => f)).cell 0; have b1 := (HBB.out.keep KK.out (fun f => f)).cell 1; have b2 := (HBB.out.keep KK.out (fun f => f)).cell 2; have b3 := (HBB.out.keep KK.out (fun f => f)).cell 3; have b4 := (HBB.out.keep KK.out (fun f => f)).cell 4; have b5 := (HBB.out.keep KK.out (fun f => f)).cell 5; have b6 := (HBB.out.keep KK.out (fun f => f)).cell 6; have b7 := (HBB.out.keep KK.out (fun f => f)).cell 7; simp at b0 b1 b2 b3 b4 b5 b6 b7
            by_cases hlt : k < cdl.length
            · obtain ⟨x, hx⟩ : ∃ x, cdl[k]? = some x := ⟨_, List.getElem?_eq_getElem hlt⟩
              obtain ⟨bo, oo, rfl, _, hc⟩ := (HC.out.keep (HK1.out.trans KK.out (fun _ f => f.elim)) (fun _ _ f => f)).elem (cells := InsV.cells) (size := 4) (fun _ => rfl) (by decide) hx
              have c0 := hc 0 (by decide)
              have c1 := hc 1 (by decide)
              have c2 := hc 2 (by decide)
              have c3 := hc 3 (by decide)
              simp only [InsV.cells, List.getElem?_cons_zero, List.getElem?_cons_succ, Nat.add_zero] at c0 c1 c2 c3
              have hki : (k : Int) < cdl.length := by omega
              have hkd3 : decide ((k : Int) < cdl.length) = true := decide_eq_true hki
              have HST := Lib.hid (show eL cdl = if eF x = 0 then eL (cdl.drop (k + 1)) else eF x from by rw [HCO.out, drop_at hx, HEL.out])
              have hI := HIM.out x (List.mem_of_getElem? hx)
              obtain ⟨e1, he1⟩ : ∃ e1, eF x = e1 := ⟨_, rfl⟩
              rw [he1] at HST hI
              obtain ⟨x1, x2, x3, x4⟩ := x
              unfold InsV.val at hI
              simp only at c0 c1 c2 c3 hI
              have HIX := Lib.hid hI
              clear hI he1 hx hc
              go_upto_region 25 with (fail)
              refine wp_region_held_drew (S := fun w' => w'.cell? ⟨ga, 0, none⟩ = some (.int .i64 size) ∧ w'.cell? ⟨ga, 1, none⟩ = some (.int .i64 top) ∧ w'.cell? ⟨ga, 2, none⟩ = some (.slice ca dl.length cc) ∧ w'.cell? ⟨ga, 3, none⟩ = some (.slice cra crn crc) ∧ w'.cell? ⟨gb, 0, none⟩ = some (.slice ra rl.length rc) ∧ w'.cell? ⟨gb, 1, none⟩ = some (.slice wa wl.length wc') ∧ w'.cell? ⟨gb, 2, none⟩ = some (.slice rra rrl.length rrc) ∧ w'.cell? ⟨gb, 3, none⟩ = some (.slice rwa rwl.length rwc) ∧ w'.cell? ⟨gb, 4, none⟩ = some (.bool al) ∧ w'.cell? ⟨gb, 5, none⟩ = some (.slice pla pll.length plc) ∧ w'.cell? ⟨gb, 6, none⟩ = some (.slice (some ⟨bo, oo, none⟩) cdl.length cdc) ∧ w'.cell? ⟨gb, 7, none⟩ = some (.slice afa afl.length afc) ∧ w'.cell? ⟨bo, oo + k * 4, none⟩ = some (.int .i64 x1) ∧ w'.cell? ⟨bo, oo + k * 4 + 1, none⟩ = some (.int .i64 x2) ∧ w'.cell? ⟨bo, oo + k * 4 + 2, none⟩ = some (.int .i64 x3) ∧ w'.cell? ⟨bo, oo + k * 4 + 3, none⟩ = some (.int .i64 x4)) (by kernel_rfl) ?_ (fun hHeld => ?_)
              · (try dsimp only); go_keep
              refine wpAnyH_take (i := 0) (oi := ?_) (v := ?_) ?_ ?_ ?_ ?_ ?_ ?_ ?_ ?_
              rotate_left 2
              · simp only [List.getElem?_toArray, List.getElem?_cons_succ, List.getElem?_cons_zero]; exact rfl
              · kernel_rfl
              · kernel_rfl
              · kernel_rfl
              · first | exact fun _ _ _ h => h | exact fun _ _ _ h => (HPan.out _ _ _ h).elim
              · (refine Or.inl ⟨by rfl, ?_⟩; (intro w hSw; (try dsimp only at hSw); go_simp) <;> with_reducible rfl)
              · assumption
              simp only [Act.put, List.setIfInBounds_toArray, List.set_cons_zero, List.set_cons_succ]
              refine wpAnyH_take (i := 1) (oi := ?_) (v := ?_) ?_ ?_ ?_ ?_ ?_ ?_ ?_ ?_
              rotate_left 2
              · simp only [List.getElem?_toArray, List.getElem?_cons_succ, List.getElem?_cons_zero]; exact rfl
              · kernel_rfl
              · kernel_rfl
              · kernel_rfl
              · first | exact fun _ _ _ h => h | exact fun _ _ _ h => (HPan.out _ _ _ h).elim
              · (refine Or.inl ⟨by rfl, ?_⟩; (intro w hSw; (try dsimp only at hSw); go_simp) <;> with_reducible rfl)
              · assumption
              simp only [Act.put, List.setIfInBounds_toArray, List.set_cons_zero, List.set_cons_succ]
              refine wpAnyH_take (i := 2) (oi := ?_) (v := ?_) ?_ ?_ ?_ ?_ ?_ ?_ ?_ ?_
              rotate_left 2
              · simp only [List.getElem?_toArray, List.getElem?_cons_succ, List.getElem?_cons_zero]; exact rfl
              · kernel_rfl
              · kernel_rfl
              · kernel_rfl
              · first | exact fun _ _ _ h => h | exact fun _ _ _ h => (HPan.out _ _ _ h).elim
              · (refine Or.inl ⟨by rfl, ?_⟩; (intro w hSw; (try dsimp only at hSw); go_simp) <;> with_reducible rfl)
              · assumption
              simp only [Act.put, List.setIfInBounds_toArray, List.set_cons_zero, List.set_cons_succ]
              refine wpAnyH_take (i := 3) (oi := ?_) (v := ?_) ?_ ?_ ?_ ?_ ?_ ?_ ?_ ?_
              rotate_left 2
              · simp only [List.getElem?_toArray, List.getElem?_cons_succ, List.getElem?_cons_zero]; exact rfl
              · kernel_rfl
              · kernel_rfl
              · kernel_rfl
              · first | exact fun _ _ _ h => h | exact fun _ _ _ h => (HPan.out _ _ _ h).elim
              · (refine Or.inl ⟨by rfl, ?_⟩; (intro w hSw; (try dsimp only at hSw); go_simp) <;> with_reducible rfl)
              · assumption
              simp only [Act.put, List.setIfInBounds_toArray, List.set_cons_zero, List.set_cons_succ]
              refine wpAnyH_take (i := 4) (oi := ?_) (v := ?_) ?_ ?_ ?_ ?_ ?_ ?_ ?_ ?_
              rotate_left 2
              · simp only [List.getElem?_toArray, List.getElem?_cons_succ, List.getElem?_cons_zero]; exact rfl
              · kernel_rfl
              · kernel_rfl
              · kernel_rfl
              · first | exact fun _ _ _ h => h | exact fun _ _ _ h => (HPan.out _ _ _ h).elim
              · (refine Or.inl ⟨by rfl, ?_⟩; (intro w hSw; (try dsimp only at hSw); go_simp) <;> with_reducible rfl)
              · assumption
              simp only [Act.put, List.setIfInBounds_toArray, List.set_cons_zero, List.set_cons_succ]
              refine wpAnyH_take (i := 5) (oi := ?_) (v := ?_) ?_ ?_ ?_ ?_ ?_ ?_ ?_ ?_
              rotate_left 2
              · simp only [List.getElem?_toArray, List.getElem?_cons_succ, List.getElem?_cons_zero]; exact rfl
              · kernel_rfl
              · kernel_rfl
              · kernel_rfl
              · first | exact fun _ _ _ h => h | exact fun _ _ _ h => (HPan.out _ _ _ h).elim
              · (refine Or.inl ⟨by rfl, ?_⟩; (intro w hSw; (try dsimp only at hSw); go_simp) <;> with_reducible rfl)
              · assumption
              simp only [Act.put, List.setIfInBounds_toArray, List.set_cons_zero, List.set_cons_succ]
              refine wpAnyH_take (i := 6) (oi := ?_) (v := ?_) ?_ ?_ ?_ ?_ ?_ ?_ ?_ ?_
              rotate_left 2
              · simp only [List.getElem?_toArray, List.getElem?_cons_succ, List.getElem?_cons_zero]; exact rfl
              · kernel_rfl
              · kernel_rfl
              · kernel_rfl
              · first | exact fun _ _ _ h => h | exact fun _ _ _ h => (HPan.out _ _ _ h).elim
              · (refine Or.inl ⟨by rfl, ?_⟩; (intro w hSw; (try dsimp only at hSw); go_simp) <;> with_reducible rfl)
              · assumption
              simp only [Act.put, List.setIfInBounds_toArray, List.set_cons_zero, List.set_cons_succ]
              refine wpAnyH_ready (rs := [7]) (by kernel_rfl) (by simp) ?_
              refine AllReadyH.cons rfl (fun K hK => ?_) (AllReadyH.nil)
              go_simp
              go_wp2_with ((go_at_call 54; refine (HIX.out _ (KK.out.trans (show Keep wr _ Nope from (by (repeat (first | exact Keep.refl _ _ | apply Keep.drew | apply Keep.drewN | apply Keep.alloc)))) (fun _ f => f.elim))).mono ?_; rintro e w7 ⟨rfl, hk7⟩; have HK7 := Lib.hid ((show Keep wr _ Nope from (by (repeat (first | exact Keep.refl _ _ | apply Keep.drew | apply Keep.drewN | apply Keep.alloc)))).trans hk7 (fun _ f => f.elim)); clear hk7))
              refine hK.out _ _ ?_ (fun hHeld => ?_)
              · (try dsimp only); exact ⟨HK7.out.cell a0 (fun f => f), HK7.out.cell a1 (fun f => f), HK7.out.cell a2 (fun f => f), HK7.out.cell a3 (fun f => f), HK7.out.cell b0 (fun f => f), HK7.out.cell b1 (fun f => f), HK7.out.cell b2 (fun f => f), HK7.out.cell b3 (fun f => f), HK7.out.cell b4 (fun f => f), HK7.out.cell b5 (fun f => f), HK7.out.cell b6 (fun f => f), HK7.out.cell b7 (fun f => f), HK7.out.cell c0 (fun f => f), HK7.out.cell c1 (fun f => f), HK7.out.cell c2 (fun f => f), HK7.out.cell c3 (fun f => f)⟩
              clear hK K
              refine wpAnyH_take (i := 8) (oi := ?_) (v := ?_) ?_ ?_ ?_ ?_ ?_ ?_ ?_ ?_
              rotate_left 2
              · simp only [List.getElem?_toArray, List.getElem?_cons_succ, List.getElem?_cons_zero]; exact rfl
              · kernel_rfl
              · kernel_rfl
              · kernel_rfl
              · first | exact fun _ _ _ h => h | exact fun _ _ _ h => (HPan.out _ _ _ h).elim
              · (refine Or.inl ⟨by rfl, ?_⟩; (intro w hSw; (try dsimp only at hSw); go_simp) <;> with_reducible rfl)
              · assumption
              simp only [Act.put, List.setIfInBounds_toArray, List.set_cons_zero, List.set_cons_succ]
              refine wpAnyH_done (by kernel_rfl) ?_ _
              by_cases h0 : e1 = 0
              · subst h0
                go_wp2_with fail
                go_roundg (cdl.length - (k + 1))
                case measure => have := HK.out; omega
                case rel => exact ⟨k + 1, by omega, by go_num, by rw [HST.out]; exact if_pos trivial, KK.out.trans HK7.out (fun _ f => f.elim)⟩
              · have hne : (e1 != 0) = true := by simpa using h0
                have HRE := Lib.hid (show r = e1 from by rw [← HR.out, HST.out, if_neg h0])
                clear h0
                go_wp2_with fail
                go_ret
                exact ⟨by rw [HRE.out]; rfl, (HK1.out.trans KK.out (fun _ f => f.elim)).trans HK7.out (fun _ f => f.elim)⟩
            · obtain rfl : k = cdl.length := by omega
              have HRE := Lib.hid (show r = 0 from by rw [← HR.out, HCO.out, List.drop_length, HEN.out])
              have hkd4 : decide ((cdl.length : Int) < cdl.length) = false := decide_eq_false (by omega)
              have hkd5 : decide (cdl.length < cdl.length) = false := decide_eq_false (by omega)
              go_wp2_with fail
              go_ret
              exact ⟨by rw [HRE.out]; rfl, HK1.out.trans KK.out (fun _ f => f.elim)⟩
end Go.Proofs.Ytbigknmeooaidaa
