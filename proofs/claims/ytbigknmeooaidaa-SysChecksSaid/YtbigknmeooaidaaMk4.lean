/-
  The law's own: may an instruction be one of a system that declares what it needs.
-/
import Derived.Test.YtbigknmeooaidaaMk3
namespace Go.Proofs.Ytbigknmeooaidaa
open Go Go.RowKit
set_option linter.unusedVariables false
set_option linter.unusedSimpArgs false

/-- May an instruction be one of a system that declares what it needs? -/
def fitsB (dl : List DescV) (pll : List ColV) (res : Nat) (i : InsV) : Bool :=
  if i.op == 7 || i.op == 8 then (pll.getD i.n.toNat ⟨0, 0⟩).kind != 4 && (pll.getD i.n.toNat ⟨0, 0⟩).kind != 5
  else if i.op == 9 || i.op == 10 then
    (if (pll.getD i.n.toNat ⟨0, 0⟩).kind != 2 then false
     else (dl.getD (pll.getD i.n.toNat ⟨0, 0⟩).comp.toNat ⟨0, 0, 0⟩).kind == 2 || ((dl.getD (pll.getD i.n.toNat ⟨0, 0⟩).comp.toNat ⟨0, 0, 0⟩).kind == 1 && i.op == 9))
  else if i.op == 11 || i.op == 12 then decide (0 < res)
  else if i.op == 16 || i.op == 17 then decide (0 < dl.length) else true

set_option maxRecDepth 3000 in
set_option maxHeartbeats 4000000 in
theorem law_fits (cf : CfgV) (y : SysF) (i : InsV) (res : Nat) (w : World) (S : Nat → Prop) (h : SysRd S w y) (hd : RdDescs S w (.slice cf.ca cf.dl.length cf.cc) cf.dl) (hn : i.op = 7 ∨ i.op = 8 ∨ i.op = 9 ∨ i.op = 10 → 0 ≤ i.n ∧ i.n < (y.pll.length : Int)) (hc : CompsIn cf.dl.length y.pll) :
    Calls Try.prog 46 #[cf.val, y.x.val, i.val, .int .i64 res] w (Ret w (.bool (fitsB cf.dl y.pll res i))) := by
  obtain ⟨r, hr⟩ : ∃ r, fitsB cf.dl y.pll res i = r := ⟨_, rfl⟩
  rw [hr]
  unfold fitsB at hr
  obtain ⟨x, pll, cdl⟩ := y
  obtain ⟨⟨ra, rc, rl⟩, ⟨wa, wc, wl⟩, ⟨rra, rrc, rrl⟩, ⟨rwa, rwc, rwl⟩, al, ⟨pla, pln, plc⟩, ⟨cda, cdn, cdc⟩, ⟨afa, afc, afl⟩⟩ := x
  obtain ⟨size, top, ca, cc, dl, cra, crn, crc⟩ := cf
  obtain ⟨op, ir, is, n⟩ := i
  simp only at hr hn hc hd
  unfold SysX.val CfgV.val InsV.val
  simp only [RowV.v, SlV.v]
  have hplv : pll.length = pln := by
    obtain ⟨a', c', he, _⟩ := h.pl
    unfold SlV.v at he
    injection he with _ e2 _
    exact e2.symm
  have hP := h.pl
  unfold SlV.v at hP
  simp only at hP
  have HP := Lib.hid hP
  have HD := Lib.hid hd
  clear h hP hd
  obtain ⟨nd, hnd⟩ : ∃ nd, dl.length = nd := ⟨_, rfl⟩
  rw [hnd] at hc HD hr ⊢
  have HND := Lib.hid hnd
  clear hnd
  obtain ⟨w1, hw1⟩ : ∃ w1, w1 = ((w.alloc (.cells #[.int .i64 size, .int .i64 top, .slice ca nd cc, .slice cra crn crc] 56)).alloc (.cells #[.slice ra rl.length rc, .slice wa wl.length wc, .slice rra rrl.length rrc, .slice rwa rwl.length rwc, .bool al, .slice pla pln plc, .slice cda cdn cdc, .slice afa afl.length afc] 35)).alloc (.cells #[.int .i64 op, .int .i64 ir, .int .i64 is, .int .i64 n] 87) := ⟨_, rfl⟩
  have hk1 : Keep w w1 Nope := by rw [hw1]; exact (((Keep.refl w Nope).alloc _).alloc _).alloc _
  have hba : Blk w1 w.heap.size #[.int .i64 size, .int .i64 top, .slice ca nd cc, .slice cra crn crc] 56 := by
    rw [hw1]; exact (Blk.new w _ _).keep (((Keep.refl _ Nope).alloc _).alloc _) (fun f => f)
  have hbb : Blk w1 (w.heap.size + 1) #[.slice ra rl.length rc, .slice wa wl.length wc, .slice rra rrl.length rrc, .slice rwa rwl.length rwc, .bool al, .slice pla pln plc, .slice cda cdn cdc, .slice afa afl.length afc] 35 := by
    rw [hw1, ← World.size_alloc w]; exact (Blk.new _ _ _).keep ((Keep.refl _ Nope).alloc _) (fun f => f)
  have hbc : Blk w1 (w.heap.size + 1 + 1) #[.int .i64 op, .int .i64 ir, .int .i64 is, .int .i64 n] 87 := by
    rw [hw1]
    have := Blk.new ((w.alloc (.cells #[.int .i64 size, .int .i64 top, .slice ca nd cc, .slice cra crn crc] 56)).alloc (.cells #[.slice ra rl.length rc, .slice wa wl.length wc, .slice rra rrl.length rrc, .slice rwa rwl.length rwc, .bool al, .slice pla pln plc, .slice cda cdn cdc, .slice afa afl.length afc] 35)) #[.int .i64 op, .int .i64 ir, .int .i64 is, .int .i64 n] 87
    rw [World.size_alloc, World.size_alloc] at this
    exact this
  obtain ⟨ga, hga⟩ : ∃ g, g = w.heap.size := ⟨_, rfl⟩
  have a2 := hba.cell 2
  have b5 := hbb.cell 5
  have c0 := hbc.cell 0
  have c3 := hbc.cell 3
  simp at a2 b5 c0 c3
  have HK1 := Lib.hid hk1
  have HW1 := Lib.hid hw1
  clear hba hbb hbc hk1 hw1
  rw [← hga] at a2 b5 c0 c3
  have HGA := Lib.hid hga
  clear hga
  go_enter Try.func46, Try.ntmps46
  go_upto_region 1 with (fail)
  rw [← HW1.out, ← HGA.out]
  by_cases h910 : op = 7 ∨ op = 8 ∨ op = 9 ∨ op = 10
  · obtain ⟨hn0, hnl⟩ := hn h910
    obtain ⟨k, rfl⟩ : ∃ k : Nat, n = k := ⟨n.toNat, by omega⟩
    rw [Int.toNat_natCast] at hr
    have hkl : k < pll.length := by omega
    obtain ⟨x, hx⟩ : ∃ x, pll[k]? = some x := ⟨_, List.getElem?_eq_getElem hkl⟩
    rw [getD_at hx] at hr
    have hcx := hc x (List.mem_of_getElem? hx)
    obtain ⟨bo, oo, rfl, _, hcells⟩ := (show Rd S w1 (.slice pla pln plc) pll.length (pll.flatMap ColV.cells) from HP.out.keep HK1.out (fun _ _ f => f)).elem (cells := ColV.cells) (size := 2) (fun _ => rfl) (by decide) hx
    obtain ⟨xk, xm⟩ := x
    have e0 := hcells 0 (by decide)
    have e1 := hcells 1 (by decide)
    simp only [ColV.cells, List.getElem?_cons_zero, List.getElem?_cons_succ, Nat.add_zero] at e0 e1
    simp only at hr hcx
    have hki : (k : Int) < (pln : Int) := by omega
    clear hcells hx hc hkl hplv hn hn0 hnl
    by_cases h78 : op = 7 ∨ op = 8
    · have HR := Lib.hid hr
      clear hr hcx
      rcases h78 with rfl | rfl
      all_goals
        cases q4 : (xk != 4)
        · go_wp2_with fail
          go_ret
          exact ⟨by rw [← HR.out, q4]; rfl, HK1.out⟩
        · cases q5 : (xk != 5)
          all_goals
            go_wp2_with fail
            go_ret
            exact ⟨by rw [← HR.out, q4, q5]; rfl, HK1.out⟩
    have q7 : (op == 7) = false := by simp; omega
    have q8 : (op == 8) = false := by simp; omega
    rw [q7, q8] at hr
    cases q2 : (xk != 2)
    case true =>
      have HR := Lib.hid hr
      clear hr hcx
      have h91 : op = 9 ∨ op = 10 := by omega
      rcases h91 with rfl | rfl
      all_goals
        go_wp2_with fail
        go_ret
        exact ⟨by rw [← HR.out, q2]; rfl, HK1.out⟩
    obtain rfl : xk = 2 := by simpa using q2
    obtain ⟨hx1, hx2⟩ := hcx rfl
    obtain ⟨m, rfl⟩ : ∃ m : Nat, xm = m := ⟨xm.toNat, by omega⟩
    rw [Int.toNat_natCast] at hr
    have hmd : m < dl.length := by have := HND.out; omega
    obtain ⟨z, hz⟩ : ∃ z, dl[m]? = some z := ⟨_, List.getElem?_eq_getElem hmd⟩
    rw [getD_at hz] at hr
    obtain ⟨bd, od, rfl, _, hcells⟩ := (show Rd S w1 (.slice ca nd cc) dl.length (dl.flatMap DescV.cells) from HD.out.keep HK1.out (fun _ _ f => f)).elem (cells := DescV.cells) (size := 3) (fun _ => rfl) (by decide) hz
    obtain ⟨zk, zv, zb⟩ := z
    have d0 := hcells 0 (by decide)
    simp only [DescV.cells, List.getElem?_cons_zero, Nat.add_zero] at d0
    simp only at hr
    have HR := Lib.hid hr
    have hmi : (m : Int) < (nd : Int) := by omega
    clear hcells hz hmd hx1 hr
    have h91 : op = 9 ∨ op = 10 := by omega
    rcases h91 with rfl | rfl
    all_goals
      cases qz2 : (zk == 2)
      · cases qz1 : (zk == 1)
        all_goals
          go_upto_region 10 with (fail)
          go_quiet (fail)
          go_wp2_with fail
          go_ret
          exact ⟨by rw [← HR.out, qz2, qz1]; rfl, HK1.out.drewN _⟩
      · go_upto_region 10 with (fail)
        go_quiet (fail)
        go_wp2_with fail
        go_ret
        exact ⟨by rw [← HR.out, qz2]; rfl, HK1.out.drewN _⟩
  have q7 : (op == 7) = false := by simp; omega
  have q8 : (op == 8) = false := by simp; omega
  have q9 : (op == 9) = false := by simp; omega
  have q10 : (op == 10) = false := by simp; omega
  rw [q7, q8, q9, q10] at hr
  have HR := Lib.hid hr
  clear hr hc hn
  by_cases h11 : op = 11 ∨ op = 12
  · by_cases hres : 0 < res
    · have d1 : decide ((res : Int) > 0) = true := decide_eq_true (by omega)
      have d1' : decide (0 < res) = true := decide_eq_true hres
      rcases h11 with rfl | rfl
      all_goals
        go_wp2_with fail
        go_ret
        exact ⟨by rw [← HR.out, d1']; rfl, HK1.out⟩
    · obtain rfl : res = 0 := by omega
      rcases h11 with rfl | rfl
      all_goals
        go_wp2_with fail
        go_ret
        exact ⟨by rw [← HR.out]; rfl, HK1.out⟩
  by_cases h67 : op = 16 ∨ op = 17
  · by_cases hres : 0 < nd
    · have d1 : decide ((nd : Int) > 0) = true := decide_eq_true (by omega)
      have d1' : decide (0 < nd) = true := decide_eq_true hres
      rcases h67 with rfl | rfl
      all_goals
        go_wp2_with fail
        go_ret
        exact ⟨by rw [← HR.out, d1']; rfl, HK1.out⟩
    · obtain rfl : nd = 0 := by omega
      rcases h67 with rfl | rfl
      all_goals
        go_wp2_with fail
        go_ret
        exact ⟨by rw [← HR.out]; rfl, HK1.out⟩
  have q11 : (op == 11) = false := by simp; omega
  have q12 : (op == 12) = false := by simp; omega
  have q16 : (op == 16) = false := by simp; omega
  have q17 : (op == 17) = false := by simp; omega
  rw [q11, q12, q16, q17] at HR
  go_wp2_with fail
  go_ret
  exact ⟨by rw [← HR.out]; rfl, HK1.out⟩
end Go.Proofs.Ytbigknmeooaidaa
