/-
  The package sys: the fault of an instruction of a column.
-/
import Derived.Test.YtbigknmeooaidaaChk11
namespace Go.Proofs.Ytbigknmeooaidaa
open Go Go.RowKit
set_option linter.unusedVariables false
set_option linter.unusedSimpArgs false

/-- The fault of an instruction of a column. -/
def columnE (dl : List DescV) (pll : List ColV) (i : InsV) : Int :=
  if decide (i.n ≥ (pll.length : Int)) then 1
  else if i.op == 7 || i.op == 8 then (if (pll.getD i.n.toNat ⟨0, 0⟩).kind == 4 || (pll.getD i.n.toNat ⟨0, 0⟩).kind == 5 then 19 else 0)
  else if (pll.getD i.n.toNat ⟨0, 0⟩).kind != 2 then 19
  else if (i.op == 10 && (dl.getD (pll.getD i.n.toNat ⟨0, 0⟩).comp.toNat ⟨0, 0, 0⟩).kind != 2) || (i.op == 9 && (dl.getD (pll.getD i.n.toNat ⟨0, 0⟩).comp.toNat ⟨0, 0, 0⟩).kind == 3) then 9 else 0
def CompsIn (nd : Nat) (pll : List ColV) : Prop := ∀ c, c ∈ pll → c.kind = 2 → 0 ≤ c.comp ∧ c.comp < (nd : Int)
theorem getD_at {α : Type} {l : List α} {k : Nat} {x d : α} (h : l[k]? = some x) : l.getD k d = x := by rw [List.getD_eq_getElem?_getD, h]; rfl

set_option maxRecDepth 3000 in
set_option maxHeartbeats 4000000 in
theorem sys_column (cf : CfgV) (y : SysF) (i : InsV) (w : World) (S : Nat → Prop) (h : SysRd S w y) (hd : RdDescs S w (.slice cf.ca cf.dl.length cf.cc) cf.dl) (hn : 0 ≤ i.n) (hc : CompsIn cf.dl.length y.pll) :
    Calls Try.prog 76 #[cf.val, y.x.val, i.val] w (Ret w (.int .i64 (columnE cf.dl y.pll i))) := by
  obtain ⟨r, hr⟩ : ∃ r, columnE cf.dl y.pll i = r := ⟨_, rfl⟩
  rw [hr]
  unfold columnE at hr
  obtain ⟨x, pll, cdl⟩ := y
  obtain ⟨⟨ra, rc, rl⟩, ⟨wa, wc, wl⟩, ⟨rra, rrc, rrl⟩, ⟨rwa, rwc, rwl⟩, al, ⟨pla, pln, plc⟩, ⟨cda, cdn, cdc⟩, ⟨afa, afc, afl⟩⟩ := x
  obtain ⟨size, top, ca, cc, dl, cra, crn, crc⟩ := cf
  obtain ⟨op, ir, is, n⟩ := i
  simp only at hr hn hc hd
  obtain ⟨k, rfl⟩ : ∃ k : Nat, n = k := ⟨n.toNat, by omega⟩
  rw [Int.toNat_natCast] at hr
  unfold SysX.val CfgV.val InsV.val
  simp only [RowV.v, SlV.v]
  have hplv : pll.length = pln := by
    obtain ⟨a', c', he, _⟩ := h.pl
    unfold SlV.v at he
    injection he with _ e2 _
    exact e2.symm
  have hP := h.pl
  unfold SlV.v at hP
  simp only at hP
  have HP := Lib.hid hP
  have HD := Lib.hid hd
  clear h hP hd hn
  obtain ⟨nd, hnd⟩ : ∃ nd, dl.length = nd := ⟨_, rfl⟩
  rw [hnd] at hc HD ⊢
  have HND := Lib.hid hnd
  clear hnd
  rw [hplv] at hr
  obtain ⟨w1, hw1⟩ : ∃ w1, w1 = ((w.alloc (.cells #[.int .i64 size, .int .i64 top, .slice ca nd cc, .slice cra crn crc] 56)).alloc (.cells #[.slice ra rl.length rc, .slice wa wl.length wc, .slice rra rrl.length rrc, .slice rwa rwl.length rwc, .bool al, .slice pla pln plc, .slice cda cdn cdc, .slice afa afl.length afc] 35)).alloc (.cells #[.int .i64 op, .int .i64 ir, .int .i64 is, .int .i64 k] 87) := ⟨_, rfl⟩
  have hk1 : Keep w w1 Nope := by rw [hw1]; exact (((Keep.refl w Nope).alloc _).alloc _).alloc _
  have hba : Blk w1 w.heap.size #[.int .i64 size, .int .i64 top, .slice ca nd cc, .slice cra crn crc] 56 := by
    rw [hw1]; exact (Blk.new w _ _).keep (((Keep.refl _ Nope).alloc _).alloc _) (fun f => f)
  have hbb : Blk w1 (w.heap.size + 1) #[.slice ra rl.length rc, .slice wa wl.length wc, .slice rra rrl.length rrc, .slice rwa rwl.length rwc, .bool al, .slice pla pln plc, .slice cda cdn cdc, .slice afa afl.length afc] 35 := by
    rw [hw1, ← World.size_alloc w]; exact (Blk.new _ _ _).keep ((Keep.refl _ Nope).alloc _) (fun f => f)
  have hbc : Blk w1 (w.heap.size + 1 + 1) #[.int .i64 op, .int .i64 ir, .int .i64 is, .int .i64 k] 87 := by
    rw [hw1]
    have := Blk.new ((w.alloc (.cells #[.int .i64 size, .int .i64 top, .slice ca nd cc, .slice cra crn crc] 56)).alloc (.cells #[.slice ra rl.length rc, .slice wa wl.length wc, .slice rra rrl.length rrc, .slice rwa rwl.length rwc, .bool al, .slice pla pln plc, .slice cda cdn cdc, .slice afa afl.length afc] 35)) #[.int .i64 op, .int .i64 ir, .int .i64 is, .int .i64 k] 87
    rw [World.size_alloc, World.size_alloc] at this
    exact this
  obtain ⟨ga, hga⟩ : ∃ g, g = w.heap.size := ⟨_, rfl⟩
  have a2 := hba.cell 2
  have b5 := hbb.cell 5
  have c0 := hbc.cell 0
  have c3 := hbc.cell 3
  simp at a2 b5 c0 c3
  have HK1 := Lib.hid hk1
  have HW1 := Lib.hid hw1
  clear hba hbb hbc hk1 hw1
  rw [← hga] at a2 b5 c0 c3
  have HGA := Lib.hid hga
  clear hga
  go_enter Try.func76, Try.ntmps76
  go_upto_region 1 with (fail)
  rw [← HW1.out, ← HGA.out]
  by_cases hk : (k : Int) ≥ (pln : Int)
  · have dk : decide ((k : Int) ≥ (pln : Int)) = true := decide_eq_true hk
    rw [dk] at hr
    have HR := Lib.hid hr; clear hr
    go_wp2_with fail
    go_ret
    exact ⟨by rw [← HR.out]; rfl, HK1.out⟩
  have dk : decide ((k : Int) ≥ (pln : Int)) = false := decide_eq_false hk
  rw [dk] at hr
  have hkl : k < pll.length := by omega
  obtain ⟨x, hx⟩ : ∃ x, pll[k]? = some x := ⟨_, List.getElem?_eq_getElem hkl⟩
  rw [getD_at hx] at hr
  have hcx := hc x (List.mem_of_getElem? hx)
  obtain ⟨bo, oo, rfl, _, hcells⟩ := (show Rd S w1 (.slice pla pln plc) pll.length (pll.flatMap ColV.cells) from HP.out.keep HK1.out (fun _ _ f => f)).elem (cells := ColV.cells) (size := 2) (fun _ => rfl) (by decide) hx
  obtain ⟨xk, xm⟩ := x
  have e0 := hcells 0 (by decide)
  have e1 := hcells 1 (by decide)
  simp only [ColV.cells, List.getElem?_cons_zero, List.getElem?_cons_succ, Nat.add_zero] at e0 e1
  simp only at hr hcx
  have HR := Lib.hid hr
  have HCX := Lib.hid hcx
  have hki : (k : Int) < (pln : Int) := by omega
  clear hr hcells hx hc hkl hcx hplv
  go_upto_region 4 with (fail)
  obtain ⟨w2, hw2⟩ : ∃ w2, w2 = w1.alloc (.cells #[.int .i64 xk, .int .i64 xm] 82) := ⟨_, rfl⟩
  have hk2 : Keep w1 w2 Nope := by rw [hw2]; exact (Keep.refl w1 Nope).alloc _
  have hbd : Blk w2 w1.heap.size #[.int .i64 xk, .int .i64 xm] 82 := by rw [hw2]; exact Blk.new w1 _ _
  rw [← hw2]
  have f0 := hbd.cell 0
  have f1 := hbd.cell 1
  simp at f0 f1
  obtain ⟨gd, hgd⟩ : ∃ g, g = w1.heap.size := ⟨_, rfl⟩
  rw [← hgd] at f0 f1 ⊢
  replace a2 := hk2.cell a2 (fun f => f)
  replace b5 := hk2.cell b5 (fun f => f)
  replace c0 := hk2.cell c0 (fun f => f)
  replace c3 := hk2.cell c3 (fun f => f)
  have HK2 := Lib.hid (HK1.out.trans hk2 (fun _ f => f.elim))
  clear hw2 hk2 hbd hgd e0 e1 HW1 HGA HK1
  by_cases h78 : op = 7 ∨ op = 8
  · rcases h78 with rfl | rfl
    all_goals
      cases q4 : (xk == 4)
      · cases q5 : (xk == 5)
        all_goals
          go_wp2_with fail
          go_ret
          exact ⟨by rw [← HR.out, q4, q5]; rfl, HK2.out⟩
      · go_wp2_with fail
        go_ret
        exact ⟨by rw [← HR.out, q4]; rfl, HK2.out⟩
  have q7 : (op == 7) = false := by simp; omega
  have q8 : (op == 8) = false := by simp; omega
  rw [q7, q8] at HR
  cases q2 : (xk != 2)
  case true =>
    go_wp2_with fail
    go_ret
    exact ⟨by rw [← HR.out, q2]; rfl, HK2.out⟩
  obtain rfl : xk = 2 := by simpa using q2
  obtain ⟨hx1, hx2⟩ := HCX.out rfl
  obtain ⟨m, rfl⟩ : ∃ m : Nat, xm = m := ⟨xm.toNat, by omega⟩
  rw [Int.toNat_natCast] at HR
  have hmd : m < dl.length := by have := HND.out; omega
  obtain ⟨z, hz⟩ : ∃ z, dl[m]? = some z := ⟨_, List.getElem?_eq_getElem hmd⟩
  rw [getD_at hz] at HR
  obtain ⟨bd, od, rfl, _, hcells⟩ := (show Rd S w2 (.slice ca nd cc) dl.length (dl.flatMap DescV.cells) from HD.out.keep HK2.out (fun _ _ f => f)).elem (cells := DescV.cells) (size := 3) (fun _ => rfl) (by decide) hz
  obtain ⟨zk, zv, zb⟩ := z
  have d0 := hcells 0 (by decide)
  simp only [DescV.cells, List.getElem?_cons_zero, Nat.add_zero] at d0
  simp only at HR
  have hmi : (m : Int) < (nd : Int) := by omega
  clear hcells hz hmd hx1
  cases q10 : (op == 10)
  · cases q9 : (op == 9)
    · go_wp2_with fail
      go_ret
      exact ⟨by rw [← HR.out, q10, q9]; rfl, HK2.out⟩
    · cases q3 : (zk == 3)
      all_goals
        go_wp2_with fail
        go_ret
        exact ⟨by rw [← HR.out, q10, q9, q3]; rfl, HK2.out⟩
  · obtain rfl : op = 10 := by simpa using q10
    cases qn : (zk != 2)
    all_goals
      go_wp2_with fail
      go_ret
      exact ⟨by rw [← HR.out, qn]; rfl, HK2.out⟩
end Go.Proofs.Ytbigknmeooaidaa
