/-
  SysChecks: which systems may be, by the program and by the document: the walk.
-/
import Derived.Test.YtbigknmeooaidaaRf6
import Derived.Test.YtbigknmeooaidaaStg3
import Derived.Test.YtbigknmeooaidaaMk5
import Derived.Test.YtbigknmeooaidaaChk16
namespace Go.Proofs.Ytbigknmeooaidaa
open Go Go.RowKit
set_option linter.unusedVariables false
set_option linter.unusedSimpArgs false


def useOf (x : SysX) : Nat → RowV
  | 0 => x.r
  | 1 => x.w
  | 2 => x.rr
  | _ => x.rw'
def useC (R : Nat → RowV) (al : Bool) : Array Value := #[(R 0).v, (R 1).v, (R 2).v, (R 3).v, .bool al]
def useP (g : Nat) : Array Value := #[.pointer (some ⟨g, 0, none⟩), .pointer (some ⟨g, 1, none⟩), .pointer (some ⟨g, 2, none⟩), .pointer (some ⟨g, 3, none⟩)]
def useZ : Array Value := #[.slice none 0 0, .slice none 0 0, .slice none 0 0, .slice none 0 0, .bool false]
def RetUses (x : SysX) (w : World) (en : Ending) (w' : World) : Prop :=
  ∃ R : Nat → RowV, en = .returned (.agg (useC R x.al)) ∧ (∀ j, (R j).l = (useOf x j).l) ∧ (∀ j, j < 4 → Rd (fun _ => True) w' (R j).v (R j).l.length (ints (R j).l)) ∧ Keep w w' Nope
def LoopUs (w : World) (x : SysX) (gu gl gr : Nat) (g : Nat) (v14 : Value) (wr : World) : Prop :=
  ∃ (k : Nat) (R : Nat → RowV), g + k = 4 ∧ v14 = .int .i64 k ∧ (∀ j, (R j).l = (useOf x j).l) ∧ (∀ j, j < 4 → Rd (fun z => z ≠ gu ∧ z ≠ gr) wr (R j).v (R j).l.length (ints (R j).l)) ∧
    Blk wr gu (useC R x.al) 31 ∧ Blk wr gl (useP gu) 96 ∧ Blk wr gr useZ 31 ∧ Keep w wr Nope

set_option maxHeartbeats 4000000 in
theorem sys_Uses (x : SysX) (w : World) (S : Nat → Prop) (h : UseRd S w x) (hb : ∀ j, (useOf x j).l.length * 8 ≤ 140737488355328) :
    Calls Try.prog 29 #[x.val] w (RetUses x w) := by
  have hX := h
  have HB := Lib.hid hb
  clear hb
  obtain ⟨w1, hw1⟩ : ∃ w1, w1 = (((w.alloc (.cells #[.slice x.r.a x.r.l.length x.r.c, .slice x.w.a x.w.l.length x.w.c, .slice x.rr.a x.rr.l.length x.rr.c, .slice x.rw'.a x.rw'.l.length x.rw'.c, .bool x.al, .slice x.pl.a x.pl.n x.pl.c, .slice x.cd.a x.cd.n x.cd.c, .slice x.af.a x.af.l.length x.af.c] 35)).alloc (.cells useZ 31)).alloc (.cells (useC (useOf x) x.al) 31)).alloc (.cells (useP (w.heap.size + 1 + 1)) 96) := ⟨_, rfl⟩
  have hst := (((((St.start w).box #[.slice x.r.a x.r.l.length x.r.c, .slice x.w.a x.w.l.length x.w.c, .slice x.rr.a x.rr.l.length x.rr.c, .slice x.rw'.a x.rw'.l.length x.rw'.c, .bool x.al, .slice x.pl.a x.pl.n x.pl.c, .slice x.cd.a x.cd.n x.cd.c, .slice x.af.a x.af.l.length x.af.c] 35).box useZ 31).box (useC (useOf x) x.al) 31).box (useP (w.heap.size + 1 + 1)) 96)
  simp only [World.size_alloc] at hst
  rw [← hw1] at hst
  have hk1 := Keep.ofSt hst
  have hbr := hst.blk 1 rfl
  have hbu := hst.blk 2 rfl
  have hbl := hst.blk 3 rfl
  have HR0 := Lib.hid (show ∀ j, j < 4 → Rd (fun z => z ≠ w.heap.size + 1 + 1 ∧ z ≠ w.heap.size + 1) w1 (useOf x j).v (useOf x j).l.length (ints (useOf x j).l) from fun j hj => by
    have ht := fun (r : RowV) (hr : Rd S w r.v r.l.length (ints r.l)) => ((Rd.tight hr).keep hk1 (fun _ _ f => f)).mono (T := fun z => z ≠ w.heap.size + 1 + 1 ∧ z ≠ w.heap.size + 1) (fun z hz => ⟨fun e => by have := hz.2; omega, fun e => by have := hz.2; omega⟩)
    match j with
    | 0 => exact ht _ hX.r
    | 1 => exact ht _ hX.w'
    | 2 => exact ht _ hX.rr
    | 3 => exact ht _ hX.rw'
    | _ + 4 => omega)
  obtain ⟨gx, hgx⟩ : ∃ g, g = w.heap.size := ⟨_, rfl⟩
  have HW1 := Lib.hid hw1
  have HK1 := Lib.hid hk1
  rw [← hgx] at hbr hbu hbl HR0
  obtain ⟨gr, hgr⟩ : ∃ g, g = gx + 1 := ⟨_, rfl⟩
  rw [← hgr] at hbr hbu hbl HR0
  obtain ⟨gu, hgu⟩ : ∃ g, g = gr + 1 := ⟨_, rfl⟩
  rw [← hgu] at hbu hbl HR0
  obtain ⟨gl, hgl⟩ : ∃ g, g = gu + 1 := ⟨_, rfl⟩
  rw [← hgl] at hbl
  have HNE := Lib.hid (show gl ≠ gu ∧ gr ≠ gu ∧ w.heap.size ≤ gu from ⟨by omega, by omega, by omega⟩)
  have HBR := Lib.hid hbr
  have HBU := Lib.hid hbu
  have HBL := Lib.hid hbl
  have HGX := Lib.hid hgx
  have HGR := Lib.hid hgr
  have HGU := Lib.hid hgu
  have HGL := Lib.hid hgl
  clear h hX hw1 hk1 hst hbr hbu hbl hgx hgr hgu hgl
  unfold SysX.val
  go_enter Try.func29, Try.ntmps29
  simp only [RowV.v, SlV.v]
  go_upto_block 0 with (fail)
  have HW2 := HW1.out
  unfold useC useP useZ useOf at HW2
  simp only [RowV.v] at HW2
  rw [← HW2, ← HGX.out, ← HGR.out, ← HGU.out, ← HGL.out]
  clear HW2 HW1
  go_wp2_with fail
  go_loopg [5, 14] 4 (fun g v5 v14 wr => LoopUs w x gu gl gr g v14 wr)
  case atStart => exact ⟨0, useOf x, rfl, rfl, fun _ => rfl, HR0.out, HBU.out, HBL.out, HBR.out, HK1.out⟩
  case round =>
    obtain ⟨k, R, hg, rfl, hll, hrd, hbu, hbl, hbr, hkp⟩ := hrel
    have HG := Lib.hid hg
    have HLL := Lib.hid hll
    have HRD := Lib.hid hrd
    have HKP := Lib.hid hkp
    clear HBU HBL HBR
    have HBU := Lib.hid hbu
    have HBL := Lib.hid hbl
    have HBR := Lib.hid hbr
    clear hll hrd hkp hbu hbl hbr HR0
    by_cases hk4 : k < 4
    · obtain rfl | rfl | rfl | rfl : k = 0 ∨ k = 1 ∨ k = 2 ∨ k = 3 := by omega
      · have hrk := HRD.out 0 (by decide)
        have hlk := HLL.out 0
        have hcell := HBU.out.cell 0
        have hfz := HBU.out.frozen 0
        have hptr := HBL.out.cell 0
        have hbk := HB.out 0
        obtain ⟨⟨ra, rc, rl⟩, hrow⟩ : ∃ r, R 0 = r := ⟨_, rfl⟩
        have HROW := Lib.hid hrow
        rw [hrow] at hrk hlk
        simp [useC, hrow, RowV.v] at hcell
        simp [useP] at hptr
        simp only [RowV.v] at hrk hlk
        rw [← hlk] at hbk
        have HLK := Lib.hid hlk
        obtain ⟨m, hm⟩ : ∃ m, rl.length = m := ⟨_, rfl⟩
        rw [hm] at hrk hcell hbk
        have HM := Lib.hid hm
        have HCL := Lib.hid (clone_ints (.slice ra m rc) m (ints rl) wr _ hrk (by rw [ints_len, HM.out, Nat.mul_one]) (ints_one _) hbk)
        clear hrk hlk hrow hm hbk
        have hg4 : ((0 : Nat) : Int) < 4 := by decide
        go_wp2_with (go_at_call 38; refine HCL.out.mono ?_; rintro e wn ⟨a', n', c', rfl, ho, hk⟩; have hcell2 := hk.cell hcell (fun f => f); have hfz2 := (HBU.out.keep hk (fun f => f)).frozen 0; have HO := Lib.hid ho; have HKN := Lib.hid hk; clear ho hk hcell hfz HCL)
        go_roundg (4 - (0 + 1))
        case measure => have := HG.out; omega
        case rel =>
          have hnl : n' = rl.length := by have := HO.out.len; rw [ints_len, Nat.mul_one] at this; exact this.symm
          have hgw : gu < wr.heap.size := HBU.out.lt
          have hgw2 : gr < wr.heap.size := HBR.out.lt
          obtain ⟨R', hR1, hR2⟩ : ∃ R' : Nat → RowV, R' 0 = ⟨a', c', rl⟩ ∧ ∀ j, j ≠ 0 → R' j = R j := ⟨fun j => if j = 0 then ⟨a', c', rl⟩ else R j, if_pos rfl, fun j h => if_neg h⟩
          refine ⟨0 + 1, R', by omega, by go_num, fun j => ?_, fun j hj => ?_, ?_, ?_, ?_, ?_⟩
          · by_cases hjk : j = 0
            · subst hjk; rw [hR1]; exact HLK.out
            · rw [hR2 j hjk]; exact HLL.out j
          · by_cases hjk : j = 0
            · subst hjk; rw [hR1]
              show Rd _ _ (.slice a' rl.length c') rl.length (ints rl)
              rw [← hnl]
              exact (HO.out.rd.keep ((Keep.refl wn (fun z => z = gu)).setCell (p := ⟨gu, 0, none⟩) (.inl rfl) _) (fun z hz e => by have := hz.1; omega)).mono (fun z hz => ⟨fun e => by have := hz.1; omega, fun e => by have := hz.1; omega⟩)
            · rw [hR2 j hjk]
              exact ((HRD.out j hj).keep HKN.out (fun _ _ f => f)).keep ((Keep.refl wn (fun z => z = gu)).setCell (p := ⟨gu, 0, none⟩) (.inl rfl) _) (fun z hz e => hz.1 e)
          · have h := (HBU.out.keep HKN.out (fun f => f)).setCell 0 (.slice a' n' c')
            have e : (useC R x.al).setIfInBounds 0 (.slice a' n' c') = useC R' x.al := by rw [hnl]; simp [useC, hR1, hR2, RowV.v]
            rw [e] at h
            exact h
          · exact (HBL.out.keep HKN.out (fun f => f)).keep ((Keep.refl wn (fun z => z = gu)).setCell (p := ⟨gu, 0, none⟩) (.inl rfl) _) (fun e => by have := HNE.out.1; omega)
          · exact (HBR.out.keep HKN.out (fun f => f)).keep ((Keep.refl wn (fun z => z = gu)).setCell (p := ⟨gu, 0, none⟩) (.inl rfl) _) (fun e => by have := HNE.out.2.1; omega)
          · exact (HKP.out.trans HKN.out (fun _ f => f.elim)).trans ((Keep.refl wn (fun z => z = gu)).setCell (p := ⟨gu, 0, none⟩) (.inl rfl) _) (fun z e => .inr (by have := HNE.out.2.2; omega))
      · have hrk := HRD.out 1 (by decide)
        have hlk := HLL.out 1
        have hcell := HBU.out.cell 1
        have hfz := HBU.out.frozen 1
        have hptr := HBL.out.cell 1
        have hbk := HB.out 1
        obtain ⟨⟨ra, rc, rl⟩, hrow⟩ : ∃ r, R 1 = r := ⟨_, rfl⟩
        have HROW := Lib.hid hrow
        rw [hrow] at hrk hlk
        simp [useC, hrow, RowV.v] at hcell
        simp [useP] at hptr
        simp only [RowV.v] at hrk hlk
        rw [← hlk] at hbk
        have HLK := Lib.hid hlk
        obtain ⟨m, hm⟩ : ∃ m, rl.length = m := ⟨_, rfl⟩
        rw [hm] at hrk hcell hbk
        have HM := Lib.hid hm
        have HCL := Lib.hid (clone_ints (.slice ra m rc) m (ints rl) wr _ hrk (by rw [ints_len, HM.out, Nat.mul_one]) (ints_one _) hbk)
        clear hrk hlk hrow hm hbk
        have hg4 : ((1 : Nat) : Int) < 4 := by decide
        go_wp2_with (go_at_call 38; refine HCL.out.mono ?_; rintro e wn ⟨a', n', c', rfl, ho, hk⟩; have hcell2 := hk.cell hcell (fun f => f); have hfz2 := (HBU.out.keep hk (fun f => f)).frozen 1; have HO := Lib.hid ho; have HKN := Lib.hid hk; clear ho hk hcell hfz HCL)
        go_roundg (4 - (1 + 1))
        case measure => have := HG.out; omega
        case rel =>
          have hnl : n' = rl.length := by have := HO.out.len; rw [ints_len, Nat.mul_one] at this; exact this.symm
          have hgw : gu < wr.heap.size := HBU.out.lt
          have hgw2 : gr < wr.heap.size := HBR.out.lt
          obtain ⟨R', hR1, hR2⟩ : ∃ R' : Nat → RowV, R' 1 = ⟨a', c', rl⟩ ∧ ∀ j, j ≠ 1 → R' j = R j := ⟨fun j => if j = 1 then ⟨a', c', rl⟩ else R j, if_pos rfl, fun j h => if_neg h⟩
          refine ⟨1 + 1, R', by omega, by go_num, fun j => ?_, fun j hj => ?_, ?_, ?_, ?_, ?_⟩
          · by_cases hjk : j = 1
            · subst hjk; rw [hR1]; exact HLK.out
            · rw [hR2 j hjk]; exact HLL.out j
          · by_cases hjk : j = 1
            · subst hjk; rw [hR1]
              show Rd _ _ (.slice a' rl.length c') rl.length (ints rl)
              rw [← hnl]
              exact (HO.out.rd.keep ((Keep.refl wn (fun z => z = gu)).setCell (p := ⟨gu, 1, none⟩) (.inl rfl) _) (fun z hz e => by have := hz.1; omega)).mono (fun z hz => ⟨fun e => by have := hz.1; omega, fun e => by have := hz.1; omega⟩)
            · rw [hR2 j hjk]
              exact ((HRD.out j hj).keep HKN.out (fun _ _ f => f)).keep ((Keep.refl wn (fun z => z = gu)).setCell (p := ⟨gu, 1, none⟩) (.inl rfl) _) (fun z hz e => hz.1 e)
          · have h := (HBU.out.keep HKN.out (fun f => f)).setCell 1 (.slice a' n' c')
            have e : (useC R x.al).setIfInBounds 1 (.slice a' n' c') = useC R' x.al := by rw [hnl]; simp [useC, hR1, hR2, RowV.v]
            rw [e] at h
            exact h
          · exact (HBL.out.keep HKN.out (fun f => f)).keep ((Keep.refl wn (fun z => z = gu)).setCell (p := ⟨gu, 1, none⟩) (.inl rfl) _) (fun e => by have := HNE.out.1; omega)
          · exact (HBR.out.keep HKN.out (fun f => f)).keep ((Keep.refl wn (fun z => z = gu)).setCell (p := ⟨gu, 1, none⟩) (.inl rfl) _) (fun e => by have := HNE.out.2.1; omega)
          · exact (HKP.out.trans HKN.out (fun _ f => f.elim)).trans ((Keep.refl wn (fun z => z = gu)).setCell (p := ⟨gu, 1, none⟩) (.inl rfl) _) (fun z e => .inr (by have := HNE.out.2.2; omega))
      · have hrk := HRD.out 2 (by decide)
        have hlk := HLL.out 2
        have hcell := HBU.out.cell 2
        have hfz := HBU.out.frozen 2
        have hptr := HBL.out.cell 2
        have hbk := HB.out 2
        obtain ⟨⟨ra, rc, rl⟩, hrow⟩ : ∃ r, R 2 = r := ⟨_, rfl⟩
        have HROW := Lib.hid hrow
        rw [hrow] at hrk hlk
        simp [useC, hrow, RowV.v] at hcell
        simp [useP] at hptr
        simp only [RowV.v] at hrk hlk
        rw [← hlk] at hbk
        have HLK := Lib.hid hlk
        obtain ⟨m, hm⟩ : ∃ m, rl.length = m := ⟨_, rfl⟩
        rw [hm] at hrk hcell hbk
        have HM := Lib.hid hm
        have HCL := Lib.hid (clone_ints (.slice ra m rc) m (ints rl) wr _ hrk (by rw [ints_len, HM.out, Nat.mul_one]) (ints_one _) hbk)
        clear hrk hlk hrow hm hbk
        have hg4 : ((2 : Nat) : Int) < 4 := by decide
        go_wp2_with (go_at_call 38; refine HCL.out.mono ?_; rintro e wn ⟨a', n', c', rfl, ho, hk⟩; have hcell2 := hk.cell hcell (fun f => f); have hfz2 := (HBU.out.keep hk (fun f => f)).frozen 2; have HO := Lib.hid ho; have HKN := Lib.hid hk; clear ho hk hcell hfz HCL)
        go_roundg (4 - (2 + 1))
        case measure => have := HG.out; omega
        case rel =>
          have hnl : n' = rl.length := by have := HO.out.len; rw [ints_len, Nat.mul_one] at this; exact this.symm
          have hgw : gu < wr.heap.size := HBU.out.lt
          have hgw2 : gr < wr.heap.size := HBR.out.lt
          obtain ⟨R', hR1, hR2⟩ : ∃ R' : Nat → RowV, R' 2 = ⟨a', c', rl⟩ ∧ ∀ j, j ≠ 2 → R' j = R j := ⟨fun j => if j = 2 then ⟨a', c', rl⟩ else R j, if_pos rfl, fun j h => if_neg h⟩
          refine ⟨2 + 1, R', by omega, by go_num, fun j => ?_, fun j hj => ?_, ?_, ?_, ?_, ?_⟩
          · by_cases hjk : j = 2
            · subst hjk; rw [hR1]; exact HLK.out
            · rw [hR2 j hjk]; exact HLL.out j
          · by_cases hjk : j = 2
            · subst hjk; rw [hR1]
              show Rd _ _ (.slice a' rl.length c') rl.length (ints rl)
              rw [← hnl]
              exact (HO.out.rd.keep ((Keep.refl wn (fun z => z = gu)).setCell (p := ⟨gu, 2, none⟩) (.inl rfl) _) (fun z hz e => by have := hz.1; omega)).mono (fun z hz => ⟨fun e => by have := hz.1; omega, fun e => by have := hz.1; omega⟩)
            · rw [hR2 j hjk]
              exact ((HRD.out j hj).keep HKN.out (fun _ _ f => f)).keep ((Keep.refl wn (fun z => z = gu)).setCell (p := ⟨gu, 2, none⟩) (.inl rfl) _) (fun z hz e => hz.1 e)
          · have h := (HBU.out.keep HKN.out (fun f => f)).setCell 2 (.slice a' n' c')
            have e : (useC R x.al).setIfInBounds 2 (.slice a' n' c') = useC R' x.al := by rw [hnl]; simp [useC, hR1, hR2, RowV.v]
            rw [e] at h
            exact h
          · exact (HBL.out.keep HKN.out (fun f => f)).keep ((Keep.refl wn (fun z => z = gu)).setCell (p := ⟨gu, 2, none⟩) (.inl rfl) _) (fun e => by have := HNE.out.1; omega)
          · exact (HBR.out.keep HKN.out (fun f => f)).keep ((Keep.refl wn (fun z => z = gu)).setCell (p := ⟨gu, 2, none⟩) (.inl rfl) _) (fun e => by have := HNE.out.2.1; omega)
          · exact (HKP.out.trans HKN.out (fun _ f => f.elim)).trans ((Keep.refl wn (fun z => z = gu)).setCell (p := ⟨gu, 2, none⟩) (.inl rfl) _) (fun z e => .inr (by have := HNE.out.2.2; omega))
      · have hrk := HRD.out 3 (by decide)
        have hlk := HLL.out 3
        have hcell := HBU.out.cell 3
        have hfz := HBU.out.frozen 3
        have hptr := HBL.out.cell 3
        have hbk := HB.out 3
        obtain ⟨⟨ra, rc, rl⟩, hrow⟩ : ∃ r, R 3 = r := ⟨_, rfl⟩
        have HROW := Lib.hid hrow
        rw [hrow] at hrk hlk
        simp [useC, hrow, RowV.v] at hcell
        simp [useP] at hptr
        simp only [RowV.v] at hrk hlk
        rw [← hlk] at hbk
        have HLK := Lib.hid hlk
        obtain ⟨m, hm⟩ : ∃ m, rl.length = m := ⟨_, rfl⟩
        rw [hm] at hrk hcell hbk
        have HM := Lib.hid hm
        have HCL := Lib.hid (clone_ints (.slice ra m rc) m (ints rl) wr _ hrk (by rw [ints_len, HM.out, Nat.mul_one]) (ints_one _) hbk)
        clear hrk hlk hrow hm hbk
        have hg4 : ((3 : Nat) : Int) < 4 := by decide
        go_wp2_with (go_at_call 38; refine HCL.out.mono ?_; rintro e wn ⟨a', n', c', rfl, ho, hk⟩; have hcell2 := hk.cell hcell (fun f => f); have hfz2 := (HBU.out.keep hk (fun f => f)).frozen 3; have HO := Lib.hid ho; have HKN := Lib.hid hk; clear ho hk hcell hfz HCL)
        go_roundg (4 - (3 + 1))
        case measure => have := HG.out; omega
        case rel =>
          have hnl : n' = rl.length := by have := HO.out.len; rw [ints_len, Nat.mul_one] at this; exact this.symm
          have hgw : gu < wr.heap.size := HBU.out.lt
          have hgw2 : gr < wr.heap.size := HBR.out.lt
          obtain ⟨R', hR1, hR2⟩ : ∃ R' : Nat → RowV, R' 3 = ⟨a', c', rl⟩ ∧ ∀ j, j ≠ 3 → R' j = R j := ⟨fun j => if j = 3 then ⟨a', c', rl⟩ else R j, if_pos rfl, fun j h => if_neg h⟩
          refine ⟨3 + 1, R', by omega, by go_num, fun j => ?_, fun j hj => ?_, ?_, ?_, ?_, ?_⟩
          · by_cases hjk : j = 3
            · subst hjk; rw [hR1]; exact HLK.out
            · rw [hR2 j hjk]; exact HLL.out j
          · by_cases hjk : j = 3
            · subst hjk; rw [hR1]
              show Rd _ _ (.slice a' rl.length c') rl.length (ints rl)
              rw [← hnl]
              exact (HO.out.rd.keep ((Keep.refl wn (fun z => z = gu)).setCell (p := ⟨gu, 3, none⟩) (.inl rfl) _) (fun z hz e => by have := hz.1; omega)).mono (fun z hz => ⟨fun e => by have := hz.1; omega, fun e => by have := hz.1; omega⟩)
            · rw [hR2 j hjk]
              exact ((HRD.out j hj).keep HKN.out (fun _ _ f => f)).keep ((Keep.refl wn (fun z => z = gu)).setCell (p := ⟨gu, 3, none⟩) (.inl rfl) _) (fun z hz e => hz.1 e)
          · have h := (HBU.out.keep HKN.out (fun f => f)).setCell 3 (.slice a' n' c')
            have e : (useC R x.al).setIfInBounds 3 (.slice a' n' c') = useC R' x.al := by rw [hnl]; simp [useC, hR1, hR2, RowV.v]
            rw [e] at h
            exact h
          · exact (HBL.out.keep HKN.out (fun f => f)).keep ((Keep.refl wn (fun z => z = gu)).setCell (p := ⟨gu, 3, none⟩) (.inl rfl) _) (fun e => by have := HNE.out.1; omega)
          · exact (HBR.out.keep HKN.out (fun f => f)).keep ((Keep.refl wn (fun z => z = gu)).setCell (p := ⟨gu, 3, none⟩) (.inl rfl) _) (fun e => by have := HNE.out.2.1; omega)
          · exact (HKP.out.trans HKN.out (fun _ f => f.elim)).trans ((Keep.refl wn (fun z => z = gu)).setCell (p := ⟨gu, 3, none⟩) (.inl rfl) _) (fun z e => .inr (by have := HNE.out.2.2; omega))
    · obtain rfl : k = 4 := by omega
      have u0 := HBU.out.cell 0
      have u1 := HBU.out.cell 1
      have u2 := HBU.out.cell 2
      have u3 := HBU.out.cell 3
      have u4 := HBU.out.cell 4
      simp [useC] at u0 u1 u2 u3 u4
      have hg5 : ((4 : Nat) : Int) < 4 ↔ False := by decide
      go_wp2_with (refine wpList_store_row rfl 31 _ _ rfl gr (useC R x.al) rfl rfl 31 _ HBR.out (by kernel_rfl) rfl (by kernel_rfl) ?_)
      refine bodyPost_ret (results_cell_row (P := Try.prog) rfl _ _ gr 31 (useC R x.al) (0, 0) _ rfl (setRow_heap _ _ _ _ _ _ HBR.out) Try.underlying31 rfl (by kernel_rfl)) rfl ?_
      exact ⟨R, rfl, HLL.out, fun j hj => ((HRD.out j hj).keep ((Keep.refl wr (fun z => z = gr)).setRow (.inl rfl) _) (fun z hz e => hz.2 e)).mono (fun _ _ => trivial), HKP.out.trans ((Keep.refl wr (fun z => z = gr)).setRow (.inl rfl) _) (fun z e => .inr (by have := HNE.out.2.2; have := HGX.out; have := HGR.out; omega))⟩

set_option maxHeartbeats 2000000 in
theorem sys_Masks (x : SysX) (w : World) (S : Nat → Prop) (h : UseRd S w x) :
    Calls Try.prog 30 #[x.val] w (fun e w' => e = .returned (.tuple #[.int .u64 (allW x.r.l : Nat), .int .u64 (allW x.w.l : Nat)]) ∧ Keep w w' Nope) := by
  obtain ⟨⟨ra, rc, rl⟩, ⟨wa, wc, wl⟩, ⟨rra, rrc, rrl⟩, ⟨rwa, rwc, rwl⟩, al, ⟨pla, pln, plc⟩, ⟨cda, cdn, cdc⟩, ⟨afa, afc, afl⟩⟩ := x
  unfold SysX.val
  simp only [RowV.v, SlV.v]
  obtain ⟨w1, hw1⟩ : ∃ w1, w1 = w.alloc (.cells #[.slice ra rl.length rc, .slice wa wl.length wc, .slice rra rrl.length rrc, .slice rwa rwl.length rwc, .bool al, .slice pla pln plc, .slice cda cdn cdc, .slice afa afl.length afc] 35) := ⟨_, rfl⟩
  have hk1 : Keep w w1 Nope := by rw [hw1]; exact (Keep.refl w Nope).alloc _
  have hb1 : Blk w1 w.heap.size #[.slice ra rl.length rc, .slice wa wl.length wc, .slice rra rrl.length rrc, .slice rwa rwl.length rwc, .bool al, .slice pla pln plc, .slice cda cdn cdc, .slice afa afl.length afc] 35 := by rw [hw1]; exact Blk.new w _ _
  have H1 := Lib.hid (show ∀ wq, Keep w1 wq Nope → Calls Try.prog 55 #[.slice ra rl.length rc] wq (fun e w' => e = .returned (.int .u64 (allW rl : Nat)) ∧ wq = w') from fun wq hk => bits_of _ rl wq S (h.r.keep (hk1.trans hk (fun _ f => f.elim)) (fun _ _ f => f)))
  have H2 := Lib.hid (show ∀ wq, Keep w1 wq Nope → Calls Try.prog 55 #[.slice wa wl.length wc] wq (fun e w' => e = .returned (.int .u64 (allW wl : Nat)) ∧ wq = w') from fun wq hk => bits_of _ wl wq S (h.w'.keep (hk1.trans hk (fun _ f => f.elim)) (fun _ _ f => f)))
  obtain ⟨g0, hg0⟩ : ∃ g, g = w.heap.size := ⟨_, rfl⟩
  have HW1 := Lib.hid hw1
  have HK1 := Lib.hid hk1
  rw [← hg0] at hb1
  have HG0 := Lib.hid hg0
  have b0 := hb1.cell 0
  have b1 := hb1.cell 1
  simp at b0 b1
  clear hw1 hk1 hb1 h hg0
  go_enter Try.func30, Try.ntmps30
  go_upto_region 1 with (fail)
  rw [← HW1.out, ← HG0.out]
  refine wp_region_held_drew (S := fun w' => w'.cell? ⟨g0, 0, none⟩ = some (.slice ra rl.length rc) ∧ w'.cell? ⟨g0, 1, none⟩ = some (.slice wa wl.length wc)) (by kernel_rfl) ?_ (fun hHeld => ?_)
  · (try dsimp only); go_keep
  refine wpAnyH_take (i := 0) (oi := ?_) (v := ?_) ?_ ?_ ?_ ?_ ?_ ?_ ?_ ?_
  rotate_left 2
  · simp only [List.getElem?_toArray, List.getElem?_cons_succ, List.getElem?_cons_zero]; exact rfl
  · kernel_rfl
  · kernel_rfl
  · kernel_rfl
  · first | exact fun _ _ _ h => h | exact fun _ _ _ h => (HPan.out _ _ _ h).elim
  · (refine Or.inl ⟨by rfl, ?_⟩; (intro w hSw; (try dsimp only at hSw); go_simp) <;> with_reducible rfl)
  · assumption
  simp only [Act.put, List.setIfInBounds_toArray, List.set_cons_zero, List.set_cons_succ]
  refine wpAnyH_take (i := 1) (oi := ?_) (v := ?_) ?_ ?_ ?_ ?_ ?_ ?_ ?_ ?_
  rotate_left 2
  · simp only [List.getElem?_toArray, List.getElem?_cons_succ, List.getElem?_cons_zero]; exact rfl
  · kernel_rfl
  · kernel_rfl
  · kernel_rfl
  · first | exact fun _ _ _ h => h | exact fun _ _ _ h => (HPan.out _ _ _ h).elim
  · (refine Or.inl ⟨by rfl, ?_⟩; (intro w hSw; (try dsimp only at hSw); go_simp) <;> with_reducible rfl)
  · assumption
  simp only [Act.put, List.setIfInBounds_toArray, List.set_cons_zero, List.set_cons_succ]
  refine wpAnyH_take (i := 2) (oi := ?_) (v := ?_) ?_ ?_ ?_ ?_ ?_ ?_ ?_ ?_
  rotate_left 2
  · simp only [List.getElem?_toArray, List.getElem?_cons_succ, List.getElem?_cons_zero]; exact rfl
  · kernel_rfl
  · kernel_rfl
  · kernel_rfl
  · first | exact fun _ _ _ h => h | exact fun _ _ _ h => (HPan.out _ _ _ h).elim
  · (refine Or.inl ⟨by rfl, ?_⟩; (intro w hSw; (try dsimp only at hSw); go_simp) <;> with_reducible rfl)
  · assumption
  simp only [Act.put, List.setIfInBounds_toArray, List.set_cons_zero, List.set_cons_succ]
  refine wpAnyH_take (i := 4) (oi := ?_) (v := ?_) ?_ ?_ ?_ ?_ ?_ ?_ ?_ ?_
  rotate_left 2
  · simp only [List.getElem?_toArray, List.getElem?_cons_succ, List.getElem?_cons_zero]; exact rfl
  · kernel_rfl
  · kernel_rfl
  · kernel_rfl
  · first | exact fun _ _ _ h => h | exact fun _ _ _ h => (HPan.out _ _ _ h).elim
  · (refine Or.inl ⟨by rfl, ?_⟩; (intro w hSw; (try dsimp only at hSw); go_simp) <;> with_reducible rfl)
  · assumption
  simp only [Act.put, List.setIfInBounds_toArray, List.set_cons_zero, List.set_cons_succ]
  refine wpAnyH_take (i := 5) (oi := ?_) (v := ?_) ?_ ?_ ?_ ?_ ?_ ?_ ?_ ?_
  rotate_left 2
  · simp only [List.getElem?_toArray, List.getElem?_cons_succ, List.getElem?_cons_zero]; exact rfl
  · kernel_rfl
  · kernel_rfl
  · kernel_rfl
  · first | exact fun _ _ _ h => h | exact fun _ _ _ h => (HPan.out _ _ _ h).elim
  · (refine Or.inl ⟨by rfl, ?_⟩; (intro w hSw; (try dsimp only at hSw); go_simp) <;> with_reducible rfl)
  · assumption
  simp only [Act.put, List.setIfInBounds_toArray, List.set_cons_zero, List.set_cons_succ]
  refine wpAnyH_take (i := 6) (oi := ?_) (v := ?_) ?_ ?_ ?_ ?_ ?_ ?_ ?_ ?_
  rotate_left 2
  · simp only [List.getElem?_toArray, List.getElem?_cons_succ, List.getElem?_cons_zero]; exact rfl
  · kernel_rfl
  · kernel_rfl
  · kernel_rfl
  · first | exact fun _ _ _ h => h | exact fun _ _ _ h => (HPan.out _ _ _ h).elim
  · (refine Or.inl ⟨by rfl, ?_⟩; (intro w hSw; (try dsimp only at hSw); go_simp) <;> with_reducible rfl)
  · assumption
  simp only [Act.put, List.setIfInBounds_toArray, List.set_cons_zero, List.set_cons_succ]
  refine wpAnyH_ready (rs := [3]) (by kernel_rfl) (by simp) ?_
  refine AllReadyH.cons rfl (fun K hK => ?_) (AllReadyH.nil)
  go_simp
  go_wp2_with ((go_at_call 55; refine (H1.out _ (by (repeat (first | exact Keep.refl _ _ | apply Keep.drew | apply Keep.drewN | apply Keep.alloc)))).mono ?_; rintro e w' ⟨rfl, rfl⟩))
  refine hK.out _ _ ?_ (fun hHeld => ?_)
  · (try dsimp only); go_keep
  clear hK K
  refine wpAnyH_ready (rs := [7]) (by kernel_rfl) (by simp) ?_
  refine AllReadyH.cons rfl (fun K hK => ?_) (AllReadyH.nil)
  go_simp
  go_wp2_with ((go_at_call 55; refine (H2.out _ (by (repeat (first | exact Keep.refl _ _ | apply Keep.drew | apply Keep.drewN | apply Keep.alloc)))).mono ?_; rintro e w' ⟨rfl, rfl⟩))
  refine hK.out _ _ ?_ (fun hHeld => ?_)
  · (try dsimp only); go_keep
  clear hK K
  refine wpAnyH_take (i := 8) (oi := ?_) (v := ?_) ?_ ?_ ?_ ?_ ?_ ?_ ?_ ?_
  rotate_left 2
  · simp only [List.getElem?_toArray, List.getElem?_cons_succ, List.getElem?_cons_zero]; exact rfl
  · kernel_rfl
  · kernel_rfl
  · kernel_rfl
  · first | exact fun _ _ _ h => h | exact fun _ _ _ h => (HPan.out _ _ _ h).elim
  · (refine Or.inl ⟨by rfl, ?_⟩; (intro w hSw; (try dsimp only at hSw); go_simp) <;> with_reducible rfl)
  · assumption
  simp only [Act.put, List.setIfInBounds_toArray, List.set_cons_zero, List.set_cons_succ]
  refine wpAnyH_take (i := 9) (oi := ?_) (v := ?_) ?_ ?_ ?_ ?_ ?_ ?_ ?_ ?_
  rotate_left 2
  · simp only [List.getElem?_toArray, List.getElem?_cons_succ, List.getElem?_cons_zero]; exact rfl
  · kernel_rfl
  · kernel_rfl
  · kernel_rfl
  · first | exact fun _ _ _ h => h | exact fun _ _ _ h => (HPan.out _ _ _ h).elim
  · (refine Or.inl ⟨by rfl, ?_⟩; (intro w hSw; (try dsimp only at hSw); go_simp) <;> with_reducible rfl)
  · assumption
  simp only [Act.put, List.setIfInBounds_toArray, List.set_cons_zero, List.set_cons_succ]
  refine wpAnyH_done (by kernel_rfl) ?_ _
  go_wp2_with fail
  go_ret2
  exact ⟨rfl, HK1.out.trans (show Keep w1 _ Nope from (by (repeat (first | exact Keep.refl _ _ | apply Keep.drew | apply Keep.drewN | apply Keep.alloc)))) (fun _ f => f.elim)⟩
def sysD (x : SysX) : Array Value := #[x.r.v, x.w.v, x.rr.v, x.rw'.v, .bool x.al, x.pl.v, x.cd.v, x.af.v]
theorem RetUses.four {x : SysX} {w w' : World} {en : Ending} (h : RetUses x w en w') : ∃ (u0 : Option Addr) (v0 : Nat) (u1 : Option Addr) (v1 : Nat) (u2 : Option Addr) (v2 : Nat) (u3 : Option Addr) (v3 : Nat),
    en = .returned (.agg #[.slice u0 x.r.l.length v0, .slice u1 x.w.l.length v1, .slice u2 x.rr.l.length v2, .slice u3 x.rw'.l.length v3, .bool x.al]) ∧
    Rd (fun _ => True) w' (.slice u0 x.r.l.length v0) x.r.l.length (ints x.r.l) ∧ Rd (fun _ => True) w' (.slice u1 x.w.l.length v1) x.w.l.length (ints x.w.l) ∧
    Rd (fun _ => True) w' (.slice u2 x.rr.l.length v2) x.rr.l.length (ints x.rr.l) ∧ Rd (fun _ => True) w' (.slice u3 x.rw'.l.length v3) x.rw'.l.length (ints x.rw'.l) ∧ Keep w w' Nope := by
  obtain ⟨R, rfl, hl, hr, hk⟩ := h
  have e0 : (R 0).l = x.r.l := hl 0
  have e1 : (R 1).l = x.w.l := hl 1
  have e2 : (R 2).l = x.rr.l := hl 2
  have e3 : (R 3).l = x.rw'.l := hl 3
  have r0 := hr 0 (by decide)
  have r1 := hr 1 (by decide)
  have r2 := hr 2 (by decide)
  have r3 := hr 3 (by decide)
  unfold RowV.v at r0 r1 r2 r3
  rw [e0] at r0
  rw [e1] at r1
  rw [e2] at r2
  rw [e3] at r3
  exact ⟨_, _, _, _, _, _, _, _, by unfold useC RowV.v; rw [e0, e1, e2, e3], r0, r1, r2, r3, hk⟩
theorem SysRd.keepC {S T : Nat → Prop} {w w' : World} {y : SysF} (h : SysRd S w y) (hk : Keep w w' T) (hd : ∀ z, S z → T z → False) : SysRd S w' y :=
  ⟨⟨h.use.r.keep hk hd, h.use.w'.keep hk hd, h.use.rr.keep hk hd, h.use.rw'.keep hk hd⟩, h.pl.keep hk hd, h.cd.keep hk hd⟩
theorem SysRd.monoC {S T : Nat → Prop} {w : World} {y : SysF} (h : SysRd S w y) (hT : ∀ z, S z → T z) : SysRd T w y :=
  ⟨⟨h.use.r.mono hT, h.use.w'.mono hT, h.use.rr.mono hT, h.use.rw'.mono hT⟩, h.pl.mono hT, h.cd.mono hT⟩
/-- How long the lists of a system may be. -/
def LongOk (x : SysX) : Prop := ∀ j, (useOf x j).l.length * 8 ≤ 140737488355328
theorem LongOk.of {x : SysX} (h1 : x.r.l.length * 8 ≤ 140737488355328) (h2 : x.w.l.length * 8 ≤ 140737488355328) (h3 : x.rr.l.length * 8 ≤ 140737488355328) (h4 : x.rw'.l.length * 8 ≤ 140737488355328) : LongOk x := fun j => by
  match j with
  | 0 => exact h1
  | 1 => exact h2
  | 2 => exact h3
  | _ + 3 => exact h4
def LoopCk (w : World) (g0 g2 g3 : Nat) (C X : Array Value) (g : Nat) (v8 : Value) (wr : World) : Prop :=
  ∃ (k : Nat) (y : SysF), g + k = 2 ∧ v8 = .int .i64 k ∧ LongOk y.x ∧ SysRd (fun z => z ≠ g3) wr y ∧ Blk wr g3 (sysD y.x) 35 ∧ Blk wr g0 C 56 ∧ Blk wr g2 X 52 ∧ Keep w wr Nope
theorem RetMake.longs {w w' : World} {dl : List DescV} {res : Nat} {x : SysN} {S : Nat → Prop} {en : Ending} (h : RetMake w dl res x S en w') (hl : LongOk x.raw.x) : ∃ y : SysF, en = .returned y.x.val ∧ LongOk y.x ∧ SysRd (fun z => S z ∨ w.heap.size ≤ z) w' y ∧ Keep w w' Nope := by
  obtain ⟨y, rfl, hm, hr, hk⟩ := h
  refine ⟨y, rfl, ?_, hr.1, hk⟩
  rcases hm with hm | ⟨_, rfl⟩
  · rcases hm.short with h | ⟨_, h1, h2, h3, h4⟩
    · exact LongOk.of (by omega) (by omega) (by omega) (by omega)
    · exact LongOk.of (by rw [h1]; exact hl 0) (by rw [h2]; exact hl 1) (by rw [h3]; exact hl 2) (by rw [h4]; exact hl 3)
  · exact hl

set_option maxRecDepth 100000 in
set_option maxHeartbeats 8000000 in
theorem sysChecks_walk (cf : CfgV) (y : SysF) (x : SysN) (w : World) (S : Nat → Prop) (hy : SysRd S w y) (hx : SysNRd S w x) (hd : RdDescs S w (.slice cf.ca cf.dl.length cf.cc) cf.dl) (hS : ∀ z, S z → z < w.heap.size) (hxa : x.after.length * 8 ≤ 140737488355328) (hxl : LongOk x.raw.x) :
    Calls Try.prog 9 #[cf.val, y.x.val, x.val] w (fun e w' => e = .returned (.bool true) ∧ Keep w w' Nope) := by
  obtain ⟨size, top, ca, cc, dl, cra, crn, crc⟩ := cf
  obtain ⟨⟨⟨ra1, rc1, rl1⟩, ⟨wa1, wcp1, wl1⟩, ⟨rra1, rrc1, rrl1⟩, ⟨rwa1, rwc1, rwl1⟩, al1, ⟨pla1, pln1, plc1⟩, ⟨cda1, cdn1, cdc1⟩, ⟨afa1, afc1, afl1⟩⟩, pll1, cdl1⟩ := y
  have HX := Lib.hid hx
  have HY := Lib.hid hy
  have HD := Lib.hid (show RdDescs S w (.slice ca dl.length cc) dl from hd)
  have HSH := Lib.hid (fun wq => law_Short ⟨⟨ra1, rc1, rl1⟩, ⟨wa1, wcp1, wl1⟩, ⟨rra1, rrc1, rrl1⟩, ⟨rwa1, rwc1, rwl1⟩, al1, ⟨pla1, pln1, plc1⟩, ⟨cda1, cdn1, cdc1⟩, ⟨afa1, afc1, afl1⟩⟩ wq)
  have HXL := Lib.hid hxl
  clear hx hy hd hxl
  obtain ⟨w1, hw1⟩ : ∃ w1, w1 = ((w.alloc (.cells #[.int .i64 size, .int .i64 top, .slice ca dl.length cc, .slice cra crn crc] 56)).alloc (.cells #[.slice ra1 rl1.length rc1, .slice wa1 wl1.length wcp1, .slice rra1 rrl1.length rrc1, .slice rwa1 rwl1.length rwc1, .bool al1, .slice pla1 pln1 plc1, .slice cda1 cdn1 cdc1, .slice afa1 afl1.length afc1] 35)).alloc (.cells #[.slice x.pa x.plan.length x.pc, .slice x.ca x.code.length x.cc, .slice x.fa x.after.length x.fc, .int .i64 x.use, .slice x.raw.x.r.a x.raw.x.r.l.length x.raw.x.r.c, .slice x.raw.x.w.a x.raw.x.w.l.length x.raw.x.w.c, .slice x.raw.x.rr.a x.raw.x.rr.l.length x.raw.x.rr.c, .slice x.raw.x.rw'.a x.raw.x.rw'.l.length x.raw.x.rw'.c, .bool x.raw.x.al, .slice x.raw.x.pl.a x.raw.x.pl.n x.raw.x.pl.c, .slice x.raw.x.cd.a x.raw.x.cd.n x.raw.x.cd.c, .slice x.raw.x.af.a x.raw.x.af.l.length x.raw.x.af.c] 52) := ⟨_, rfl⟩
  have hst := (((St.start w).box #[.int .i64 size, .int .i64 top, .slice ca dl.length cc, .slice cra crn crc] 56).box #[.slice ra1 rl1.length rc1, .slice wa1 wl1.length wcp1, .slice rra1 rrl1.length rrc1, .slice rwa1 rwl1.length rwc1, .bool al1, .slice pla1 pln1 plc1, .slice cda1 cdn1 cdc1, .slice afa1 afl1.length afc1] 35).box #[.slice x.pa x.plan.length x.pc, .slice x.ca x.code.length x.cc, .slice x.fa x.after.length x.fc, .int .i64 x.use, .slice x.raw.x.r.a x.raw.x.r.l.length x.raw.x.r.c, .slice x.raw.x.w.a x.raw.x.w.l.length x.raw.x.w.c, .slice x.raw.x.rr.a x.raw.x.rr.l.length x.raw.x.rr.c, .slice x.raw.x.rw'.a x.raw.x.rw'.l.length x.raw.x.rw'.c, .bool x.raw.x.al, .slice x.raw.x.pl.a x.raw.x.pl.n x.raw.x.pl.c, .slice x.raw.x.cd.a x.raw.x.cd.n x.raw.x.cd.c, .slice x.raw.x.af.a x.raw.x.af.l.length x.raw.x.af.c] 52
  simp only [World.size_alloc] at hst
  rw [← hw1] at hst
  have hk1 := Keep.ofSt hst
  have hb0 := hst.blk 0 rfl
  have hb1 := hst.blk 1 rfl
  have hb2 := hst.blk 2 rfl
  obtain ⟨g0, hg0⟩ : ∃ g, g = w.heap.size := ⟨_, rfl⟩
  rw [← hg0] at hb0 hb1 hb2
  obtain ⟨g1, hg1⟩ : ∃ g, g = g0 + 1 := ⟨_, rfl⟩
  rw [← hg1] at hb1 hb2
  obtain ⟨g2, hg2⟩ : ∃ g, g = g1 + 1 := ⟨_, rfl⟩
  rw [← hg2] at hb2
  have HB0 := Lib.hid hb0
  have HB1 := Lib.hid hb1
  have HB2 := Lib.hid hb2
  have HK1 := Lib.hid hk1
  have HW1 := Lib.hid hw1
  have HG0 := Lib.hid hg0
  have HG1 := Lib.hid hg1
  have HG2 := Lib.hid hg2
  clear hst hb0 hb1 hb2 hk1 hw1 hg0 hg1 hg2
  unfold CfgV.val SysX.val SysN.val
  simp only [SysX.cells, RowV.v, SlV.v, List.append_toArray, List.cons_append, List.nil_append] at HSH ⊢
  have ca0 := (HB0.out.keep (Keep.refl w1 Nope) (fun f => f)).cell 0; have ca1 := (HB0.out.keep (Keep.refl w1 Nope) (fun f => f)).cell 1; have ca2 := (HB0.out.keep (Keep.refl w1 Nope) (fun f => f)).cell 2; have ca3 := (HB0.out.keep (Keep.refl w1 Nope) (fun f => f)).cell 3; simp at ca0 ca1 ca2 ca3
  have d0 := (HB1.out.keep (Keep.refl w1 Nope) (fun f => f)).cell 0; have d1 := (HB1.out.keep (Keep.refl w1 Nope) (fun f => f)).cell 1; have d2 := (HB1.out.keep (Keep.refl w1 Nope) (fun f => f)).cell 2; have d3 := (HB1.out.keep (Keep.refl w1 Nope) (fun f => f)).cell 3; have d4 := (HB1.out.keep (Keep.refl w1 Nope) (fun f => f)).cell 4; have d5 := (HB1.out.keep (Keep.refl w1 Nope) (fun f => f)).cell 5; have d6 := (HB1.out.keep (Keep.refl w1 Nope) (fun f => f)).cell 6; have d7 := (HB1.out.keep (Keep.refl w1 Nope) (fun f => f)).cell 7; simp at d0 d1 d2 d3 d4 d5 d6 d7
  go_enter Try.func9, Try.ntmps9
  go_upto_region 1 with (fail)
  rw [← HW1.out, ← HG0.out, ← HG1.out, ← HG2.out]
  by_cases h60 : 60 < dl.length
  · have e1 : decide ((dl.length : Int) > 60) = true := decide_eq_true (by omega)
    have e2 : decide (60 < dl.length) = true := decide_eq_true h60
    go_wp2_with (go_at_call 24; refine (awake21 _).mono ?_; rintro e w9 ⟨rfl, hk9⟩; have HK9 := Lib.hid hk9; clear hk9)
    go_ret
    exact ⟨rfl, HK1.out.trans HK9.out (fun _ f => f.elim)⟩
  have e1 : decide ((dl.length : Int) > 60) = false := decide_eq_false (by omega)
  have e2 : decide (60 < dl.length) = false := decide_eq_false h60
  by_cases hr60 : 60 < crn
  · have e3 : decide ((crn : Int) > 60) = true := decide_eq_true (by omega)
    have e4 : decide (60 < crn) = true := decide_eq_true hr60
    go_wp2_with (go_at_call 24; refine (awake21 _).mono ?_; rintro e w9 ⟨rfl, hk9⟩; have HK9 := Lib.hid hk9; clear hk9)
    go_ret
    exact ⟨rfl, HK1.out.trans HK9.out (fun _ f => f.elim)⟩
  have e3 : decide ((crn : Int) > 60) = false := decide_eq_false (by omega)
  have e4 : decide (60 < crn) = false := decide_eq_false hr60
  obtain ⟨sh, hsh⟩ : ∃ sh, shortB ⟨⟨ra1, rc1, rl1⟩, ⟨wa1, wcp1, wl1⟩, ⟨rra1, rrc1, rrl1⟩, ⟨rwa1, rwc1, rwl1⟩, al1, ⟨pla1, pln1, plc1⟩, ⟨cda1, cdn1, cdc1⟩, ⟨afa1, afc1, afl1⟩⟩ = sh := ⟨_, rfl⟩
  rw [hsh] at HSH
  have HS2 := Lib.hid hsh
  clear hsh
  cases sh
  · go_wp2_with (first | (go_at_call 23; refine (HSH.out _).mono ?_; rintro e wn ⟨rfl, hk⟩; have HKN := Lib.hid hk; clear hk) | (go_at_call 24; refine (awake21 _).mono ?_; rintro e w9 ⟨rfl, hk9⟩; have HK9 := Lib.hid hk9; clear hk9))
    go_ret
    exact ⟨rfl, (HK1.out.trans HKN.out (fun _ f => f.elim)).trans HK9.out (fun _ f => f.elim)⟩
  go_upto_region 3 with (go_at_call 23; refine (HSH.out _).mono ?_; rintro e wn ⟨rfl, hk⟩; have HKN := Lib.hid hk; clear hk d0 d1 d2 d3 d4 d5 d6 d7 ca0 ca1 ca2 ca3; have d0 := (HB1.out.keep HKN.out (fun f => f)).cell 0; have d1 := (HB1.out.keep HKN.out (fun f => f)).cell 1; have d2 := (HB1.out.keep HKN.out (fun f => f)).cell 2; have d3 := (HB1.out.keep HKN.out (fun f => f)).cell 3; have d4 := (HB1.out.keep HKN.out (fun f => f)).cell 4; have d5 := (HB1.out.keep HKN.out (fun f => f)).cell 5; have d6 := (HB1.out.keep HKN.out (fun f => f)).cell 6; have d7 := (HB1.out.keep HKN.out (fun f => f)).cell 7; simp at d0 d1 d2 d3 d4 d5 d6 d7)
  go_upto_region 4 with (fail)
  obtain ⟨w3, hw3⟩ : ∃ w3, w3 = wn.alloc (.cells #[.slice ra1 rl1.length rc1, .slice wa1 wl1.length wcp1, .slice rra1 rrl1.length rrc1, .slice rwa1 rwl1.length rwc1, .bool al1, .slice pla1 pln1 plc1, .slice cda1 cdn1 cdc1, .slice afa1 afl1.length afc1] 35) := ⟨_, rfl⟩
  have hk3 : Keep wn w3 Nope := by rw [hw3]; exact (Keep.refl wn Nope).alloc _
  have hb3 : Blk w3 wn.heap.size #[.slice ra1 rl1.length rc1, .slice wa1 wl1.length wcp1, .slice rra1 rrl1.length rrc1, .slice rwa1 rwl1.length rwc1, .bool al1, .slice pla1 pln1 plc1, .slice cda1 cdn1 cdc1, .slice afa1 afl1.length afc1] 35 := by rw [hw3]; exact Blk.new wn _ _
  rw [← hw3]
  obtain ⟨g3, hg3⟩ : ∃ g, g = wn.heap.size := ⟨_, rfl⟩
  rw [← hg3] at hb3 ⊢
  have HK3 := Lib.hid ((HK1.out.trans HKN.out (fun _ f => f.elim)).trans hk3 (fun _ f => f.elim))
  have HN3 := Lib.hid (HKN.out.trans hk3 (fun _ f => f.elim))
  have HB30 := Lib.hid hb3
  have HG3 := Lib.hid (show w.heap.size ≤ g3 ∧ g0 ≠ g3 ∧ g2 ≠ g3 from by
    have := (HK1.out.trans HKN.out (fun _ f => f.elim)).size
    have h1 := HB0.out.lt
    have h2 := HB2.out.lt
    have h3 := HKN.out.size
    exact ⟨by omega, by omega, by omega⟩)
  have HLO := Lib.hid (show LongOk ⟨⟨ra1, rc1, rl1⟩, ⟨wa1, wcp1, wl1⟩, ⟨rra1, rrc1, rrl1⟩, ⟨rwa1, rwc1, rwl1⟩, al1, ⟨pla1, pln1, plc1⟩, ⟨cda1, cdn1, cdc1⟩, ⟨afa1, afc1, afl1⟩⟩ from by
    have h := HS2.out
    unfold shortB at h
    simp only [Bool.and_eq_true, decide_eq_true_eq] at h
    exact LongOk.of (by simp only; omega) (by simp only; omega) (by simp only; omega) (by simp only; omega))
  clear hw3 hk3 hb3 hg3 d0 d1 d2 d3 d4 d5 d6 d7 HSH HS2
  go_wp2_with fail
  go_loopg [8] 2 (fun g v8 wr => LoopCk w g0 g2 g3 #[.int .i64 size, .int .i64 top, .slice ca dl.length cc, .slice cra crn crc] #[.slice x.pa x.plan.length x.pc, .slice x.ca x.code.length x.cc, .slice x.fa x.after.length x.fc, .int .i64 x.use, .slice x.raw.x.r.a x.raw.x.r.l.length x.raw.x.r.c, .slice x.raw.x.w.a x.raw.x.w.l.length x.raw.x.w.c, .slice x.raw.x.rr.a x.raw.x.rr.l.length x.raw.x.rr.c, .slice x.raw.x.rw'.a x.raw.x.rw'.l.length x.raw.x.rw'.c, .bool x.raw.x.al, .slice x.raw.x.pl.a x.raw.x.pl.n x.raw.x.pl.c, .slice x.raw.x.cd.a x.raw.x.cd.n x.raw.x.cd.c, .slice x.raw.x.af.a x.raw.x.af.l.length x.raw.x.af.c] g v8 wr)
  case atStart => exact ⟨0, ⟨⟨⟨ra1, rc1, rl1⟩, ⟨wa1, wcp1, wl1⟩, ⟨rra1, rrc1, rrl1⟩, ⟨rwa1, rwc1, rwl1⟩, al1, ⟨pla1, pln1, plc1⟩, ⟨cda1, cdn1, cdc1⟩, ⟨afa1, afc1, afl1⟩⟩, pll1, cdl1⟩, rfl, rfl, HLO.out, ⟨⟨(HY.out.use.r.keep HK3.out (fun _ _ f => f)).mono (fun z hz => by have := hS z hz; have := HG3.out.1; omega), (HY.out.use.w'.keep HK3.out (fun _ _ f => f)).mono (fun z hz => by have := hS z hz; have := HG3.out.1; omega), (HY.out.use.rr.keep HK3.out (fun _ _ f => f)).mono (fun z hz => by have := hS z hz; have := HG3.out.1; omega), (HY.out.use.rw'.keep HK3.out (fun _ _ f => f)).mono (fun z hz => by have := hS z hz; have := HG3.out.1; omega)⟩, (HY.out.pl.keep HK3.out (fun _ _ f => f)).mono (fun z hz => by have := hS z hz; have := HG3.out.1; omega), (HY.out.cd.keep HK3.out (fun _ _ f => f)).mono (fun z hz => by have := hS z hz; have := HG3.out.1; omega)⟩, HB30.out, HB0.out.keep HN3.out (fun f => f), HB2.out.keep HN3.out (fun f => f), HK3.out⟩
  case round =>
    obtain ⟨k, ⟨⟨⟨ra, rc, rl⟩, ⟨wa, wcp, wl⟩, ⟨rra, rrc, rrl⟩, ⟨rwa, rwc, rwl⟩, al, ⟨pla, pln, plc⟩, ⟨cda, cdn, cdc⟩, ⟨afa, afc, afl⟩⟩, pll, cdl⟩, hg, rfl, hlo, hrd, hb3, hb0, hb2, hkp⟩ := hrel
    have HG := Lib.hid hg
    have HLO := Lib.hid hlo
    have HRD := Lib.hid hrd
    have HB3 := Lib.hid (show Blk wr g3 #[.slice ra rl.length rc, .slice wa wl.length wcp, .slice rra rrl.length rrc, .slice rwa rwl.length rwc, .bool al, .slice pla pln plc, .slice cda cdn cdc, .slice afa afl.length afc] 35 from hb3)
    have HB0 := Lib.hid hb0
    have HB2 := Lib.hid hb2
    have HKP := Lib.hid hkp
    clear hg hlo hrd hb3 hb0 hb2 hkp HB30 HN3 HY
    by_cases hk2 : k < 2
    · have hkd : decide ((k : Int) < 2) = true := decide_eq_true (by omega)
      have hkI : (k : Int) < 2 := by omega
      have hgs := HB3.out.lt
      have HGS := Lib.hid hgs
      have HRDq := Lib.hid (show ∀ wq, Keep wr wq Nope → SysRd (fun z => z ≠ g3) wq ⟨⟨⟨ra, rc, rl⟩, ⟨wa, wcp, wl⟩, ⟨rra, rrc, rrl⟩, ⟨rwa, rwc, rwl⟩, al, ⟨pla, pln, plc⟩, ⟨cda, cdn, cdc⟩, ⟨afa, afc, afl⟩⟩, pll, cdl⟩ from fun wq hk => HRD.out.keep0 hk)
      have HDq := Lib.hid (show ∀ wq, Keep wr wq Nope → RdDescs (fun z => z ≠ g3) wq (.slice ca dl.length cc) dl from fun wq hk => (HD.out.keep (HKP.out.trans hk (fun _ f => f.elim)) (fun _ _ f => f)).mono (fun z hz e => by have := hS z hz; have := HG3.out.1; omega))
      obtain ⟨e0, he0⟩ : ∃ e, sysE dl crn ⟨⟨⟨ra, rc, rl⟩, ⟨wa, wcp, wl⟩, ⟨rra, rrc, rrl⟩, ⟨rwa, rwc, rwl⟩, al, ⟨pla, pln, plc⟩, ⟨cda, cdn, cdc⟩, ⟨afa, afc, afl⟩⟩, pll, cdl⟩ = e := ⟨_, rfl⟩
      have HCK := Lib.hid (show ∀ wq, Keep wr wq Nope → Calls Try.prog 27 #[.agg #[.int .i64 size, .int .i64 top, .slice ca dl.length cc, .slice cra crn crc], .agg #[.slice ra rl.length rc, .slice wa wl.length wcp, .slice rra rrl.length rrc, .slice rwa rwl.length rwc, .bool al, .slice pla pln plc, .slice cda cdn cdc, .slice afa afl.length afc]] wq (Ret wq (.int .i64 e0)) from fun wq hk => he0 ▸ sys_Check ⟨size, top, ca, cc, dl, cra, crn, crc⟩ ⟨⟨⟨ra, rc, rl⟩, ⟨wa, wcp, wl⟩, ⟨rra, rrc, rrl⟩, ⟨rwa, rwc, rwl⟩, al, ⟨pla, pln, plc⟩, ⟨cda, cdn, cdc⟩, ⟨afa, afc, afl⟩⟩, pll, cdl⟩ wq _ (HRDq.out wq hk) (HDq.out wq hk) (by have h1 : rl.length * 8 ≤ 140737488355328 := HLO.out 0; have h2 : wl.length * 8 ≤ 140737488355328 := HLO.out 1; show (rl.length + wl.length) * 8 ≤ 281474976710656; omega))
      have HSM := Lib.hid (show ∀ wq, Keep wr wq Nope → Calls Try.prog 28 #[.agg #[.int .i64 size, .int .i64 top, .slice ca dl.length cc, .slice cra crn crc], .agg #[.slice ra rl.length rc, .slice wa wl.length wcp, .slice rra rrl.length rrc, .slice rwa rwl.length rwc, .bool al, .slice pla pln plc, .slice cda cdn cdc, .slice afa afl.length afc]] wq (Ret wq (.int .i64 e0)) from fun wq hk => he0 ▸ ref_SysMay ⟨size, top, ca, cc, dl, cra, crn, crc⟩ ⟨⟨⟨ra, rc, rl⟩, ⟨wa, wcp, wl⟩, ⟨rra, rrc, rrl⟩, ⟨rwa, rwc, rwl⟩, al, ⟨pla, pln, plc⟩, ⟨cda, cdn, cdc⟩, ⟨afa, afc, afl⟩⟩, pll, cdl⟩ wq _ (HRDq.out wq hk) (HDq.out wq hk) (by show dl.length ≤ 1000; omega))
      have HUS := Lib.hid (show ∀ wq, Keep wr wq Nope → Calls Try.prog 29 #[.agg #[.slice ra rl.length rc, .slice wa wl.length wcp, .slice rra rrl.length rrc, .slice rwa rwl.length rwc, .bool al, .slice pla pln plc, .slice cda cdn cdc, .slice afa afl.length afc]] wq (RetUses ⟨⟨ra, rc, rl⟩, ⟨wa, wcp, wl⟩, ⟨rra, rrc, rrl⟩, ⟨rwa, rwc, rwl⟩, al, ⟨pla, pln, plc⟩, ⟨cda, cdn, cdc⟩, ⟨afa, afc, afl⟩⟩ wq) from fun wq hk => sys_Uses ⟨⟨ra, rc, rl⟩, ⟨wa, wcp, wl⟩, ⟨rra, rrc, rrl⟩, ⟨rwa, rwc, rwl⟩, al, ⟨pla, pln, plc⟩, ⟨cda, cdn, cdc⟩, ⟨afa, afc, afl⟩⟩ wq _ (HRDq.out wq hk).use HLO.out)
      have HMS := Lib.hid (show ∀ wq, Keep wr wq Nope → Calls Try.prog 30 #[.agg #[.slice ra rl.length rc, .slice wa wl.length wcp, .slice rra rrl.length rrc, .slice rwa rwl.length rwc, .bool al, .slice pla pln plc, .slice cda cdn cdc, .slice afa afl.length afc]] wq (fun e w' => e = .returned (.tuple #[.int .u64 (allW rl : Nat), .int .u64 (allW wl : Nat)]) ∧ Keep wq w' Nope) from fun wq hk => sys_Masks ⟨⟨ra, rc, rl⟩, ⟨wa, wcp, wl⟩, ⟨rra, rrc, rrl⟩, ⟨rwa, rwc, rwl⟩, al, ⟨pla, pln, plc⟩, ⟨cda, cdn, cdc⟩, ⟨afa, afc, afl⟩⟩ wq _ (HRDq.out wq hk).use)
      have HO1 := Lib.hid (show ∀ wq, Keep wr wq Nope → Calls Try.prog 31 #[.slice ra rl.length rc] wq (Ret wq (.int .u64 (allW rl : Nat))) from fun wq hk => ref_Of _ rl wq _ (HRDq.out wq hk).use.r)
      have HO2 := Lib.hid (show ∀ wq, Keep wr wq Nope → Calls Try.prog 31 #[.slice wa wl.length wcp] wq (Ret wq (.int .u64 (allW wl : Nat))) from fun wq hk => ref_Of _ wl wq _ (HRDq.out wq hk).use.w')
      have HMK := Lib.hid (show ∀ wq, Keep wr wq Nope → Calls Try.prog 26 #[.agg #[.int .i64 size, .int .i64 top, .slice ca dl.length cc, .slice cra crn crc], .agg #[.slice x.pa x.plan.length x.pc, .slice x.ca x.code.length x.cc, .slice x.fa x.after.length x.fc, .int .i64 x.use, .slice x.raw.x.r.a x.raw.x.r.l.length x.raw.x.r.c, .slice x.raw.x.w.a x.raw.x.w.l.length x.raw.x.w.c, .slice x.raw.x.rr.a x.raw.x.rr.l.length x.raw.x.rr.c, .slice x.raw.x.rw'.a x.raw.x.rw'.l.length x.raw.x.rw'.c, .bool x.raw.x.al, .slice x.raw.x.pl.a x.raw.x.pl.n x.raw.x.pl.c, .slice x.raw.x.cd.a x.raw.x.cd.n x.raw.x.cd.c, .slice x.raw.x.af.a x.raw.x.af.l.length x.raw.x.af.c]] wq (fun en w' => ∃ y : SysF, en = .returned y.x.val ∧ LongOk y.x ∧ SysRd (fun z => S z ∨ wq.heap.size ≤ z) w' y ∧ Keep wq w' Nope) from fun wq hk => by
        have h := law_make ⟨size, top, ca, cc, dl, cra, crn, crc⟩ x wq S (HX.out.keep0 (HKP.out.trans hk (fun _ f => f.elim))) (HD.out.keep (HKP.out.trans hk (fun _ f => f.elim)) (fun _ _ f => f)) (by show dl.length ≤ 60; omega) hxa
        unfold CfgV.val SysN.val at h
        simp only [SysX.cells, RowV.v, SlV.v, List.append_toArray, List.cons_append, List.nil_append] at h
        exact h.mono (fun e w' hr => hr.longs HXL.out))
      clear he0 hgs
      have ca0 := (HB0.out.keep (Keep.refl wr Nope) (fun f => f)).cell 0; have ca1 := (HB0.out.keep (Keep.refl wr Nope) (fun f => f)).cell 1; have ca2 := (HB0.out.keep (Keep.refl wr Nope) (fun f => f)).cell 2; have ca3 := (HB0.out.keep (Keep.refl wr Nope) (fun f => f)).cell 3; simp at ca0 ca1 ca2 ca3; have cb0 := (HB3.out.keep (Keep.refl wr Nope) (fun f => f)).cell 0; have cb1 := (HB3.out.keep (Keep.refl wr Nope) (fun f => f)).cell 1; have cb2 := (HB3.out.keep (Keep.refl wr Nope) (fun f => f)).cell 2; have cb3 := (HB3.out.keep (Keep.refl wr Nope) (fun f => f)).cell 3; have cb4 := (HB3.out.keep (Keep.refl wr Nope) (fun f => f)).cell 4; have cb5 := (HB3.out.keep (Keep.refl wr Nope) (fun f => f)).cell 5; have cb6 := (HB3.out.keep (Keep.refl wr Nope) (fun f => f)).cell 6; have cb7 := (HB3.out.keep (Keep.refl wr Nope) (fun f => f)).cell 7; simp at cb0 cb1 cb2 cb3 cb4 cb5 cb6 cb7; have cx0 := (HB2.out.keep (Keep.refl wr Nope) (fun f => f)).cell 0; have cx1 := (HB2.out.keep (Keep.refl wr Nope) (fun f => f)).cell 1; have cx2 := (HB2.out.keep (Keep.refl wr Nope) (fun f => f)).cell 2; have cx3 := (HB2.out.keep (Keep.refl wr Nope) (fun f => f)).cell 3; have cx4 := (HB2.out.keep (Keep.refl wr Nope) (fun f => f)).cell 4; have cx5 := (HB2.out.keep (Keep.refl wr Nope) (fun f => f)).cell 5; have cx6 := (HB2.out.keep (Keep.refl wr Nope) (fun f => f)).cell 6; have cx7 := (HB2.out.keep (Keep.refl wr Nope) (fun f => f)).cell 7; have cx8 := (HB2.out.keep (Keep.refl wr Nope) (fun f => f)).cell 8; have cx9 := (HB2.out.keep (Keep.refl wr Nope) (fun f => f)).cell 9; have cx10 := (HB2.out.keep (Keep.refl wr Nope) (fun f => f)).cell 10; have cx11 := (HB2.out.keep (Keep.refl wr Nope) (fun f => f)).cell 11; simp at cx0 cx1 cx2 cx3 cx4 cx5 cx6 cx7 cx8 cx9 cx10 cx11
      go_upto_region 7 with (fail)
      refine wp_region_held_drew (S := fun w' => w'.cell? ⟨g0, 0, none⟩ = some (.int .i64 size) ∧ w'.cell? ⟨g0, 1, none⟩ = some (.int .i64 top) ∧ w'.cell? ⟨g0, 2, none⟩ = some (.slice ca dl.length cc) ∧ w'.cell? ⟨g0, 3, none⟩ = some (.slice cra crn crc) ∧ w'.cell? ⟨g3, 0, none⟩ = some (.slice ra rl.length rc) ∧ w'.cell? ⟨g3, 1, none⟩ = some (.slice wa wl.length wcp) ∧ w'.cell? ⟨g3, 2, none⟩ = some (.slice rra rrl.length rrc) ∧ w'.cell? ⟨g3, 3, none⟩ = some (.slice rwa rwl.length rwc) ∧ w'.cell? ⟨g3, 4, none⟩ = some (.bool al) ∧ w'.cell? ⟨g3, 5, none⟩ = some (.slice pla pln plc) ∧ w'.cell? ⟨g3, 6, none⟩ = some (.slice cda cdn cdc) ∧ w'.cell? ⟨g3, 7, none⟩ = some (.slice afa afl.length afc)) (by kernel_rfl) ?_ (fun hHeld => ?_)
      · (try dsimp only); go_keep
      refine wpAnyH_take (i := 0) (oi := ?_) (v := ?_) ?_ ?_ ?_ ?_ ?_ ?_ ?_ ?_
      rotate_left 2
      · simp only [List.getElem?_toArray, List.getElem?_cons_succ, List.getElem?_cons_zero]; exact rfl
      · kernel_rfl
      · kernel_rfl
      · kernel_rfl
      · first | exact fun _ _ _ h => h | exact fun _ _ _ h => (HPan.out _ _ _ h).elim
      · (refine Or.inl ⟨by rfl, ?_⟩; (intro w hSw; (try dsimp only at hSw); go_simp) <;> with_reducible rfl)
      · assumption
      simp only [Act.put, List.setIfInBounds_toArray, List.set_cons_zero, List.set_cons_succ]
      refine wpAnyH_take (i := 1) (oi := ?_) (v := ?_) ?_ ?_ ?_ ?_ ?_ ?_ ?_ ?_
      rotate_left 2
      · simp only [List.getElem?_toArray, List.getElem?_cons_succ, List.getElem?_cons_zero]; exact rfl
      · kernel_rfl
      · kernel_rfl
      · kernel_rfl
      · first | exact fun _ _ _ h => h | exact fun _ _ _ h => (HPan.out _ _ _ h).elim
      · (refine Or.inl ⟨by rfl, ?_⟩; (intro w hSw; (try dsimp only at hSw); go_simp) <;> with_reducible rfl)
      · assumption
      simp only [Act.put, List.setIfInBounds_toArray, List.set_cons_zero, List.set_cons_succ]
      refine wpAnyH_take (i := 3) (oi := ?_) (v := ?_) ?_ ?_ ?_ ?_ ?_ ?_ ?_ ?_
      rotate_left 2
      · simp only [List.getElem?_toArray, List.getElem?_cons_succ, List.getElem?_cons_zero]; exact rfl
      · kernel_rfl
      · kernel_rfl
      · kernel_rfl
      · first | exact fun _ _ _ h => h | exact fun _ _ _ h => (HPan.out _ _ _ h).elim
      · (refine Or.inl ⟨by rfl, ?_⟩; (intro w hSw; (try dsimp only at hSw); go_simp) <;> with_reducible rfl)
      · assumption
      simp only [Act.put, List.setIfInBounds_toArray, List.set_cons_zero, List.set_cons_succ]
      refine wpAnyH_take (i := 4) (oi := ?_) (v := ?_) ?_ ?_ ?_ ?_ ?_ ?_ ?_ ?_
      rotate_left 2
      · simp only [List.getElem?_toArray, List.getElem?_cons_succ, List.getElem?_cons_zero]; exact rfl
      · kernel_rfl
      · kernel_rfl
      · kernel_rfl
      · first | exact fun _ _ _ h => h | exact fun _ _ _ h => (HPan.out _ _ _ h).elim
      · (refine Or.inl ⟨by rfl, ?_⟩; (intro w hSw; (try dsimp only at hSw); go_simp) <;> with_reducible rfl)
      · assumption
      simp only [Act.put, List.setIfInBounds_toArray, List.set_cons_zero, List.set_cons_succ]
      refine wpAnyH_ready (rs := [2]) (by kernel_rfl) (by simp) ?_
      refine AllReadyH.cons rfl (fun K hK => ?_) (AllReadyH.nil)
      go_simp
      go_wp2_with ((go_at_call 27; refine (HCK.out _ (show Keep wr _ Nope from (by (repeat (first | exact Keep.refl _ _ | apply Keep.drew | apply Keep.drewN | apply Keep.alloc))))).mono ?_; rintro e w5 ⟨rfl, hk5⟩; have HK5 := Lib.hid ((show Keep wr _ Nope from (by (repeat (first | exact Keep.refl _ _ | apply Keep.drew | apply Keep.drewN | apply Keep.alloc)))).trans hk5 (fun _ f => f.elim)); clear hk5))
      refine hK.out _ _ ?_ (fun hHeld => ?_)
      · (try dsimp only); exact ⟨HK5.out.cell ca0 (fun f => f), HK5.out.cell ca1 (fun f => f), HK5.out.cell ca2 (fun f => f), HK5.out.cell ca3 (fun f => f), HK5.out.cell cb0 (fun f => f), HK5.out.cell cb1 (fun f => f), HK5.out.cell cb2 (fun f => f), HK5.out.cell cb3 (fun f => f), HK5.out.cell cb4 (fun f => f), HK5.out.cell cb5 (fun f => f), HK5.out.cell cb6 (fun f => f), HK5.out.cell cb7 (fun f => f)⟩
      clear hK K
      refine wpAnyH_ready (rs := [5]) (by kernel_rfl) (by simp) ?_
      refine AllReadyH.cons rfl (fun K hK => ?_) (AllReadyH.nil)
      go_simp
      go_wp2_with ((go_at_call 28; refine (HSM.out _ (HK5.out.trans (show Keep w5 _ Nope from (by (repeat (first | exact Keep.refl _ _ | apply Keep.drew | apply Keep.drewN | apply Keep.alloc)))) (fun _ f => f.elim))).mono ?_; rintro e w6 ⟨rfl, hk6⟩; have HK6 := Lib.hid (HK5.out.trans ((show Keep w5 _ Nope from (by (repeat (first | exact Keep.refl _ _ | apply Keep.drew | apply Keep.drewN | apply Keep.alloc)))).trans hk6 (fun _ f => f.elim)) (fun _ f => f.elim)); clear hk6))
      refine hK.out _ _ ?_ (fun hHeld => ?_)
      · (try dsimp only); exact ⟨HK6.out.cell ca0 (fun f => f), HK6.out.cell ca1 (fun f => f), HK6.out.cell ca2 (fun f => f), HK6.out.cell ca3 (fun f => f), HK6.out.cell cb0 (fun f => f), HK6.out.cell cb1 (fun f => f), HK6.out.cell cb2 (fun f => f), HK6.out.cell cb3 (fun f => f), HK6.out.cell cb4 (fun f => f), HK6.out.cell cb5 (fun f => f), HK6.out.cell cb6 (fun f => f), HK6.out.cell cb7 (fun f => f)⟩
      clear hK K
      refine wpAnyH_take (i := 6) (oi := ?_) (v := ?_) ?_ ?_ ?_ ?_ ?_ ?_ ?_ ?_
      rotate_left 2
      · simp only [List.getElem?_toArray, List.getElem?_cons_succ, List.getElem?_cons_zero]; exact rfl
      · kernel_rfl
      · kernel_rfl
      · kernel_rfl
      · first | exact fun _ _ _ h => h | exact fun _ _ _ h => (HPan.out _ _ _ h).elim
      · (refine Or.inl ⟨by rfl, ?_⟩; (intro w hSw; (try dsimp only at hSw); go_simp) <;> with_reducible rfl)
      · assumption
      simp only [Act.put, List.setIfInBounds_toArray, List.set_cons_zero, List.set_cons_succ]
      refine wpAnyH_done (by kernel_rfl) ?_ _
      clear ca0 ca1 ca2 ca3 cb0 cb1 cb2 cb3 cb4 cb5 cb6 cb7 cx0 cx1 cx2 cx3 cx4 cx5 cx6 cx7 cx8 cx9 cx10 cx11 hHeld HCK HSM
      have ca0 := (HB0.out.keep HK6.out (fun f => f)).cell 0; have ca1 := (HB0.out.keep HK6.out (fun f => f)).cell 1; have ca2 := (HB0.out.keep HK6.out (fun f => f)).cell 2; have ca3 := (HB0.out.keep HK6.out (fun f => f)).cell 3; simp at ca0 ca1 ca2 ca3; have cb0 := (HB3.out.keep HK6.out (fun f => f)).cell 0; have cb1 := (HB3.out.keep HK6.out (fun f => f)).cell 1; have cb2 := (HB3.out.keep HK6.out (fun f => f)).cell 2; have cb3 := (HB3.out.keep HK6.out (fun f => f)).cell 3; have cb4 := (HB3.out.keep HK6.out (fun f => f)).cell 4; have cb5 := (HB3.out.keep HK6.out (fun f => f)).cell 5; have cb6 := (HB3.out.keep HK6.out (fun f => f)).cell 6; have cb7 := (HB3.out.keep HK6.out (fun f => f)).cell 7; simp at cb0 cb1 cb2 cb3 cb4 cb5 cb6 cb7; have cx0 := (HB2.out.keep HK6.out (fun f => f)).cell 0; have cx1 := (HB2.out.keep HK6.out (fun f => f)).cell 1; have cx2 := (HB2.out.keep HK6.out (fun f => f)).cell 2; have cx3 := (HB2.out.keep HK6.out (fun f => f)).cell 3; have cx4 := (HB2.out.keep HK6.out (fun f => f)).cell 4; have cx5 := (HB2.out.keep HK6.out (fun f => f)).cell 5; have cx6 := (HB2.out.keep HK6.out (fun f => f)).cell 6; have cx7 := (HB2.out.keep HK6.out (fun f => f)).cell 7; have cx8 := (HB2.out.keep HK6.out (fun f => f)).cell 8; have cx9 := (HB2.out.keep HK6.out (fun f => f)).cell 9; have cx10 := (HB2.out.keep HK6.out (fun f => f)).cell 10; have cx11 := (HB2.out.keep HK6.out (fun f => f)).cell 11; simp at cx0 cx1 cx2 cx3 cx4 cx5 cx6 cx7 cx8 cx9 cx10 cx11
      go_upto_region 10 with (go_at_call 29; refine (HUS.out _ HK6.out).mono ?_; rintro e w7 hru; obtain ⟨u0, v0, u1, v1, u2, v2, u3, v3, rfl, hu0, hu1, hu2, hu3, hk7⟩ := hru.four; have HU0 := Lib.hid hu0; have HU1 := Lib.hid hu1; have HU2 := Lib.hid hu2; have HU3 := Lib.hid hu3; have HK7 := Lib.hid (HK6.out.trans hk7 (fun _ f => f.elim)); clear hru hu0 hu1 hu2 hu3 hk7 ca0 ca1 ca2 ca3 cb0 cb1 cb2 cb3 cb4 cb5 cb6 cb7 cx0 cx1 cx2 cx3 cx4 cx5 cx6 cx7 cx8 cx9 cx10 cx11)
      obtain ⟨w8, hw8⟩ : ∃ w8, w8 = w7.alloc (.cells #[.slice u0 rl.length v0, .slice u1 wl.length v1, .slice u2 rrl.length v2, .slice u3 rwl.length v3, .bool al] 31) := ⟨_, rfl⟩
      have hk8 : Keep w7 w8 Nope := by rw [hw8]; exact (Keep.refl w7 Nope).alloc _
      have hb8 : Blk w8 w7.heap.size #[.slice u0 rl.length v0, .slice u1 wl.length v1, .slice u2 rrl.length v2, .slice u3 rwl.length v3, .bool al] 31 := by rw [hw8]; exact Blk.new w7 _ _
      rw [← hw8]
      obtain ⟨gu, hgu⟩ : ∃ g, g = w7.heap.size := ⟨_, rfl⟩
      rw [← hgu] at hb8 ⊢
      have HK8 := Lib.hid (HK7.out.trans hk8 (fun _ f => f.elim))
      have HBU0 := Lib.hid hb8
      have HS0 := Lib.hid (show ∀ wq, Keep w8 wq Nope → Calls Try.prog 17 #[.slice u0 rl.length v0, .slice ra rl.length rc] wq (Ret wq (.bool true)) from fun wq hk => same_ints _ _ rl wq _ _ (HU0.out.keep (hk8.trans hk (fun _ f => f.elim)) (fun _ _ f => f)) (HRDq.out wq (HK8.out.trans hk (fun _ f => f.elim))).use.r)
      have HS1 := Lib.hid (show ∀ wq, Keep w8 wq Nope → Calls Try.prog 17 #[.slice u1 wl.length v1, .slice wa wl.length wcp] wq (Ret wq (.bool true)) from fun wq hk => same_ints _ _ wl wq _ _ (HU1.out.keep (hk8.trans hk (fun _ f => f.elim)) (fun _ _ f => f)) (HRDq.out wq (HK8.out.trans hk (fun _ f => f.elim))).use.w')
      have HS2 := Lib.hid (show ∀ wq, Keep w8 wq Nope → Calls Try.prog 17 #[.slice u2 rrl.length v2, .slice rra rrl.length rrc] wq (Ret wq (.bool true)) from fun wq hk => same_ints _ _ rrl wq _ _ (HU2.out.keep (hk8.trans hk (fun _ f => f.elim)) (fun _ _ f => f)) (HRDq.out wq (HK8.out.trans hk (fun _ f => f.elim))).use.rr)
      have HS3 := Lib.hid (show ∀ wq, Keep w8 wq Nope → Calls Try.prog 17 #[.slice u3 rwl.length v3, .slice rwa rwl.length rwc] wq (Ret wq (.bool true)) from fun wq hk => same_ints _ _ rwl wq _ _ (HU3.out.keep (hk8.trans hk (fun _ f => f.elim)) (fun _ _ f => f)) (HRDq.out wq (HK8.out.trans hk (fun _ f => f.elim))).use.rw')
      have K8 := Lib.hid (Keep.refl w8 Nope)
      clear hw8 hk8 hb8 hgu HU0 HU1 HU2 HU3 HUS
      have cbq := True.intro
      have cb0 := (HB3.out.keep (HK8.out.trans (Keep.refl w8 Nope) (fun _ f => f.elim)) (fun f => f)).cell 0; have cb1 := (HB3.out.keep (HK8.out.trans (Keep.refl w8 Nope) (fun _ f => f.elim)) (fun f => f)).cell 1; have cb2 := (HB3.out.keep (HK8.out.trans (Keep.refl w8 Nope) (fun _ f => f.elim)) (fun f => f)).cell 2; have cb3 := (HB3.out.keep (HK8.out.trans (Keep.refl w8 Nope) (fun _ f => f.elim)) (fun f => f)).cell 3; have cb4 := (HB3.out.keep (HK8.out.trans (Keep.refl w8 Nope) (fun _ f => f.elim)) (fun f => f)).cell 4; have cb5 := (HB3.out.keep (HK8.out.trans (Keep.refl w8 Nope) (fun _ f => f.elim)) (fun f => f)).cell 5; have cb6 := (HB3.out.keep (HK8.out.trans (Keep.refl w8 Nope) (fun _ f => f.elim)) (fun f => f)).cell 6; have cb7 := (HB3.out.keep (HK8.out.trans (Keep.refl w8 Nope) (fun _ f => f.elim)) (fun f => f)).cell 7; simp at cb0 cb1 cb2 cb3 cb4 cb5 cb6 cb7
      have cu0 := (HBU0.out.keep (Keep.refl w8 Nope) (fun f => f)).cell 0; have cu1 := (HBU0.out.keep (Keep.refl w8 Nope) (fun f => f)).cell 1; have cu2 := (HBU0.out.keep (Keep.refl w8 Nope) (fun f => f)).cell 2; have cu3 := (HBU0.out.keep (Keep.refl w8 Nope) (fun f => f)).cell 3; have cu4 := (HBU0.out.keep (Keep.refl w8 Nope) (fun f => f)).cell 4; simp at cu0 cu1 cu2 cu3 cu4
      go_upto_region 12 with (go_at_call 17; first | (refine (HS0.out _ K8.out).mono ?_; rintro e wn ⟨rfl, hk⟩; have K8 := Lib.hid (K8.out.trans hk (fun _ f => f.elim)); clear hk HS0 cb0 cb1 cb2 cb3 cb4 cb5 cb6 cb7 cu0 cu1 cu2 cu3 cu4; have cb0 := (HB3.out.keep (HK8.out.trans K8.out (fun _ f => f.elim)) (fun f => f)).cell 0; have cb1 := (HB3.out.keep (HK8.out.trans K8.out (fun _ f => f.elim)) (fun f => f)).cell 1; have cb2 := (HB3.out.keep (HK8.out.trans K8.out (fun _ f => f.elim)) (fun f => f)).cell 2; have cb3 := (HB3.out.keep (HK8.out.trans K8.out (fun _ f => f.elim)) (fun f => f)).cell 3; have cb4 := (HB3.out.keep (HK8.out.trans K8.out (fun _ f => f.elim)) (fun f => f)).cell 4; have cb5 := (HB3.out.keep (HK8.out.trans K8.out (fun _ f => f.elim)) (fun f => f)).cell 5; have cb6 := (HB3.out.keep (HK8.out.trans K8.out (fun _ f => f.elim)) (fun f => f)).cell 6; have cb7 := (HB3.out.keep (HK8.out.trans K8.out (fun _ f => f.elim)) (fun f => f)).cell 7; simp at cb0 cb1 cb2 cb3 cb4 cb5 cb6 cb7; have cu0 := (HBU0.out.keep K8.out (fun f => f)).cell 0; have cu1 := (HBU0.out.keep K8.out (fun f => f)).cell 1; have cu2 := (HBU0.out.keep K8.out (fun f => f)).cell 2; have cu3 := (HBU0.out.keep K8.out (fun f => f)).cell 3; have cu4 := (HBU0.out.keep K8.out (fun f => f)).cell 4; simp at cu0 cu1 cu2 cu3 cu4) | (refine (HS1.out _ K8.out).mono ?_; rintro e wn ⟨rfl, hk⟩; have K8 := Lib.hid (K8.out.trans hk (fun _ f => f.elim)); clear hk HS1 cb0 cb1 cb2 cb3 cb4 cb5 cb6 cb7 cu0 cu1 cu2 cu3 cu4; have cb0 := (HB3.out.keep (HK8.out.trans K8.out (fun _ f => f.elim)) (fun f => f)).cell 0; have cb1 := (HB3.out.keep (HK8.out.trans K8.out (fun _ f => f.elim)) (fun f => f)).cell 1; have cb2 := (HB3.out.keep (HK8.out.trans K8.out (fun _ f => f.elim)) (fun f => f)).cell 2; have cb3 := (HB3.out.keep (HK8.out.trans K8.out (fun _ f => f.elim)) (fun f => f)).cell 3; have cb4 := (HB3.out.keep (HK8.out.trans K8.out (fun _ f => f.elim)) (fun f => f)).cell 4; have cb5 := (HB3.out.keep (HK8.out.trans K8.out (fun _ f => f.elim)) (fun f => f)).cell 5; have cb6 := (HB3.out.keep (HK8.out.trans K8.out (fun _ f => f.elim)) (fun f => f)).cell 6; have cb7 := (HB3.out.keep (HK8.out.trans K8.out (fun _ f => f.elim)) (fun f => f)).cell 7; simp at cb0 cb1 cb2 cb3 cb4 cb5 cb6 cb7; have cu0 := (HBU0.out.keep K8.out (fun f => f)).cell 0; have cu1 := (HBU0.out.keep K8.out (fun f => f)).cell 1; have cu2 := (HBU0.out.keep K8.out (fun f => f)).cell 2; have cu3 := (HBU0.out.keep K8.out (fun f => f)).cell 3; have cu4 := (HBU0.out.keep K8.out (fun f => f)).cell 4; simp at cu0 cu1 cu2 cu3 cu4) | (refine (HS2.out _ K8.out).mono ?_; rintro e wn ⟨rfl, hk⟩; have K8 := Lib.hid (K8.out.trans hk (fun _ f => f.elim)); clear hk HS2 cb0 cb1 cb2 cb3 cb4 cb5 cb6 cb7 cu0 cu1 cu2 cu3 cu4; have cb0 := (HB3.out.keep (HK8.out.trans K8.out (fun _ f => f.elim)) (fun f => f)).cell 0; have cb1 := (HB3.out.keep (HK8.out.trans K8.out (fun _ f => f.elim)) (fun f => f)).cell 1; have cb2 := (HB3.out.keep (HK8.out.trans K8.out (fun _ f => f.elim)) (fun f => f)).cell 2; have cb3 := (HB3.out.keep (HK8.out.trans K8.out (fun _ f => f.elim)) (fun f => f)).cell 3; have cb4 := (HB3.out.keep (HK8.out.trans K8.out (fun _ f => f.elim)) (fun f => f)).cell 4; have cb5 := (HB3.out.keep (HK8.out.trans K8.out (fun _ f => f.elim)) (fun f => f)).cell 5; have cb6 := (HB3.out.keep (HK8.out.trans K8.out (fun _ f => f.elim)) (fun f => f)).cell 6; have cb7 := (HB3.out.keep (HK8.out.trans K8.out (fun _ f => f.elim)) (fun f => f)).cell 7; simp at cb0 cb1 cb2 cb3 cb4 cb5 cb6 cb7; have cu0 := (HBU0.out.keep K8.out (fun f => f)).cell 0; have cu1 := (HBU0.out.keep K8.out (fun f => f)).cell 1; have cu2 := (HBU0.out.keep K8.out (fun f => f)).cell 2; have cu3 := (HBU0.out.keep K8.out (fun f => f)).cell 3; have cu4 := (HBU0.out.keep K8.out (fun f => f)).cell 4; simp at cu0 cu1 cu2 cu3 cu4) | (refine (HS3.out _ K8.out).mono ?_; rintro e wn ⟨rfl, hk⟩; have K8 := Lib.hid (K8.out.trans hk (fun _ f => f.elim)); clear hk HS3 cb0 cb1 cb2 cb3 cb4 cb5 cb6 cb7 cu0 cu1 cu2 cu3 cu4; have cb0 := (HB3.out.keep (HK8.out.trans K8.out (fun _ f => f.elim)) (fun f => f)).cell 0; have cb1 := (HB3.out.keep (HK8.out.trans K8.out (fun _ f => f.elim)) (fun f => f)).cell 1; have cb2 := (HB3.out.keep (HK8.out.trans K8.out (fun _ f => f.elim)) (fun f => f)).cell 2; have cb3 := (HB3.out.keep (HK8.out.trans K8.out (fun _ f => f.elim)) (fun f => f)).cell 3; have cb4 := (HB3.out.keep (HK8.out.trans K8.out (fun _ f => f.elim)) (fun f => f)).cell 4; have cb5 := (HB3.out.keep (HK8.out.trans K8.out (fun _ f => f.elim)) (fun f => f)).cell 5; have cb6 := (HB3.out.keep (HK8.out.trans K8.out (fun _ f => f.elim)) (fun f => f)).cell 6; have cb7 := (HB3.out.keep (HK8.out.trans K8.out (fun _ f => f.elim)) (fun f => f)).cell 7; simp at cb0 cb1 cb2 cb3 cb4 cb5 cb6 cb7; have cu0 := (HBU0.out.keep K8.out (fun f => f)).cell 0; have cu1 := (HBU0.out.keep K8.out (fun f => f)).cell 1; have cu2 := (HBU0.out.keep K8.out (fun f => f)).cell 2; have cu3 := (HBU0.out.keep K8.out (fun f => f)).cell 3; have cu4 := (HBU0.out.keep K8.out (fun f => f)).cell 4; simp at cu0 cu1 cu2 cu3 cu4))
      have KK := Lib.hid (HK8.out.trans K8.out (fun _ f => f.elim))
      clear cb0 cb1 cb2 cb3 cb4 cb5 cb6 cb7 cu0 cu1 cu2 cu3 cu4 HBU0 HK8 K8
      have ca0 := (HB0.out.keep KK.out (fun f => f)).cell 0; have ca1 := (HB0.out.keep KK.out (fun f => f)).cell 1; have ca2 := (HB0.out.keep KK.out (fun f => f)).cell 2; have ca3 := (HB0.out.keep KK.out (fun f => f)).cell 3; simp at ca0 ca1 ca2 ca3; have cb0 := (HB3.out.keep KK.out (fun f => f)).cell 0; have cb1 := (HB3.out.keep KK.out (fun f => f)).cell 1; have cb2 := (HB3.out.keep KK.out (fun f => f)).cell 2; have cb3 := (HB3.out.keep KK.out (fun f => f)).cell 3; have cb4 := (HB3.out.keep KK.out (fun f => f)).cell 4; have cb5 := (HB3.out.keep KK.out (fun f => f)).cell 5; have cb6 := (HB3.out.keep KK.out (fun f => f)).cell 6; have cb7 := (HB3.out.keep KK.out (fun f => f)).cell 7; simp at cb0 cb1 cb2 cb3 cb4 cb5 cb6 cb7; have cx0 := (HB2.out.keep KK.out (fun f => f)).cell 0; have cx1 := (HB2.out.keep KK.out (fun f => f)).cell 1; have cx2 := (HB2.out.keep KK.out (fun f => f)).cell 2; have cx3 := (HB2.out.keep KK.out (fun f => f)).cell 3; have cx4 := (HB2.out.keep KK.out (fun f => f)).cell 4; have cx5 := (HB2.out.keep KK.out (fun f => f)).cell 5; have cx6 := (HB2.out.keep KK.out (fun f => f)).cell 6; have cx7 := (HB2.out.keep KK.out (fun f => f)).cell 7; have cx8 := (HB2.out.keep KK.out (fun f => f)).cell 8; have cx9 := (HB2.out.keep KK.out (fun f => f)).cell 9; have cx10 := (HB2.out.keep KK.out (fun f => f)).cell 10; have cx11 := (HB2.out.keep KK.out (fun f => f)).cell 11; simp at cx0 cx1 cx2 cx3 cx4 cx5 cx6 cx7 cx8 cx9 cx10 cx11
      go_wp2_with (first | (go_at_call 30; refine (HMS.out _ KK.out).mono ?_; rintro e wm ⟨rfl, hk⟩; have KK := Lib.hid (KK.out.trans hk (fun _ f => f.elim)); clear hk ca0 ca1 ca2 ca3 cb0 cb1 cb2 cb3 cb4 cb5 cb6 cb7 cx0 cx1 cx2 cx3 cx4 cx5 cx6 cx7 cx8 cx9 cx10 cx11; have ca0 := (HB0.out.keep KK.out (fun f => f)).cell 0; have ca1 := (HB0.out.keep KK.out (fun f => f)).cell 1; have ca2 := (HB0.out.keep KK.out (fun f => f)).cell 2; have ca3 := (HB0.out.keep KK.out (fun f => f)).cell 3; simp at ca0 ca1 ca2 ca3; have cb0 := (HB3.out.keep KK.out (fun f => f)).cell 0; have cb1 := (HB3.out.keep KK.out (fun f => f)).cell 1; have cb2 := (HB3.out.keep KK.out (fun f => f)).cell 2; have cb3 := (HB3.out.keep KK.out (fun f => f)).cell 3; have cb4 := (HB3.out.keep KK.out (fun f => f)).cell 4; have cb5 := (HB3.out.keep KK.out (fun f => f)).cell 5; have cb6 := (HB3.out.keep KK.out (fun f => f)).cell 6; have cb7 := (HB3.out.keep KK.out (fun f => f)).cell 7; simp at cb0 cb1 cb2 cb3 cb4 cb5 cb6 cb7; have cx0 := (HB2.out.keep KK.out (fun f => f)).cell 0; have cx1 := (HB2.out.keep KK.out (fun f => f)).cell 1; have cx2 := (HB2.out.keep KK.out (fun f => f)).cell 2; have cx3 := (HB2.out.keep KK.out (fun f => f)).cell 3; have cx4 := (HB2.out.keep KK.out (fun f => f)).cell 4; have cx5 := (HB2.out.keep KK.out (fun f => f)).cell 5; have cx6 := (HB2.out.keep KK.out (fun f => f)).cell 6; have cx7 := (HB2.out.keep KK.out (fun f => f)).cell 7; have cx8 := (HB2.out.keep KK.out (fun f => f)).cell 8; have cx9 := (HB2.out.keep KK.out (fun f => f)).cell 9; have cx10 := (HB2.out.keep KK.out (fun f => f)).cell 10; have cx11 := (HB2.out.keep KK.out (fun f => f)).cell 11; simp at cx0 cx1 cx2 cx3 cx4 cx5 cx6 cx7 cx8 cx9 cx10 cx11) | (go_at_call 31; first | (refine (HO1.out _ KK.out).mono ?_; rintro e wm ⟨rfl, hk⟩; clear HO1; have KK := Lib.hid (KK.out.trans hk (fun _ f => f.elim)); clear hk ca0 ca1 ca2 ca3 cb0 cb1 cb2 cb3 cb4 cb5 cb6 cb7 cx0 cx1 cx2 cx3 cx4 cx5 cx6 cx7 cx8 cx9 cx10 cx11; have ca0 := (HB0.out.keep KK.out (fun f => f)).cell 0; have ca1 := (HB0.out.keep KK.out (fun f => f)).cell 1; have ca2 := (HB0.out.keep KK.out (fun f => f)).cell 2; have ca3 := (HB0.out.keep KK.out (fun f => f)).cell 3; simp at ca0 ca1 ca2 ca3; have cb0 := (HB3.out.keep KK.out (fun f => f)).cell 0; have cb1 := (HB3.out.keep KK.out (fun f => f)).cell 1; have cb2 := (HB3.out.keep KK.out (fun f => f)).cell 2; have cb3 := (HB3.out.keep KK.out (fun f => f)).cell 3; have cb4 := (HB3.out.keep KK.out (fun f => f)).cell 4; have cb5 := (HB3.out.keep KK.out (fun f => f)).cell 5; have cb6 := (HB3.out.keep KK.out (fun f => f)).cell 6; have cb7 := (HB3.out.keep KK.out (fun f => f)).cell 7; simp at cb0 cb1 cb2 cb3 cb4 cb5 cb6 cb7; have cx0 := (HB2.out.keep KK.out (fun f => f)).cell 0; have cx1 := (HB2.out.keep KK.out (fun f => f)).cell 1; have cx2 := (HB2.out.keep KK.out (fun f => f)).cell 2; have cx3 := (HB2.out.keep KK.out (fun f => f)).cell 3; have cx4 := (HB2.out.keep KK.out (fun f => f)).cell 4; have cx5 := (HB2.out.keep KK.out (fun f => f)).cell 5; have cx6 := (HB2.out.keep KK.out (fun f => f)).cell 6; have cx7 := (HB2.out.keep KK.out (fun f => f)).cell 7; have cx8 := (HB2.out.keep KK.out (fun f => f)).cell 8; have cx9 := (HB2.out.keep KK.out (fun f => f)).cell 9; have cx10 := (HB2.out.keep KK.out (fun f => f)).cell 10; have cx11 := (HB2.out.keep KK.out (fun f => f)).cell 11; simp at cx0 cx1 cx2 cx3 cx4 cx5 cx6 cx7 cx8 cx9 cx10 cx11) | (refine (HO2.out _ KK.out).mono ?_; rintro e wm ⟨rfl, hk⟩; clear HO2; have KK := Lib.hid (KK.out.trans hk (fun _ f => f.elim)); clear hk ca0 ca1 ca2 ca3 cb0 cb1 cb2 cb3 cb4 cb5 cb6 cb7 cx0 cx1 cx2 cx3 cx4 cx5 cx6 cx7 cx8 cx9 cx10 cx11; have ca0 := (HB0.out.keep KK.out (fun f => f)).cell 0; have ca1 := (HB0.out.keep KK.out (fun f => f)).cell 1; have ca2 := (HB0.out.keep KK.out (fun f => f)).cell 2; have ca3 := (HB0.out.keep KK.out (fun f => f)).cell 3; simp at ca0 ca1 ca2 ca3; have cb0 := (HB3.out.keep KK.out (fun f => f)).cell 0; have cb1 := (HB3.out.keep KK.out (fun f => f)).cell 1; have cb2 := (HB3.out.keep KK.out (fun f => f)).cell 2; have cb3 := (HB3.out.keep KK.out (fun f => f)).cell 3; have cb4 := (HB3.out.keep KK.out (fun f => f)).cell 4; have cb5 := (HB3.out.keep KK.out (fun f => f)).cell 5; have cb6 := (HB3.out.keep KK.out (fun f => f)).cell 6; have cb7 := (HB3.out.keep KK.out (fun f => f)).cell 7; simp at cb0 cb1 cb2 cb3 cb4 cb5 cb6 cb7; have cx0 := (HB2.out.keep KK.out (fun f => f)).cell 0; have cx1 := (HB2.out.keep KK.out (fun f => f)).cell 1; have cx2 := (HB2.out.keep KK.out (fun f => f)).cell 2; have cx3 := (HB2.out.keep KK.out (fun f => f)).cell 3; have cx4 := (HB2.out.keep KK.out (fun f => f)).cell 4; have cx5 := (HB2.out.keep KK.out (fun f => f)).cell 5; have cx6 := (HB2.out.keep KK.out (fun f => f)).cell 6; have cx7 := (HB2.out.keep KK.out (fun f => f)).cell 7; have cx8 := (HB2.out.keep KK.out (fun f => f)).cell 8; have cx9 := (HB2.out.keep KK.out (fun f => f)).cell 9; have cx10 := (HB2.out.keep KK.out (fun f => f)).cell 10; have cx11 := (HB2.out.keep KK.out (fun f => f)).cell 11; simp at cx0 cx1 cx2 cx3 cx4 cx5 cx6 cx7 cx8 cx9 cx10 cx11)) | (go_at_call 26; refine (HMK.out _ KK.out).mono ?_; rintro e wk ⟨⟨⟨⟨ra2, rc2, rl2⟩, ⟨wa2, wcp2, wl2⟩, ⟨rra2, rrc2, rrl2⟩, ⟨rwa2, rwc2, rwl2⟩, al2, ⟨pla2, pln2, plc2⟩, ⟨cda2, cdn2, cdc2⟩, ⟨afa2, afc2, afl2⟩⟩, pll2, cdl2⟩, rfl, hlo2, hrd2, hk⟩; simp only [SysX.val, RowV.v, SlV.v]; have HL2 := Lib.hid hlo2; have hszq := KK.out.size; have HR2 := Lib.hid (SysRd.monoC hrd2 (T := fun z => z ≠ g3) (fun z hz e => hz.elim (fun h => by have := hS z h; have := HG3.out.1; omega) (fun h => by have := HGS.out; omega))); clear hszq; have KK := Lib.hid (KK.out.trans hk (fun _ f => f.elim)); have HB32 := Lib.hid (HB3.out.keep KK.out (fun f => f)); clear hlo2 hrd2 hk HMK ca0 ca1 ca2 ca3 cb0 cb1 cb2 cb3 cb4 cb5 cb6 cb7 cx0 cx1 cx2 cx3 cx4 cx5 cx6 cx7 cx8 cx9 cx10 cx11) | (refine wpList_store_row rfl 35 _ _ rfl g3 #[.slice ra2 rl2.length rc2, .slice wa2 wl2.length wcp2, .slice rra2 rrl2.length rrc2, .slice rwa2 rwl2.length rwc2, .bool al2, .slice pla2 pln2 plc2, .slice cda2 cdn2 cdc2, .slice afa2 afl2.length afc2] rfl rfl 35 _ HB32.out (by kernel_rfl) rfl (by kernel_rfl) ?_))
      go_roundg (2 - (k + 1))
      case measure => have := HG.out; omega
      case rel =>
        have hks := (Keep.refl wk (fun z => z = g3)).setRow (.inl rfl) #[.slice ra2 rl2.length rc2, .slice wa2 wl2.length wcp2, .slice rra2 rrl2.length rrc2, .slice rwa2 rwl2.length rwc2, .bool al2, .slice pla2 pln2 plc2, .slice cda2 cdn2 cdc2, .slice afa2 afl2.length afc2]
        exact ⟨k + 1, ⟨⟨⟨ra2, rc2, rl2⟩, ⟨wa2, wcp2, wl2⟩, ⟨rra2, rrc2, rrl2⟩, ⟨rwa2, rwc2, rwl2⟩, al2, ⟨pla2, pln2, plc2⟩, ⟨cda2, cdn2, cdc2⟩, ⟨afa2, afc2, afl2⟩⟩, pll2, cdl2⟩, by have := HG.out; omega, by go_num, HL2.out, HR2.out.keepC hks (fun z hz e => hz e), setRow_heap _ _ _ _ _ _ HB32.out, (HB0.out.keep KK.out (fun f => f)).keep hks (fun e => by have := HG3.out.2.1; omega), (HB2.out.keep KK.out (fun f => f)).keep hks (fun e => by have := HG3.out.2.2; omega), (HKP.out.trans KK.out (fun _ f => f.elim)).trans hks (fun z e => .inr (by have := HG3.out.1; omega))⟩
    · obtain rfl : k = 2 := by have := HG.out; omega
      go_wp2_with (go_at_call 24; refine (awake21 _).mono ?_; rintro e w9 ⟨rfl, hk9⟩; have HK9 := Lib.hid hk9; clear hk9)
      go_ret
      exact ⟨rfl, HKP.out.trans HK9.out (fun _ f => f.elim)⟩
end Go.Proofs.Ytbigknmeooaidaa
