/-
  The law of stages: what the document fixes.
-/
import Derived.Test.YtbigknmeooaidaaStg3
namespace Go.Proofs.Ytbigknmeooaidaa
open Go Go.RowKit
set_option linter.unusedVariables false
set_option linter.unusedSimpArgs false

def nilR : RowV := ⟨none, 0, []⟩
def nilX : SysX := ⟨nilR, nilR, nilR, nilR, false, nilV, nilV, nilR⟩
theorem rd_nilR (S : Nat → Prop) (w : World) : Rd S w nilR.v nilR.l.length (ints nilR.l) := rd_nil S w
theorem rdx_lit (w : World) (S : Nat → Prop) (l : List SysX) (n : Nat) (hn : l.length = n) (hm : n ≤ maxLen) (cs : Array Value) (hcs : cs = (l.flatMap SysX.cells).toArray)
    (h : ∀ x, x ∈ l → UseRd S w x ∧ Rd S w x.af.v x.af.l.length (ints x.af.l)) :
    RdSysX (fun i => S i ∨ i = w.heap.size) (w.alloc (.cells cs 35)) (.slice (some ⟨w.heap.size, 0, none⟩) n n) l := by
  have hfl : ∀ l : List SysX, (l.map SysX.toV).flatMap SysV.cells = l.flatMap SysX.cells := by
    intro l
    induction l with
    | nil => rfl
    | cons x t ih => rw [List.map_cons, List.flatMap_cons, List.flatMap_cons, ih]; rfl
  have hk := (Keep.refl w Nope).alloc (.cells cs 35)
  refine ⟨rdsys_lit w S (l.map SysX.toV) n (by simpa using hn) hm cs (by rw [hfl]; exact hcs) (fun y hy => ?_), fun x hx => ?_⟩
  · obtain ⟨x, hx, rfl⟩ := List.mem_map.1 hy
    exact ⟨rfl, (h x hx).2⟩
  · have u := (h x hx).1.keep0 hk
    exact ⟨u.r.mono (fun i hi => .inl hi), u.w'.mono (fun i hi => .inl hi), u.rr.mono (fun i hi => .inl hi), u.rw'.mono (fun i hi => .inl hi)⟩

set_option maxRecDepth 3000 in
set_option maxHeartbeats 2000000 in
theorem awake23 (w : World) : Calls Try.prog 15 #[] w (fun e w' => e = .returned (.bool true) ∧ Keep w w' Nope) := by
  obtain ⟨w1, hw1⟩ : ∃ w1, w1 = (((w.alloc (.cells #[.int .i64 0] 3)).alloc (.cells #[.slice none 0 0, .slice (some ⟨w.heap.size, 0, none⟩) 1 1, .slice none 0 0, .slice none 0 0, .bool false, .slice none 0 0, .slice none 0 0, .slice none 0 0] 35)).alloc (.cells #[.int .i64 1] 3)).alloc (.cells #[.slice (some ⟨w.heap.size + 1 + 1, 0, none⟩) 1 1, .slice none 0 0, .slice none 0 0, .slice none 0 0, .bool false, .slice none 0 0, .slice none 0 0, .slice none 0 0] 35) := ⟨_, rfl⟩
  have hsz : w1.heap.size = w.heap.size + 4 := by rw [hw1]; simp only [World.size_alloc]
  have hA : Rd (fun i => i < w1.heap.size) w1 (.slice (some ⟨w.heap.size, 0, none⟩) 1 1) 1 (ints [0]) := by
    refine Rd.mono ?_ (T := fun i => i < w1.heap.size) (S := fun i => i = w.heap.size) (fun i hi => by omega)
    rw [hw1]
    exact (((rd_one w 0).alloc _).alloc _).alloc _
  have hB : Rd (fun i => i < w1.heap.size) w1 (.slice (some ⟨w.heap.size + 1 + 1, 0, none⟩) 1 1) 1 (ints [1]) := by
    have := (rd_one ((w.alloc (.cells #[.int .i64 0] 3)).alloc (.cells #[.slice none 0 0, .slice (some ⟨w.heap.size, 0, none⟩) 1 1, .slice none 0 0, .slice none 0 0, .bool false, .slice none 0 0, .slice none 0 0, .slice none 0 0] 35)) 1)
    simp only [World.size_alloc] at this
    refine Rd.mono ?_ (T := fun i => i < w1.heap.size) (S := fun i => i = w.heap.size + 1 + 1) (fun i hi => by omega)
    rw [hw1]
    exact this.alloc _
  have hka : Keep w w1 Nope := by rw [hw1]; exact ((((Keep.refl w Nope).alloc _).alloc _).alloc _).alloc _
  have hba : Blk w1 (w.heap.size + 1) #[.slice none 0 0, .slice (some ⟨w.heap.size, 0, none⟩) 1 1, .slice none 0 0, .slice none 0 0, .bool false, .slice none 0 0, .slice none 0 0, .slice none 0 0] 35 := by
    rw [hw1, ← World.size_alloc w]
    exact (Blk.new _ _ _).keep (((Keep.refl _ Nope).alloc _).alloc _) (fun f => f)
  have hbb : Blk w1 (w.heap.size + 1 + 1 + 1) #[.slice (some ⟨w.heap.size + 1 + 1, 0, none⟩) 1 1, .slice none 0 0, .slice none 0 0, .slice none 0 0, .bool false, .slice none 0 0, .slice none 0 0, .slice none 0 0] 35 := by
    have := Blk.new (((w.alloc (.cells #[.int .i64 0] 3)).alloc (.cells #[.slice none 0 0, .slice (some ⟨w.heap.size, 0, none⟩) 1 1, .slice none 0 0, .slice none 0 0, .bool false, .slice none 0 0, .slice none 0 0, .slice none 0 0] 35)).alloc (.cells #[.int .i64 1] 3)) #[.slice (some ⟨w.heap.size + 1 + 1, 0, none⟩) 1 1, .slice none 0 0, .slice none 0 0, .slice none 0 0, .bool false, .slice none 0 0, .slice none 0 0, .slice none 0 0] 35
    rw [← hw1] at this
    simpa only [World.size_alloc] using this
  have HW1 := Lib.hid hw1
  have HKA := Lib.hid hka
  have hx := rdx_lit w1 (fun i => i < w1.heap.size) [⟨nilR, ⟨some ⟨w.heap.size, 0, none⟩, 1, [0]⟩, nilR, nilR, false, nilV, nilV, nilR⟩, ⟨⟨some ⟨w.heap.size + 1 + 1, 0, none⟩, 1, [1]⟩, nilR, nilR, nilR, false, nilV, nilV, nilR⟩, ⟨nilR, ⟨some ⟨w.heap.size, 0, none⟩, 1, [0]⟩, nilR, nilR, false, nilV, nilV, nilR⟩] 3 rfl (by decide) _ rfl (by
    intro x hx
    simp at hx
    rcases hx with rfl | rfl | rfl
    · exact ⟨⟨rd_nilR _ _, hA, rd_nilR _ _, rd_nilR _ _⟩, rd_nilR _ _⟩
    · exact ⟨⟨hB, rd_nilR _ _, rd_nilR _ _, rd_nilR _ _⟩, rd_nilR _ _⟩
    · exact ⟨⟨rd_nilR _ _, hA, rd_nilR _ _, rd_nilR _ _⟩, rd_nilR _ _⟩)
  have hOf := stage_of _ _ _ _ hx (by
    intro i hi
    rw [World.size_alloc]
    rcases hi with hi | hi <;> omega)
  have e1 : aftX [⟨nilR, ⟨some ⟨w.heap.size, 0, none⟩, 1, [0]⟩, nilR, nilR, false, nilV, nilV, nilR⟩, ⟨⟨some ⟨w.heap.size + 1 + 1, 0, none⟩, 1, [1]⟩, nilR, nilR, nilR, false, nilV, nilV, nilR⟩, ⟨nilR, ⟨some ⟨w.heap.size, 0, none⟩, 1, [0]⟩, nilR, nilR, false, nilV, nilV, nilR⟩] = [[], [], []] := rfl
  rw [e1, show ord [[], [], []] = [0, 1, 2] by decide] at hOf
  unfold RetOf at hOf
  rw [show chk [[], [], []] = 0 by decide, if_pos rfl] at hOf
  have e2 : stg (depX [⟨nilR, ⟨some ⟨w.heap.size, 0, none⟩, 1, [0]⟩, nilR, nilR, false, nilV, nilV, nilR⟩, ⟨⟨some ⟨w.heap.size + 1 + 1, 0, none⟩, 1, [1]⟩, nilR, nilR, nilR, false, nilV, nilV, nilR⟩, ⟨nilR, ⟨some ⟨w.heap.size, 0, none⟩, 1, [0]⟩, nilR, nilR, false, nilV, nilV, nilR⟩]) [0, 1, 2] 3 = [0, 0, 1] := rfl
  have e3 : [(⟨nilR, ⟨some ⟨w.heap.size, 0, none⟩, 1, [0]⟩, nilR, nilR, false, nilV, nilV, nilR⟩ : SysX), ⟨⟨some ⟨w.heap.size + 1 + 1, 0, none⟩, 1, [1]⟩, nilR, nilR, nilR, false, nilV, nilV, nilR⟩, ⟨nilR, ⟨some ⟨w.heap.size, 0, none⟩, 1, [0]⟩, nilR, nilR, false, nilV, nilV, nilR⟩].length = 3 := rfl
  rw [e3, e2] at hOf
  have HOf := Lib.hid hOf
  have a0 := hba.cell 0
  have a1 := hba.cell 1
  have a2 := hba.cell 2
  have a3 := hba.cell 3
  have a4 := hba.cell 4
  have a5 := hba.cell 5
  have a6 := hba.cell 6
  have a7 := hba.cell 7
  have b0 := hbb.cell 0
  have b1 := hbb.cell 1
  have b2 := hbb.cell 2
  have b3 := hbb.cell 3
  have b4 := hbb.cell 4
  have b5 := hbb.cell 5
  have b6 := hbb.cell 6
  have b7 := hbb.cell 7
  simp at a0 a1 a2 a3 a4 a5 a6 a7 b0 b1 b2 b3 b4 b5 b6 b7
  clear hw1 hA hB hka hx hOf e1 e2 e3 hba hbb hsz
  go_enter Try.func15, Try.ntmps15
  go_upto_region 3 with (fail)
  rw [← HW1.out]
  clear HW1
  go_wp2_with fail
  refine HOf.out.mono ?_
  rintro e w2 ⟨ao, no, co, rfl, hk, ho⟩
  have hno : no = 3 := by have := ho.len; simp [nats, ints] at this; omega
  subst hno
  have HO := Lib.hid ho.rd
  have HK2 := Lib.hid (HKA.out.trans (((Keep.refl w1 Nope).alloc _).trans hk (fun _ f => f.elim)) (fun _ f => f.elim))
  clear ho hk HOf HKA a0 a1 a2 a3 a4 a5 a6 a7 b0 b1 b2 b3 b4 b5 b6 b7
  have hr2 : Rd (fun i => i < w2.heap.size + 4) (w2.alloc (.cells #[.int .i64 0, .int .i64 1] 3)) (.slice (some ⟨w2.heap.size, 0, none⟩) 2 2) 2 (ints [0, 1]) :=
    ((Own.lit (S := fun i => i = w2.heap.size) w2 3 1 2 #[.int .i64 0, .int .i64 1] (by decide) rfl rfl).rd).mono (fun i hi => by omega)
  have hr3 : Rd (fun i => i < w2.heap.size + 4) ((w2.alloc (.cells #[.int .i64 0, .int .i64 1] 3)).alloc (.cells #[.int .i64 2] 3)) (.slice (some ⟨w2.heap.size + 1, 0, none⟩) 1 1) 1 (ints [2]) := by
    have := rd_one (w2.alloc (.cells #[.int .i64 0, .int .i64 1] 3)) 2
    simp only [World.size_alloc] at this
    exact this.mono (fun i hi => by omega)
  have hrows := rows_lit (S := fun i => i < w2.heap.size + 4) (w := (w2.alloc (.cells #[.int .i64 0, .int .i64 1] 3)).alloc (.cells #[.int .i64 2] 3)) [⟨some ⟨w2.heap.size, 0, none⟩, 2, [0, 1]⟩, ⟨some ⟨w2.heap.size + 1, 0, none⟩, 1, [2]⟩] 2 rfl (by decide) (by
    intro r hr
    simp at hr
    rcases hr with rfl | rfl
    · exact hr2.alloc _
    · exact hr3) _ rfl
  simp only [World.size_alloc] at hrows
  have hpk := rd_one (((w2.alloc (.cells #[.int .i64 0, .int .i64 1] 3)).alloc (.cells #[.int .i64 2] 3)).alloc (.cells #[.slice (some ⟨w2.heap.size, 0, none⟩) 2 2, .slice (some ⟨w2.heap.size + 1, 0, none⟩) 1 1] 23)) 1
  simp only [World.size_alloc] at hpk
  have hP := stage_pick _ _ _ [1] _ _ _ (hrows.keep0 ((Keep.refl _ Nope).alloc (.cells #[.int .i64 1] 3))) hpk (by intro r hr; simp at hr; rcases hr with rfl | rfl <;> simp) (by simp)
  rw [show pkAll (List.map RowV.l [⟨some ⟨w2.heap.size, 0, none⟩, 2, [0, 1]⟩, ⟨some ⟨w2.heap.size + 1, 0, none⟩, 1, [2]⟩]) [1] [] = [1, 0, 2] from (by decide : pkAll [[0, 1], [2]] [1] [] = [1, 0, 2])] at hP
  have HPK := Lib.hid hP
  clear hr2 hr3 hrows hpk hP
  go_wp2_with fail
  refine HPK.out.mono ?_
  rintro e w3 ⟨ap, np, cp, rfl, ho, hk⟩
  have hnp : np = 3 := by have := ho.len; simp [ints] at this; omega
  subst hnp
  have HP := Lib.hid ho.rd
  have hk3 : Keep w2 w3 Nope := (((((Keep.refl w2 Nope).alloc _).alloc _).alloc _).alloc _).trans hk (fun _ f => f.elim)
  have HK3 := Lib.hid (HK2.out.trans hk3 (fun _ f => f.elim))
  have HO3 := Lib.hid (HO.out.keep hk3 (fun _ _ f => f))
  clear ho hk hk3 HO HK2 HPK
  go_wp2_with fail
  refine (same_ints _ _ (nats [0, 0, 1]) _ _ (fun i => i = w3.heap.size) (HO3.out.alloc _) ?s2).mono ?_
  case s2 => exact (Own.lit (S := fun i => i = w3.heap.size) w3 3 1 3 #[.int .i64 0, .int .i64 0, .int .i64 1] (by decide) rfl rfl).rd
  rintro e w4 ⟨rfl, hk⟩
  have hk4 : Keep w3 w4 Nope := ((Keep.refl w3 Nope).alloc _).trans hk (fun _ f => f.elim)
  have HK4 := Lib.hid (HK3.out.trans hk4 (fun _ f => f.elim))
  have HP4 := Lib.hid (HP.out.keep hk4 (fun _ _ f => f))
  clear hk hk4 HK3 HP HO3
  go_wp2_with fail
  refine (same_ints _ _ [1, 0, 2] _ _ (fun i => i = w4.heap.size) (HP4.out.alloc _) ?s3).mono ?_
  case s3 => exact (Own.lit (S := fun i => i = w4.heap.size) w4 3 1 3 #[.int .i64 1, .int .i64 0, .int .i64 2] (by decide) rfl rfl).rd
  rintro e w5 ⟨rfl, hk⟩
  have HK5 := Lib.hid (HK4.out.trans (((Keep.refl w4 Nope).alloc _).trans hk (fun _ f => f.elim)) (fun _ f => f.elim))
  clear hk HK4 HP4
  go_wp2_with fail
  go_ret
  exact ⟨rfl, HK5.out⟩
end Go.Proofs.Ytbigknmeooaidaa
