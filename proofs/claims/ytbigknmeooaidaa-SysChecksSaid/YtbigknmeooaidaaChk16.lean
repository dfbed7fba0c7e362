/-
  What the document fixes of systems is so.
-/
import Derived.Test.YtbigknmeooaidaaChk15
import Derived.Test.YtbigknmeooaidaaStg4
namespace Go.Proofs.Ytbigknmeooaidaa
open Go Go.RowKit
set_option linter.unusedVariables false
set_option linter.unusedSimpArgs false

/-- A block of the call's own, read as a row. -/
theorem rd_blk {w : World} {b : Nat} {cs : Array Value} {t : TypeId} (h : Blk w b cs t) (n : Nat) (hn : n ≤ maxLen) (xs : List Value) (hx : cs.toList = xs) : Rd (fun _ => True) w (.slice (some ⟨b, 0, none⟩) n n) n xs := by
  refine ⟨_, n, rfl, Nat.le_refl _, hn, (fun hh => by cases hh), fun j u hu => ⟨b, 0, rfl, trivial, ?_⟩⟩
  rw [Nat.zero_add, h.cell j, ← Array.getElem?_toList, hx]
  exact hu
theorem Rd.all {S : Nat → Prop} {w : World} {v : Value} {n : Nat} {xs : List Value} (h : Rd S w v n xs) : Rd (fun _ => True) w v n xs := h.mono (fun _ _ => trivial)
set_option maxRecDepth 3000 in
set_option maxHeartbeats 2000000 in
theorem awake21 (w : World) : Calls Try.prog 24 #[] w (fun e w' => e = .returned (.bool true) ∧ Keep w w' Nope) := by
  obtain ⟨g, hg⟩ : ∃ g, g = w.heap.size := ⟨_, rfl⟩
  obtain ⟨w1, hw1⟩ : ∃ w1, w1 = ((((((w.alloc (.cells #[.int .i64 1, .int .i64 1, .int .i64 0] 58)).alloc (.cells #[.int .i64 0, .int .i64 0, .slice (some ⟨w.heap.size, 0, none⟩) 1 1, .slice none 0 0] 56)).alloc (.cells #[.int .i64 0] 3)).alloc (.cells #[.int .i64 2, .int .i64 0] 82)).alloc (.cells #[.slice none 0 0, .slice (some ⟨w.heap.size + 1 + 1, 0, none⟩) 1 1, .slice none 0 0, .slice none 0 0, .bool false, .slice (some ⟨w.heap.size + 1 + 1 + 1, 0, none⟩) 1 1, .slice none 0 0, .slice none 0 0] 35)).alloc (.cells #[.slice none 0 0, .slice none 0 0, .slice none 0 0, .slice none 0 0, .bool false, .slice (some ⟨w.heap.size + 1 + 1 + 1, 0, none⟩) 1 1, .slice none 0 0, .slice none 0 0] 35)) := ⟨_, rfl⟩
  have hb0 : Blk w1 (w.heap.size) #[.int .i64 1, .int .i64 1, .int .i64 0] 58 := by
    have := Blk.new w #[.int .i64 1, .int .i64 1, .int .i64 0] 58
    rw [hw1]
    exact this.keep ((((((Keep.refl _ Nope).alloc _).alloc _).alloc _).alloc _).alloc _) (fun f => f)
  have hb1 : Blk w1 (w.heap.size + 1) #[.int .i64 0, .int .i64 0, .slice (some ⟨w.heap.size, 0, none⟩) 1 1, .slice none 0 0] 56 := by
    have := Blk.new (w.alloc (.cells #[.int .i64 1, .int .i64 1, .int .i64 0] 58)) #[.int .i64 0, .int .i64 0, .slice (some ⟨w.heap.size, 0, none⟩) 1 1, .slice none 0 0] 56
    simp only [World.size_alloc] at this
    rw [hw1]
    exact this.keep (((((Keep.refl _ Nope).alloc _).alloc _).alloc _).alloc _) (fun f => f)
  have hb2 : Blk w1 (w.heap.size + 1 + 1) #[.int .i64 0] 3 := by
    have := Blk.new ((w.alloc (.cells #[.int .i64 1, .int .i64 1, .int .i64 0] 58)).alloc (.cells #[.int .i64 0, .int .i64 0, .slice (some ⟨w.heap.size, 0, none⟩) 1 1, .slice none 0 0] 56)) #[.int .i64 0] 3
    simp only [World.size_alloc] at this
    rw [hw1]
    exact this.keep ((((Keep.refl _ Nope).alloc _).alloc _).alloc _) (fun f => f)
  have hb3 : Blk w1 (w.heap.size + 1 + 1 + 1) #[.int .i64 2, .int .i64 0] 82 := by
    have := Blk.new (((w.alloc (.cells #[.int .i64 1, .int .i64 1, .int .i64 0] 58)).alloc (.cells #[.int .i64 0, .int .i64 0, .slice (some ⟨w.heap.size, 0, none⟩) 1 1, .slice none 0 0] 56)).alloc (.cells #[.int .i64 0] 3)) #[.int .i64 2, .int .i64 0] 82
    simp only [World.size_alloc] at this
    rw [hw1]
    exact this.keep (((Keep.refl _ Nope).alloc _).alloc _) (fun f => f)
  have hb4 : Blk w1 (w.heap.size + 1 + 1 + 1 + 1) #[.slice none 0 0, .slice (some ⟨w.heap.size + 1 + 1, 0, none⟩) 1 1, .slice none 0 0, .slice none 0 0, .bool false, .slice (some ⟨w.heap.size + 1 + 1 + 1, 0, none⟩) 1 1, .slice none 0 0, .slice none 0 0] 35 := by
    have := Blk.new ((((w.alloc (.cells #[.int .i64 1, .int .i64 1, .int .i64 0] 58)).alloc (.cells #[.int .i64 0, .int .i64 0, .slice (some ⟨w.heap.size, 0, none⟩) 1 1, .slice none 0 0] 56)).alloc (.cells #[.int .i64 0] 3)).alloc (.cells #[.int .i64 2, .int .i64 0] 82)) #[.slice none 0 0, .slice (some ⟨w.heap.size + 1 + 1, 0, none⟩) 1 1, .slice none 0 0, .slice none 0 0, .bool false, .slice (some ⟨w.heap.size + 1 + 1 + 1, 0, none⟩) 1 1, .slice none 0 0, .slice none 0 0] 35
    simp only [World.size_alloc] at this
    rw [hw1]
    exact this.keep ((Keep.refl _ Nope).alloc _) (fun f => f)
  have hb5 : Blk w1 (w.heap.size + 1 + 1 + 1 + 1 + 1) #[.slice none 0 0, .slice none 0 0, .slice none 0 0, .slice none 0 0, .bool false, .slice (some ⟨w.heap.size + 1 + 1 + 1, 0, none⟩) 1 1, .slice none 0 0, .slice none 0 0] 35 := by
    have := Blk.new (((((w.alloc (.cells #[.int .i64 1, .int .i64 1, .int .i64 0] 58)).alloc (.cells #[.int .i64 0, .int .i64 0, .slice (some ⟨w.heap.size, 0, none⟩) 1 1, .slice none 0 0] 56)).alloc (.cells #[.int .i64 0] 3)).alloc (.cells #[.int .i64 2, .int .i64 0] 82)).alloc (.cells #[.slice none 0 0, .slice (some ⟨w.heap.size + 1 + 1, 0, none⟩) 1 1, .slice none 0 0, .slice none 0 0, .bool false, .slice (some ⟨w.heap.size + 1 + 1 + 1, 0, none⟩) 1 1, .slice none 0 0, .slice none 0 0] 35)) #[.slice none 0 0, .slice none 0 0, .slice none 0 0, .slice none 0 0, .bool false, .slice (some ⟨w.heap.size + 1 + 1 + 1, 0, none⟩) 1 1, .slice none 0 0, .slice none 0 0] 35
    simp only [World.size_alloc] at this
    rw [hw1]
    exact this.keep (Keep.refl _ Nope) (fun f => f)
  have hk1 : Keep w w1 Nope := by rw [hw1]; exact ((((((Keep.refl w Nope).alloc _).alloc _).alloc _).alloc _).alloc _).alloc _
  rw [← hg] at hb0 hb1 hb2 hb3 hb4 hb5
  have hr0 : RdDescs (fun _ => True) w1 (.slice (some ⟨g, 0, none⟩) 1 1) [⟨1, 1, 0⟩] := rd_blk hb0 1 (by decide) _ rfl
  have hr2 : Rd (fun _ => True) w1 (.slice (some ⟨g + 1 + 1, 0, none⟩) 1 1) 1 (ints [0]) := rd_blk hb2 1 (by decide) _ rfl
  have hr3 : RdCols (fun _ => True) w1 (.slice (some ⟨g + 1 + 1 + 1, 0, none⟩) 1 1) [⟨2, 0⟩] := rd_blk hb3 1 (by decide) _ rfl
  have hn : ∀ wq, Rd (fun _ => True) wq nilR.v nilR.l.length (ints nilR.l) := fun wq => rd_nilR _ wq
  have hnI : ∀ wq, RdIns (fun _ => True) wq (.slice none 0 0) [] := fun wq => rd_nil _ wq
  obtain ⟨cf, hcf⟩ : ∃ cf : CfgV, cf = ⟨0, 0, some ⟨g, 0, none⟩, 1, [⟨1, 1, 0⟩], none, 0, 0⟩ := ⟨_, rfl⟩
  obtain ⟨ya, hya⟩ : ∃ y : SysF, y = ⟨⟨nilR, ⟨some ⟨g + 1 + 1, 0, none⟩, 1, [0]⟩, nilR, nilR, false, ⟨some ⟨g + 1 + 1 + 1, 0, none⟩, 1, 1⟩, nilV, nilR⟩, [⟨2, 0⟩], []⟩ := ⟨_, rfl⟩
  obtain ⟨yb, hyb⟩ : ∃ y : SysF, y = ⟨⟨nilR, nilR, nilR, nilR, false, ⟨some ⟨g + 1 + 1 + 1, 0, none⟩, 1, 1⟩, nilV, nilR⟩, [⟨2, 0⟩], []⟩ := ⟨_, rfl⟩
  have hA : SysRd (fun _ => True) w1 ya := by rw [hya]; exact ⟨⟨hn w1, hr2, hn w1, hn w1⟩, hr3, hnI w1⟩
  have hB : SysRd (fun _ => True) w1 yb := by rw [hyb]; exact ⟨⟨hn w1, hn w1, hn w1, hn w1⟩, hr3, hnI w1⟩
  have hD : RdDescs (fun _ => True) w1 (.slice cf.ca cf.dl.length cf.cc) cf.dl := by rw [hcf]; exact hr0
  have hE1 : sysE cf.dl cf.rn ya = 0 := by rw [hcf, hya]; rfl
  have hE2 : sysE cf.dl cf.rn yb = 19 := by rw [hcf, hyb]; rfl
  have hF1 : confB ya.x ya.x = true := by rw [hya]; rfl
  have hF2 : confB ya.x nilX = false := by rw [hya]; rfl
  have hvc : cf.val = .agg #[.int .i64 0, .int .i64 0, .slice (some ⟨g, 0, none⟩) 1 1, .slice none 0 0] := by rw [hcf]; rfl
  have hva : ya.x.val = .agg #[.slice none 0 0, .slice (some ⟨g + 1 + 1, 0, none⟩) 1 1, .slice none 0 0, .slice none 0 0, .bool false, .slice (some ⟨g + 1 + 1 + 1, 0, none⟩) 1 1, .slice none 0 0, .slice none 0 0] := by rw [hya]; rfl
  have hvb : yb.x.val = .agg #[.slice none 0 0, .slice none 0 0, .slice none 0 0, .slice none 0 0, .bool false, .slice (some ⟨g + 1 + 1 + 1, 0, none⟩) 1 1, .slice none 0 0, .slice none 0 0] := by rw [hyb]; rfl
  have hvn : nilX.val = .agg #[.slice none 0 0, .slice none 0 0, .slice none 0 0, .slice none 0 0, .bool false, .slice none 0 0, .slice none 0 0, .slice none 0 0] := rfl
  have hC1 := fun wq (hk : Keep w1 wq Nope) => sys_Check cf ya wq _ (hA.keep0 hk) (hD.keep hk (fun _ _ f => f)) (by rw [hya]; exact Nat.le_of_ble_eq_true rfl)
  have hC2 := fun wq (hk : Keep w1 wq Nope) => sys_Check cf yb wq _ (hB.keep0 hk) (hD.keep hk (fun _ _ f => f)) (by rw [hyb]; exact Nat.le_of_ble_eq_true rfl)
  have hC3 := fun wq (hk : Keep w1 wq Nope) => sys_conflict ya.x ya.x wq _ (hA.use.keep0 hk) (hA.use.keep0 hk)
  have hC4 := fun wq (hk : Keep w1 wq Nope) => sys_conflict ya.x nilX wq _ (hA.use.keep0 hk) ⟨hn wq, hn wq, hn wq, hn wq⟩
  simp only [hE1, hE2, hF1, hF2, hvc, hva, hvb, hvn] at hC1 hC2 hC3 hC4
  have C1 := Lib.hid hC1
  have C2 := Lib.hid hC2
  have C3 := Lib.hid hC3
  have C4 := Lib.hid hC4
  have HW1 := Lib.hid hw1
  have HG := Lib.hid hg
  have HK1 := Lib.hid hk1
  have hcl : ∀ wq, Keep w1 wq Nope → Blk wq (g + 1) #[.int .i64 0, .int .i64 0, .slice (some ⟨g, 0, none⟩) 1 1, .slice none 0 0] 56 ∧
      Blk wq (g + 1 + 1 + 1 + 1) #[.slice none 0 0, .slice (some ⟨g + 1 + 1, 0, none⟩) 1 1, .slice none 0 0, .slice none 0 0, .bool false, .slice (some ⟨g + 1 + 1 + 1, 0, none⟩) 1 1, .slice none 0 0, .slice none 0 0] 35 ∧
      Blk wq (g + 1 + 1 + 1 + 1 + 1) #[.slice none 0 0, .slice none 0 0, .slice none 0 0, .slice none 0 0, .bool false, .slice (some ⟨g + 1 + 1 + 1, 0, none⟩) 1 1, .slice none 0 0, .slice none 0 0] 35 :=
    fun wq hk => ⟨hb1.keep hk (fun f => f), hb4.keep hk (fun f => f), hb5.keep hk (fun f => f)⟩
  have HCL := Lib.hid hcl
  clear hE1 hE2 hF1 hF2 hvc hva hvb hvn hC1 hC2 hC3 hC4 hw1 hg hk1 hcl hA hB hD hcf hya hyb hr0 hr2 hr3 hn hnI hb0 hb1 hb2 hb3 hb4 hb5
  obtain ⟨ba, bb, bc⟩ := HCL.out w1 (Keep.refl _ _)

  clear ba bb bc
  have KK := Lib.hid (Keep.refl w1 Nope)
  have a0 := (HCL.out w1 KK.out).1.cell 0
  have a1 := (HCL.out w1 KK.out).1.cell 1
  have a2 := (HCL.out w1 KK.out).1.cell 2
  have a3 := (HCL.out w1 KK.out).1.cell 3
  have b0 := (HCL.out w1 KK.out).2.1.cell 0
  have b1 := (HCL.out w1 KK.out).2.1.cell 1
  have b2 := (HCL.out w1 KK.out).2.1.cell 2
  have b3 := (HCL.out w1 KK.out).2.1.cell 3
  have b4 := (HCL.out w1 KK.out).2.1.cell 4
  have b5 := (HCL.out w1 KK.out).2.1.cell 5
  have b6 := (HCL.out w1 KK.out).2.1.cell 6
  have b7 := (HCL.out w1 KK.out).2.1.cell 7
  have c0 := (HCL.out w1 KK.out).2.2.cell 0
  have c1 := (HCL.out w1 KK.out).2.2.cell 1
  have c2 := (HCL.out w1 KK.out).2.2.cell 2
  have c3 := (HCL.out w1 KK.out).2.2.cell 3
  have c4 := (HCL.out w1 KK.out).2.2.cell 4
  have c5 := (HCL.out w1 KK.out).2.2.cell 5
  have c6 := (HCL.out w1 KK.out).2.2.cell 6
  have c7 := (HCL.out w1 KK.out).2.2.cell 7
  simp at a0 a1 a2 a3 b0 b1 b2 b3 b4 b5 b6 b7 c0 c1 c2 c3 c4 c5 c6 c7
  go_enter Try.func24, Try.ntmps24
  go_upto_region 5 with (fail)
  rw [← HW1.out, ← HG.out]
  go_wp2_with (first | (go_at_call 27; refine (C1.out _ KK.out).mono ?_; rintro e w2 ⟨rfl, hk⟩; have KK := Lib.hid (KK.out.trans hk (fun _ f => f.elim)); clear hk C1 a0 a1 a2 a3 b0 b1 b2 b3 b4 b5 b6 b7 c0 c1 c2 c3 c4 c5 c6 c7; have a0 := (HCL.out w2 KK.out).1.cell 0 ; have a1 := (HCL.out w2 KK.out).1.cell 1 ; have a2 := (HCL.out w2 KK.out).1.cell 2 ; have a3 := (HCL.out w2 KK.out).1.cell 3 ; have b0 := (HCL.out w2 KK.out).2.1.cell 0 ; have b1 := (HCL.out w2 KK.out).2.1.cell 1 ; have b2 := (HCL.out w2 KK.out).2.1.cell 2 ; have b3 := (HCL.out w2 KK.out).2.1.cell 3 ; have b4 := (HCL.out w2 KK.out).2.1.cell 4 ; have b5 := (HCL.out w2 KK.out).2.1.cell 5 ; have b6 := (HCL.out w2 KK.out).2.1.cell 6 ; have b7 := (HCL.out w2 KK.out).2.1.cell 7 ; have c0 := (HCL.out w2 KK.out).2.2.cell 0 ; have c1 := (HCL.out w2 KK.out).2.2.cell 1 ; have c2 := (HCL.out w2 KK.out).2.2.cell 2 ; have c3 := (HCL.out w2 KK.out).2.2.cell 3 ; have c4 := (HCL.out w2 KK.out).2.2.cell 4 ; have c5 := (HCL.out w2 KK.out).2.2.cell 5 ; have c6 := (HCL.out w2 KK.out).2.2.cell 6 ; have c7 := (HCL.out w2 KK.out).2.2.cell 7 ; simp at a0 a1 a2 a3 b0 b1 b2 b3 b4 b5 b6 b7 c0 c1 c2 c3 c4 c5 c6 c7) | (go_at_call 27; refine (C2.out _ KK.out).mono ?_; rintro e w3 ⟨rfl, hk⟩; have KK := Lib.hid (KK.out.trans hk (fun _ f => f.elim)); clear hk C2 a0 a1 a2 a3 b0 b1 b2 b3 b4 b5 b6 b7 c0 c1 c2 c3 c4 c5 c6 c7; have a0 := (HCL.out w3 KK.out).1.cell 0 ; have a1 := (HCL.out w3 KK.out).1.cell 1 ; have a2 := (HCL.out w3 KK.out).1.cell 2 ; have a3 := (HCL.out w3 KK.out).1.cell 3 ; have b0 := (HCL.out w3 KK.out).2.1.cell 0 ; have b1 := (HCL.out w3 KK.out).2.1.cell 1 ; have b2 := (HCL.out w3 KK.out).2.1.cell 2 ; have b3 := (HCL.out w3 KK.out).2.1.cell 3 ; have b4 := (HCL.out w3 KK.out).2.1.cell 4 ; have b5 := (HCL.out w3 KK.out).2.1.cell 5 ; have b6 := (HCL.out w3 KK.out).2.1.cell 6 ; have b7 := (HCL.out w3 KK.out).2.1.cell 7 ; have c0 := (HCL.out w3 KK.out).2.2.cell 0 ; have c1 := (HCL.out w3 KK.out).2.2.cell 1 ; have c2 := (HCL.out w3 KK.out).2.2.cell 2 ; have c3 := (HCL.out w3 KK.out).2.2.cell 3 ; have c4 := (HCL.out w3 KK.out).2.2.cell 4 ; have c5 := (HCL.out w3 KK.out).2.2.cell 5 ; have c6 := (HCL.out w3 KK.out).2.2.cell 6 ; have c7 := (HCL.out w3 KK.out).2.2.cell 7 ; simp at a0 a1 a2 a3 b0 b1 b2 b3 b4 b5 b6 b7 c0 c1 c2 c3 c4 c5 c6 c7) | (go_at_call 25; refine (C3.out _ KK.out).mono ?_; rintro e w4 ⟨rfl, hk⟩; have KK := Lib.hid (KK.out.trans hk (fun _ f => f.elim)); clear hk C3 a0 a1 a2 a3 b0 b1 b2 b3 b4 b5 b6 b7 c0 c1 c2 c3 c4 c5 c6 c7; have a0 := (HCL.out w4 KK.out).1.cell 0 ; have a1 := (HCL.out w4 KK.out).1.cell 1 ; have a2 := (HCL.out w4 KK.out).1.cell 2 ; have a3 := (HCL.out w4 KK.out).1.cell 3 ; have b0 := (HCL.out w4 KK.out).2.1.cell 0 ; have b1 := (HCL.out w4 KK.out).2.1.cell 1 ; have b2 := (HCL.out w4 KK.out).2.1.cell 2 ; have b3 := (HCL.out w4 KK.out).2.1.cell 3 ; have b4 := (HCL.out w4 KK.out).2.1.cell 4 ; have b5 := (HCL.out w4 KK.out).2.1.cell 5 ; have b6 := (HCL.out w4 KK.out).2.1.cell 6 ; have b7 := (HCL.out w4 KK.out).2.1.cell 7 ; have c0 := (HCL.out w4 KK.out).2.2.cell 0 ; have c1 := (HCL.out w4 KK.out).2.2.cell 1 ; have c2 := (HCL.out w4 KK.out).2.2.cell 2 ; have c3 := (HCL.out w4 KK.out).2.2.cell 3 ; have c4 := (HCL.out w4 KK.out).2.2.cell 4 ; have c5 := (HCL.out w4 KK.out).2.2.cell 5 ; have c6 := (HCL.out w4 KK.out).2.2.cell 6 ; have c7 := (HCL.out w4 KK.out).2.2.cell 7 ; simp at a0 a1 a2 a3 b0 b1 b2 b3 b4 b5 b6 b7 c0 c1 c2 c3 c4 c5 c6 c7) | (go_at_call 25; refine (C4.out _ KK.out).mono ?_; rintro e w5 ⟨rfl, hk⟩; have KK := Lib.hid (KK.out.trans hk (fun _ f => f.elim)); clear hk C4 a0 a1 a2 a3 b0 b1 b2 b3 b4 b5 b6 b7 c0 c1 c2 c3 c4 c5 c6 c7; have a0 := (HCL.out w5 KK.out).1.cell 0 ; have a1 := (HCL.out w5 KK.out).1.cell 1 ; have a2 := (HCL.out w5 KK.out).1.cell 2 ; have a3 := (HCL.out w5 KK.out).1.cell 3 ; have b0 := (HCL.out w5 KK.out).2.1.cell 0 ; have b1 := (HCL.out w5 KK.out).2.1.cell 1 ; have b2 := (HCL.out w5 KK.out).2.1.cell 2 ; have b3 := (HCL.out w5 KK.out).2.1.cell 3 ; have b4 := (HCL.out w5 KK.out).2.1.cell 4 ; have b5 := (HCL.out w5 KK.out).2.1.cell 5 ; have b6 := (HCL.out w5 KK.out).2.1.cell 6 ; have b7 := (HCL.out w5 KK.out).2.1.cell 7 ; have c0 := (HCL.out w5 KK.out).2.2.cell 0 ; have c1 := (HCL.out w5 KK.out).2.2.cell 1 ; have c2 := (HCL.out w5 KK.out).2.2.cell 2 ; have c3 := (HCL.out w5 KK.out).2.2.cell 3 ; have c4 := (HCL.out w5 KK.out).2.2.cell 4 ; have c5 := (HCL.out w5 KK.out).2.2.cell 5 ; have c6 := (HCL.out w5 KK.out).2.2.cell 6 ; have c7 := (HCL.out w5 KK.out).2.2.cell 7 ; simp at a0 a1 a2 a3 b0 b1 b2 b3 b4 b5 b6 b7 c0 c1 c2 c3 c4 c5 c6 c7))
  go_ret
  exact ⟨rfl, HK1.out.trans KK.out (fun _ f => f.elim)⟩
end Go.Proofs.Ytbigknmeooaidaa
