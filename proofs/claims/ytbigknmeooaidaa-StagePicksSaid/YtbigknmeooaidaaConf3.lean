/-
  The package sys and the document: do two systems meddle.
-/
import Derived.Test.YtbigknmeooaidaaConf2
namespace Go.Proofs.Ytbigknmeooaidaa
open Go Go.RowKit
set_option linter.unusedVariables false
set_option linter.unusedSimpArgs false

/-- A system: what it uses, what it waits for. -/
structure SysX where
  r : RowV
  w : RowV
  rr : RowV
  rw' : RowV
  al : Bool
  pl : SlV
  cd : SlV
  af : RowV
def SysX.cells (x : SysX) : List Value := [x.r.v, x.w.v, x.rr.v, x.rw'.v, .bool x.al, x.pl.v, x.cd.v, x.af.v]
def SysX.val (x : SysX) : Value := .agg #[x.r.v, x.w.v, x.rr.v, x.rw'.v, .bool x.al, x.pl.v, x.cd.v, x.af.v]
structure UseRd (S : Nat → Prop) (w : World) (x : SysX) : Prop where
  r : Rd S w x.r.v x.r.l.length (ints x.r.l)
  w' : Rd S w x.w.v x.w.l.length (ints x.w.l)
  rr : Rd S w x.rr.v x.rr.l.length (ints x.rr.l)
  rw' : Rd S w x.rw'.v x.rw'.l.length (ints x.rw'.l)
theorem UseRd.keep0 {S : Nat → Prop} {w w' : World} {x : SysX} (h : UseRd S w x) (hk : Keep w w' Nope) : UseRd S w' x :=
  ⟨h.r.keep hk (fun _ _ f => f), h.w'.keep hk (fun _ _ f => f), h.rr.keep hk (fun _ _ f => f), h.rw'.keep hk (fun _ _ f => f)⟩

def confB (a b : SysX) : Bool := a.al && b.al || meetB a.w.l [b.r.l, b.w.l] || meetB b.w.l [a.r.l] || meetB a.rw'.l [b.rr.l, b.rw'.l] || meetB b.rw'.l [a.rr.l]
def meet2 (a b : List Int) : Bool := a.any (fun x => hasL b x)
def confR (a b : SysX) : Bool := a.al && b.al || meet2 a.w.l b.w.l || meet2 a.w.l b.r.l || meet2 a.r.l b.w.l || meet2 a.rw'.l b.rw'.l || meet2 a.rw'.l b.rr.l || meet2 a.rr.l b.rw'.l
theorem meet2_iff {a b : List Int} : meet2 a b = true ↔ ∃ x, x ∈ a ∧ x ∈ b := by
  unfold meet2
  rw [List.any_eq_true]
  exact ⟨fun ⟨x, h1, h2⟩ => ⟨x, h1, hasL_iff.1 h2⟩, fun ⟨x, h1, h2⟩ => ⟨x, h1, hasL_iff.2 h2⟩⟩
theorem meet2_comm (a b : List Int) : meet2 a b = meet2 b a := by
  rw [Bool.eq_iff_iff, meet2_iff, meet2_iff]
  exact ⟨fun ⟨x, h1, h2⟩ => ⟨x, h2, h1⟩, fun ⟨x, h1, h2⟩ => ⟨x, h2, h1⟩⟩
theorem meetB_one (a b : List Int) : meetB a [b] = meet2 a b := by
  unfold meetB meet2
  congr 1
  funext n
  simp [hasL]
theorem any_or2 (p q : Int → Bool) : ∀ a : List Int, a.any (fun n => p n || q n) = (a.any p || a.any q)
  | [] => rfl
  | x :: t => by
    simp only [List.any_cons, any_or2 p q t]
    cases p x <;> cases q x <;> cases t.any p <;> cases t.any q <;> rfl
theorem meetB_two (a b c : List Int) : meetB a [b, c] = (meet2 a b || meet2 a c) := by
  unfold meetB meet2
  rw [← any_or2]
  congr 1
  funext n
  simp [hasL]
theorem confB_eq (a b : SysX) : confB a b = confR a b := by
  unfold confB confR
  rw [meetB_two, meetB_two, meetB_one, meetB_one, meet2_comm b.w.l a.r.l, meet2_comm b.rw'.l a.rr.l]
  cases a.al && b.al <;> cases meet2 a.w.l b.r.l <;> cases meet2 a.w.l b.w.l <;> cases meet2 a.r.l b.w.l <;> cases meet2 a.rw'.l b.rr.l <;> cases meet2 a.rw'.l b.rw'.l <;> cases meet2 a.rr.l b.rw'.l <;> rfl
theorem confR_comm (a b : SysX) : confR a b = confR b a := by
  unfold confR
  rw [Bool.and_comm a.al, meet2_comm a.w.l b.w.l, meet2_comm a.w.l b.r.l, meet2_comm a.r.l b.w.l, meet2_comm a.rw'.l b.rw'.l, meet2_comm a.rw'.l b.rr.l, meet2_comm a.rr.l b.rw'.l]
  cases b.al && a.al <;> cases meet2 b.w.l a.w.l <;> cases meet2 b.r.l a.w.l <;> cases meet2 b.w.l a.r.l <;> cases meet2 b.rw'.l a.rw'.l <;> cases meet2 b.rr.l a.rw'.l <;> cases meet2 b.rw'.l a.rr.l <;> rfl

theorem rows_lit {S : Nat → Prop} {w : World} (rs : List RowV) (n : Nat) (hn : rs.length = n) (hm : n ≤ maxLen) (h : ∀ r, r ∈ rs → Rd S w r.v r.l.length (ints r.l)) (cs : Array Value) (hcs : cs = (rs.map RowV.v).toArray) :
    RdRows (fun i => S i ∨ i = w.heap.size) (w.alloc (.cells cs 23)) (.slice (some ⟨w.heap.size, 0, none⟩) n n) rs := by
  subst hcs; subst hn
  refine ⟨?_, fun r hr => ((h r hr).keep ((Keep.refl w Nope).alloc _) (fun _ _ f => f)).mono (fun i hi => .inl hi)⟩
  have := (Own.lit (S := fun i => S i ∨ i = w.heap.size) w 23 1 rs.length (rs.map RowV.v).toArray hm (by simp) (.inr rfl)).rd
  simpa using this

set_option maxRecDepth 3000 in
set_option maxHeartbeats 4000000 in
theorem sys_conflict (a b : SysX) (w : World) (S : Nat → Prop) (ha : UseRd S w a) (hb : UseRd S w b) :
    Calls Try.prog 25 #[a.val, b.val] w (Ret w (.bool (confB a b))) := by
  have hcb : confB a b = (a.al && b.al || meetB a.w.l [b.r.l, b.w.l] || meetB b.w.l [a.r.l] || meetB a.rw'.l [b.rr.l, b.rw'.l] || meetB b.rw'.l [a.rr.l]) := rfl
  have HCB := Lib.hid hcb; clear hcb
  obtain ⟨cb, hcb⟩ : ∃ cb, confB a b = cb := ⟨_, rfl⟩
  rw [hcb] at HCB ⊢
  clear hcb
  have HA := Lib.hid ha
  have HB := Lib.hid hb
  clear ha hb
  obtain ⟨⟨ra, rc, rl⟩, ⟨wa, wc, wl⟩, ⟨rra, rrc, rrl⟩, ⟨rwa, rwc, rwl⟩, al, pl, cd, ⟨afa, afc, afl⟩⟩ := a
  obtain ⟨⟨ra2, rc2, rl2⟩, ⟨wa2, wc2, wl2⟩, ⟨rra2, rrc2, rrl2⟩, ⟨rwa2, rwc2, rwl2⟩, al2, pl2, cd2, ⟨afa2, afc2, afl2⟩⟩ := b
  simp only at HCB
  unfold SysX.val
  simp only [RowV.v, SlV.v]
  obtain ⟨w1, hw1⟩ : ∃ w1, w1 = (w.alloc (.cells #[.slice ra rl.length rc, .slice wa wl.length wc, .slice rra rrl.length rrc, .slice rwa rwl.length rwc, .bool al, .slice pl.a pl.n pl.c, .slice cd.a cd.n cd.c, .slice afa afl.length afc] 35)).alloc (.cells #[.slice ra2 rl2.length rc2, .slice wa2 wl2.length wc2, .slice rra2 rrl2.length rrc2, .slice rwa2 rwl2.length rwc2, .bool al2, .slice pl2.a pl2.n pl2.c, .slice cd2.a cd2.n cd2.c, .slice afa2 afl2.length afc2] 35) := ⟨_, rfl⟩
  have hk1 : Keep w w1 Nope := by rw [hw1]; exact ((Keep.refl w Nope).alloc _).alloc _
  have hba : Blk w1 w.heap.size #[.slice ra rl.length rc, .slice wa wl.length wc, .slice rra rrl.length rrc, .slice rwa rwl.length rwc, .bool al, .slice pl.a pl.n pl.c, .slice cd.a cd.n cd.c, .slice afa afl.length afc] 35 := by
    rw [hw1]; exact (Blk.new w _ _).keep ((Keep.refl _ Nope).alloc _) (fun f => f)
  have hbb : Blk w1 (w.heap.size + 1) #[.slice ra2 rl2.length rc2, .slice wa2 wl2.length wc2, .slice rra2 rrl2.length rrc2, .slice rwa2 rwl2.length rwc2, .bool al2, .slice pl2.a pl2.n pl2.c, .slice cd2.a cd2.n cd2.c, .slice afa2 afl2.length afc2] 35 := by
    rw [hw1, ← World.size_alloc w]; exact Blk.new _ _ _
  have HBA := Lib.hid hba
  have HBB := Lib.hid hbb
  have HK1 := Lib.hid hk1
  have HW1 := Lib.hid hw1
  clear hba hbb hk1 hw1
  go_enter Try.func25, Try.ntmps25
  go_upto_region 1 with (fail)
  rw [← HW1.out]
  clear HW1
  have a0 := (HBA.out).cell 0
  have b0 := (HBB.out).cell 0
  have a1 := (HBA.out).cell 1
  have b1 := (HBB.out).cell 1
  have a2 := (HBA.out).cell 2
  have b2 := (HBB.out).cell 2
  have a3 := (HBA.out).cell 3
  have b3 := (HBB.out).cell 3
  have a4 := (HBA.out).cell 4
  have b4 := (HBB.out).cell 4
  simp at a0 a1 a2 a3 a4 b0 b1 b2 b3 b4
  cases hal : (al && al2)
  · have hal2 : al = false ∨ (al = true ∧ al2 = false) := by cases al <;> cases al2 <;> simp at hal ⊢
    obtain ⟨c1, hc1⟩ : ∃ c1, meetB wl [rl2, wl2] = c1 := ⟨_, rfl⟩
    obtain ⟨c2, hc2⟩ : ∃ c2, meetB wl2 [rl] = c2 := ⟨_, rfl⟩
    obtain ⟨c3, hc3⟩ : ∃ c3, meetB rwl [rrl2, rwl2] = c3 := ⟨_, rfl⟩
    obtain ⟨c4, hc4⟩ : ∃ c4, meetB rwl2 [rrl] = c4 := ⟨_, rfl⟩
    rw [hal, hc1, hc2, hc3, hc4] at HCB
    have M1 := Lib.hid (fun w5 (hk : Keep w w5 Nope) => sys_meet (.slice wa wl.length wc) wl _ [⟨ra2, rc2, rl2⟩, ⟨wa2, wc2, wl2⟩] _ S _ (HA.out.w'.keep (hk.alloc _) (fun _ _ f => f)) (rows_lit (S := S) (w := w5) [⟨ra2, rc2, rl2⟩, ⟨wa2, wc2, wl2⟩] 2 rfl (by decide) (fun r hr => by simp at hr; rcases hr with rfl | rfl; exact HB.out.r.keep hk (fun _ _ f => f); exact HB.out.w'.keep hk (fun _ _ f => f)) #[.slice ra2 rl2.length rc2, .slice wa2 wl2.length wc2] rfl))
    have M2 := Lib.hid (fun w5 (hk : Keep w w5 Nope) => sys_meet (.slice wa2 wl2.length wc2) wl2 _ [⟨ra, rc, rl⟩] _ S _ (HB.out.w'.keep (hk.alloc _) (fun _ _ f => f)) (rows_lit (S := S) (w := w5) [⟨ra, rc, rl⟩] 1 rfl (by decide) (fun r hr => by simp at hr; subst hr; exact HA.out.r.keep hk (fun _ _ f => f)) #[.slice ra rl.length rc] rfl))
    have M3 := Lib.hid (fun w5 (hk : Keep w w5 Nope) => sys_meet (.slice rwa rwl.length rwc) rwl _ [⟨rra2, rrc2, rrl2⟩, ⟨rwa2, rwc2, rwl2⟩] _ S _ (HA.out.rw'.keep (hk.alloc _) (fun _ _ f => f)) (rows_lit (S := S) (w := w5) [⟨rra2, rrc2, rrl2⟩, ⟨rwa2, rwc2, rwl2⟩] 2 rfl (by decide) (fun r hr => by simp at hr; rcases hr with rfl | rfl; exact HB.out.rr.keep hk (fun _ _ f => f); exact HB.out.rw'.keep hk (fun _ _ f => f)) #[.slice rra2 rrl2.length rrc2, .slice rwa2 rwl2.length rwc2] rfl))
    have M4 := Lib.hid (fun w5 (hk : Keep w w5 Nope) => sys_meet (.slice rwa2 rwl2.length rwc2) rwl2 _ [⟨rra, rrc, rrl⟩] _ S _ (HB.out.rw'.keep (hk.alloc _) (fun _ _ f => f)) (rows_lit (S := S) (w := w5) [⟨rra, rrc, rrl⟩] 1 rfl (by decide) (fun r hr => by simp at hr; subst hr; exact HA.out.rr.keep hk (fun _ _ f => f)) #[.slice rra rrl.length rrc] rfl))
    simp only [List.map_cons, List.map_nil, hc1, hc2, hc3, hc4] at M1 M2 M3 M4
    clear hc1 hc2 hc3 hc4 HA HB
    rcases hal2 with rfl | ⟨rfl, rfl⟩
    all_goals
      clear hal
      go_wp2_with fail
      refine (M1.out w1 HK1.out).mono ?_
      rintro e w2 ⟨rfl, hk⟩
      have hk2 : Keep w1 w2 Nope := ((Keep.refl w1 Nope).alloc _).trans hk (fun _ f => f.elim)
      have HK2 := Lib.hid (HK1.out.trans hk2 (fun _ f => f.elim))
      have HBA2 := Lib.hid (HBA.out.keep hk2 (fun f => f))
      have HBB2 := Lib.hid (HBB.out.keep hk2 (fun f => f))
      clear a0 a1 a2 a3 a4 b0 b1 b2 b3 b4
      clear hk hk2 HBA HBB HK1 M1
      cases c1
      · have a0 := (HBA2.out).cell 0
        have b0 := (HBB2.out).cell 0
        have a1 := (HBA2.out).cell 1
        have b1 := (HBB2.out).cell 1
        have a2 := (HBA2.out).cell 2
        have b2 := (HBB2.out).cell 2
        have a3 := (HBA2.out).cell 3
        have b3 := (HBB2.out).cell 3
        have a4 := (HBA2.out).cell 4
        have b4 := (HBB2.out).cell 4
        simp at a0 a1 a2 a3 a4 b0 b1 b2 b3 b4
        go_wp2_with fail
        refine (M2.out w2 HK2.out).mono ?_
        rintro e w3 ⟨rfl, hk⟩
        have hk3 : Keep w2 w3 Nope := ((Keep.refl w2 Nope).alloc _).trans hk (fun _ f => f.elim)
        have HK3 := Lib.hid (HK2.out.trans hk3 (fun _ f => f.elim))
        have HBA3 := Lib.hid (HBA2.out.keep hk3 (fun f => f))
        have HBB3 := Lib.hid (HBB2.out.keep hk3 (fun f => f))
        clear a0 a1 a2 a3 a4 b0 b1 b2 b3 b4
        clear hk hk3 HBA2 HBB2 HK2 M2
        cases c2
        · have a0 := (HBA3.out).cell 0
          have b0 := (HBB3.out).cell 0
          have a1 := (HBA3.out).cell 1
          have b1 := (HBB3.out).cell 1
          have a2 := (HBA3.out).cell 2
          have b2 := (HBB3.out).cell 2
          have a3 := (HBA3.out).cell 3
          have b3 := (HBB3.out).cell 3
          have a4 := (HBA3.out).cell 4
          have b4 := (HBB3.out).cell 4
          simp at a0 a1 a2 a3 a4 b0 b1 b2 b3 b4
          go_wp2_with fail
          refine (M3.out w3 HK3.out).mono ?_
          rintro e w4 ⟨rfl, hk⟩
          have hk4 : Keep w3 w4 Nope := ((Keep.refl w3 Nope).alloc _).trans hk (fun _ f => f.elim)
          have HK4 := Lib.hid (HK3.out.trans hk4 (fun _ f => f.elim))
          have HBA4 := Lib.hid (HBA3.out.keep hk4 (fun f => f))
          have HBB4 := Lib.hid (HBB3.out.keep hk4 (fun f => f))
          clear a0 a1 a2 a3 a4 b0 b1 b2 b3 b4
          clear hk hk4 HBA3 HBB3 HK3 M3
          cases c3
          · have a0 := (HBA4.out).cell 0
            have b0 := (HBB4.out).cell 0
            have a1 := (HBA4.out).cell 1
            have b1 := (HBB4.out).cell 1
            have a2 := (HBA4.out).cell 2
            have b2 := (HBB4.out).cell 2
            have a3 := (HBA4.out).cell 3
            have b3 := (HBB4.out).cell 3
            have a4 := (HBA4.out).cell 4
            have b4 := (HBB4.out).cell 4
            simp at a0 a1 a2 a3 a4 b0 b1 b2 b3 b4
            go_wp2_with fail
            refine (M4.out w4 HK4.out).mono ?_
            rintro e w5 ⟨rfl, hk⟩
            have HK5 := Lib.hid (HK4.out.trans (((Keep.refl w4 Nope).alloc _).trans hk (fun _ f => f.elim)) (fun _ f => f.elim))
            clear hk HBA4 HBB4 HK4 M4
            obtain rfl : cb = c4 := by rw [HCB.out]; simp
            go_wp2_with fail
            go_ret
            exact ⟨rfl, HK5.out⟩
          · obtain rfl : cb = true := by rw [HCB.out]; simp
            go_wp2_with fail
            go_ret
            exact ⟨rfl, HK4.out⟩
        · obtain rfl : cb = true := by rw [HCB.out]; simp
          go_wp2_with fail
          go_ret
          exact ⟨rfl, HK3.out⟩
      · obtain rfl : cb = true := by rw [HCB.out]; simp
        go_wp2_with fail
        go_ret
        exact ⟨rfl, HK2.out⟩
  · obtain rfl : al = true := by cases al <;> simp at hal ⊢
    obtain rfl : al2 = true := by simpa using hal
    obtain rfl : cb = true := by rw [HCB.out]; simp
    go_wp2_with fail
    go_ret
    exact ⟨rfl, HK1.out⟩
end Go.Proofs.Ytbigknmeooaidaa
