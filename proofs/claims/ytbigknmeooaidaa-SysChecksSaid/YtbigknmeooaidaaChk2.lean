/-
  The package plan: may a plan be.
-/
import Derived.Test.YtbigknmeooaidaaChk1
namespace Go.Proofs.Ytbigknmeooaidaa
open Go Go.RowKit
set_option linter.unusedVariables false
set_option linter.unusedSimpArgs false

set_option maxHeartbeats 1000000 in
theorem index_twice (b1 b2 : Nat) (p : ColV → Bool) (v : Value) (l : List ColV) (w : World) (S : Nat → Prop) (h : RdCols S w v l)
    (hf : ∀ (x : ColV) (w' : World), Keep w w' Nope → Calls Try.prog 96 #[x.val, .pointer (some ⟨b1, 0, none⟩), .pointer (some ⟨b2, 0, none⟩)] w' (fun e w2 => e = .returned (.bool (p x)) ∧ Keep w' w2 Nope)) :
    Calls Try.prog 97 #[v, .func (.func 96) #[] #[.pointer (some ⟨b1, 0, none⟩), .pointer (some ⟨b2, 0, none⟩)]] w (RetIxK w (l.any p)) := by
  obtain ⟨a, c, rfl, g1, g2, g3, g4⟩ := id h
  have hlen : l.length ≤ 9223372036854775807 := by unfold maxLen at g2; omega
  clear g1 g2 g3 g4
  have H := Lib.hid h; clear h
  have HP := Lib.hid hf; clear hf
  go_enter Try.func97, Try.ntmps97
  go_wp2_with fail
  go_loopg [8] l.length (fun g v8 wr => LoopIxK w l.length (fun j => p (l.getD j ⟨0, 0⟩)) g v8 wr)
  case atStart => exact ⟨0, rfl, rfl, fun j h => by omega, Keep.refl _ _⟩
  case round =>
    obtain ⟨k, hk, rfl, hall, hkp⟩ := hrel
    have hkl : k ≤ l.length := by omega
    have HK := Lib.hid hk; clear hk
    have HA := Lib.hid hall; clear hall
    have HKP := Lib.hid hkp; clear hkp
    by_cases hlt : k < l.length
    · obtain ⟨x, hx⟩ : ∃ x, l[k]? = some x := ⟨_, List.getElem?_eq_getElem hlt⟩
      obtain ⟨bo, oo, rfl, _, hc⟩ := (H.out.keep HKP.out (fun _ _ f => f)).elem (cells := ColV.cells) (size := 2) (fun _ => rfl) (by decide) hx
      have c0 := hc 0 (by decide)
      have c1 := hc 1 (by decide)
      simp only [ColV.cells, List.getElem?_cons_zero, List.getElem?_cons_succ, Nat.add_zero] at c0 c1
      clear hc
      have HX := Lib.hid hx; clear hx
      have HC := Lib.hid (HP.out x wr HKP.out)
      unfold ColV.val at HC
      obtain ⟨b, hb⟩ : ∃ b, p x = b := ⟨_, rfl⟩
      rw [hb] at HC
      have HB := Lib.hid hb; clear hb
      have HD := Lib.hid (show p (l.getD k ⟨0, 0⟩) = b by rw [List.getD_eq_getElem?_getD, HX.out]; exact HB.out)
      cases b
      · go_wp2_with (go_at_call 96; refine HC.out.mono ?_; rintro e w' ⟨rfl, hk'⟩; have HK' := Lib.hid (HKP.out.trans hk' (fun _ f => f.elim)); clear hk')
        go_roundg (l.length - (k + 1))
        case measure => have := HK.out; omega
        case rel =>
          refine ⟨k + 1, by omega, by go_num, fun j hj => ?_, HK'.out⟩
          by_cases e : j = k
          · subst e
            exact HD.out
          · exact HA.out j (by omega)
      · go_wp2_with (go_at_call 96; refine HC.out.mono ?_; rintro e w' ⟨rfl, hk'⟩; have HK' := Lib.hid (HKP.out.trans hk' (fun _ f => f.elim)); clear hk')
        go_ret
        refine ⟨k, rfl, ?_, HK'.out⟩
        have : l.any p = true := List.any_eq_true.2 ⟨_, List.mem_of_getElem? HX.out, HB.out⟩
        rw [this]
        simp
    · go_wp2_with fail
      go_ret
      refine ⟨-1, rfl, ?_, HKP.out⟩
      have : l.any p = false := by
        rw [List.any_eq_false]
        intro o ho
        obtain ⟨j, hj, rfl⟩ := List.getElem_of_mem ho
        have := HA.out j (by omega)
        simp only [List.getD_eq_getElem?_getD, List.getElem?_eq_getElem hj, Option.getD_some] at this
        simp [this]
      rw [this]
      simp
set_option maxHeartbeats 400000 in
theorem contains_twice (b1 b2 : Nat) (p : ColV → Bool) (v : Value) (l : List ColV) (w : World) (S : Nat → Prop) (h : RdCols S w v l)
    (hf : ∀ (x : ColV) (w' : World), Keep w w' Nope → Calls Try.prog 96 #[x.val, .pointer (some ⟨b1, 0, none⟩), .pointer (some ⟨b2, 0, none⟩)] w' (fun e w2 => e = .returned (.bool (p x)) ∧ Keep w' w2 Nope)) :
    Calls Try.prog 67 #[v, .func (.func 96) #[] #[.pointer (some ⟨b1, 0, none⟩), .pointer (some ⟨b2, 0, none⟩)]] w (Ret w (.bool (l.any p))) := by
  have HI := Lib.hid (index_twice b1 b2 p v l w S h hf); clear h hf
  obtain ⟨b, hb⟩ : ∃ b, l.any p = b := ⟨_, rfl⟩
  rw [hb] at HI ⊢
  clear hb
  go_enter Try.func67, Try.ntmps67
  go_wp2_with fail
  refine HI.out.mono ?_
  rintro e w1 ⟨i, rfl, hi, hk⟩
  have HK := Lib.hid hk; clear hk
  cases b
  · have hi' : i < 0 := by
      simp at hi
      exact hi
    have hd : decide (0 ≤ i) = false := decide_eq_false (by omega)
    clear hi
    go_wp2_with fail
    go_ret
    exact ⟨rfl, HK.out⟩
  · have hi' : 0 ≤ i := by simpa using hi
    clear hi
    go_wp2_with fail
    go_ret
    exact ⟨rfl, HK.out⟩


set_option maxHeartbeats 1000000 in
theorem index_asks  (p : ColV → Bool) (v : Value) (l : List ColV) (w : World) (S : Nat → Prop) (h : RdCols S w v l)
    (hf : ∀ (x : ColV) (w' : World), Keep w w' Nope → Calls Try.prog 68 #[x.val] w' (fun e w2 => e = .returned (.bool (p x)) ∧ Keep w' w2 Nope)) :
    Calls Try.prog 97 #[v, .func (.func 68) #[] #[]] w (RetIxK w (l.any p)) := by
  obtain ⟨a, c, rfl, g1, g2, g3, g4⟩ := id h
  have hlen : l.length ≤ 9223372036854775807 := by unfold maxLen at g2; omega
  clear g1 g2 g3 g4
  have H := Lib.hid h; clear h
  have HP := Lib.hid hf; clear hf
  go_enter Try.func97, Try.ntmps97
  go_wp2_with fail
  go_loopg [8] l.length (fun g v8 wr => LoopIxK w l.length (fun j => p (l.getD j ⟨0, 0⟩)) g v8 wr)
  case atStart => exact ⟨0, rfl, rfl, fun j h => by omega, Keep.refl _ _⟩
  case round =>
    obtain ⟨k, hk, rfl, hall, hkp⟩ := hrel
    have hkl : k ≤ l.length := by omega
    have HK := Lib.hid hk; clear hk
    have HA := Lib.hid hall; clear hall
    have HKP := Lib.hid hkp; clear hkp
    by_cases hlt : k < l.length
    · obtain ⟨x, hx⟩ : ∃ x, l[k]? = some x := ⟨_, List.getElem?_eq_getElem hlt⟩
      obtain ⟨bo, oo, rfl, _, hc⟩ := (H.out.keep HKP.out (fun _ _ f => f)).elem (cells := ColV.cells) (size := 2) (fun _ => rfl) (by decide) hx
      have c0 := hc 0 (by decide)
      have c1 := hc 1 (by decide)
      simp only [ColV.cells, List.getElem?_cons_zero, List.getElem?_cons_succ, Nat.add_zero] at c0 c1
      clear hc
      have HX := Lib.hid hx; clear hx
      have HC := Lib.hid (HP.out x wr HKP.out)
      unfold ColV.val at HC
      obtain ⟨b, hb⟩ : ∃ b, p x = b := ⟨_, rfl⟩
      rw [hb] at HC
      have HB := Lib.hid hb; clear hb
      have HD := Lib.hid (show p (l.getD k ⟨0, 0⟩) = b by rw [List.getD_eq_getElem?_getD, HX.out]; exact HB.out)
      cases b
      · go_wp2_with (go_at_call 68; refine HC.out.mono ?_; rintro e w' ⟨rfl, hk'⟩; have HK' := Lib.hid (HKP.out.trans hk' (fun _ f => f.elim)); clear hk')
        go_roundg (l.length - (k + 1))
        case measure => have := HK.out; omega
        case rel =>
          refine ⟨k + 1, by omega, by go_num, fun j hj => ?_, HK'.out⟩
          by_cases e : j = k
          · subst e
            exact HD.out
          · exact HA.out j (by omega)
      · go_wp2_with (go_at_call 68; refine HC.out.mono ?_; rintro e w' ⟨rfl, hk'⟩; have HK' := Lib.hid (HKP.out.trans hk' (fun _ f => f.elim)); clear hk')
        go_ret
        refine ⟨k, rfl, ?_, HK'.out⟩
        have : l.any p = true := List.any_eq_true.2 ⟨_, List.mem_of_getElem? HX.out, HB.out⟩
        rw [this]
        simp
    · go_wp2_with fail
      go_ret
      refine ⟨-1, rfl, ?_, HKP.out⟩
      have : l.any p = false := by
        rw [List.any_eq_false]
        intro o ho
        obtain ⟨j, hj, rfl⟩ := List.getElem_of_mem ho
        have := HA.out j (by omega)
        simp only [List.getD_eq_getElem?_getD, List.getElem?_eq_getElem hj, Option.getD_some] at this
        simp [this]
      rw [this]
      simp
set_option maxHeartbeats 400000 in
theorem contains_asks  (p : ColV → Bool) (v : Value) (l : List ColV) (w : World) (S : Nat → Prop) (h : RdCols S w v l)
    (hf : ∀ (x : ColV) (w' : World), Keep w w' Nope → Calls Try.prog 68 #[x.val] w' (fun e w2 => e = .returned (.bool (p x)) ∧ Keep w' w2 Nope)) :
    Calls Try.prog 67 #[v, .func (.func 68) #[] #[]] w (Ret w (.bool (l.any p))) := by
  have HI := Lib.hid (index_asks  p v l w S h hf); clear h hf
  obtain ⟨b, hb⟩ : ∃ b, l.any p = b := ⟨_, rfl⟩
  rw [hb] at HI ⊢
  clear hb
  go_enter Try.func67, Try.ntmps67
  go_wp2_with fail
  refine HI.out.mono ?_
  rintro e w1 ⟨i, rfl, hi, hk⟩
  have HK := Lib.hid hk; clear hk
  cases b
  · have hi' : i < 0 := by
      simp at hi
      exact hi
    have hd : decide (0 ≤ i) = false := decide_eq_false (by omega)
    clear hi
    go_wp2_with fail
    go_ret
    exact ⟨rfl, HK.out⟩
  · have hi' : 0 ≤ i := by simpa using hi
    clear hi
    go_wp2_with fail
    go_ret
    exact ⟨rfl, HK.out⟩



def askB (c : ColV) : Bool := c.kind == 1 || c.kind == 2 || c.kind == 5
set_option maxHeartbeats 400000 in
theorem plan_asks (x : ColV) (w : World) :
    Calls Try.prog 68 #[x.val] w (fun e w2 => e = .returned (.bool (askB x)) ∧ Keep w w2 Nope) := by
  unfold ColV.val askB
  obtain ⟨k, m⟩ := x
  simp only
  have hk := (Keep.refl w Nope).alloc (.cells #[.int .i64 k, .int .i64 m] 82)
  have HK := Lib.hid hk; clear hk
  cases h1 : (k == 1) <;> cases h2 : (k == 2) <;> cases h5 : (k == 5)
  all_goals
    go_enter Try.func68, Try.ntmps68
    go_wp2_with fail
    go_ret
    exact ⟨rfl, HK.out⟩

def twB (all : Bool) (m : Int) (x : ColV) : Bool := ((x.kind == 5) == all) && (x.comp == m)
set_option maxHeartbeats 400000 in
theorem plan_twice (x : ColV) (b1 b2 : Nat) (all : Bool) (m : Int) (w : World) (h1 : w.cell? ⟨b1, 0, none⟩ = some (.bool all)) (h2 : w.cell? ⟨b2, 1, none⟩ = some (.int .i64 m)) :
    Calls Try.prog 96 #[x.val, .pointer (some ⟨b1, 0, none⟩), .pointer (some ⟨b2, 0, none⟩)] w (fun e w2 => e = .returned (.bool (twB all m x)) ∧ Keep w w2 Nope) := by
  unfold ColV.val twB
  obtain ⟨k, n⟩ := x
  simp only
  have hk := (Keep.refl w Nope).alloc (.cells #[.int .i64 k, .int .i64 n] 82)
  have g1 := hk.cell h1 (fun f => f)
  have g2 := hk.cell h2 (fun f => f)
  have HK := Lib.hid hk; clear hk h1 h2
  cases h5 : (k == 5) <;> cases all <;> cases hm : (n == m)
  all_goals
    go_enter Try.func96, Try.ntmps96
    go_wp2_with fail
    go_ret
    exact ⟨rfl, HK.out⟩

/-- A column's fault. -/
def colE (nd : Nat) (ahead : List ColV) (c : ColV) : Int :=
  if decide (c.kind < 1) || decide (c.kind > 5) || ((c.kind == 5) && (c.comp != 0)) then 1
  else if !(c.kind == 5) && (decide (c.comp < 0) || decide (c.comp ≥ (nd : Int))) then 11
  else if ahead.any (twB (c.kind == 5) c.comp) then 15 else 0

set_option maxHeartbeats 1000000 in
theorem plan_check (ad : Option Addr) (nd cd : Nat) (c : ColV) (v : Value) (l : List ColV) (w : World) (S : Nat → Prop) (h : RdCols S w v l) :
    Calls Try.prog 66 #[.slice ad nd cd, c.val, v] w (Ret w (.int .i64 (colE nd l c))) := by
  obtain ⟨a, c2, rfl, _⟩ := id h
  unfold ColV.val
  obtain ⟨k, m⟩ := c
  simp only
  obtain ⟨r, hr⟩ : ∃ r, colE nd l ⟨k, m⟩ = r := ⟨_, rfl⟩
  rw [hr]
  unfold colE at hr
  simp only at hr
  obtain ⟨all, hall⟩ : ∃ all, (k == 5) = all := ⟨_, rfl⟩
  obtain ⟨w1, hw1⟩ : ∃ w1, w1 = (w.alloc (.cells #[.int .i64 k, .int .i64 m] 82)).alloc (.cells #[.bool all] 4) := ⟨_, rfl⟩
  have hk1 : Keep w w1 Nope := by rw [hw1]; exact ((Keep.refl w Nope).alloc _).alloc _
  have hba : Blk w1 w.heap.size #[.int .i64 k, .int .i64 m] 82 := by
    rw [hw1]; exact (Blk.new w _ _).keep ((Keep.refl _ Nope).alloc _) (fun f => f)
  have hbb : Blk w1 (w.heap.size + 1) #[.bool all] 4 := by
    rw [hw1, ← World.size_alloc w]; exact Blk.new _ _ _
  have HBA := Lib.hid hba
  have HBB := Lib.hid hbb
  have HK1 := Lib.hid hk1
  have HW1 := Lib.hid hw1
  have HC := Lib.hid (contains_twice (w.heap.size + 1) w.heap.size (twB all m) _ l w1 S (h.keep hk1 (fun _ _ f => f)) (fun x w' hk' => plan_twice x (w.heap.size + 1) w.heap.size all m w' (hk'.cell (by rw [hbb.cell]; rfl) (fun f => f)) (hk'.cell (by rw [hba.cell]; rfl) (fun f => f))))
  have a0 := hba.cell 0
  have a1 := hba.cell 1
  have b0 := hbb.cell 0
  simp at a0 a1 b0
  obtain ⟨tw, htw⟩ : ∃ tw, l.any (twB all m) = tw := ⟨_, rfl⟩
  rw [hall, htw] at hr
  rw [htw] at HC
  have HR := Lib.hid hr; clear hr
  clear hba hbb hk1 hw1 htw h
  by_cases h1 : k < 1
  · have d1 : decide (k < 1) = true := decide_eq_true h1
    go_enter Try.func66, Try.ntmps66
    go_upto_region 2 with (fail)
    rw [← HW1.out]
    clear HW1
    go_wp2_with fail
    go_ret
    exact ⟨by rw [← HR.out]; simp [d1], HK1.out⟩
  have d1 : decide (k < 1) = false := decide_eq_false h1
  by_cases h2 : k > 5
  · have d2 : decide (k > 5) = true := decide_eq_true h2
    go_enter Try.func66, Try.ntmps66
    go_upto_region 2 with (fail)
    rw [← HW1.out]
    clear HW1
    go_wp2_with fail
    go_ret
    exact ⟨by rw [← HR.out]; simp [d1, d2], HK1.out⟩
  have d2 : decide (k > 5) = false := decide_eq_false h2
  cases all
  · by_cases h3 : m < 0
    · have d3 : decide (m < 0) = true := decide_eq_true h3
      go_enter Try.func66, Try.ntmps66
      go_upto_region 2 with (fail)
      rw [← HW1.out]
      clear HW1
      go_wp2_with fail
      go_ret
      exact ⟨by rw [← HR.out]; simp [d1, d2, d3], HK1.out⟩
    have d3 : decide (m < 0) = false := decide_eq_false h3
    by_cases h4 : m ≥ (nd : Int)
    · have d4 : decide (m ≥ (nd : Int)) = true := decide_eq_true h4
      go_enter Try.func66, Try.ntmps66
      go_upto_region 2 with (fail)
      rw [← HW1.out]
      clear HW1
      go_wp2_with fail
      go_ret
      exact ⟨by rw [← HR.out]; simp [d1, d2, d3, d4], HK1.out⟩
    have d4 : decide (m ≥ (nd : Int)) = false := decide_eq_false h4
    go_enter Try.func66, Try.ntmps66
    go_upto_region 2 with (fail)
    rw [← HW1.out]
    clear HW1
    go_wp2_with fail
    refine HC.out.mono ?_
    rintro e w' ⟨rfl, hk'⟩
    have HK' := Lib.hid (HK1.out.trans hk' (fun _ f => f.elim)); clear hk'
    cases tw
    all_goals
      go_wp2_with fail
      go_ret
      exact ⟨by rw [← HR.out]; simp [d1, d2, d3, d4], HK'.out⟩
  · cases h3 : (m != 0)
    · go_enter Try.func66, Try.ntmps66
      go_upto_region 2 with (fail)
      rw [← HW1.out]
      clear HW1
      go_wp2_with fail
      refine HC.out.mono ?_
      rintro e w' ⟨rfl, hk'⟩
      have HK' := Lib.hid (HK1.out.trans hk' (fun _ f => f.elim)); clear hk'
      cases tw
      all_goals
        go_wp2_with fail
        go_ret
        exact ⟨by rw [← HR.out]; simp only [d1, d2, h3, hall]; rfl, HK'.out⟩
    · go_enter Try.func66, Try.ntmps66
      go_upto_region 2 with (fail)
      rw [← HW1.out]
      clear HW1
      go_wp2_with fail
      go_ret
      exact ⟨by rw [← HR.out]; simp only [d1, d2, h3, hall]; rfl, HK1.out⟩
end Go.Proofs.Ytbigknmeooaidaa
