/-
  The package plan: may a plan be: the whole.
-/
import Derived.Test.YtbigknmeooaidaaChk2
import Derived.Test.YtbigknmeooaidaaHeld
import Derived.Test.YtbigknmeooaidaaMake
namespace Go.Proofs.Ytbigknmeooaidaa
open Go Go.RowKit
set_option linter.unusedVariables false
set_option linter.unusedSimpArgs false

theorem slCol : SlTy Try.prog 32 82 2 16 := SlTy.mk' (.agg #[.int .i64 0, .int .i64 0]) Try.underlying32 (by kernel_rfl) rfl (by decide)

/-- The first fault of columns, those ahead being told. -/
def colsE (nd : Nat) : List ColV → List ColV → Int
  | _, [] => 0
  | ahead, c :: t => if colE nd ahead c = 0 then colsE nd (ahead ++ [c]) t else colE nd ahead c
def planE (nd : Nat) (l : List ColV) : Int :=
  if 16 < l.length then 2 else if colsE nd [] l = 0 then (if l.any askB then 0 else 1) else colsE nd [] l
theorem RdCols.take {S : Nat → Prop} {w : World} {a : Option Addr} {n c : Nat} {l : List ColV} (h : RdCols S w (.slice a n c) l) (k : Nat) (hk : k ≤ l.length) : RdCols S w (.slice a k c) (l.take k) := by
  obtain ⟨a', c', he, g⟩ := id h
  injection he with e1 e2 e3
  subst e2
  have h2 := Rd.take (show Rd S w (.slice a l.length c) l.length (l.flatMap ColV.cells) from h) 2 k hk
  have e : (l.flatMap ColV.cells).take (k * 2) = (l.take k).flatMap ColV.cells := by
    clear g h h2
    induction l generalizing k with
    | nil => simp
    | cons a t ih => cases k with
      | zero => simp
      | succ k =>
        have := ih k (by simpa using hk)
        simp only [List.flatMap_cons, List.take_succ_cons]
        rw [show (k + 1) * 2 = (ColV.cells a).length + k * 2 by simp [ColV.cells]; omega, List.take_length_add_append, this]
  rw [e] at h2
  unfold RdCols
  rw [List.length_take, Nat.min_eq_left hk]
  exact h2

def LoopPC (w : World) (nd : Nat) (l : List ColV) (g : Nat) (v13 : Value) (wr : World) : Prop :=
  ∃ k : Nat, g + k = l.length ∧ v13 = .int .i64 k ∧ colsE nd [] l = colsE nd (l.take k) (l.drop k) ∧ Keep w wr Nope

set_option maxHeartbeats 2000000 in
theorem plan_Check (ad : Option Addr) (nd cd : Nat) (v : Value) (l : List ColV) (w : World) (S : Nat → Prop) (h : RdCols S w v l) :
    Calls Try.prog 47 #[.slice ad nd cd, v] w (Ret w (.int .i64 (planE nd l))) := by
  obtain ⟨a, c, rfl, g1, g2, g3, g4⟩ := id h
  clear g3 g4
  obtain ⟨r, hr⟩ : ∃ r, planE nd l = r := ⟨_, rfl⟩
  rw [hr]
  unfold planE at hr
  obtain ⟨ak, hak⟩ : ∃ ak, l.any askB = ak := ⟨_, rfl⟩
  rw [hak] at hr
  have HR := Lib.hid hr; clear hr
  have hCA := fun wq (hk : Keep w wq Nope) => contains_asks askB _ l wq S (h.keep hk (fun _ _ f => f)) (fun x w' hk' => plan_asks x w')
  simp only [hak] at hCA
  have HCA := Lib.hid hCA; clear hCA hak
  have H := Lib.hid h; clear h
  have hc64 : c ≤ 9223372036854775807 := by unfold maxLen at g2; omega
  clear g2
  by_cases h16 : 16 < l.length
  · have hI : (l.length : Int) > 16 := by omega
    have hd : decide ((l.length : Int) > 16) = true := decide_eq_true hI
    go_enter Try.func47, Try.ntmps47
    go_wp2_with fail
    go_ret
    exact ⟨by rw [← HR.out, if_pos h16]; rfl, Keep.refl _ _⟩
  have hI : ¬ (l.length : Int) > 16 := by omega
  have hd : decide ((l.length : Int) > 16) = false := decide_eq_false hI
  rw [if_neg h16] at HR
  go_enter Try.func47, Try.ntmps47
  go_wp2_with fail
  go_loopg [13] l.length (fun g v13 wr => LoopPC w nd l g v13 wr)
  case atStart => exact ⟨0, rfl, rfl, rfl, Keep.refl _ _⟩
  case round =>
    obtain ⟨k, hk, rfl, hco, hkp⟩ := hrel
    have hkl : k ≤ l.length := by omega
    have HK := Lib.hid hk; clear hk
    have HCO := Lib.hid hco; clear hco
    have HKP := Lib.hid hkp; clear hkp
    by_cases hlt : k < l.length
    · obtain ⟨x, hx⟩ : ∃ x, l[k]? = some x := ⟨_, List.getElem?_eq_getElem hlt⟩
      obtain ⟨bo, oo, rfl, _, hc⟩ := (H.out.keep HKP.out (fun _ _ f => f)).elem (cells := ColV.cells) (size := 2) (fun _ => rfl) (by decide) hx
      have c0 := hc 0 (by decide)
      have c1 := hc 1 (by decide)
      simp only [ColV.cells, List.getElem?_cons_zero, List.getElem?_cons_succ, Nat.add_zero] at c0 c1
      clear hc
      have hki : (k : Int) < l.length := by omega
      have hkd : decide ((k : Int) < l.length) = true := decide_eq_true hki
      have hrunh := slice_h_any (P := Try.prog) slCol (some ⟨bo, oo, none⟩) l.length c k .i64 (by omega)
      have hdrop : l.drop k = x :: l.drop (k + 1) := by
        rw [List.drop_eq_getElem_cons hlt]
        congr 1
        exact Option.some.inj ((List.getElem?_eq_getElem hlt).symm.trans hx)
      have htake : l.take (k + 1) = l.take k ++ [x] := by rw [List.take_add_one, hx]; rfl
      have hst : colsE nd [] l = if colE nd (l.take k) x = 0 then colsE nd (l.take (k + 1)) (l.drop (k + 1)) else colE nd (l.take k) x := by
        rw [HCO.out, hdrop, htake]; rfl
      have hPC := fun wq (hk' : Keep w wq Nope) => plan_check ad nd cd x (.slice (some ⟨bo, oo, none⟩) k c) (l.take k) wq S (RdCols.take (H.out.keep hk' (fun _ _ f => f)) k hkl)
      obtain ⟨e1, he1⟩ : ∃ e1, colE nd (l.take k) x = e1 := ⟨_, rfl⟩
      rw [he1] at hst
      simp only [he1] at hPC
      unfold ColV.val at hPC
      have HPC := Lib.hid hPC
      have HST := Lib.hid hst
      obtain ⟨xk, xm⟩ := x
      simp only at c0 c1 HPC
      clear hst hPC he1 hdrop htake hx
      go_upto_region 6 with (fail)
      obtain ⟨w1, hw1⟩ : ∃ w1, w1 = wr.alloc (.cells #[.int .i64 xk, .int .i64 xm] 82) := ⟨_, rfl⟩
      have hk1 : Keep wr w1 Nope := by rw [hw1]; exact (Keep.refl wr Nope).alloc _
      have hba : Blk w1 wr.heap.size #[.int .i64 xk, .int .i64 xm] 82 := by rw [hw1]; exact Blk.new wr _ _
      rw [← hw1]
      have a0 := hba.cell 0
      have a1 := hba.cell 1
      simp at a0 a1
      have HK1 := Lib.hid (HKP.out.trans hk1 (fun _ f => f.elim))
      clear hw1 hk1 hba c0 c1 HKP
      refine wp_region_M (r := 5) (S := fun w' => w'.cell? ⟨wr.heap.size, 0, none⟩ = some (.int .i64 xk) ∧ w'.cell? ⟨wr.heap.size, 1, none⟩ = some (.int .i64 xm)) (by kernel_rfl) ?_ (fun hHeld => ?_)
      · (try dsimp only); go_keep
      (refine wpAnyM_takeP (i := 0) (oi := ?_) (v := ?_) ?_ ?_ ?_ ?_ ?_ ?_ ?_ ?_ ?_; rotate_left 2; (· simp only [List.getElem?_toArray, List.getElem?_cons_succ, List.getElem?_cons_zero]; exact rfl); (· kernel_rfl); (· kernel_rfl); (· kernel_rfl); (· kernel_rfl); (· first | exact fun _ _ _ h => h | exact fun _ _ _ h => (HPan.out _ _ _ h).elim); (· (refine Or.inl ⟨by rfl, ?_⟩; (intro w hSw; (try dsimp only at hSw); go_simp) <;> with_reducible rfl)); (· exact fun _ => hHeld); simp only [Act.put, List.setIfInBounds_toArray, List.set_cons_zero, List.set_cons_succ])
      (refine wpAnyM_take (i := 1) (oi := ?_) (v := ?_) ?_ ?_ ?_ ?_ ?_ ?_ ?_ ?_ ?_ ?_; rotate_left 2; (· simp only [List.getElem?_toArray, List.getElem?_cons_succ, List.getElem?_cons_zero]; exact rfl); (· kernel_rfl); (· kernel_rfl); (· kernel_rfl); (· kernel_rfl); (· kernel_rfl); (· first | exact fun _ _ _ h => h | exact fun _ _ _ h => (HPan.out _ _ _ h).elim); (· (refine Or.inl ⟨by rfl, ?_⟩; (intro w hSw; (try dsimp only at hSw); go_simp) <;> with_reducible rfl)); (· assumption); simp only [Act.put, List.setIfInBounds_toArray, List.set_cons_zero, List.set_cons_succ])
      (refine wpAnyM_takeP (i := 2) (oi := ?_) (v := ?_) ?_ ?_ ?_ ?_ ?_ ?_ ?_ ?_ ?_; rotate_left 2; (· simp only [List.getElem?_toArray, List.getElem?_cons_succ, List.getElem?_cons_zero]; exact rfl); (· kernel_rfl); (· kernel_rfl); (· kernel_rfl); (· kernel_rfl); (· first | exact fun _ _ _ h => h | exact fun _ _ _ h => (HPan.out _ _ _ h).elim); (· (refine Or.inl ⟨by rfl, ?_⟩; (intro w hSw; (try dsimp only at hSw); go_simp) <;> with_reducible rfl)); (· exact fun _ => hHeld); simp only [Act.put, List.setIfInBounds_toArray, List.set_cons_zero, List.set_cons_succ])
      (refine wpAnyM_takeP (i := 3) (oi := ?_) (v := ?_) ?_ ?_ ?_ ?_ ?_ ?_ ?_ ?_ ?_; rotate_left 2; (· simp only [List.getElem?_toArray, List.getElem?_cons_succ, List.getElem?_cons_zero]; exact rfl); (· kernel_rfl); (· kernel_rfl); (· kernel_rfl); (· kernel_rfl); (· first | exact fun _ _ _ h => h | exact fun _ _ _ h => (HPan.out _ _ _ h).elim); (· (refine Or.inl ⟨by rfl, ?_⟩; (intro w hSw; (try dsimp only at hSw); go_simp) <;> with_reducible rfl)); (· exact fun _ => hHeld); simp only [Act.put, List.setIfInBounds_toArray, List.set_cons_zero, List.set_cons_succ])
      (refine wpAnyM_takeP (i := 4) (oi := ?_) (v := ?_) ?_ ?_ ?_ ?_ ?_ ?_ ?_ ?_ ?_; rotate_left 2; (· simp only [List.getElem?_toArray, List.getElem?_cons_succ, List.getElem?_cons_zero]; exact rfl); (· kernel_rfl); (· kernel_rfl); (· kernel_rfl); (· kernel_rfl); (· first | exact fun _ _ _ h => h | exact fun _ _ _ h => (HPan.out _ _ _ h).elim); (· (refine Or.inl ⟨by rfl, ?_⟩; (intro w hSw; (try dsimp only at hSw); go_simp) <;> with_reducible rfl)); (· exact fun _ => hHeld); simp only [Act.put, List.setIfInBounds_toArray, List.set_cons_zero, List.set_cons_succ])
      refine wpAnyM_ready (rs := [5]) (by kernel_rfl) (by simp) ?_
      refine AllReadyM.free (o := ?_) ?_ (by kernel_rfl) ?_ ?_
      rotate_left 1
      · simp only [List.getElem?_toArray, List.getElem?_cons_succ, List.getElem?_cons_zero]; exact rfl
      rotate_left 1
      · exact AllReadyM.nil
      intro K hK
      go_simp
      go_wp2_with ((go_at_call 66; refine (HPC.out _ (HK1.out.drewN _)).mono ?_; rintro e w7 ⟨rfl, hk7⟩; have HK7 := Lib.hid ((HK1.out.drewN _).trans hk7 (fun _ f => f.elim)); clear hk7))
      refine hK.out _ _ ?_
      clear hK K
      (refine wpAnyM_takeP (i := 6) (oi := ?_) (v := ?_) ?_ ?_ ?_ ?_ ?_ ?_ ?_ ?_ ?_; rotate_left 2; (· simp only [List.getElem?_toArray, List.getElem?_cons_succ, List.getElem?_cons_zero]; exact rfl); (· kernel_rfl); (· kernel_rfl); (· kernel_rfl); (· kernel_rfl); (· first | exact fun _ _ _ h => h | exact fun _ _ _ h => (HPan.out _ _ _ h).elim); (· (refine Or.inl ⟨by rfl, ?_⟩; (intro w hSw; (try dsimp only at hSw); go_simp) <;> with_reducible rfl)); (· exact fun h => Bool.noConfusion (show true = false from h)); simp only [Act.put, List.setIfInBounds_toArray, List.set_cons_zero, List.set_cons_succ])
      refine wpAnyM_done (by kernel_rfl) ?_ _
      by_cases h0 : e1 = 0
      · subst h0
        go_wp2_with fail
        go_roundg (l.length - (k + 1))
        case measure => have := HK.out; omega
        case rel => exact ⟨k + 1, by omega, by go_num, by rw [HST.out]; exact if_pos trivial, HK7.out⟩
      · have hne : (e1 != 0) = true := by simpa using h0
        have H0 := Lib.hid h0; clear h0
        go_wp2_with fail
        go_ret
        refine ⟨?_, HK7.out⟩
        have := HST.out
        rw [if_neg H0.out] at this
        rw [← HR.out, this, if_neg H0.out]
        rfl
    · obtain rfl : k = l.length := by omega
      have hz : colsE nd [] l = 0 := by rw [HCO.out, List.drop_length]; rfl
      have HZ := Lib.hid hz; clear hz
      go_wp2_with fail
      refine (HCA.out _ HKP.out).mono ?_
      rintro e w' ⟨rfl, hk'⟩
      have HK' := Lib.hid (HKP.out.trans hk' (fun _ f => f.elim)); clear hk'
      cases ak
      all_goals
        go_wp2_with fail
        go_ret
        exact ⟨by rw [← HR.out, HZ.out]; rfl, HK'.out⟩
end Go.Proofs.Ytbigknmeooaidaa
