/-
  The package deps: whether systems may wait as they do, and their order.
-/
import Derived.Test.YtbigknmeooaidaaDeps
import Derived.Deep.RegionHeld3
namespace Go.Proofs.Ytbigknmeooaidaa
open Go Go.RowKit
set_option linter.unusedVariables false
set_option linter.unusedSimpArgs false

def LoopChk (w1 : World) (A : List (List Int)) (g : Nat) (v10 : Value) (wr : World) : Prop :=
  ∃ k : Nat, g + k = A.length ∧ v10 = .int .i64 k ∧ (∀ j, j < k → (aftOf A j).any (badAt A.length j) = false) ∧ Keep w1 wr Nope

theorem badSys_of {A : List (List Int)} {k : Nat} (hk : k < A.length) (h : (aftOf A k).any (badAt A.length k) = true) : badSys A = true :=
  List.any_eq_true.2 ⟨k, List.mem_range.2 hk, h⟩
theorem badSys_no {A : List (List Int)} (h : ∀ j, j < A.length → (aftOf A j).any (badAt A.length j) = false) : badSys A = false := by
  rw [badSys, List.any_eq_false]
  intro j hj
  rw [h j (List.mem_range.1 hj)]
  simp

set_option maxRecDepth 100000 in
set_option maxHeartbeats 2000000 in
theorem deps_check (v : Value) (l : List SysV) (w : World) (S : Nat → Prop) (h : RdSys S w v l) :
    Calls Try.prog 57 #[v] w (Ret w (.int .i64 (chk (aftsOf l)))) := by
  obtain ⟨a, c, rfl, g1, g2, g3, g4⟩ := id h.rd
  have hlen : l.length ≤ 9223372036854775807 := by unfold maxLen at g2; omega
  clear g1 g2 g3 g4
  obtain ⟨A, hA⟩ : ∃ A, A = aftsOf l := ⟨_, rfl⟩
  have hAl : A.length = l.length := by rw [hA]; exact aftsOf_len l
  rw [← hA]
  have H := Lib.hid h; clear h
  have HAL := Lib.hid hAl; clear hAl
  have HA := Lib.hid hA; clear hA
  by_cases hbig : 64 < l.length
  · have hbig' : (64 : Int) < l.length := by omega
    have e : chk A = 2 := by unfold chk; rw [if_pos (by rw [HAL.out]; exact hbig)]
    rw [e]
    clear e
    go_enter Try.func57, Try.ntmps57
    go_wp2_with fail
    go_ret
    exact ⟨rfl, (Keep.refl _ _).alloc _⟩
  · have hbig' : ¬ (64 : Int) < l.length := by omega
    have hl64 : l.length ≤ 64 := by omega
    go_enter Try.func57, Try.ntmps57
    obtain ⟨bl, hz⟩ : ∃ bl, w.heap.size = bl := ⟨_, rfl⟩
    go_wp2_with fail
    have HB0 := Lib.hid (hz ▸ Blk.new w #[.slice a l.length c] 24 : Blk (w.alloc (.cells #[.slice a l.length c] 24)) bl #[.slice a l.length c] 24)
    have HK0 := Lib.hid ((Keep.refl w Nope).alloc (.cells #[.slice a l.length c] 24))
    obtain ⟨w1, hw1⟩ : ∃ w1, w1 = w.alloc (.cells #[.slice a l.length c] 24) := ⟨_, rfl⟩
    rw [← hw1] at HB0 HK0 ⊢
    clear hw1 hz
    go_loopg [10] l.length (fun g v10 wr => LoopChk w1 A g v10 wr)
    case atStart => exact ⟨0, HAL.out.symm, rfl, fun j hj => by omega, Keep.refl _ _⟩
    case round =>
      obtain ⟨k, hgk, rfl, hall, hkp⟩ := hrel
      have hkl : k ≤ l.length := by have := HAL.out; omega
      have HGK := Lib.hid hgk; clear hgk
      have HALL := Lib.hid hall; clear hall
      have HQ := Lib.hid hkp; clear hkp
      have HW := Lib.hid (HK0.out.trans HQ.out (fun _ f => f.elim))
      have HBr := Lib.hid (HB0.out.keep HQ.out (fun f => f))
      by_cases hlt : k < l.length
      · obtain ⟨x, hx⟩ : ∃ x, l[k]? = some x := ⟨_, List.getElem?_eq_getElem hlt⟩
        obtain ⟨bo, oo, rfl, _, hco⟩ := (H.out.keep0 HW.out).rd.elem (cells := SysV.cells) (size := 8) (fun _ => rfl) (by decide) hx
        obtain ⟨hxn, hxr⟩ := (H.out.keep0 HW.out).af x (List.mem_of_getElem? hx)
        have hxl := aftOf_get hx
        rw [← HA.out] at hxl
        clear hx
        have hc0 := hco 0 (by decide)
        have hc1 := hco 1 (by decide)
        have hc2 := hco 2 (by decide)
        have hc3 := hco 3 (by decide)
        have hc4 := hco 4 (by decide)
        have hc5 := hco 5 (by decide)
        have hc6 := hco 6 (by decide)
        have hc7 := hco 7 (by decide)
        simp [SysV.cells, SlV.v] at hc0 hc1 hc2 hc3 hc4 hc5 hc6 hc7
        clear hco
        unfold SlV.v at hxr
        rw [hxn] at hc7 hxr
        have HXR := Lib.hid hxr; clear hxr hxn
        have HXL := Lib.hid hxl; clear hxl
        have hblt := HBr.out.lt
        have cb := HBr.out.cell 0
        simp at cb
        obtain ⟨bi, hbi⟩ : ∃ bi, wr.heap.size = bi := ⟨_, rfl⟩
        have hne : bl ≠ bi := by omega
        have hnb : bl ≠ bi + 1 := by omega
        obtain ⟨ab, hab⟩ : ∃ ab, x.aft.any (badAt l.length k) = ab := ⟨_, rfl⟩
        have HAB := Lib.hid hab; clear hab
        go_wp2_with fail
        refine (contains_int _ x.aft _ S k l.length (some ⟨bo, oo, none⟩) c bl bi (HXR.out.keep ?kw (fun _ _ f => f)) ?c1 ?c2).mono ?_
        case kw => (repeat (first | exact Keep.refl _ _ | apply Keep.drew | apply Keep.drewN | apply Keep.alloc))
        case c1 => exact (((HBr.out.alloc _).alloc _).cell 0).trans rfl
        case c2 => exact (((hbi ▸ Blk.new wr #[.int .i64 (k : Int)] 3 : Blk (wr.alloc (.cells #[.int .i64 (k : Int)] 3)) bi #[.int .i64 (k : Int)] 3).alloc _).cell 0).trans rfl
        rw [HAB.out]
        rintro e w5 ⟨rfl, rfl⟩
        cases ab
        · go_wp2_with fail
          go_roundg (l.length - (k + 1))
          case measure => have := HGK.out; have := HAL.out; omega
          case rel =>
            refine ⟨k + 1, by have := HGK.out; have := HAL.out; omega, by go_num, fun j hj => ?_, (HQ.out.alloc _).alloc _⟩
            by_cases e : j = k
            · subst e
              rw [HXL.out, HAL.out]
              exact HAB.out
            · exact HALL.out j (by omega)
        · have e : chk A = 1 := by
            unfold chk
            rw [if_neg (by rw [HAL.out]; omega), if_pos (badSys_of (k := k) (by rw [HAL.out]; exact hlt) (by rw [HXL.out, HAL.out]; exact HAB.out))]
          have HE := Lib.hid e; clear e
          go_wp2_with fail
          go_ret
          exact ⟨by rw [HE.out]; rfl, (HW.out.alloc _).alloc _⟩
      · obtain rfl : k = l.length := by omega
        have hno : badSys A = false := badSys_no (fun j hj => HALL.out j (by have := HAL.out; omega))
        have hblt := HBr.out.lt
        have cb := HBr.out.cell 0
        simp at cb
        obtain ⟨N, hN⟩ : ∃ N, (ord A).length = N := ⟨_, rfl⟩
        have hNl : N ≤ l.length := by rw [← hN, ← HAL.out]; exact (ord_row A).le
        have e : chk A = if N < l.length then 20 else 0 := by
          unfold chk
          rw [if_neg (by rw [HAL.out]; omega), hno, hN, HAL.out]
          simp
        have HE := Lib.hid e; clear e
        have HNO := Lib.hid hno; clear hno
        have HNN := Lib.hid hN; clear hN
        go_wp2_with fail
        go_region_held3 (fun w' => w'.cell? ⟨bl, 0, none⟩ = some (.slice a l.length c)) (go_keep) (first
          | (go_at_call 58; refine (deps_order _ l _ S (H.out.keep0 HW.out.drew) (HA.out ▸ HNO.out) hl64).mono ?_; rintro e w5 ⟨ao, no, co, rfl, hoo, hko⟩; have cb5 := hko.cell (p := ⟨bl, 0, none⟩) cb (fun f => f); have HOO := Lib.hid hoo.len; have HKO := Lib.hid hko; clear hoo hko))
        have hnoN : no = N := by
          have := HOO.out
          rw [ints_len, nats_len, ← HA.out, HNN.out] at this
          omega
        subst hnoN
        by_cases hlt2 : no < l.length
        · have hlt2' : (no : Int) < l.length := by omega
          have HP2 := Lib.hid hlt2
          go_wp2_with fail
          go_ret
          exact ⟨by rw [HE.out, if_pos HP2.out]; rfl, (HW.out.drew).trans HKO.out (fun _ f => f.elim)⟩
        · have hlt2' : decide ((no : Int) < l.length) = false := decide_eq_false (by omega)
          have hlt2'' : decide (no < l.length) = false := decide_eq_false (by omega)
          have HP2 := Lib.hid hlt2
          go_wp2_with fail
          go_ret
          exact ⟨by rw [HE.out, if_neg HP2.out]; rfl, (HW.out.drew).trans HKO.out (fun _ f => f.elim)⟩
end Go.Proofs.Ytbigknmeooaidaa
