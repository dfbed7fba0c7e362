/-
  The document's handles: May, Delete; The document's handles: take, Create, Raise; The document's handles stand as the program's: the plain side; The document's handles: take when none is free; Create, Raise; In; The document's handles: Create, Raise.
-/
import Derived.Test.YtkiikblpgppmkaaGreatDoorTlM27
import Derived.Test.YtkiikblpgppmkaaGreatDoorTlM19
import Derived.Test.YtkiikblpgppmkaaGreatDoorTlM02
import Derived.Test.YtkiikblpgppmkaaGreatDoorTlM22
namespace Go.Proofs.YtkiikblpgppmkaaGreatDoor
open Go Go.RowKit
set_option linter.unusedVariables false
set_option linter.unusedSimpArgs false

theorem A5S.st_cases (x : A5S) (i g : Int) : x.st i g = 0 ∨ x.st i g = 1 ∨ x.st i g = 2 := by
  unfold A5S.st
  split
  · split
    · rename_i h
      rcases h with h | h
      · exact .inr (.inl h)
      · exact .inr (.inr h)
    · exact .inl rfl
  · exact .inl rfl
set_option maxRecDepth 100000 in
set_option maxHeartbeats 1000000 in
theorem a5_may {w0 w : World} {R : List Asr} {b : Nat} {x : A5S} {q : A5B} (H : St w0 w (a5L b x q ++ R)) (hx : x.Ok) (i g : Int) :
    Calls Tryz.prog 105 #[ptr b, hdV i g] w (Ret w (.int .i64 (liveE (x.st i g : Nat)))) := by
  have hk1 := (show Keep w (w.alloc (.cells #[.int .i64 i, .int .i64 g] 45)) Nope from (Keep.refl w Nope).alloc _)
  have HO := Lib.hid (a5_of (H.keep hk1) hx i g)
  have HC := Lib.hid (x.st_cases i g)
  obtain ⟨s, hs⟩ : ∃ s, x.st i g = s := ⟨_, rfl⟩
  rw [hs] at HO HC ⊢
  have HK1 := Lib.hid hk1
  clear H hx hk1 hs
  unfold ptr hdV at *
  rcases HC.out with rfl | rfl | rfl <;> (
    go_enter Tryz.func105, Tryz.ntmps105
    go_wp2_with (go_at_call 156; refine HO.out.mono ?_; rintro e w1 ⟨rfl, hk2⟩; have HK2 := Lib.hid (HK1.out.trans hk2 (fun _ f => f.elim)); clear hk2 HO)
    go_ret
    exact ⟨rfl, HK2.out⟩)
def A5S.took (x : A5S) (k : Nat) : A5S := ⟨x.n, x.top, x.gs, x.ss.set k (if x.gs.getD k 0 = x.top then 9 else 0)⟩
theorem intsN_set (l : List Nat) (k m : Nat) : (intsN l).set k (.int .i64 (m : Int)) = intsN (l.set k m) := by simp [intsN, List.map_set]
theorem A5S.st_live {x : A5S} {i g : Int} (h : x.st i g = 1) : ∃ k : Nat, i = k ∧ k < x.ss.length ∧ ((x.gs.getD k 0 : Nat) : Int) = g ∧ x.ss.getD k 0 = 1 := by
  unfold A5S.st at h
  split at h
  · rename_i h1
    obtain ⟨k, rfl⟩ : ∃ k : Nat, i = k := ⟨i.toNat, by omega⟩
    simp only [Int.toNat_natCast] at h1 h
    split at h
    · exact ⟨k, rfl, by omega, h1.2.2, h⟩
    · cases h
  · cases h
set_option maxRecDepth 100000 in
set_option maxHeartbeats 2000000 in
theorem a5_delete {w0 w : World} {R : List Asr} {b : Nat} {x : A5S} {q : A5B} (H : St w0 w (a5L b x q ++ R)) (hx : x.Ok) (k : Nat) (g : Int) (hs : x.st k g = 1) :
    Calls Tryz.prog 107 #[ptr b, hdV k g] w (fun e w' => e = .returned (.int .i64 0) ∧ St w0 w' (a5L b (x.took k) q ++ R)) := by
  obtain ⟨k', ek, hkl, hgk, _⟩ := A5S.st_live hs
  obtain rfl : k' = k := by omega
  obtain ⟨ga, gc, sa, sc⟩ := q
  have hn64 := hx.n
  have hle := hx.le
  have hb := H.box0 #[.int .i64 (k' : Nat), .int .i64 g] 45
  have hm := a5_may (St.rot1 hb) hx (k' : Nat) g
  rw [hs] at hm
  have HM := Lib.hid (show Calls Tryz.prog 105 #[ptr b, hdV (k' : Nat) g] _ (Ret _ (.int .i64 0)) from hm)
  have HB := Lib.hid hb
  have HG := Lib.hid hgk
  obtain ⟨n, hn⟩ : ∃ n, x.ss.length = n := ⟨_, rfl⟩
  obtain ⟨m, hgl⟩ : ∃ m, x.gs.length = m := ⟨_, rfl⟩
  have HN := Lib.hid hn
  have HGL := Lib.hid hgl
  have HX := Lib.hid hkl
  rw [hn] at hkl hle
  have e0 : decide (n ≤ k') = false := decide_eq_false (by omega)
  clear H hx hs hb hm hgk hn hgl
  unfold ptr hdV at *
  go_enter Tryz.func107, Tryz.ntmps107
  go_upto_region 4 with (go_at_call 105; refine HM.out.mono ?_; rintro e w1 ⟨rfl, hk1⟩; have HB1 := Lib.hid (HB.out.keep hk1); clear hk1 HM HB)
  obtain ⟨x0, x1, _, _⟩ := (HB1.out.blk 0 rfl).two
  have c3 : w1.cell? ⟨b, 3, none⟩ = some (.slice sa n sc) := by rw [← HN.out, (HB1.out.blk 1 rfl).cell]; rfl
  obtain ⟨gg, hga, hgl, hgf, hgc, hgs⟩ := HB1.out.store 3 (n := x.ss.length) (a := sa) (c := sc) (xs := intsN x.ss) rfl (by have := HX.out; omega)
  subst hga
  have ck := hgc k' (by have := HX.out; omega)
  have fk := hgf k'
  obtain ⟨u, hu⟩ : ∃ u, (intsN x.ss)[k']? = some u := ⟨_, List.getElem?_eq_getElem (by unfold intsN; rw [List.length_map]; exact HX.out)⟩
  rw [hu] at ck
  have HGS := Lib.hid hgs
  clear hgf hgc hgs hu
  refine wp_region_M (r := 6) (S := fun w' => w'.cell? ⟨b, 3, none⟩ = some (.slice (some ⟨gg, 0, none⟩) n sc) ∧ w'.cell? ⟨w.heap.size, 0, none⟩ = some (.int .i64 (k' : Nat))) (by kernel_rfl) ?_ (fun hHeld => ?_)
  · (try dsimp only); exact ⟨c3, x0⟩
  refine tkP 0 ?_; refine tkP 1 ?_; refine tkP 2 ?_; refine tkH 3 ?_; refine tkP 4 ?_; refine tkH 5 ?_; refine tkF 6 ?_
  intro K hK
  go_simp
  refine hK.out _ _ ?_
  clear hK K
  refine tkF 7 ?_
  intro K hK
  go_simp
  refine hK.out _ _ ?_
  clear hK K
  refine wpAnyM_done (by kernel_rfl) ?_ _
  clear hHeld
  have h5 := (HGS.out k' (.int .i64 0)).drew
  rw [show (Value.int .i64 0) = .int .i64 ((0 : Nat) : Int) from rfl, intsN_set] at h5
  obtain ⟨w5, hw5⟩ : ∃ w5, (w1.setCell ⟨gg, k', none⟩ (.int .i64 0)).drew = w5 := ⟨_, rfl⟩
  rw [show (Value.int .i64 ((0 : Nat) : Int)) = .int .i64 0 from rfl, hw5] at h5
  try rw [hw5]
  obtain ⟨ss, hss⟩ : ∃ ss, x.ss.set k' 0 = ss := ⟨_, rfl⟩
  have hsl : ss.length = n := by rw [← hss, List.length_set, HN.out]
  rw [hss] at h5
  have H5 := Lib.hid (show St w0 w5 (blkA w.heap.size #[.int .i64 (k' : Nat), .int .i64 g] 45 :: (a5L b ⟨x.n, x.top, x.gs, ss⟩ ⟨ga, gc, some ⟨gg, 0, none⟩, sc⟩ ++ R)) by
    unfold a5L at h5
    rw [HN.out] at h5
    unfold a5L
    simp only [hsl]
    exact h5)
  have HSS := Lib.hid hss
  have HSL := Lib.hid hsl
  clear h5 hw5 hss hsl HB1 HGS c3 fk ck x0 x1 hgl
  obtain ⟨x0, x1, _, _⟩ := (H5.out.blk 0 rfl).two
  have c1 : w5.cell? ⟨b, 1, none⟩ = some (.int .i64 (x.top : Nat)) := by rw [(H5.out.blk 1 rfl).cell]; rfl
  have c3 : w5.cell? ⟨b, 3, none⟩ = some (.slice (some ⟨gg, 0, none⟩) n sc) := by rw [← HSL.out, (H5.out.blk 1 rfl).cell]; rfl
  go_upto_region 5 with fail
  by_cases ht : g = (x.top : Nat)
  · have e1 : ((g : Int) == ((x.top : Nat) : Int)) = true := by simp [ht]
    have HTk := Lib.hid (show x.took k' = ⟨x.n, x.top, x.gs, ss.set k' 9⟩ by
      unfold A5S.took
      rw [if_pos (by have := HG.out; omega), ← HSS.out, List.set_set])
    clear ht
    go_quiet (fail)
    go_upto_region 6 with fail
    have h6 := H5.out.drewN nq
    obtain ⟨w6, hw6⟩ : ∃ w6, w5.drewN nq = w6 := ⟨_, rfl⟩
    rw [hw6] at h6
    try rw [hw6]
    clear hw6 c1 c3 x0 x1 H5
    obtain ⟨x0, x1, _, _⟩ := (h6.blk 0 rfl).two
    have c3 : w6.cell? ⟨b, 3, none⟩ = some (.slice (some ⟨gg, 0, none⟩) n sc) := by rw [← HSL.out, (h6.blk 1 rfl).cell]; rfl
    obtain ⟨g2, he2, hgl, hgf, hgc, hgs⟩ := h6.store 3 (n := ss.length) (a := some ⟨gg, 0, none⟩) (c := sc) (xs := intsN ss) rfl (by have := HSL.out; omega)
    injection he2 with he2
    injection he2 with he2
    subst he2
    have ck := hgc k' (by have := HSL.out; omega)
    have fk := hgf k'
    obtain ⟨u2, hu2⟩ : ∃ u, (intsN ss)[k']? = some u := ⟨_, List.getElem?_eq_getElem (by unfold intsN; rw [List.length_map, HSL.out]; omega)⟩
    rw [hu2] at ck
    have HGS2 := Lib.hid hgs
    clear hgf hgc hgs hu2 h6
    refine wp_region_M (r := 6) (S := fun w' => w'.cell? ⟨b, 3, none⟩ = some (.slice (some ⟨gg, 0, none⟩) n sc) ∧ w'.cell? ⟨w.heap.size, 0, none⟩ = some (.int .i64 (k' : Nat))) (by kernel_rfl) ?_ (fun hHeld => ?_)
    · (try dsimp only); exact ⟨c3, x0⟩
    refine tkP 0 ?_; refine tkP 1 ?_; refine tkP 2 ?_; refine tkH 3 ?_; refine tkP 4 ?_; refine tkH 5 ?_; refine tkF 6 ?_
    intro K hK
    go_simp
    refine hK.out _ _ ?_
    clear hK K
    refine tkF 7 ?_
    intro K hK
    go_simp
    refine hK.out _ _ ?_
    clear hK K
    refine wpAnyM_done (by kernel_rfl) ?_ _
    clear hHeld
    go_wp2_with fail
    go_ret
    refine ⟨rfl, ?_⟩
    rw [HTk.out]
    have h7 := (HGS2.out k' (.int .i64 9)).drew
    rw [show (Value.int .i64 9) = .int .i64 ((9 : Nat) : Int) from rfl, intsN_set] at h7
    have hl : (ss.set k' 9).length = n := by rw [List.length_set, HSL.out]
    unfold a5L at h7 ⊢
    rw [HSL.out] at h7
    simp only [hl]
    exact h7.rest
  · have e1 : ((g : Int) == ((x.top : Nat) : Int)) = false := by simp [ht]
    have HTk := Lib.hid (show x.took k' = ⟨x.n, x.top, x.gs, ss⟩ by
      unfold A5S.took
      rw [if_neg (by have := HG.out; omega), ← HSS.out])
    clear ht
    go_quiet (fail)
    go_wp2_with fail
    go_ret
    refine ⟨rfl, ?_⟩
    rw [HTk.out]
    exact (H5.out.drewN _).rest
end Go.Proofs.YtkiikblpgppmkaaGreatDoor

namespace Go.Proofs.YtkiikblpgppmkaaGreatDoor
open Go Go.RowKit
set_option linter.unusedVariables false
set_option linter.unusedSimpArgs false

theorem sl5i : SlTy Tryz.prog 22 3 1 8 := SlTy.mk' (.int .i64 0) Tryz.underlying22 (by kernel_rfl) rfl (by decide)
theorem sl5l : SlTy Tryz.prog 25 2 1 8 := SlTy.mk' (.int .i64 0) Tryz.underlying25 (by kernel_rfl) rfl (by decide)
def A5S.room (x : A5S) (k : Nat) : A5S := if k < x.ss.length then x else ⟨x.n, x.top, x.gs ++ [0], x.ss ++ [0]⟩
def A5S.set (y : A5S) (k s : Nat) : A5S := ⟨y.n, y.top, y.gs.set k (y.gs.getD k 0 + 1), y.ss.set k s⟩
/-- The least place that is free. -/
structure A5S.At (x : A5S) (k : Nat) : Prop where
  full : ∀ j, j < k → x.ss.getD j 0 ≠ 0
  le : k ≤ x.ss.length
  n : k < x.n
  free : k < x.ss.length → x.ss.getD k 0 = 0
theorem intsN_app (l : List Nat) (k : Nat) : intsN l ++ [.int .i64 (k : Nat)] = intsN (l ++ [k]) := by simp [intsN]
theorem getD_some {l : List Nat} {k d : Nat} (h : k < l.length) : l[k]? = some (l.getD k d) := by
  rw [List.getD_eq_getElem?_getD, List.getElem?_eq_getElem h]
  rfl
theorem A5S.At.roomed {x : A5S} {k : Nat} (h : x.At k) (hx : x.Ok) : (x.room k).gs.length = (x.room k).ss.length ∧ k < (x.room k).ss.length ∧ (x.room k).ss.getD k 0 = 0 ∧ (x.room k).gs.getD k 0 = x.gs.getD k 0 ∧ (x.room k).ss.length ≤ x.n := by
  have h1 := hx.same
  have h2 := hx.le
  have h3 := h.le
  have h4 := h.n
  unfold A5S.room
  split
  · rename_i h5
    exact ⟨h1, h5, h.free h5, rfl, h2⟩
  · rename_i h5
    have e : k = x.ss.length := by omega
    refine ⟨by simp [h1], by simp; omega, ?_, ?_, by simp; omega⟩
    · simp only [List.getD_eq_getElem?_getD]
      rw [List.getElem?_append_right (by omega), show k - x.ss.length = 0 by omega]
      rfl
    · simp only [List.getD_eq_getElem?_getD]
      rw [List.getElem?_append_right (by omega), List.getElem?_eq_none (l := x.gs) (by omega), show k - x.gs.length = 0 by omega]
      rfl
def Loop5T (w : World) (k : Nat) (g : Nat) (v6 v7 : Value) (wr : World) : Prop := ∃ (j : Nat) (u : Bool), g + j = k ∧ v6 = .bool u ∧ v7 = .int .i64 (j : Nat) ∧ wr = w
def Cut5T (w0 : World) (R : List Asr) (b rb : Nat) (y : A5S) (wc : World) : Prop := ∃ q, St w0 wc (blkA rb #[.int .i64 0, .int .i64 0] 45 :: (a5L b y q ++ R))
set_option maxRecDepth 100000 in
set_option maxHeartbeats 4000000 in
theorem a5_take {w0 w : World} {R : List Asr} {b : Nat} {x : A5S} {q : A5B} (H : St w0 w (a5L b x q ++ R)) (hx : x.Ok) (k s : Nat) (hk : x.At k) (hg : x.gs.getD k 0 ≤ 4294967296) :
    Calls Tryz.prog 104 #[ptr b, .int .i64 (s : Nat)] w (fun e w' => e = .returned (.tuple #[hdV k ((x.gs.getD k 0 + 1 : Nat) : Int), .int .i64 0]) ∧ ∃ q', St w0 w' (a5L b ((x.room k).set k s) q' ++ R)) := by
  obtain ⟨ga, gc, sa, sc⟩ := q
  have HB := H.box0 #[.int .i64 0, .int .i64 0] 45
  obtain ⟨wa, hwa⟩ : ∃ wa, w.alloc (.cells #[.int .i64 0, .int .i64 0] 45) = wa := ⟨_, rfl⟩
  obtain ⟨rb, hrb⟩ : ∃ rb, w.heap.size = rb := ⟨_, rfl⟩
  rw [hwa, hrb] at HB
  have hn64 := hx.n
  have hle := hx.le
  have hkn := hk.n
  have hkl := hk.le
  have HX := Lib.hid hx
  have HK := Lib.hid hk
  obtain ⟨gv, hgv⟩ : ∃ gv, x.gs.getD k 0 = gv := ⟨_, rfl⟩
  rw [hgv] at hg ⊢
  obtain ⟨gz, hgz⟩ : ∃ z : Int, ((gv + 1 : Nat) : Int) = z := ⟨_, rfl⟩
  rw [hgz]
  have HG := Lib.hid hg
  have HGV := Lib.hid hgv
  have HGZ := Lib.hid hgz
  obtain ⟨m, hm⟩ : ∃ m, x.ss.length = m := ⟨_, rfl⟩
  obtain ⟨n, hn⟩ : ∃ n, x.n = n := ⟨_, rfl⟩
  have hgm : x.gs.length = m := hx.same.trans hm
  have HM := Lib.hid hm
  have HGM := Lib.hid hgm
  have HN := Lib.hid hn
  have c0 : wa.cell? ⟨b, 0, none⟩ = some (.int .i64 (n : Nat)) := by rw [← hn, (HB.blk 1 rfl).cell]; rfl
  have c3 : wa.cell? ⟨b, 3, none⟩ = some (.slice sa m sc) := by rw [← hm, (HB.blk 1 rfl).cell]; rfl
  have HBH := Lib.hid HB
  rw [hm] at hle hkl
  rw [hn] at hn64 hle hkn
  clear H HB hx hk hg hm hn hgm hgv hgz
  unfold ptr hdV
  go_enter Tryz.func104, Tryz.ntmps104
  go_wp2_with fail
  try rw [hwa]
  try rw [hrb]
  clear hwa hrb
  go_loopg [6, 7] k (fun g v6 v7 wr => Loop5T wa k g v6 v7 wr)
  case atStart => exact ⟨0, false, by omega, rfl, rfl, rfl⟩
  case round =>
    obtain ⟨j, u, hgj, rfl, rfl, rfl⟩ := hrel
    have HGJ := Lib.hid hgj
    have e0 : decide ((j : Int) < (n : Int)) = true := decide_eq_true (by omega)
    by_cases hjk : j < k
    · obtain ⟨sj, hsj⟩ : ∃ sj, x.ss.getD j 0 = sj := ⟨_, rfl⟩
      have hs0 : sj ≠ 0 := by rw [← hsj]; exact HK.out.full j hjk
      have hjm : j < x.ss.length := by rw [HM.out]; omega
      have hsome : x.ss[j]? = some sj := by rw [getD_some (d := 0) hjm, hsj]
      obtain ⟨G2, _, hr2, _⟩ := HBH.out.rd 3 (e := 3) (size := 1) (n := x.ss.length) (v := .slice sa x.ss.length sc) (xs := intsN x.ss) rfl
      obtain ⟨a2, k2, hv2, _, _, _, hc2⟩ := hr2
      obtain ⟨g2, o2, he2, _, x2⟩ := hc2 j _ (intsN_get hsome)
      injection hv2 with ea2 _ _
      subst ea2
      subst he2
      have e1 : ((j : Int) == (m : Int)) = false := by simp; omega
      have e2 : ((sj : Int) == 0) = false := by simp; omega
      have e3 : decide (m ≤ j) = false := decide_eq_false (by omega)
      obtain ⟨t, ht⟩ : ∃ t, ((sj : Int) != 9) = t := ⟨_, rfl⟩
      have HJK := Lib.hid hjk
      clear hc2 hsome hsj hs0 hjm hgj
      cases u <;> (
        go_wp2_with fail
        go_roundg (k - (j + 1))
        case measure => have := HGJ.out; have := HJK.out; omega
        case rel => exact ⟨j + 1, _, by have := HGJ.out; have := HJK.out; omega, rfl, by go_num, rfl⟩)
    · obtain rfl : j = k := by omega
      go_upto_if 22 with fail
      go_cut [] (fun wc => Cut5T w0 R b rb (x.room j) wc)
      case first =>
        by_cases hjm : j < m
        · have e1 : ((j : Int) == (m : Int)) = false := by simp; omega
          go_wp2_with fail
          go_meet
          case rel =>
            refine ⟨⟨ga, gc, sa, sc⟩, ?_⟩
            unfold A5S.room
            rw [if_pos (by rw [HM.out]; exact hjm)]
            exact HBH.out
        · obtain rfl : j = m := by omega
          have e1 : ((j : Int) == (j : Int)) = true := by simp
          obtain ⟨G, hown, _, hup, _⟩ := HBH.out.opens 3 rfl
          have HOwn := Lib.hid (show Own G wr 3 1 (.slice sa j sc) j (intsN x.ss) from HM.out ▸ hown)
          have HUP := Lib.hid hup
          clear hown hup
          go_upto_region 7 with (at_builtin; go_loud (refine wpList_app (P := Tryz.prog) sl5i rfl _ _ rfl (S := G) (S2 := fun z => z = wr.heap.size) (n := j) (xs := intsN x.ss) (m := 1) (news := [.int .i64 0]) rfl rfl ?_ (Own.lit (S := fun z => z = wr.heap.size) wr 3 1 1 #[.int .i64 0] (by decide) rfl rfl).rd rfl (by intro u hu; simp at hu; rw [hu]; rfl) (by omega) (by unfold maxLen; omega) ?_; (· exact HOwn.out.keep (T := Nope) ((Keep.refl wr Nope).alloc _) (fun _ _ f => f)); rintro a' k' c' w5 happ; obtain ⟨z1, z2⟩ := app_up (wr := wr) ((Keep.refl wr Nope).alloc _) happ; obtain rfl := happ.num; have h5 := HUP.out w5 _ z1 z2; have H5 := Lib.hid h5; clear happ z1 z2 h5; have y0 := (H5.out.blk 1 rfl).cell 3; have y3 := (H5.out.blk 1 rfl).frozen 3; simp [HM.out] at y0))
          have h6 := H5.out.write 1 rfl 3 (.slice a' (j + 1) c')
          obtain ⟨w6, hw6⟩ : ∃ w6, w5.setCell ⟨b, 3, none⟩ (.slice a' (j + 1) c') = w6 := ⟨_, rfl⟩
          rw [hw6] at h6
          try rw [hw6]
          clear hw6 c0 c3 y0 y3 H5 HOwn HUP
          have c2 : w6.cell? ⟨b, 2, none⟩ = some (.slice ga j gc) := by rw [← HGM.out, (h6.blk 1 rfl).cell]; rfl
          obtain ⟨G2, hown, _, hup, _⟩ := h6.opens 2 rfl
          have HOwn := Lib.hid (show Own G2 w6 2 1 (.slice ga j gc) j (intsN x.gs) from HGM.out ▸ hown)
          have HUP := Lib.hid hup
          clear hown hup h6
          go_wp2_with (at_builtin; go_loud (refine wpList_app (P := Tryz.prog) sl5l rfl _ _ rfl (S := G2) (S2 := fun z => z = w6.heap.size) (n := j) (xs := intsN x.gs) (m := 1) (news := [.int .i64 0]) rfl rfl ?_ (Own.lit (S := fun z => z = w6.heap.size) w6 2 1 1 #[.int .i64 0] (by decide) rfl rfl).rd rfl (by intro u hu; simp at hu; rw [hu]; rfl) (by omega) (by unfold maxLen; omega) ?_; (· exact HOwn.out.keep (T := Nope) ((Keep.refl w6 Nope).alloc _) (fun _ _ f => f)); rintro a2 k2 c2' w7 happ; obtain ⟨z1, z2⟩ := app_up (wr := w6) ((Keep.refl w6 Nope).alloc _) happ; obtain rfl := happ.num; have h7 := HUP.out w7 _ z1 z2; have H7 := Lib.hid h7; clear happ z1 z2 h7 c2; have y0 := (H7.out.blk 1 rfl).cell 2; have y3 := (H7.out.blk 1 rfl).frozen 2; simp [HGM.out] at y0))
          have h8 := H7.out.write 1 rfl 2 (.slice a2 (j + 1) c2')
          go_meet
          case rel =>
            refine ⟨⟨a2, c2', a', c'⟩, ?_⟩
            unfold A5S.room
            rw [if_neg (by rw [HM.out]; omega)]
            unfold a5L
            simp only [List.length_append, List.length_cons, List.length_nil, HM.out, HGM.out, ← intsN_app]
            exact h8
      case rest =>
        obtain ⟨⟨ga2, gc2, sa2, sc2⟩, h2⟩ := hcut
        clear c0 c3 HBH HGJ hgj hjk hle hkl HM HGM
        obtain ⟨r1, r2, r3, r4, r5⟩ := HK.out.roomed HX.out
        obtain ⟨y, hy⟩ : ∃ y, x.room j = y := ⟨_, rfl⟩
        rw [hy] at h2 r1 r2 r3 r4 r5
        obtain ⟨M, hM⟩ : ∃ M, y.ss.length = M := ⟨_, rfl⟩
        rw [hM] at r1 r2 r5
        have hgb := HG.out
        rw [HGV.out] at r4
        rw [HN.out] at r5
        have HM := Lib.hid hM
        have HR1 := Lib.hid r1
        have HR3 := Lib.hid r3
        have HR4 := Lib.hid r4
        have HY := Lib.hid hy
        have H2 := Lib.hid h2
        have c3 : wc.cell? ⟨b, 3, none⟩ = some (.slice sa2 M sc2) := by rw [← hM, (h2.blk 1 rfl).cell]; rfl
        obtain ⟨gg, hga, hgl, hgf, hgc, hgs⟩ := h2.store 3 (n := y.ss.length) (a := sa2) (c := sc2) (xs := intsN y.ss) rfl (by omega)
        subst hga
        have ck := hgc j (by omega)
        have fk := hgf j
        rw [intsN_get (k := 0) (by rw [getD_some (d := 0) (by omega), r3])] at ck
        have HGS := Lib.hid (hgs j (.int .i64 (s : Nat)))
        have e0 : decide (M ≤ j) = false := decide_eq_false (by omega)
        clear hgs hgc hgf h2 hM hy r3 HG
        go_upto_region 10 with fail
        have h3 := HGS.out
        rw [intsN_set] at h3
        obtain ⟨w3, hw3⟩ : ∃ w3, wc.setCell ⟨gg, j, none⟩ (.int .i64 (s : Nat)) = w3 := ⟨_, rfl⟩
        rw [hw3] at h3
        try rw [hw3]
        obtain ⟨ss, hss⟩ : ∃ ss, y.ss.set j s = ss := ⟨_, rfl⟩
        have hsl : ss.length = M := by rw [← hss, List.length_set, HM.out]
        rw [hss] at h3
        have H3 := Lib.hid (show St w0 w3 (blkA rb #[.int .i64 0, .int .i64 0] 45 :: (a5L b ⟨y.n, y.top, y.gs, ss⟩ ⟨ga2, gc2, some ⟨gg, 0, none⟩, sc2⟩ ++ R)) by
          unfold a5L at h3
          rw [HM.out] at h3
          unfold a5L
          simp only [hsl]
          exact h3)
        have HSS := Lib.hid hss
        have HSL := Lib.hid hsl
        clear h3 hw3 hss hsl HGS H2 c3 ck fk hgl
        have c2 : w3.cell? ⟨b, 2, none⟩ = some (.slice ga2 M gc2) := by rw [← HR1.out, (H3.out.blk 1 rfl).cell]; rfl
        obtain ⟨g2, hga, hgl, hgf, hgc, hgs⟩ := H3.out.store 2 (n := y.gs.length) (a := ga2) (c := gc2) (xs := intsN y.gs) rfl (by have := HR1.out; omega)
        subst hga
        have ck := hgc j (by have := HR1.out; omega)
        have fk := hgf j
        rw [intsN_get (k := gv) (by rw [getD_some (d := 0) (by have := HR1.out; omega), HR4.out])] at ck
        have HGS := Lib.hid (hgs j (.int .i64 ((gv + 1 : Nat) : Int)))
        have e1 : ((gv : Nat) : Int) + 1 = ((gv + 1 : Nat) : Int) := by omega
        have enw : IntKind.i64.wrap ((gv + 1 : Nat) : Int) = ((gv + 1 : Nat) : Int) := IntWalk.i64_in _ (by omega)
        rw [HGZ.out] at e1 enw HGS
        clear hgs hgc hgf
        go_upto_region 11 with fail
        have h4 := HGS.out
        rw [← HGZ.out, intsN_set] at h4
        obtain ⟨w4, hw4⟩ : ∃ w4, w3.setCell ⟨g2, j, none⟩ (.int .i64 ((gv + 1 : Nat) : Int)) = w4 := ⟨_, rfl⟩
        rw [hw4] at h4
        rw [← HGZ.out]
        try rw [hw4]
        obtain ⟨gs, hss⟩ : ∃ gs, y.gs.set j (gv + 1) = gs := ⟨_, rfl⟩
        have hsl : gs.length = M := by rw [← hss, List.length_set, HR1.out]
        rw [hss] at h4
        have H4 := Lib.hid (show St w0 w4 (blkA rb #[.int .i64 0, .int .i64 0] 45 :: (a5L b ⟨y.n, y.top, gs, ss⟩ ⟨some ⟨g2, 0, none⟩, gc2, some ⟨gg, 0, none⟩, sc2⟩ ++ R)) by
          unfold a5L at h4
          rw [HR1.out] at h4
          unfold a5L
          simp only [hsl]
          exact h4)
        have HG2 := Lib.hid hss
        have HG3 := Lib.hid hsl
        clear h4 hw4 hss hsl HGS H3 c2 ck fk hgl enw e1
        have c2 : w4.cell? ⟨b, 2, none⟩ = some (.slice (some ⟨g2, 0, none⟩) M gc2) := by rw [← HG3.out, (H4.out.blk 1 rfl).cell]; rfl
        obtain ⟨z0, z1, y0, y1⟩ := (H4.out.blk 0 rfl).two
        obtain ⟨g3, he3, _, _, hgc, _⟩ := H4.out.store 2 (n := gs.length) (a := some ⟨g2, 0, none⟩) (c := gc2) (xs := intsN gs) rfl (by have := HG3.out; omega)
        injection he3 with he3
        injection he3 with he3
        subst he3
        have ck := hgc j (by have := HG3.out; omega)
        rw [intsN_get (k := gv + 1) (by rw [← HG2.out, List.getElem?_set_self (by have := HR1.out; omega)]), HGZ.out] at ck
        clear hgc
        try rw [HGZ.out]
        go_wp2_with fail
        have h5 := (H4.out.write 0 rfl 0 (.int .i64 (j : Nat))).write 0 rfl 1 (.int .i64 gz)
        obtain ⟨w5, hw5⟩ : ∃ w5, (w4.setCell ⟨rb, 0, none⟩ (.int .i64 (j : Nat))).setCell ⟨rb, 1, none⟩ (.int .i64 gz) = w5 := ⟨_, rfl⟩
        rw [hw5] at h5
        try rw [hw5]
        obtain ⟨q0, q1, _, _⟩ := (h5.blk 0 rfl).two
        rw [HY.out]
        refine bodyPost_ret (v := .tuple #[.agg #[.int .i64 (j : Nat), .int .i64 gz], .int .i64 0]) (by simp [results, Tryz.results104, go_sem, q0, q1]) rfl ⟨rfl, ⟨some ⟨g2, 0, none⟩, gc2, some ⟨gg, 0, none⟩, sc2⟩, ?_⟩
        unfold A5S.set
        rw [HR4.out, HG2.out, HSS.out]
        exact h5.rest
end Go.Proofs.YtkiikblpgppmkaaGreatDoor

namespace Go.Proofs.YtkiikblpgppmkaaGreatDoor
open Go Go.RowKit
set_option linter.unusedVariables false
set_option linter.unusedSimpArgs false

/-- The state of an index, in the document's numbers. -/
def AlS.stD (a : AlS) (k : Nat) : Nat := if a.live.testBit k then 1 else if a.raised.testBit k then 2 else if a.free.testBit k then 0 else 9
/-- The document's handles; L indexes are known. -/
def AlS.d5 (a : AlS) (L : Nat) : A5S := ⟨a.gens.length, a.top, a.gens.take L, (List.range L).map a.stD⟩
structure A5Rel (a : AlS) (L : Nat) : Prop where
  ok : a.Ok
  le : L ≤ a.gens.length
  fr : ∀ k, L ≤ k → k < a.gens.length → a.free.testBit k = true ∧ a.gen k = 0
  bl : ∀ k, L ≤ k → a.live.testBit k = false
  br : ∀ k, L ≤ k → a.raised.testBit k = false
  fl : ∀ k, a.free.testBit k = true → a.live.testBit k = false
  fd : ∀ k, a.free.testBit k = true → a.raised.testBit k = false
  lr : ∀ k, a.live.testBit k = true → a.raised.testBit k = false
theorem d5_ss (a : AlS) {L k : Nat} (h : k < L) : (a.d5 L).ss.getD k 0 = a.stD k := by
  unfold AlS.d5
  simp only [List.getD_eq_getElem?_getD]
  rw [List.getElem?_map, List.getElem?_range h]
  rfl
theorem d5_gs (a : AlS) {L k : Nat} (h : k < L) : (a.d5 L).gs.getD k 0 = a.gen k := by
  unfold AlS.d5 AlS.gen
  simp only [List.getD_eq_getElem?_getD]
  rw [List.getElem?_take_of_lt h]
theorem d5_len (a : AlS) (L : Nat) : (a.d5 L).ss.length = L := by simp [AlS.d5]
theorem A5Rel.glen {a : AlS} {L : Nat} (h : A5Rel a L) : (a.d5 L).gs.length = L := by
  have := h.le
  simp [AlS.d5]
  omega
theorem A5Rel.okD {a : AlS} {L : Nat} (h : A5Rel a L) : (a.d5 L).Ok := ⟨by rw [h.glen, d5_len], by rw [d5_len]; exact h.le, h.ok.len⟩
theorem A5Rel.gk {a : AlS} {L k : Nat} (h : A5Rel a L) (hk : k < a.gens.length) : (a.d5 L).gs.getD k 0 = a.gen k := by
  by_cases e : k < L
  · exact d5_gs a e
  · rw [(h.fr k (by omega) hk).2, List.getD_eq_getElem?_getD, List.getElem?_eq_none (by rw [h.glen]; omega)]
    rfl
theorem A5Rel.st {a : AlS} {L : Nat} (h : A5Rel a L) (i g : Int) : (((a.d5 L).st i g : Nat) : Int) = a.st i g := by
  unfold A5S.st AlS.st
  rw [d5_len]
  have hle := h.le
  by_cases h1 : 0 ≤ i
  · obtain ⟨k, rfl⟩ : ∃ k : Nat, i = k := ⟨i.toNat, by omega⟩
    rw [Int.toNat_natCast]
    by_cases h2 : k < L
    · rw [d5_ss a h2, d5_gs a h2]
      by_cases h3 : ((a.gen k : Nat) : Int) = g
      · have p1 : 0 ≤ (k : Int) ∧ (k : Int) < (L : Int) ∧ ((a.gen k : Nat) : Int) = g := ⟨h1, by omega, h3⟩
        have p2 : 0 ≤ (k : Int) ∧ (k : Int) < (a.gens.length : Int) ∧ ((a.gen k : Nat) : Int) = g := ⟨h1, by omega, h3⟩
        rw [if_pos p1, if_pos p2]
        unfold AlS.stD
        cases a.live.testBit k <;> cases a.raised.testBit k <;> cases a.free.testBit k <;> rfl
      · rw [if_neg (fun e => h3 e.2.2), if_neg (fun e => h3 e.2.2)]
        rfl
    · rw [if_neg (fun e => h2 (by omega))]
      rw [h.bl k (by omega), h.br k (by omega)]
      simp
  · rw [if_neg (fun e => h1 e.1), if_neg (fun e => h1 e.1)]
    rfl
theorem A5Rel.at {a : AlS} {L k : Nat} (h : A5Rel a L) (hk : firstW a.free 0 = (k : Int)) : (a.d5 L).At k := by
  obtain ⟨_, h2, h3, h4⟩ := firstW_some hk
  have hkl := h.ok.free k h3
  have hle : k ≤ L := by
    apply Nat.le_of_not_lt
    intro hlt
    have h5 := (h.fr L (Nat.le_refl _) (by omega)).1
    rw [h4 L (Nat.zero_le _) hlt] at h5
    cases h5
  refine ⟨fun j hj => ?_, by rw [d5_len]; exact hle, hkl, fun hl => ?_⟩
  · rw [d5_ss a (by omega)]
    unfold AlS.stD
    rw [h4 j (Nat.zero_le _) hj]
    split
    · omega
    · split
      · omega
      · simp
  · rw [d5_len] at hl
    rw [d5_ss a hl]
    unfold AlS.stD
    rw [h.fl k h3, h.fd k h3, h3]
    rfl
theorem A5S.ext' {x y : A5S} (h1 : x.n = y.n) (h2 : x.top = y.top) (h3 : x.gs = y.gs) (h4 : x.ss = y.ss) : x = y := by
  cases x; cases y; simp at *; exact ⟨h1, h2, h3, h4⟩
theorem room_d5 {a : AlS} {L k : Nat} (h : A5Rel a L) (hk : firstW a.free 0 = (k : Int)) : (a.d5 L).room k = a.d5 (max L (k + 1)) := by
  have ha := h.at hk
  have h1 := ha.le
  have h2 := ha.n
  rw [d5_len] at h1
  have h2' : k < a.gens.length := h2
  unfold A5S.room
  rw [d5_len]
  split
  · rename_i e
    rw [Nat.max_eq_left (by omega)]
  · rename_i e
    obtain rfl : k = L := by omega
    rw [Nat.max_eq_right (by omega)]
    apply A5S.ext'
    · rfl
    · rfl
    · show a.gens.take k ++ [0] = a.gens.take (k + 1)
      rw [List.take_add_one, List.getElem?_eq_getElem h2']
      have := (h.fr k (Nat.le_refl _) h2').2
      unfold AlS.gen at this
      rw [List.getD_eq_getElem?_getD, List.getElem?_eq_getElem h2'] at this
      simp at this
      simp [this]
    · show (List.range k).map a.stD ++ [0] = (List.range (k + 1)).map a.stD
      rw [List.range_succ, List.map_append]
      have h3 := (firstW_some hk).2.2.1
      have : a.stD k = 0 := by
        unfold AlS.stD
        rw [h.fl k h3, h.fd k h3, h3]
        rfl
      simp [this]
theorem map_stD_set {a a' : AlS} {M k s : Nat} (h1 : ∀ j, j ≠ k → a'.stD j = a.stD j) (h2 : a'.stD k = s) : ((List.range M).map a.stD).set k s = (List.range M).map a'.stD := by
  apply List.ext_getElem?
  intro j
  by_cases e : k = j
  · subst e
    by_cases hl : k < M
    · rw [List.getElem?_set_self (by simpa using hl), List.getElem?_map, List.getElem?_range hl]
      simp [h2]
    · rw [List.getElem?_eq_none (by simp; omega), List.getElem?_eq_none (by simp; omega)]
  · rw [List.getElem?_set_ne e, List.getElem?_map, List.getElem?_map]
    by_cases hl : j < M
    · rw [List.getElem?_range hl]
      simp [h1 j (fun e2 => e e2.symm)]
    · rw [List.getElem?_eq_none (by simp; omega)]
      rfl
theorem bit_add_ne {m i j : Nat} (h : j ≠ i) : (addW m i).testBit j = m.testBit j := by
  rw [bit_add]
  simp [fun e => h (by omega)]
theorem bit_del_ne {m i j : Nat} (hj : j < 64) (h : j ≠ i) : (delW m i).testBit j = m.testBit j := by
  rw [bit_del m i hj]
  simp [h]
theorem gave_gen (a : AlS) {k : Nat} (hk : k < a.gens.length) (j : Nat) : (a.gens.set k (a.gen k + 1)).getD j 0 = if j = k then a.gen k + 1 else a.gen j := by
  by_cases e : j = k
  · subst e
    rw [if_pos rfl, List.getD_eq_getElem?_getD, List.getElem?_set_self hk]
    rfl
  · rw [if_neg e, List.getD_eq_getElem?_getD, List.getElem?_set_ne (fun h => e h.symm)]
    unfold AlS.gen
    rw [List.getD_eq_getElem?_getD]
theorem A5Rel.made {a : AlS} {L k : Nat} (h : A5Rel a L) (hk : firstW a.free 0 = (k : Int)) : A5Rel (a.made k) (max L (k + 1)) ∧ ((a.d5 L).room k).set k 1 = (a.made k).d5 (max L (k + 1)) := by
  obtain ⟨_, hk64, h3, h4⟩ := firstW_some hk
  have hkl := h.ok.free k h3
  have hl64 := h.ok.len
  have hlk := h.fl k h3
  have hrk := h.fd k h3
  have hle := h.le
  have hg : ∀ j, (a.made k).gen j = if j = k then a.gen k + 1 else a.gen j := gave_gen a hkl
  have hne : ∀ j, j ≠ k → (a.made k).live.testBit j = a.live.testBit j := fun j hj => bit_add_ne hj
  have hnf : ∀ j, j < 64 → j ≠ k → (a.made k).free.testBit j = a.free.testBit j := fun j h1 hj => bit_del_ne h1 hj
  have hlen : (a.made k).gens.length = a.gens.length := by simp [AlS.made, AlS.gave]
  refine ⟨⟨h.ok.made h3, by rw [hlen]; omega, fun j h1 h2 => ?_, fun j h1 => ?_, fun j h1 => h.br j (by omega), fun j h1 => ?_, fun j h1 => h.fd j (bit_del_le h1).1, fun j h1 => ?_⟩, ?_⟩
  · rw [hlen] at h2
    rw [hg, if_neg (by omega), hnf j (by omega) (by omega)]
    exact h.fr j (by omega) h2
  · rw [hne j (by omega)]
    exact h.bl j (by omega)
  · obtain ⟨h5, h6⟩ := bit_del_le h1
    rw [hne j h6]
    exact h.fl j h5
  · by_cases e : j = k
    · subst e
      exact hrk
    · rw [hne j e] at h1
      exact h.lr j h1
  · rw [room_d5 h hk]
    unfold A5S.set
    apply A5S.ext'
    · exact hlen.symm
    · rfl
    · rw [d5_gs a (by omega)]
      show (a.gens.take (max L (k + 1))).set k (a.gen k + 1) = (a.gens.set k (a.gen k + 1)).take (max L (k + 1))
      rw [List.take_set]
    · refine map_stD_set (fun j hj => ?_) ?_
      · unfold AlS.stD
        rw [hne j hj]
        by_cases hj2 : j < 64
        · rw [hnf j hj2 hj]
          rfl
        · have hnf2 : a.free.testBit j = false := testBit_ge h.ok.f64 (by omega)
          have hnf3 : (a.made k).free.testBit j = false := bit_del_ge _ _ (by omega)
          rw [hnf2, hnf3]
          rfl
      · unfold AlS.stD
        rw [show (a.made k).live.testBit k = true by show (addW a.live k).testBit k = true; rw [bit_add]; simp]
        rfl
theorem A5Rel.rose {a : AlS} {L k : Nat} (h : A5Rel a L) (hk : firstW a.free 0 = (k : Int)) : A5Rel (a.rose k) (max L (k + 1)) ∧ ((a.d5 L).room k).set k 2 = (a.rose k).d5 (max L (k + 1)) := by
  obtain ⟨_, hk64, h3, h4⟩ := firstW_some hk
  have hkl := h.ok.free k h3
  have hl64 := h.ok.len
  have hlk := h.fl k h3
  have hrk := h.fd k h3
  have hle := h.le
  have hg : ∀ j, (a.rose k).gen j = if j = k then a.gen k + 1 else a.gen j := gave_gen a hkl
  have hne : ∀ j, j ≠ k → (a.rose k).raised.testBit j = a.raised.testBit j := fun j hj => bit_add_ne hj
  have hnf : ∀ j, j < 64 → j ≠ k → (a.rose k).free.testBit j = a.free.testBit j := fun j h1 hj => bit_del_ne h1 hj
  have hlen : (a.rose k).gens.length = a.gens.length := by simp [AlS.rose, AlS.gave]
  refine ⟨⟨h.ok.rose h3, by rw [hlen]; omega, fun j h1 h2 => ?_, fun j h1 => h.bl j (by omega), fun j h1 => ?_, fun j h1 => h.fl j (bit_del_le h1).1, fun j h1 => ?_, fun j h1 => ?_⟩, ?_⟩
  · rw [hlen] at h2
    rw [hg, if_neg (by omega), hnf j (by omega) (by omega)]
    exact h.fr j (by omega) h2
  · rw [hne j (by omega)]
    exact h.br j (by omega)
  · obtain ⟨h5, h6⟩ := bit_del_le h1
    rw [hne j h6]
    exact h.fd j h5
  · by_cases e : j = k
    · subst e
      have h1' : a.live.testBit j = true := h1
      rw [hlk] at h1'
      cases h1'
    · rw [hne j e]
      exact h.lr j h1
  · rw [room_d5 h hk]
    unfold A5S.set
    apply A5S.ext'
    · exact hlen.symm
    · rfl
    · rw [d5_gs a (by omega)]
      show (a.gens.take (max L (k + 1))).set k (a.gen k + 1) = (a.gens.set k (a.gen k + 1)).take (max L (k + 1))
      rw [List.take_set]
    · refine map_stD_set (fun j hj => ?_) ?_
      · unfold AlS.stD
        rw [hne j hj]
        by_cases hj2 : j < 64
        · rw [hnf j hj2 hj]
          rfl
        · have hnf2 : a.free.testBit j = false := testBit_ge h.ok.f64 (by omega)
          have hnf3 : (a.rose k).free.testBit j = false := bit_del_ge _ _ (by omega)
          rw [hnf2, hnf3]
          rfl
      · unfold AlS.stD
        rw [show (a.rose k).live.testBit k = false from hlk, show (a.rose k).raised.testBit k = true by show (addW a.raised k).testBit k = true; rw [bit_add]; simp]
        rfl
theorem A5Rel.took {a : AlS} {L k : Nat} (h : A5Rel a L) (hl : a.live.testBit k = true) : A5Rel (a.took k (a.gen k : Nat)) L ∧ (a.d5 L).took k = (a.took k (a.gen k : Nat)).d5 L := by
  have hkl := h.ok.live k hl
  have hl64 := h.ok.len
  have hr := h.lr k hl
  have hle := h.le
  have hkL : k < L := by
    apply Nat.lt_of_not_le
    intro e
    have := h.bl k e
    rw [hl] at this
    cases this
  have htop := h.ok.gens k
  have hne : ∀ j, j < 64 → j ≠ k → (delW a.live k).testBit j = a.live.testBit j := fun j h1 hj => bit_del_ne h1 hj
  have hlk : (delW a.live k).testBit k = false := by rw [bit_del a.live k (by omega)]; simp
  have hok := h.ok.took hkl rfl
  by_cases ht : a.top ≤ a.gen k
  · have e1 : a.took k (a.gen k : Nat) = { a with live := delW a.live k, ret := a.ret + 1 } := by
      unfold AlS.took
      rw [if_pos (by omega)]
    rw [e1] at hok ⊢
    have hf : a.free.testBit k = false := by
      cases e : a.free.testBit k with
      | false => rfl
      | true =>
        have := h.fl k e
        rw [hl] at this
        cases this
    refine ⟨⟨hok, hle, h.fr, fun j h1 => ?_, h.br, fun j h1 => ?_, h.fd, fun j h1 => h.lr j (bit_del_le h1).1⟩, ?_⟩
    · show (delW a.live k).testBit j = false
      cases e : (delW a.live k).testBit j with
      | false => rfl
      | true =>
        have := (bit_del_le e).1
        rw [h.bl j h1] at this
        cases this
    · show (delW a.live k).testBit j = false
      cases e : (delW a.live k).testBit j with
      | false => rfl
      | true =>
        have := (bit_del_le e).1
        rw [h.fl j h1] at this
        cases this
    · unfold A5S.took
      rw [d5_gs a hkL, if_pos (show a.gen k = (a.d5 L).top from by show a.gen k = a.top; omega)]
      apply A5S.ext'
      · rfl
      · rfl
      · rfl
      · refine map_stD_set (fun j hj => ?_) ?_
        · unfold AlS.stD
          by_cases hj2 : j < 64
          · show (if (delW a.live k).testBit j = true then 1 else _) = _
            rw [hne j hj2 hj]
          · show (if (delW a.live k).testBit j = true then 1 else _) = _
            rw [bit_del_ge _ _ (by omega), testBit_ge h.ok.l64 (by omega)]
        · unfold AlS.stD
          show (if (delW a.live k).testBit k = true then 1 else if a.raised.testBit k = true then 2 else if a.free.testBit k = true then 0 else 9) = _
          rw [hlk, hr, hf]
          rfl
  · have e1 : a.took k (a.gen k : Nat) = { a with live := delW a.live k, free := addW a.free k } := by
      unfold AlS.took
      rw [if_neg (by omega)]
    rw [e1] at hok ⊢
    refine ⟨⟨hok, hle, fun j h1 h2 => ?_, fun j h1 => ?_, h.br, fun j h1 => ?_, fun j h1 => ?_, fun j h1 => h.lr j (bit_del_le h1).1⟩, ?_⟩
    · obtain ⟨h5, h6⟩ := h.fr j h1 h2
      refine ⟨?_, h6⟩
      show (addW a.free k).testBit j = true
      rw [bit_add, h5]
      rfl
    · show (delW a.live k).testBit j = false
      cases e : (delW a.live k).testBit j with
      | false => rfl
      | true =>
        have := (bit_del_le e).1
        rw [h.bl j h1] at this
        cases this
    · show (delW a.live k).testBit j = false
      by_cases e2 : j = k
      · rw [e2]
        exact hlk
      · have h1' : (addW a.free k).testBit j = true := h1
        rw [bit_add_ne e2] at h1'
        cases e : (delW a.live k).testBit j with
        | false => rfl
        | true =>
          have := (bit_del_le e).1
          rw [h.fl j h1'] at this
          cases this
    · have h1' : (addW a.free k).testBit j = true := h1
      by_cases e2 : j = k
      · rw [e2]
        exact hr
      · rw [bit_add_ne e2] at h1'
        exact h.fd j h1'
    · unfold A5S.took
      rw [d5_gs a hkL, if_neg (show ¬ a.gen k = (a.d5 L).top from by show ¬ a.gen k = a.top; omega)]
      apply A5S.ext'
      · rfl
      · rfl
      · rfl
      · refine map_stD_set (fun j hj => ?_) ?_
        · unfold AlS.stD
          show (if (delW a.live k).testBit j = true then 1 else if a.raised.testBit j = true then 2 else if (addW a.free k).testBit j = true then 0 else 9) = _
          rw [bit_add_ne hj]
          by_cases hj2 : j < 64
          · rw [hne j hj2 hj]
          · rw [bit_del_ge _ _ (by omega), testBit_ge h.ok.l64 (by omega)]
        · unfold AlS.stD
          show (if (delW a.live k).testBit k = true then 1 else if a.raised.testBit k = true then 2 else if (addW a.free k).testBit k = true then 0 else 9) = _
          rw [hlk, hr, show (addW a.free k).testBit k = true by rw [bit_add]; simp]
          rfl
theorem A5Rel.spent {a : AlS} {L : Nat} (h : A5Rel a L) (hf : firstW a.free 0 = -1) : (∀ j, j < (a.d5 L).n → (a.d5 L).ss.getD j 0 ≠ 0) ∧ (a.d5 L).ss.length = (a.d5 L).n := by
  have hl64 := h.ok.len
  have hle := h.le
  have hn := firstW_none hf
  have hL : L = a.gens.length := by
    apply Nat.le_antisymm hle
    apply Nat.le_of_not_lt
    intro hlt
    have := (h.fr L (Nat.le_refl _) hlt).1
    rw [hn L (Nat.zero_le _) (by omega)] at this
    cases this
  refine ⟨fun j hj => ?_, by rw [d5_len]; exact hL⟩
  have hj2 : j < a.gens.length := hj
  rw [d5_ss a (by omega)]
  unfold AlS.stD
  rw [hn j (Nat.zero_le _) (by omega)]
  split
  · omega
  · split
    · omega
    · simp
end Go.Proofs.YtkiikblpgppmkaaGreatDoor

namespace Go.Proofs.YtkiikblpgppmkaaGreatDoor
open Go Go.RowKit
set_option linter.unusedVariables false
set_option linter.unusedSimpArgs false

def Ret5No (w : World) (e : Ending) (w' : World) : Prop := ∃ er : Int, e = .returned (.tuple #[hdV 0 0, .int .i64 er]) ∧ Keep w w' Nope
set_option maxRecDepth 100000 in
set_option maxHeartbeats 4000000 in
theorem a5_take_no {w0 w : World} {R : List Asr} {b : Nat} {x : A5S} {q : A5B} (H : St w0 w (a5L b x q ++ R)) (hx : x.Ok) (s : Nat) (hf : ∀ j, j < x.n → x.ss.getD j 0 ≠ 0) (hl : x.ss.length = x.n) :
    Calls Tryz.prog 104 #[ptr b, .int .i64 (s : Nat)] w (Ret5No w) := by
  obtain ⟨ga, gc, sa, sc⟩ := q
  have hk1 := (Keep.refl w Nope).alloc (.cells #[.int .i64 0, .int .i64 0] 45)
  have HB := H.box0 #[.int .i64 0, .int .i64 0] 45
  obtain ⟨wa, hwa⟩ : ∃ wa, w.alloc (.cells #[.int .i64 0, .int .i64 0] 45) = wa := ⟨_, rfl⟩
  obtain ⟨rb, hrb⟩ : ∃ rb, w.heap.size = rb := ⟨_, rfl⟩
  rw [hwa, hrb] at HB
  rw [hwa] at hk1
  have HRB := Lib.hid hrb
  have HK1 := Lib.hid hk1
  have hn64 := hx.n
  have HF := Lib.hid hf
  obtain ⟨n, hn⟩ : ∃ n, x.n = n := ⟨_, rfl⟩
  rw [hn] at hl hn64
  have HM := Lib.hid hl
  have HN := Lib.hid hn
  have c0 : wa.cell? ⟨b, 0, none⟩ = some (.int .i64 (n : Nat)) := by rw [← hn, (HB.blk 1 rfl).cell]; rfl
  have c3 : wa.cell? ⟨b, 3, none⟩ = some (.slice sa n sc) := by rw [← hl, (HB.blk 1 rfl).cell]; rfl
  obtain ⟨z0, z1, y0, y1⟩ := (HB.blk 0 rfl).two
  have HBH := Lib.hid HB
  clear H HB hx hf hn hl hk1
  unfold ptr
  go_enter Tryz.func104, Tryz.ntmps104
  go_wp2_with fail
  try rw [hwa]
  try rw [hrb]
  clear hwa hrb
  go_loopg [6, 7] n (fun g v6 v7 wr => Loop5T wa n g v6 v7 wr)
  case atStart => exact ⟨0, false, by omega, rfl, rfl, rfl⟩
  case round =>
    obtain ⟨j, u, hgj, rfl, rfl, rfl⟩ := hrel
    have HGJ := Lib.hid hgj
    by_cases hjk : j < n
    · obtain ⟨sj, hsj⟩ : ∃ sj, x.ss.getD j 0 = sj := ⟨_, rfl⟩
      have hs0 : sj ≠ 0 := by rw [← hsj]; exact HF.out j (by rw [HN.out]; exact hjk)
      have hjm : j < x.ss.length := by rw [HM.out]; omega
      have hsome : x.ss[j]? = some sj := by rw [getD_some (d := 0) hjm, hsj]
      obtain ⟨G2, _, hr2, _⟩ := HBH.out.rd 3 (e := 3) (size := 1) (n := x.ss.length) (v := .slice sa x.ss.length sc) (xs := intsN x.ss) rfl
      obtain ⟨a2, k2, hv2, _, _, _, hc2⟩ := hr2
      obtain ⟨g2, o2, he2, _, x2⟩ := hc2 j _ (intsN_get hsome)
      injection hv2 with ea2 _ _
      subst ea2
      subst he2
      have e0 : decide ((j : Int) < (n : Int)) = true := decide_eq_true (by omega)
      have e1 : ((j : Int) == (n : Int)) = false := by simp; omega
      have e2 : ((sj : Int) == 0) = false := by simp; omega
      have e3 : decide (n ≤ j) = false := decide_eq_false (by omega)
      obtain ⟨t, ht⟩ : ∃ t, ((sj : Int) != 9) = t := ⟨_, rfl⟩
      have HJK := Lib.hid hjk
      clear hc2 hsome hsj hs0 hjm hgj
      cases u <;> (
        go_wp2_with fail
        go_roundg (n - (j + 1))
        case measure => have := HGJ.out; have := HJK.out; omega
        case rel => exact ⟨j + 1, _, by have := HGJ.out; have := HJK.out; omega, rfl, by go_num, rfl⟩)
    · have e0 : decide ((j : Int) < (n : Int)) = false := decide_eq_false (by omega)
      have hkf := ((HK1.out.setCell (p := ⟨rb, 0, none⟩) (.inr (by rw [← HRB.out]; exact Nat.le_refl _)) (.int .i64 0)).setCell (p := ⟨rb, 1, none⟩) (.inr (by rw [← HRB.out]; exact Nat.le_refl _)) (.int .i64 0))
      obtain ⟨q0, q1, _, _⟩ := ((HBH.out.blk 0 rfl).set2 (.int .i64 0) (.int .i64 0)).two
      have HKF := Lib.hid hkf
      clear hkf hgj
      cases u
      · go_wp2_with fail
        refine bodyPost_ret (v := .tuple #[.agg #[.int .i64 0, .int .i64 0], .int .i64 7]) (by simp [results, Tryz.results104, go_sem, q0, q1]) rfl ⟨7, rfl, HKF.out⟩
      · go_wp2_with fail
        refine bodyPost_ret (v := .tuple #[.agg #[.int .i64 0, .int .i64 0], .int .i64 6]) (by simp [results, Tryz.results104, go_sem, q0, q1]) rfl ⟨6, rfl, HKF.out⟩
/-- The document's handles, as the program's. -/
def a5A (b : Nat) (a : AlS) : Asr := exA fun q : Nat × A5B => starA (a5L b (a.d5 q.1) q.2 ++ [pureA (A5Rel a q.1)])
theorem St.a5Open {w0 w : World} {L : List Asr} {b : Nat} {a : AlS} (h : St w0 w (a5A b a :: L)) : ∃ (n : Nat) (q : A5B), A5Rel a n ∧ St w0 w (a5L b (a.d5 n) q ++ L) := by
  obtain ⟨⟨n, q⟩, h⟩ := h.exTop
  have hp : A5Rel a n := by
    obtain ⟨G, h, _⟩ := h.get 3 rfl
    exact h
  exact ⟨n, q, hp, St.sel (P := [_, _, _, _]) (P' := [_, _, _]) (R := L) [0, 1, 2] h (by decide) rfl rfl⟩
theorem St.a5Shut {w0 w : World} {L : List Asr} {b n : Nat} {a : AlS} {q : A5B} (hr : A5Rel a n) (h : St w0 w (a5L b (a.d5 n) q ++ L)) : St w0 w (a5A b a :: L) := by
  have h1 := (h.add (Keep.refl _ _) (A := pureA (A5Rel a n)) hr).first
  have h2 : St w0 w ((a5L b (a.d5 n) q ++ [pureA (A5Rel a n)]) ++ L) := St.sel (P := [_, _, _, _]) (P' := [_, _, _, _]) (R := L) [1, 2, 3, 0] h1 (by decide) rfl rfl
  exact (St.pack (fun q : Nat × A5B => a5L b (a.d5 q.1) q.2 ++ [pureA (A5Rel a q.1)]) (n, q) h2).first
end Go.Proofs.YtkiikblpgppmkaaGreatDoor

namespace Go.Proofs.YtkiikblpgppmkaaGreatDoor
open Go Go.RowKit
set_option linter.unusedVariables false
set_option linter.unusedSimpArgs false

set_option maxHeartbeats 2000000 in
theorem a5_create {w0 w : World} {L : List Asr} {b : Nat} {a : AlS} (H : St w0 w (a5A b a :: L)) (k : Nat) (hk : firstW a.free 0 = (k : Int)) :
    Calls Tryz.prog 103 #[ptr b] w (fun e w' => e = .returned (.tuple #[hdV k ((a.gen k + 1 : Nat) : Int), .int .i64 0]) ∧ St w0 w' (a5A b (a.made k) :: L)) := by
  obtain ⟨n, q, hr, h⟩ := H.a5Open
  have HB := Lib.hid (show St w0 (w.alloc (.cells #[.int .i64 0, .int .i64 0] 45)) (blkA w.heap.size #[.int .i64 0, .int .i64 0] 45 :: (a5L b (a.d5 n) q ++ L)) from h.box0 _ _)
  have hkl := hr.ok.free k (firstW_free hk)
  have hg := hr.gk hkl
  have hm := hr.made hk
  have hgb : a.gen k ≤ 4294967296 := by have := hr.ok.gens k; have := hr.ok.top; omega
  have ha : ∀ (w1 : World), St w0 w1 (blkA w.heap.size #[.int .i64 0, .int .i64 0] 45 :: (a5L b (a.d5 n) q ++ L)) → _ := fun w1 h1 => a5_take (St.rot1 h1) hr.okD k 1 (hr.at hk) (by rw [hg]; exact hgb)
  rw [hg, hm.2] at ha
  have HA := Lib.hid ha
  have HR := Lib.hid hm.1
  obtain ⟨i, hi⟩ : ∃ i : Int, (k : Int) = i := ⟨_, rfl⟩
  obtain ⟨g, hgz⟩ : ∃ g : Int, ((a.gen k + 1 : Nat) : Int) = g := ⟨_, rfl⟩
  rw [hgz, hi] at HA
  rw [hgz, hi]
  clear H h hk hkl hg hm hgb hr ha hi hgz
  unfold ptr hdV at *
  go_enter Tryz.func103, Tryz.ntmps103
  go_wp2_with (go_at_call 104; refine (HA.out _ HB.out).mono ?_; rintro en w3 ⟨rfl, q', h3⟩; have HB3 := Lib.hid (St.unrot1 h3); clear h3; obtain ⟨z0, z1, y0, y1⟩ := (HB3.out.blk 0 rfl).two)
  obtain ⟨q0, q1, _, _⟩ := ((HB3.out.blk 0 rfl).set2 (.int .i64 i) (.int .i64 g)).two
  have HF := Lib.hid ((HB3.out.write2 (.int .i64 i) (.int .i64 g)).rest)
  clear z0 z1 y0 y1
  refine bodyPost_ret (v := .tuple #[.agg #[.int .i64 i, .int .i64 g], .int .i64 0]) (by simp [results, Tryz.results103, go_sem, q0, q1]) rfl ⟨rfl, St.a5Shut HR.out HF.out⟩
set_option maxHeartbeats 2000000 in
theorem a5_create_no {w0 w : World} {L : List Asr} {b : Nat} {a : AlS} (H : St w0 w (a5A b a :: L)) (hk : firstW a.free 0 = -1) :
    Calls Tryz.prog 103 #[ptr b] w (Ret5No w) := by
  obtain ⟨n, q, hr, h⟩ := H.a5Open
  have HB := Lib.hid (show St w0 (w.alloc (.cells #[.int .i64 0, .int .i64 0] 45)) (blkA w.heap.size #[.int .i64 0, .int .i64 0] 45 :: (a5L b (a.d5 n) q ++ L)) from h.box0 _ _)
  have HA := Lib.hid (a5_take_no (St.rot1 HB.out) hr.okD 1 (hr.spent hk).1 (hr.spent hk).2)
  clear H h hk hr
  unfold ptr at *
  go_enter Tryz.func103, Tryz.ntmps103
  go_wp2_with (go_at_call 104; refine HA.out.mono ?_; rintro en w3 ⟨er, he, hk3⟩; unfold hdV at he; subst he; have HK3 := Lib.hid ((show Keep w _ Nope from (by (repeat (first | exact Keep.refl _ _ | apply Keep.drew | apply Keep.drewN | apply Keep.alloc)))).trans hk3 (fun _ f => f.elim)); have HB3 := Lib.hid ((Blk.new w #[.int .i64 0, .int .i64 0] 45).keep hk3 (fun f => f)); clear hk3; obtain ⟨z0, z1, y0, y1⟩ := HB3.out.two)
  obtain ⟨q0, q1, _, _⟩ := (HB3.out.set2 (.int .i64 0) (.int .i64 0)).two
  have HF := Lib.hid ((HK3.out.setCell (p := ⟨w.heap.size, 0, none⟩) (.inr (Nat.le_refl _)) (.int .i64 0)).setCell (p := ⟨w.heap.size, 1, none⟩) (.inr (Nat.le_refl _)) (.int .i64 0))
  clear z0 z1 y0 y1
  refine bodyPost_ret (v := .tuple #[.agg #[.int .i64 0, .int .i64 0], .int .i64 er]) (by simp [results, Tryz.results103, go_sem, q0, q1]) rfl ⟨er, rfl, HF.out⟩
set_option maxHeartbeats 2000000 in
theorem a5_raise {w0 w : World} {L : List Asr} {b : Nat} {a : AlS} (H : St w0 w (a5A b a :: L)) (k : Nat) (hk : firstW a.free 0 = (k : Int)) :
    Calls Tryz.prog 44 #[ptr b] w (fun e w' => e = .returned (.tuple #[hdV k ((a.gen k + 1 : Nat) : Int), .int .i64 0]) ∧ St w0 w' (a5A b (a.rose k) :: L)) := by
  obtain ⟨n, q, hr, h⟩ := H.a5Open
  have HB := Lib.hid (show St w0 (w.alloc (.cells #[.int .i64 0, .int .i64 0] 45)) (blkA w.heap.size #[.int .i64 0, .int .i64 0] 45 :: (a5L b (a.d5 n) q ++ L)) from h.box0 _ _)
  have hkl := hr.ok.free k (firstW_free hk)
  have hg := hr.gk hkl
  have hm := hr.rose hk
  have hgb : a.gen k ≤ 4294967296 := by have := hr.ok.gens k; have := hr.ok.top; omega
  have ha : ∀ (w1 : World), St w0 w1 (blkA w.heap.size #[.int .i64 0, .int .i64 0] 45 :: (a5L b (a.d5 n) q ++ L)) → _ := fun w1 h1 => a5_take (St.rot1 h1) hr.okD k 2 (hr.at hk) (by rw [hg]; exact hgb)
  rw [hg, hm.2] at ha
  have HA := Lib.hid ha
  have HR := Lib.hid hm.1
  obtain ⟨i, hi⟩ : ∃ i : Int, (k : Int) = i := ⟨_, rfl⟩
  obtain ⟨g, hgz⟩ : ∃ g : Int, ((a.gen k + 1 : Nat) : Int) = g := ⟨_, rfl⟩
  rw [hgz, hi] at HA
  rw [hgz, hi]
  clear H h hk hkl hg hm hgb hr ha hi hgz
  unfold ptr hdV at *
  go_enter Tryz.func44, Tryz.ntmps44
  go_wp2_with (go_at_call 104; refine (HA.out _ HB.out).mono ?_; rintro en w3 ⟨rfl, q', h3⟩; have HB3 := Lib.hid (St.unrot1 h3); clear h3; obtain ⟨z0, z1, y0, y1⟩ := (HB3.out.blk 0 rfl).two)
  obtain ⟨q0, q1, _, _⟩ := ((HB3.out.blk 0 rfl).set2 (.int .i64 i) (.int .i64 g)).two
  have HF := Lib.hid ((HB3.out.write2 (.int .i64 i) (.int .i64 g)).rest)
  clear z0 z1 y0 y1
  refine bodyPost_ret (v := .tuple #[.agg #[.int .i64 i, .int .i64 g], .int .i64 0]) (by simp [results, Tryz.results44, go_sem, q0, q1]) rfl ⟨rfl, St.a5Shut HR.out HF.out⟩
set_option maxHeartbeats 2000000 in
theorem a5_raise_no {w0 w : World} {L : List Asr} {b : Nat} {a : AlS} (H : St w0 w (a5A b a :: L)) (hk : firstW a.free 0 = -1) :
    Calls Tryz.prog 44 #[ptr b] w (Ret5No w) := by
  obtain ⟨n, q, hr, h⟩ := H.a5Open
  have HB := Lib.hid (show St w0 (w.alloc (.cells #[.int .i64 0, .int .i64 0] 45)) (blkA w.heap.size #[.int .i64 0, .int .i64 0] 45 :: (a5L b (a.d5 n) q ++ L)) from h.box0 _ _)
  have HA := Lib.hid (a5_take_no (St.rot1 HB.out) hr.okD 2 (hr.spent hk).1 (hr.spent hk).2)
  clear H h hk hr
  unfold ptr at *
  go_enter Tryz.func44, Tryz.ntmps44
  go_wp2_with (go_at_call 104; refine HA.out.mono ?_; rintro en w3 ⟨er, he, hk3⟩; unfold hdV at he; subst he; have HK3 := Lib.hid ((show Keep w _ Nope from (by (repeat (first | exact Keep.refl _ _ | apply Keep.drew | apply Keep.drewN | apply Keep.alloc)))).trans hk3 (fun _ f => f.elim)); have HB3 := Lib.hid ((Blk.new w #[.int .i64 0, .int .i64 0] 45).keep hk3 (fun f => f)); clear hk3; obtain ⟨z0, z1, y0, y1⟩ := HB3.out.two)
  obtain ⟨q0, q1, _, _⟩ := (HB3.out.set2 (.int .i64 0) (.int .i64 0)).two
  have HF := Lib.hid ((HK3.out.setCell (p := ⟨w.heap.size, 0, none⟩) (.inr (Nat.le_refl _)) (.int .i64 0)).setCell (p := ⟨w.heap.size, 1, none⟩) (.inr (Nat.le_refl _)) (.int .i64 0))
  clear z0 z1 y0 y1
  refine bodyPost_ret (v := .tuple #[.agg #[.int .i64 0, .int .i64 0], .int .i64 er]) (by simp [results, Tryz.results44, go_sem, q0, q1]) rfl ⟨er, rfl, HF.out⟩
end Go.Proofs.YtkiikblpgppmkaaGreatDoor
