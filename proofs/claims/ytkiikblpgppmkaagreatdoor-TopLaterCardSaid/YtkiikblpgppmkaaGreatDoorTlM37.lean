/-
  The packages scan and expr: next, Needs; The package scan: over, List; The packages slices and plan, of one column that is read; The package plan: Check and Parts, of one column that is read; The package plan: Check and Parts, of one column that is read; The package reg: Descs; The package expr: an arena that is made; add. (Printed by tools/gen_add.py.).
-/
import Derived.Test.YtkiikblpgppmkaaGreatDoorTlM36
namespace Go.Proofs.YtkiikblpgppmkaaGreatDoor
open Go Go.RowKit
set_option linter.unusedVariables false
set_option linter.unusedSimpArgs false

set_option maxHeartbeats 1000000 in
theorem sc_next_0 {w0 w : World} {L : List Asr} {ar : Nat} {b : ScB} {p : ArP} {m0 m1 : Nat} (H : ScSt w0 w ar b L) (hT : Tab w0) (hA : ArR w0 ar p m0 m1) :
    Calls Tryz.prog 139 #[ptr b.wk, .int .i64 0] w (fun e w' => e = .returned (.int .i64 (firstW (m0 &&& m1) 0)) ∧ ScSt w0 w' ar b L) := by
  have HW := Lib.hid (sc_least_3_0 H hT hA)
  clear H hT hA
  unfold ptr at *
  go_enter Tryz.func139, Tryz.ntmps139
  go_wp2_with (go_at_call 212; refine HW.out.mono ?_; rintro e w1 ⟨rfl, h⟩; have H1 := Lib.hid h; clear h)
  go_ret
  exact ⟨rfl, H1.out⟩
set_option maxHeartbeats 1000000 in
theorem sc_next_64 {w0 w : World} {L : List Asr} {ar : Nat} {b : ScB} {p : ArP} {m0 m1 : Nat} (H : ScSt w0 w ar b L) (hT : Tab w0) (hA : ArR w0 ar p m0 m1) :
    Calls Tryz.prog 139 #[ptr b.wk, .int .i64 64] w (fun e w' => e = .returned (.int .i64 (-1)) ∧ ScSt w0 w' ar b L) := by
  have HW := Lib.hid (sc_least_3_64 H hT hA)
  clear H hT hA
  unfold ptr at *
  go_enter Tryz.func139, Tryz.ntmps139
  go_wp2_with (go_at_call 212; refine HW.out.mono ?_; rintro e w1 ⟨rfl, h⟩; have H1 := Lib.hid h; clear h)
  go_ret
  exact ⟨rfl, H1.out⟩
/-- A row that is its block. -/
theorem St.asBlk {w0 w : World} {L : List Asr} (H : St w0 w L) (i : Nat) {e : TypeId} {size n g : Nat} {xs : List Value} (hi : L[i]? = some (slA e size (.slice (some ⟨g, 0, none⟩) n n) n xs)) : St w0 w (L.set i (blkA g xs.toArray e)) :=
  H.weaken i hi (fun G hG => by
    rcases Own.view hG with ⟨h, _⟩ | ⟨g', cap, cur, hv, hS, hb, h1, h2, h3, h4⟩
    · cases h
    · injection hv with e1 _ e3
      injection e1 with e1
      injection e1 with e1 _
      subst e1; subst e3
      have : cur = xs.toArray := by rw [← h4, List.take_of_length_le (by simp [h3])]
      subst this
      exact ⟨hb, hS⟩)
theorem make_int5 {w0 w : World} {L : List Asr} (h : St w0 w L) :
    ∃ g w', (Instr.makeSlice 22 (.int .i64 5) (.int .i64 5)).run Tryz.prog w = .ok (.slice (some ⟨g, 0, none⟩) 5 5) w' ∧
      St w0 w' (blkA g #[.int .i64 0, .int .i64 0, .int .i64 0, .int .i64 0, .int .i64 0] 3 :: L) := by
  obtain ⟨w', h1, h2⟩ := h.make (P := Tryz.prog) (t := 22) (e := 3) (size := 1) (bytes := 8) (.int .i64 0) Tryz.underlying22 (by kernel_rfl) rfl (by decide) .i64 .i64 5 (by decide) (by decide)
  exact ⟨w.heap.size, w', h1, (h2.first).asBlk 0 rfl⟩
theorem make_word5 {w0 w : World} {L : List Asr} (h : St w0 w L) :
    ∃ g w', (Instr.makeSlice 327 (.int .i64 5) (.int .i64 5)).run Tryz.prog w = .ok (.slice (some ⟨g, 0, none⟩) 5 5) w' ∧
      St w0 w' (roomA g 0 0 0 0 0 :: L) := by
  obtain ⟨w', h1, h2⟩ := h.make (P := Tryz.prog) (t := 327) (e := 273) (size := 1) (bytes := 8) (.int .u64 0) Tryz.underlying327 (by kernel_rfl) rfl (by decide) .i64 .i64 5 (by decide) (by decide)
  exact ⟨w.heap.size, w', h1, (h2.first).asBlk 0 rfl⟩
def ndA (g : Nat) (a b c d e : Int) : Asr := blkA g #[.int .i64 a, .int .i64 b, .int .i64 c, .int .i64 d, .int .i64 e] 3
theorem St.nd {w0 w : World} {L : List Asr} {rg : Nat} {a b c d e : Int} (H : St w0 w (ndA rg a b c d e :: L)) : (w.cell? ⟨rg, 0, none⟩ = some (.int .i64 a) ∧ w.cell? ⟨rg, 1, none⟩ = some (.int .i64 b) ∧ w.cell? ⟨rg, 2, none⟩ = some (.int .i64 c) ∧ w.cell? ⟨rg, 3, none⟩ = some (.int .i64 d) ∧ w.cell? ⟨rg, 4, none⟩ = some (.int .i64 e)) ∧ ∀ j, w.frozen? ⟨rg, j, none⟩ = false := by
  have hb := H.blk 0 rfl
  exact ⟨⟨by rw [hb.cell]; rfl, by rw [hb.cell]; rfl, by rw [hb.cell]; rfl, by rw [hb.cell]; rfl, by rw [hb.cell]; rfl⟩, fun j => hb.frozen j⟩
def LoopNd (w : World) (dg : Nat) (g : Nat) (v9 v69 : Value) (wr : World) : Prop :=
  ∃ (k : Nat) (a : Option Addr) (c : Nat), g + k = 5 ∧ v69 = .int .i64 (k : Nat) ∧ v9 = .slice a k c ∧ St w wr [slA 3 1 (.slice a k c) k (intsN (List.range k)), ndA dg 1 1 1 1 1]
set_option maxRecDepth 100000 in
set_option maxHeartbeats 4000000 in
theorem ar_needs {w : World} {ar : Nat} {p : ArP} {m0 m1 : Nat} (hA : ArR w ar p m0 m1) :
    Calls Tryz.prog 211 #[ptr ar, .int .i64 4] w (fun e w' => ∃ ng nc, e = .returned (.slice (some ⟨ng, 0, none⟩) 5 nc) ∧ St w w' [needA ng nc]) := by
  have HA := Lib.hid hA
  have ha0 := hA.a0
  clear hA
  obtain ⟨dg, w1, hmk, hst⟩ := make_int5 (St.start w)
  unfold ptr at *
  go_enter Tryz.func211, Tryz.ntmps211
  have HH := Lib.hid (show St w w1 [ndA dg 0 0 0 0 0] from hst)
  obtain ⟨⟨z0, z1, z2, z3, z4⟩, hz⟩ := HH.out.nd
  have y4 := hz 4
  clear hst
  go_wp2_with fail
  replace HH := Lib.hid (show St w (w1.setCell ⟨dg, 4, none⟩ (.int .i64 1)) [ndA dg 0 0 0 0 1] from HH.out.write 0 rfl 4 (.int .i64 1))
  obtain ⟨w2, hw⟩ : ∃ wz, w1.setCell ⟨dg, 4, none⟩ (.int .i64 1) = wz := ⟨_, rfl⟩
  rw [hw] at HH ⊢
  clear hw z0 z1 z2 z3 z4 hz ha0 y4 hmk
  refine wp_loop_rounds 6 ?_
  rw [rounds_succ]
  obtain ⟨⟨z0, z1, z2, z3, z4⟩, hz⟩ := HH.out.nd
  have ha := HA.out.keep (Keep.ofSt HH.out)
  have ha0 := ha.a0
  have hn0 := ha.n8
  have hn1 := ha.n9
  go_wp2_with fail
  clear z0 z1 z2 z3 z4 hz ha ha0 hn0 hn1
  refine wp_loop_rounds 4 ?_
  rw [rounds_succ]
  obtain ⟨⟨z0, z1, z2, z3, z4⟩, hz⟩ := HH.out.nd
  have ha := HA.out.keep (Keep.ofSt HH.out)
  have ha0 := ha.a0
  have yy := hz 0
  have hd := ha.d40
  go_wp2_with fail
  replace HH := Lib.hid (show St w (w2.setCell ⟨dg, 0, none⟩ (.int .i64 1)) [ndA dg 1 0 0 0 1] from HH.out.write 0 rfl 0 (.int .i64 1))
  obtain ⟨w3, hw⟩ : ∃ wz, w2.setCell ⟨dg, 0, none⟩ (.int .i64 1) = wz := ⟨_, rfl⟩
  rw [hw] at HH ⊢
  clear hw z0 z1 z2 z3 z4 hz ha ha0 hd yy
  rw [rounds_succ]
  obtain ⟨⟨z0, z1, z2, z3, z4⟩, hz⟩ := HH.out.nd
  have ha := HA.out.keep (Keep.ofSt HH.out)
  have ha0 := ha.a0
  have yy := hz 1
  have hd := ha.d41
  go_wp2_with fail
  replace HH := Lib.hid (show St w (w3.setCell ⟨dg, 1, none⟩ (.int .i64 1)) [ndA dg 1 1 0 0 1] from HH.out.write 0 rfl 1 (.int .i64 1))
  obtain ⟨w4, hw⟩ : ∃ wz, w3.setCell ⟨dg, 1, none⟩ (.int .i64 1) = wz := ⟨_, rfl⟩
  rw [hw] at HH ⊢
  clear hw z0 z1 z2 z3 z4 hz ha ha0 hd yy
  rw [rounds_succ]
  obtain ⟨⟨z0, z1, z2, z3, z4⟩, hz⟩ := HH.out.nd
  have ha := HA.out.keep (Keep.ofSt HH.out)
  have ha0 := ha.a0
  have yy := hz 3
  have hd := ha.d42
  go_wp2_with fail
  replace HH := Lib.hid (show St w (w4.setCell ⟨dg, 3, none⟩ (.int .i64 1)) [ndA dg 1 1 0 1 1] from HH.out.write 0 rfl 3 (.int .i64 1))
  obtain ⟨w5, hw⟩ : ∃ wz, w4.setCell ⟨dg, 3, none⟩ (.int .i64 1) = wz := ⟨_, rfl⟩
  rw [hw] at HH ⊢
  clear hw z0 z1 z2 z3 z4 hz ha ha0 hd yy
  rw [rounds_succ]
  go_wp2_with fail
  rw [rounds_succ]
  obtain ⟨⟨z0, z1, z2, z3, z4⟩, hz⟩ := HH.out.nd
  have ha := HA.out.keep (Keep.ofSt HH.out)
  have ha0 := ha.a0
  have hn0 := ha.n6
  have hn1 := ha.n7
  go_wp2_with fail
  clear z0 z1 z2 z3 z4 hz ha ha0 hn0 hn1
  refine wp_loop_rounds 2 ?_
  rw [rounds_succ]
  obtain ⟨⟨z0, z1, z2, z3, z4⟩, hz⟩ := HH.out.nd
  have ha := HA.out.keep (Keep.ofSt HH.out)
  have ha0 := ha.a0
  have yy := hz 2
  have hd := ha.d3
  go_wp2_with fail
  replace HH := Lib.hid (show St w (w5.setCell ⟨dg, 2, none⟩ (.int .i64 1)) [ndA dg 1 1 1 1 1] from HH.out.write 0 rfl 2 (.int .i64 1))
  obtain ⟨w6, hw⟩ : ∃ wz, w5.setCell ⟨dg, 2, none⟩ (.int .i64 1) = wz := ⟨_, rfl⟩
  rw [hw] at HH ⊢
  clear hw z0 z1 z2 z3 z4 hz ha ha0 hd yy
  rw [rounds_succ]
  go_wp2_with fail
  rw [rounds_succ]
  obtain ⟨⟨z0, z1, z2, z3, z4⟩, hz⟩ := HH.out.nd
  have ha := HA.out.keep (Keep.ofSt HH.out)
  have ha0 := ha.a0
  have hn0 := ha.n4
  have hn1 := ha.n5
  go_wp2_with fail
  clear z0 z1 z2 z3 z4 hz ha ha0 hn0 hn1
  refine wp_loop_rounds 1 ?_
  rw [rounds_succ]
  go_wp2_with fail
  rw [rounds_succ]
  obtain ⟨⟨z0, z1, z2, z3, z4⟩, hz⟩ := HH.out.nd
  have ha := HA.out.keep (Keep.ofSt HH.out)
  have ha0 := ha.a0
  have hn0 := ha.n2
  go_wp2_with fail
  clear z0 z1 z2 z3 z4 hz ha ha0 hn0
  rw [rounds_succ]
  obtain ⟨⟨z0, z1, z2, z3, z4⟩, hz⟩ := HH.out.nd
  have ha := HA.out.keep (Keep.ofSt HH.out)
  have ha0 := ha.a0
  have hn0 := ha.n0
  go_wp2_with fail
  clear z0 z1 z2 z3 z4 hz ha ha0 hn0
  rw [rounds_succ]
  go_wp2_with fail
  go_loopg [9, 69] 5 (fun g v9 v69 wr => LoopNd w dg g v9 v69 wr)
  case atStart => exact ⟨0, none, 0, rfl, rfl, rfl, (HH.out.add (Keep.refl _ _) (A := slA 3 1 (.slice none 0 0) 0 []) (Own.nil _ _ _ _)).first⟩
  case round =>
    obtain ⟨k, a, c, hg, rfl, rfl, hst⟩ := hrel
    have hk5 : k ≤ 5 := by omega
    have HG := Lib.hid hg
    have HST := Lib.hid hst
    clear hg hst HH
    by_cases hlt : k < 5
    · obtain ⟨G, hown, _, hup, _⟩ := HST.out.opens 0 rfl
      have HOwn := Lib.hid (show Own G wr 3 1 (.slice a k c) k (intsN (List.range k)) from hown)
      have HUP := Lib.hid hup
      have hd : wr.cell? ⟨dg, k, none⟩ = some (.int .i64 1) := by
        have hb := HST.out.blk 1 rfl
        rw [hb.cell]
        match k, hlt with
        | 0, _ => rfl
        | 1, _ => rfl
        | 2, _ => rfl
        | 3, _ => rfl
        | 4, _ => rfl
      clear hown hup
      go_wp2_with (at_builtin; go_loud (refine wpList_app (P := Tryz.prog) slIn rfl _ _ rfl (S := G) (S2 := fun z => z = wr.heap.size) (n := k) (xs := intsN (List.range k)) (m := 1) (news := [.int .i64 (k : Nat)]) rfl rfl ?_ (Own.lit (S := fun z => z = wr.heap.size) wr 3 1 1 #[.int .i64 (k : Nat)] (by decide) rfl rfl).rd rfl (by intro u hu; simp at hu; rcases hu with rfl | rfl <;> rfl) (by omega) (by unfold maxLen; omega) ?_; (· exact HOwn.out.keep (T := Nope) ((Keep.refl wr Nope).alloc _) (fun _ _ f => f)); rintro a' k' c' w5 happ; obtain ⟨q1, q2⟩ := app_up (wr := wr) ((Keep.refl wr Nope).alloc _) happ; obtain rfl := happ.num; have h5 := HUP.out w5 _ q1 q2; have H5 := Lib.hid h5; clear happ q1 q2 h5))
      go_roundg (5 - (k + 1))
      case measure => have := HG.out; omega
      case rel => exact ⟨k + 1, a', c', by have := HG.out; omega, by go_num, rfl, by rw [List.range_succ, show intsN (List.range k ++ [k]) = intsN (List.range k) ++ [.int .i64 (k : Nat)] by simp [intsN]]; exact H5.out⟩
    · obtain rfl : k = 5 := by omega
      obtain ⟨g', rfl, _⟩ := HST.out.store 0 rfl (by decide)
      go_wp2_with fail
      go_ret
      exact ⟨g', c, rfl, St.init (X := [needA g' c]) (Y := [ndA dg 1 1 1 1 1]) HST.out⟩
end Go.Proofs.YtkiikblpgppmkaaGreatDoor

namespace Go.Proofs.YtkiikblpgppmkaaGreatDoor
open Go Go.RowKit
set_option linter.unusedVariables false
set_option linter.unusedSimpArgs false

set_option maxRecDepth 100000 in
set_option maxHeartbeats 1000000 in
theorem sc_over {w : World} {ar : Nat} {p : ArP} {m0 m1 : Nat} (hA : ArR w ar p m0 m1) :
    Calls Tryz.prog 138 #[ptr ar, .int .i64 4] w (fun e w' => ∃ b : ScB, e = .returned (.tuple #[ptr b.wk, .bool true]) ∧ ScSt w w' ar b []) := by
  have HN := Lib.hid (ar_needs hA)
  clear hA
  unfold ptr at *
  go_enter Tryz.func138, Tryz.ntmps138
  go_wp2_with (go_at_call 211; refine HN.out.mono ?_; rintro e w1 ⟨ng, nc, rfl, h1⟩; obtain ⟨rg, w2, hmk, h2⟩ := make_word5 h1; have H2 := Lib.hid h2; clear h1 h2)
  go_ret2
  refine ⟨⟨w2.heap.size, ng, nc, rg⟩, rfl, 0, 0, 0, 0, 0, ?_⟩
  have h := H2.out.box0 #[.pointer (some ⟨ar, 0, none⟩), .slice (some ⟨ng, 0, none⟩) 5 nc, .slice (some ⟨rg, 0, none⟩) 5 5] 329
  exact St.rot1 (X := [roomA rg 0 0 0 0 0, needA ng nc]) (R := []) h
theorem or_0d {d : Nat} (hd : d < 64) : bits .or .i64 0 (d : Int) = (d : Int) := (show ∀ d : Fin 64, bits .or .i64 0 ((d : Nat) : Int) = ((d : Nat) : Int) by decide) ⟨d, hd⟩
def LoopLi (w : World) (ar : Nat) (b : ScB) (m : Nat) (g : Nat) (v11 v15 : Value) (wr : World) : Prop :=
  ∃ (j n : Nat) (a5 : Option Addr) (c5 : Nat), g + j = 64 ∧ v15 = .int .i64 (firstW m j) ∧ v11 = .slice a5 n c5 ∧ n = (listTo m j).length ∧ ScSt w wr ar b [slA 3 1 (.slice a5 n c5) n (intsN (listTo m j))]
def LoopLo (w : World) (ar : Nat) (b : ScB) (m d : Nat) (g : Nat) (v11 v12 : Value) (wr : World) : Prop :=
  (g = 1 ∧ v12 = .int .i64 (d : Nat) ∧ v11 = .slice none 0 0 ∧ ScSt w wr ar b []) ∨ (g = 0 ∧ v12 = .int .i64 (-1) ∧ ∃ a c, v11 = .slice a (listW m).length c ∧ ScSt w wr ar b [slA 3 1 (.slice a (listW m).length c) (listW m).length (intsN (listW m))])
theorem ScSt.fin {w wr : World} {ar : Nat} {b : ScB} {A : Asr} (h : ScSt w wr ar b [A]) : St w wr [A] := by
  obtain ⟨r0, r1, r2, r3, r4, h⟩ := h
  exact h.rest.rest.rest
set_option maxRecDepth 100000 in
set_option maxHeartbeats 1500000 in
theorem sc_list {w : World} {ar : Nat} {p : ArP} {m0 m1 : Nat} (hA : ArR w ar p m0 m1) (hT : Tab w) :
    Calls Tryz.prog 70 #[ptr ar, .int .i64 4, .int .i64 0, .int .i64 65536] w (fun e w' => ∃ a c, e = .returned (.slice a (listW (m0 &&& m1)).length c) ∧ St w w' [slA 3 1 (.slice a (listW (m0 &&& m1)).length c) (listW (m0 &&& m1)).length (intsN (listW (m0 &&& m1)))]) := by
  have HO := Lib.hid (sc_over hA)
  have HA := Lib.hid hA
  have HT := Lib.hid hT
  have hml := and_lt (b := m1) hA.h0.1
  obtain ⟨m, hm⟩ : ∃ m, m0 &&& m1 = m := ⟨_, rfl⟩
  have HM := Lib.hid hm
  rw [hm] at hml ⊢
  clear hA hT hm
  unfold ptr at *
  go_enter Tryz.func70, Tryz.ntmps70
  go_wp2_with (first
    | (go_at_call 138; refine HO.out.mono ?_; rintro e w1 ⟨b, rfl, h1⟩; have H1 := Lib.hid h1; clear h1)
    | (go_at_call 139; refine (sc_next_0 H1.out HT.out HA.out).mono ?_; rintro e w2 ⟨rfl, h2⟩; have H2 := Lib.hid h2; clear h2 H1))
  rw [HM.out]
  rcases firstW_casesB m 0 with hf | ⟨d, hf, hd⟩
  · rw [hf]
    have HF := Lib.hid hf
    clear hf
    refine wp_loop_rounds 1 ?_
    rw [rounds_succ]
    go_wp2_with fail
    go_ret
    have HL := Lib.hid (listTo_end (m := m) (i := 0) (by omega) HF.out)
    rw [listTo_zero] at HL
    rw [← HL.out]
    obtain ⟨r0, r1, r2, r3, r4, h⟩ := H2.out
    exact ⟨none, 0, rfl, St.init (Y := [roomA b.rg r0 r1 r2 r3 r4, needA b.ng b.nc, wkA b.wk ar b.ng b.nc b.rg]) (h.add (Keep.refl _ _) (A := slA 3 1 (.slice none 0 0) 0 []) (Own.nil _ _ _ _)).first⟩
  · rw [hf]
    have HF := Lib.hid hf
    clear hf
    go_loopg [11, 12] 1 (fun g v11 v12 wr => LoopLo w ar b m d g v11 v12 wr)
    case atStart => exact .inl ⟨rfl, rfl, rfl, H2.out⟩
    case round =>
      rcases hrel with ⟨rfl, rfl, rfl, hst⟩ | ⟨rfl, rfl, a, c, rfl, hst⟩
      rotate_left
      · have HST := Lib.hid hst
        clear hst H2
        have hnl : (listW m).length ≤ 64 := listTo_len m 64
        obtain ⟨n, hn⟩ : ∃ n, (listW m).length = n := ⟨_, rfl⟩
        rw [hn] at HST hnl ⊢
        have HN := Lib.hid hn
        clear hn
        go_wp2_with fail
        go_ret
        rw [HN.out]
        exact ⟨a, c, rfl, HST.out.fin⟩
      · replace H2 := Lib.hid hst
        clear hst
        have e0 : decide ((d : Int) ≥ 0) = true := decide_eq_true (by omega)
        have hdd : (d : Int) / 64 = 0 := by omega
        have ha63 := and63 d hd
        have HW1 := Lib.hid (firstW_some HF.out)
        have HFI := Lib.hid (fun (w' : World) (h : Tab w') (i : Nat) (hi : i ≤ 1000000) => word_first m hml i hi w' h)
        have HFD := Lib.hid (show firstW m d = firstW m 0 by
          obtain ⟨f1, f2, f3, f4⟩ := firstW_some HF.out
          rw [HF.out]
          exact firstW_uniq (Nat.le_refl d) f2 f3 (fun k h1 h2 => absurd h2 (by omega)))
        go_wp2_with (first
          | (go_at_call 140; refine (sc_word_0 H2.out HA.out).mono ?_; rw [wAt_0, HM.out]; rintro e w3 ⟨rfl, h3⟩; have H3 := Lib.hid h3; clear h3 H2)
          | (go_at_call 141; refine (HFI.out _ (H3.out.tab HT.out) d (by omega)).mono ?_; rw [HFD.out]; rintro e w4 ⟨rfl, rfl⟩))
        clear ha63 e0
        go_loopg [11, 15] 64 (fun g v11 v15 wr => LoopLi w ar b m g v11 v15 wr)
        case atStart =>
          obtain ⟨r0, r1, r2, r3, r4, h⟩ := H3.out
          exact ⟨0, 0, none, 0, rfl, rfl, rfl, rfl, r0, r1, r2, r3, r4, h.add (Keep.refl _ _) (A := slA 3 1 (.slice none 0 0) 0 []) (Own.nil _ _ _ _)⟩
        case round =>
          obtain ⟨j, n, a5, c5, hg, rfl, rfl, hn, hst⟩ := hrel
          have hj : j ≤ 64 := by omega
          have HG := Lib.hid hg
          have HNn := Lib.hid hn
          have HST := Lib.hid hst
          have hnb : n ≤ 64 := by have := listTo_len m j; omega
          have en : decide ((n : Int) < 65536) = true := decide_eq_true (by omega)
          have en2 : decide (n < 65536) = true := decide_eq_true (by omega)
          have en3 : decide (((n + 1 : Nat) : Int) < 65536) = true := decide_eq_true (by omega)
          clear hg hn hst H3
          rcases firstW_casesB m j with hf | ⟨d', hf, hd'⟩
          · have HE := Lib.hid (listTo_end hj hf)
            rw [hf]
            clear hf
            go_wp2_with (go_at_call 139; obtain ⟨r0, r1, r2, r3, r4, h⟩ := HST.out; refine (sc_next_64 HST.out HT.out HA.out).mono ?_; rintro e w5 ⟨rfl, h5⟩; have H5 := Lib.hid h5; clear h5 h)
            go_roundg 0
            case measure => omega
            case rel => exact .inr ⟨rfl, rfl, a5, c5, by rw [← HE.out, ← HNn.out], by rw [← HE.out, ← HNn.out]; exact H5.out⟩
          · have HStep := Lib.hid (listTo_step hf)
            have hjd := (firstW_some hf).1
            rw [hf]
            have e0 : decide ((d' : Int) ≥ 0) = true := decide_eq_true (by omega)
            have ho := or_0d hd'
            clear hf
            obtain ⟨r0, r1, r2, r3, r4, h⟩ := HST.out
            obtain ⟨G, hown, _, hup, _⟩ := h.opens 3 rfl
            have HOwn := Lib.hid (show Own G wr 3 1 (.slice a5 n c5) n (intsN (listTo m j)) from hown)
            have HUP := Lib.hid hup
            clear hown hup h
            go_wp2_with (first
              | (at_builtin; go_loud (refine wpList_app (P := Tryz.prog) slIn rfl _ _ rfl (S := G) (S2 := fun z => z = wr.heap.size) (n := n) (xs := intsN (listTo m j)) (m := 1) (news := [.int .i64 (d' : Nat)]) rfl rfl ?_ (Own.lit (S := fun z => z = wr.heap.size) wr 3 1 1 #[.int .i64 (d' : Nat)] (by decide) rfl rfl).rd rfl (by intro u hu; simp at hu; rcases hu with rfl | rfl <;> rfl) (by omega) (by unfold maxLen; omega) ?_; (· exact HOwn.out.keep (T := Nope) ((Keep.refl wr Nope).alloc _) (fun _ _ f => f)); rintro a' k' c' w5 happ; obtain ⟨q1, q2⟩ := app_up (wr := wr) ((Keep.refl wr Nope).alloc _) happ; obtain rfl := happ.num; have h5 := HUP.out w5 _ q1 q2; have H5 := Lib.hid (show ScSt w w5 ar b [slA 3 1 (.slice a' (n + 1) c') (n + 1) (intsN (listTo m j) ++ [.int .i64 (d' : Nat)])] from ⟨r0, r1, r2, r3, r4, h5⟩); clear happ q1 q2 h5))
              | (go_at_call 141; refine (HFI.out _ (H5.out.tab HT.out) (d' + 1) (by omega)).mono ?_; rintro e w6 ⟨rfl, rfl⟩))
            go_roundg (64 - (d' + 1))
            case measure => have := HG.out; omega
            case rel => exact ⟨d' + 1, n + 1, a', c', by omega, rfl, rfl, by rw [HStep.out, List.length_append, ← HNn.out]; rfl, by rw [HStep.out, show intsN (listTo m j ++ [d']) = intsN (listTo m j) ++ [.int .i64 (d' : Nat)] by simp [intsN]]; exact H5.out⟩
end Go.Proofs.YtkiikblpgppmkaaGreatDoor

namespace Go.Proofs.YtkiikblpgppmkaaGreatDoor
open Go Go.RowKit
set_option linter.unusedVariables false
set_option linter.unusedSimpArgs false

set_option maxRecDepth 100000 in
set_option maxHeartbeats 1000000 in
theorem len64_01 (x : Nat) (hx : x ≤ 1) (w : World) : Calls Tryz.prog 309 #[.int .u64 (x : Nat)] w (fun e w' => (∃ i, e = .returned (.int .i64 i)) ∧ w = w') := by
  rcases (show x = 0 ∨ x = 1 by omega) with rfl | rfl
  · go_enter Tryz.func309, Tryz.ntmps309
    go_wp2_with fail
    go_ret
    exact ⟨⟨_, rfl⟩, rfl⟩
  · go_enter Tryz.func309, Tryz.ntmps309
    go_wp2_with fail
    go_ret
    exact ⟨⟨_, rfl⟩, rfl⟩
set_option maxHeartbeats 1000000 in
theorem insert_01 (a : Option Addr) (n c : Nat) (hn : n ≤ 1) (w : World) : Calls Tryz.prog 299 #[.slice a n c, .int .i64 0, .int .i64 (n : Nat)] w (fun e w' => e = .returned (.tuple #[]) ∧ w = w') := by
  rcases (show n = 0 ∨ n = 1 by omega) with rfl | rfl
  · go_enter Tryz.func299, Tryz.ntmps299
    go_wp2_with fail
    refine wp_loop_rounds 1 ?_
    rw [rounds_succ]
    go_wp2_with fail
    go_end0
    exact ⟨rfl, rfl⟩
  · go_enter Tryz.func299, Tryz.ntmps299
    go_wp2_with fail
    refine wp_loop_rounds 1 ?_
    rw [rounds_succ]
    go_wp2_with fail
    go_end0
    exact ⟨rfl, rfl⟩
set_option maxHeartbeats 1000000 in
theorem pdq_01 (a : Option Addr) (n c : Nat) (hn : n ≤ 1) (i : Int) (w : World) : Calls Tryz.prog 280 #[.slice a n c, .int .i64 0, .int .i64 (n : Nat), .int .i64 i] w (fun e w' => e = .returned (.tuple #[]) ∧ w = w') := by
  have HI := Lib.hid (insert_01 a n c hn)
  have e1 : decide ((n : Int) ≤ 12) = true := decide_eq_true (by omega)
  have e2 : decide (n ≤ 12) = true := decide_eq_true (by omega)
  go_enter Tryz.func280, Tryz.ntmps280
  go_wp2_with fail
  refine wp_loop_rounds 1 ?_
  rw [rounds_succ]
  go_wp2_with (go_at_call 299; refine (HI.out _).mono ?_; rintro e w1 ⟨rfl, rfl⟩)
  refine bodyPost_ret (results_none rfl _ _ _) rfl ?_
  exact ⟨rfl, rfl⟩
set_option maxHeartbeats 1000000 in
theorem blen_01 (x : Nat) (hx : x ≤ 1) (w : World) : Calls Tryz.prog 281 #[.int .u64 (x : Nat)] w (fun e w' => (∃ i, e = .returned (.int .i64 i)) ∧ w = w') := by
  have HI := Lib.hid (len64_01 x hx)
  go_enter Tryz.func281, Tryz.ntmps281
  go_wp2_with (go_at_call 309; refine (HI.out _).mono ?_; rintro e w1 ⟨⟨i, rfl⟩, rfl⟩)
  go_ret
  exact ⟨⟨_, rfl⟩, rfl⟩
set_option maxHeartbeats 1000000 in
theorem sort_01 (a : Option Addr) (n c : Nat) (hn : n ≤ 1) (w : World) : Calls Tryz.prog 248 #[.slice a n c] w (fun e w' => e = .returned (.tuple #[]) ∧ w = w') := by
  have HI := Lib.hid (blen_01 n hn)
  have HP := Lib.hid (pdq_01 a n c hn)
  rcases (show n = 0 ∨ n = 1 by omega) with rfl | rfl
  · go_enter Tryz.func248, Tryz.ntmps248
    go_wp2_with (first
      | (go_at_call 281; refine (HI.out _).mono ?_; rintro e w1 ⟨⟨i, rfl⟩, rfl⟩)
      | (go_at_call 280; refine (HP.out i _).mono ?_; rintro e w1 ⟨rfl, rfl⟩))
    go_end0
    exact ⟨rfl, rfl⟩
  · go_enter Tryz.func248, Tryz.ntmps248
    go_wp2_with (first
      | (go_at_call 281; refine (HI.out _).mono ?_; rintro e w1 ⟨⟨i, rfl⟩, rfl⟩)
      | (go_at_call 280; refine (HP.out i _).mono ?_; rintro e w1 ⟨rfl, rfl⟩))
    go_end0
    exact ⟨rfl, rfl⟩
set_option maxHeartbeats 1000000 in
theorem compact_01 (a : Option Addr) (n c : Nat) (hn : n ≤ 1) (w : World) : Calls Tryz.prog 250 #[.slice a n c] w (fun e w' => e = .returned (.slice a n c) ∧ w = w') := by
  have e1 : decide ((n : Int) < 2) = true := decide_eq_true (by omega)
  have e2 : decide (n < 2) = true := decide_eq_true (by omega)
  go_enter Tryz.func250, Tryz.ntmps250
  go_wp2_with fail
  go_ret
  exact ⟨rfl, rfl⟩
set_option maxHeartbeats 1000000 in
theorem clip_0 (w : World) : Calls Tryz.prog 249 #[.slice none 0 0] w (fun e w' => e = .returned (.slice none 0 0) ∧ w = w') := by
  go_enter Tryz.func249, Tryz.ntmps249
  go_wp2_with fail
  go_ret
  exact ⟨rfl, rfl⟩
set_option maxHeartbeats 1000000 in
theorem clip_1 (a : Addr) (c : Nat) (hc : 1 ≤ c) (hm : c ≤ maxLen) (w : World) : Calls Tryz.prog 249 #[.slice (some a) 1 c] w (fun e w' => e = .returned (.slice (some a) 1 1) ∧ w = w') := by
  have hm2 : c ≤ 9223372036854775807 := by unfold maxLen at hm; omega
  go_enter Tryz.func249, Tryz.ntmps249
  go_wp2_with fail
  go_ret
  exact ⟨rfl, rfl⟩
set_option maxHeartbeats 1000000 in
theorem ix_12 (g c : Nat) (w : World) (h0 : w.cell? ⟨g, 0, none⟩ = some (.int .i64 1)) : Calls Tryz.prog 279 #[.slice (some ⟨g, 0, none⟩) 2 c, .int .i64 1] w (fun e w' => e = .returned (.int .i64 0) ∧ w = w') := by
  go_enter Tryz.func279, Tryz.ntmps279
  go_wp2_with fail
  refine wp_loop_rounds 1 ?_
  rw [rounds_succ]
  go_wp2_with fail
  go_ret
  exact ⟨rfl, rfl⟩
set_option maxHeartbeats 1000000 in
theorem has_12 (g c : Nat) (w : World) (h0 : w.cell? ⟨g, 0, none⟩ = some (.int .i64 1)) : Calls Tryz.prog 247 #[.slice (some ⟨g, 0, none⟩) 2 c, .int .i64 1] w (fun e w' => e = .returned (.bool true) ∧ w = w') := by
  have HI := Lib.hid (ix_12 g c w h0)
  go_enter Tryz.func247, Tryz.ntmps247
  go_wp2_with (go_at_call 279; refine HI.out.mono ?_; rintro e w1 ⟨rfl, rfl⟩)
  go_ret
  exact ⟨rfl, rfl⟩
set_option maxHeartbeats 1000000 in
theorem ix_4 (g c : Nat) (w : World) (h0 : w.cell? ⟨g, 0, none⟩ = some (.int .i64 4)) : Calls Tryz.prog 279 #[.slice (some ⟨g, 0, none⟩) 1 c, .int .i64 1] w (fun e w' => e = .returned (.int .i64 (-1)) ∧ w = w') := by
  go_enter Tryz.func279, Tryz.ntmps279
  go_wp2_with fail
  refine wp_loop_rounds 2 ?_
  rw [rounds_succ]
  go_wp2_with fail
  rw [rounds_succ]
  go_wp2_with fail
  go_ret
  exact ⟨rfl, rfl⟩
set_option maxHeartbeats 1000000 in
theorem has_4 (g c : Nat) (w : World) (h0 : w.cell? ⟨g, 0, none⟩ = some (.int .i64 4)) : Calls Tryz.prog 247 #[.slice (some ⟨g, 0, none⟩) 1 c, .int .i64 1] w (fun e w' => e = .returned (.bool false) ∧ w = w') := by
  have HI := Lib.hid (ix_4 g c w h0)
  go_enter Tryz.func247, Tryz.ntmps247
  go_wp2_with (go_at_call 279; refine HI.out.mono ?_; rintro e w1 ⟨rfl, rfl⟩)
  go_ret
  exact ⟨rfl, rfl⟩
set_option maxRecDepth 100000 in
set_option maxHeartbeats 2000000 in
theorem comps_no (g o c kg kc : Nat) (w : World) (h0 : w.cell? ⟨g, o, none⟩ = some (.int .i64 1)) (h1 : w.cell? ⟨g, o + 1, none⟩ = some (.int .i64 0)) (hk : w.cell? ⟨kg, 0, none⟩ = some (.int .i64 4)) :
    Calls Tryz.prog 208 #[.slice (some ⟨g, o, none⟩) 1 c, .slice (some ⟨kg, 0, none⟩) 1 kc] w (fun e w' => e = .returned (.slice none 0 0) ∧ Keep w w' Nope) := by
  have hk1 := (show Keep w (w.alloc (.cells #[.int .i64 1, .int .i64 0] 92)) Nope from (Keep.refl w Nope).alloc _)
  have HK := Lib.hid (hk1.cell hk (fun f => f))
  have HK1 := Lib.hid hk1
  clear hk hk1
  go_enter Tryz.func208, Tryz.ntmps208
  go_wp2_with fail
  refine wp_loop_rounds 2 ?_
  rw [rounds_succ]
  go_wp2_with (go_at_call 247; refine (has_4 kg kc _ HK.out).mono ?_; rintro e w1 ⟨rfl, rfl⟩)
  rw [rounds_succ]
  go_wp2_with (first
    | (go_at_call 248; refine (sort_01 none 0 0 (by omega) _).mono ?_; rintro e w1 ⟨rfl, rfl⟩)
    | (go_at_call 250; refine (compact_01 none 0 0 (by omega) _).mono ?_; rintro e w1 ⟨rfl, rfl⟩)
    | (go_at_call 249; refine (clip_0 _).mono ?_; rintro e w1 ⟨rfl, rfl⟩))
  go_ret
  exact ⟨rfl, HK1.out⟩
set_option maxRecDepth 100000 in
set_option maxHeartbeats 2000000 in
theorem comps_yes (g o c kg kc : Nat) (w : World) (h0 : w.cell? ⟨g, o, none⟩ = some (.int .i64 1)) (h1 : w.cell? ⟨g, o + 1, none⟩ = some (.int .i64 0)) (hk : w.cell? ⟨kg, 0, none⟩ = some (.int .i64 1)) :
    Calls Tryz.prog 208 #[.slice (some ⟨g, o, none⟩) 1 c, .slice (some ⟨kg, 0, none⟩) 2 kc] w (fun e w' => ∃ r rc, e = .returned (.slice (some ⟨r, 0, none⟩) 1 1) ∧ St w w' [slA 3 1 (.slice (some ⟨r, 0, none⟩) 1 rc) 1 [.int .i64 0]]) := by
  have hk1 := (show Keep w (w.alloc (.cells #[.int .i64 1, .int .i64 0] 92)) Nope from (Keep.refl w Nope).alloc _)
  have HK := Lib.hid (hk1.cell hk (fun f => f))
  have HK1 := Lib.hid hk1
  clear hk hk1
  go_enter Tryz.func208, Tryz.ntmps208
  go_wp2_with fail
  refine wp_loop_rounds 2 ?_
  rw [rounds_succ]
  go_upto_region 6 with (go_at_call 247; refine (has_12 kg kc _ HK.out).mono ?_; rintro e w1 ⟨rfl, rfl⟩)
  have hb1 := Blk.new w #[.int .i64 1, .int .i64 0] 92
  obtain ⟨nb, hnb⟩ : ∃ nb, w.heap.size = nb := ⟨_, rfl⟩
  obtain ⟨wa, hwa⟩ : ∃ wa, w.alloc (.cells #[.int .i64 1, .int .i64 0] 92) = wa := ⟨_, rfl⟩
  rw [hwa] at HK1 HK
  rw [hwa, hnb] at hb1
  rw [hwa, hnb]
  have c1 : wa.cell? ⟨nb, 1, none⟩ = some (.int .i64 0) := by rw [hb1.cell]; rfl
  have HSZ := Lib.hid (HK1.out.size)
  clear hwa hb1
  go_wp2_with (at_builtin; go_loud (refine wpList_app (P := Tryz.prog) slIn rfl _ _ rfl (S := fun _ => False) (S2 := fun z => z = wa.heap.size) (n := 0) (xs := []) (m := 1) (news := [.int .i64 0]) rfl rfl (Own.nil _ _ _ _) (Own.lit (S := fun z => z = wa.heap.size) wa 3 1 1 #[.int .i64 0] (by decide) rfl rfl).rd rfl (by intro u hu; simp at hu; rcases hu with rfl | rfl <;> rfl) (by omega) (by unfold maxLen; omega) ?_; rintro a' k' c' w5 happ; obtain rfl := happ.num; have HAPP := Lib.hid happ; clear happ))
  have hup := app_up (wr := wa) ((Keep.refl wa Nope).alloc _) HAPP.out
  have HST := Lib.hid (show St w w5 [slA 3 1 (.slice a' 1 c') 1 [.int .i64 0]] from ((St.start w).keep HK1.out).add (hup.1.mono (fun _ f => f.elim)) ((slA 3 1 (.slice a' 1 c') 1 [.int .i64 0]).mono hup.2 (fun i h => h.elim (fun f => f.elim) id)))
  obtain ⟨r, rfl, _⟩ := HST.out.store 0 rfl (by decide)
  have HCP := Lib.hid (Own.cap (HST.out.rd 0 rfl).choose_spec.1)
  clear hup c1
  rw [rounds_succ]
  go_wp2_with (first
    | (go_at_call 248; refine (sort_01 (some ⟨r, 0, none⟩) 1 c' (by omega) _).mono ?_; rintro e w1 ⟨rfl, rfl⟩)
    | (go_at_call 250; refine (compact_01 (some ⟨r, 0, none⟩) 1 c' (by omega) _).mono ?_; rintro e w1 ⟨rfl, rfl⟩)
    | (go_at_call 249; refine (clip_1 ⟨r, 0, none⟩ c' HCP.out.1 HCP.out.2 _).mono ?_; rintro e w1 ⟨rfl, rfl⟩))
  go_ret
  exact ⟨r, c', rfl, HST.out⟩
end Go.Proofs.YtkiikblpgppmkaaGreatDoor

namespace Go.Proofs.YtkiikblpgppmkaaGreatDoor
open Go Go.RowKit
set_option linter.unusedVariables false
set_option linter.unusedSimpArgs false

set_option maxHeartbeats 1000000 in
theorem asks_1 (w : World) : Calls Tryz.prog 206 #[.agg #[.int .i64 1, .int .i64 0]] w (Ret w (.bool true)) := by
  go_enter Tryz.func206, Tryz.ntmps206
  go_wp2_with fail
  go_ret
  exact ⟨rfl, (Keep.refl w Nope).alloc _⟩
set_option maxHeartbeats 1000000 in
theorem parts_1 (w : World) : Calls Tryz.prog 207 #[.agg #[.int .i64 1, .int .i64 0]] w (Ret w (.bool false)) := by
  go_enter Tryz.func207, Tryz.ntmps207
  go_wp2_with fail
  go_ret
  exact ⟨rfl, (Keep.refl w Nope).alloc _⟩
set_option maxHeartbeats 1000000 in
theorem cix_asks (g o c : Nat) (w : World) (h0 : w.cell? ⟨g, o, none⟩ = some (.int .i64 1)) (h1 : w.cell? ⟨g, o + 1, none⟩ = some (.int .i64 0)) : Calls Tryz.prog 246 #[.slice (some ⟨g, o, none⟩) 1 c, .func (.func 206) #[] #[]] w (Ret w (.int .i64 0)) := by
  go_enter Tryz.func246, Tryz.ntmps246
  go_wp2_with fail
  refine wp_loop_rounds 2 ?_
  rw [rounds_succ]
  go_wp2_with (go_at_call 206; refine (asks_1 _).mono ?_; rintro e w1 ⟨rfl, hk⟩; have HK := Lib.hid hk; clear hk)
  go_ret
  exact ⟨rfl, HK.out⟩
set_option maxHeartbeats 1000000 in
theorem cix_parts (g o c : Nat) (w : World) (h0 : w.cell? ⟨g, o, none⟩ = some (.int .i64 1)) (h1 : w.cell? ⟨g, o + 1, none⟩ = some (.int .i64 0)) : Calls Tryz.prog 246 #[.slice (some ⟨g, o, none⟩) 1 c, .func (.func 207) #[] #[]] w (Ret w (.int .i64 (-1))) := by
  go_enter Tryz.func246, Tryz.ntmps246
  go_wp2_with fail
  refine wp_loop_rounds 2 ?_
  rw [rounds_succ]
  go_wp2_with (go_at_call 207; refine (parts_1 _).mono ?_; rintro e w1 ⟨rfl, hk⟩; have HK := Lib.hid hk; clear hk)
  rw [rounds_succ]
  go_wp2_with fail
  go_ret
  exact ⟨rfl, HK.out⟩
set_option maxHeartbeats 1000000 in
theorem cix_check (a : Option Addr) (c : Nat) (x y : Value) (w : World) : Calls Tryz.prog 246 #[.slice a 0 c, .func (.func 245) #[] #[x, y]] w (Ret w (.int .i64 (-1))) := by
  go_enter Tryz.func246, Tryz.ntmps246
  go_wp2_with fail
  refine wp_loop_rounds 1 ?_
  rw [rounds_succ]
  go_wp2_with fail
  go_ret
  exact ⟨rfl, Keep.refl _ _⟩
set_option maxHeartbeats 1000000 in
theorem con_asks (g o c : Nat) (w : World) (h0 : w.cell? ⟨g, o, none⟩ = some (.int .i64 1)) (h1 : w.cell? ⟨g, o + 1, none⟩ = some (.int .i64 0)) : Calls Tryz.prog 205 #[.slice (some ⟨g, o, none⟩) 1 c, .func (.func 206) #[] #[]] w (Ret w (.bool true)) := by
  have HI := Lib.hid (cix_asks g o c w h0 h1)
  clear h0 h1
  go_enter Tryz.func205, Tryz.ntmps205
  go_wp2_with (go_at_call 246; refine HI.out.mono ?_; rintro e w1 ⟨rfl, hk⟩; have HK := Lib.hid hk; clear hk)
  go_ret
  exact ⟨rfl, HK.out⟩
set_option maxHeartbeats 1000000 in
theorem con_parts (g o c : Nat) (w : World) (h0 : w.cell? ⟨g, o, none⟩ = some (.int .i64 1)) (h1 : w.cell? ⟨g, o + 1, none⟩ = some (.int .i64 0)) : Calls Tryz.prog 205 #[.slice (some ⟨g, o, none⟩) 1 c, .func (.func 207) #[] #[]] w (Ret w (.bool false)) := by
  have HI := Lib.hid (cix_parts g o c w h0 h1)
  clear h0 h1
  go_enter Tryz.func205, Tryz.ntmps205
  go_wp2_with (go_at_call 246; refine HI.out.mono ?_; rintro e w1 ⟨rfl, hk⟩; have HK := Lib.hid hk; clear hk)
  go_ret
  exact ⟨rfl, HK.out⟩
set_option maxHeartbeats 1000000 in
theorem con_check (a : Option Addr) (c : Nat) (x y : Value) (w : World) : Calls Tryz.prog 205 #[.slice a 0 c, .func (.func 245) #[] #[x, y]] w (Ret w (.bool false)) := by
  have HI := Lib.hid (cix_check a c x y w)
  go_enter Tryz.func205, Tryz.ntmps205
  go_wp2_with (go_at_call 246; refine HI.out.mono ?_; rintro e w1 ⟨rfl, hk⟩; have HK := Lib.hid hk; clear hk)
  go_ret
  exact ⟨rfl, HK.out⟩
set_option maxHeartbeats 1000000 in
theorem pln_check1 (da a : Option Addr) (dn dc c : Nat) (hd : 1 ≤ dn) (hm : dn ≤ 1000000) (w : World) : Calls Tryz.prog 204 #[.slice da dn dc, .agg #[.int .i64 1, .int .i64 0], .slice a 0 c] w (Ret w (.int .i64 0)) := by
  have e1 : decide ((0 : Int) ≥ (dn : Int)) = false := decide_eq_false (by omega)
  have e2 : decide (dn ≤ 0) = false := decide_eq_false (by omega)
  have e3 : decide ((dn : Int) ≤ 0) = false := decide_eq_false (by omega)
  have HC := Lib.hid (fun x y w => con_check a c x y w)
  have hk0 := (show Keep w ((w.alloc (.cells #[.int .i64 1, .int .i64 0] 92)).alloc (.cells #[.bool false] 4)) Nope from ((Keep.refl w Nope).alloc _).alloc _)
  have HK0 := Lib.hid hk0
  clear hk0
  go_enter Tryz.func204, Tryz.ntmps204
  go_wp2_with (go_at_call 205; refine (HC.out _ _ _).mono ?_; rintro e w1 ⟨rfl, hk⟩; have HK := Lib.hid (HK0.out.trans hk (fun _ f => f.elim)); clear hk)
  go_ret
  exact ⟨rfl, HK.out⟩
end Go.Proofs.YtkiikblpgppmkaaGreatDoor

namespace Go.Proofs.YtkiikblpgppmkaaGreatDoor
open Go Go.RowKit
set_option linter.unusedVariables false
set_option linter.unusedSimpArgs false

set_option maxRecDepth 100000 in
set_option maxHeartbeats 1000000 in
theorem pln_check (da : Option Addr) (dn dc g o c : Nat) (hd : 1 ≤ dn) (hm : dn ≤ 1000000) (hc : c ≤ maxLen) (w : World) (h0 : w.cell? ⟨g, o, none⟩ = some (.int .i64 1)) (h1 : w.cell? ⟨g, o + 1, none⟩ = some (.int .i64 0)) :
    Calls Tryz.prog 127 #[.slice da dn dc, .slice (some ⟨g, o, none⟩) 1 c] w (Ret w (.int .i64 0)) := by
  have HP := Lib.hid (fun w => pln_check1 da (some ⟨g, o, none⟩) dn dc c hd hm w)
  have HA := Lib.hid (fun (w' : World) (hk : Keep w w' Nope) => con_asks g o c w' (hk.cell h0 (fun f => f)) (hk.cell h1 (fun f => f)))
  have hc2 : c ≤ 9223372036854775807 := by unfold maxLen at hc; omega
  go_enter Tryz.func127, Tryz.ntmps127
  go_wp2_with fail
  refine wp_loop_rounds 2 ?_
  rw [rounds_succ]
  go_wp2_with fail
  have hk1 := (show Keep w (w.alloc (.cells #[.int .i64 1, .int .i64 0] 92)) Nope from (Keep.refl w Nope).alloc _)
  have hb1 := Blk.new w #[.int .i64 1, .int .i64 0] 92
  obtain ⟨nb, hnb⟩ : ∃ nb, w.heap.size = nb := ⟨_, rfl⟩
  obtain ⟨wa, hwa⟩ : ∃ wa, w.alloc (.cells #[.int .i64 1, .int .i64 0] 92) = wa := ⟨_, rfl⟩
  rw [hwa] at hk1
  rw [hwa, hnb] at hb1
  rw [hwa, hnb]
  have HK1 := Lib.hid hk1
  have b0 : wa.cell? ⟨nb, 0, none⟩ = some (.int .i64 1) := by rw [hb1.cell]; rfl
  have b1 : wa.cell? ⟨nb, 1, none⟩ = some (.int .i64 0) := by rw [hb1.cell]; rfl
  clear hwa hb1 hk1 h0 h1 hnb
  refine wp_region_M (r := 5) (S := fun w' => w'.cell? ⟨nb, 0, none⟩ = some (.int .i64 1) ∧ w'.cell? ⟨nb, 1, none⟩ = some (.int .i64 0)) (by kernel_rfl) ?_ (fun hHeld => ?_)
  · (try dsimp only); exact ⟨b0, b1⟩
  refine tkP 0 ?_; refine tkH 1 ?_; refine tkP 2 ?_; refine tkP 3 ?_; refine tkP 4 ?_; refine tkF 5 ?_
  intro K hK
  go_simp
  go_wp2_with ((go_at_call 204; refine (HP.out _).mono ?_; rintro e w1 ⟨rfl, hk⟩; have HK2 := Lib.hid (HK1.out.drew.trans hk (fun _ f => f.elim)); clear hk))
  refine hK.out _ _ ?_
  clear hK K
  refine tkP 6 ?_
  refine wpAnyM_done (by kernel_rfl) ?_ _
  clear hHeld b0 b1
  go_wp2_with fail
  rw [rounds_succ]
  go_wp2_with (go_at_call 205; refine (HA.out _ HK2.out).mono ?_; rintro e w3 ⟨rfl, hk⟩; have HK3 := Lib.hid (HK2.out.trans hk (fun _ f => f.elim)); clear hk)
  go_ret
  exact ⟨rfl, HK3.out⟩
set_option maxRecDepth 100000 in
set_option maxHeartbeats 1000000 in
theorem pln_parts (g o c : Nat) (w : World) (h0 : w.cell? ⟨g, o, none⟩ = some (.int .i64 1)) (h1 : w.cell? ⟨g, o + 1, none⟩ = some (.int .i64 0)) :
    Calls Tryz.prog 130 #[.slice (some ⟨g, o, none⟩) 1 c] w (fun e w' => ∃ r rc, e = .returned (.tuple #[.slice (some ⟨r, 0, none⟩) 1 1, .slice none 0 0, .bool false]) ∧ St w w' [slA 3 1 (.slice (some ⟨r, 0, none⟩) 1 rc) 1 [.int .i64 0]]) := by
  have HA := Lib.hid (con_parts g o c w h0 h1)
  have HY := Lib.hid (fun (kg kc : Nat) (w' : World) (hk : Keep w w' Nope) (hg : w'.cell? ⟨kg, 0, none⟩ = some (.int .i64 1)) => comps_yes g o c kg kc w' (hk.cell h0 (fun f => f)) (hk.cell h1 (fun f => f)) hg)
  have HN := Lib.hid (fun (kg kc : Nat) (w' : World) (hk : Keep w w' Nope) (hg : w'.cell? ⟨kg, 0, none⟩ = some (.int .i64 4)) => comps_no g o c kg kc w' (hk.cell h0 (fun f => f)) (hk.cell h1 (fun f => f)) hg)
  clear h0 h1
  go_enter Tryz.func130, Tryz.ntmps130
  go_upto_region 2 with (go_at_call 205; refine HA.out.mono ?_; rintro e w1 ⟨rfl, hk⟩; have HK1 := Lib.hid hk; clear hk)
  have hb1 := Blk.new w1 #[.int .i64 1, .int .i64 2] 3
  have HB1 := Lib.hid (show (w1.alloc (.cells #[.int .i64 1, .int .i64 2] 3)).cell? ⟨w1.heap.size, 0, none⟩ = some (.int .i64 1) by rw [hb1.cell]; rfl)
  clear hb1
  have HSZ := Lib.hid (HK1.out.alloc (.cells #[.int .i64 1, .int .i64 2] 3)).size
  go_wp2_with fail
  refine (HY.out _ _ _ (HK1.out.alloc _) HB1.out).mono ?_
  rintro e w2 ⟨r, rc, rfl, h2⟩
  have HST := Lib.hid (St.ofNew ((St.start w).keep (HK1.out.alloc (.cells #[.int .i64 1, .int .i64 2] 3))) h2)
  have HK2 := Lib.hid (Keep.ofSt HST.out)
  clear h2
  have hb2 := Blk.new w2 #[.int .i64 4] 3
  have HB2 := Lib.hid (show (w2.alloc (.cells #[.int .i64 4] 3)).cell? ⟨w2.heap.size, 0, none⟩ = some (.int .i64 4) from (by rw [hb2.cell]; rfl))
  clear hb2
  go_wp2_with fail
  refine (HN.out _ _ _ (HK2.out.alloc _) HB2.out).mono ?_
  rintro e w3 ⟨rfl, hk⟩
  have HK3 := Lib.hid (((Keep.refl w2 Nope).alloc _).trans hk (fun _ f => f.elim))
  clear hk
  go_wp2_with fail
  refine bodyPost_ret (v := .tuple #[.slice (some ⟨r, 0, none⟩) 1 1, .slice none 0 0, .bool false]) (by simp [results, Tryz.results130, go_sem]) rfl ⟨r, rc, rfl, HST.out.keep HK3.out⟩
end Go.Proofs.YtkiikblpgppmkaaGreatDoor

namespace Go.Proofs.YtkiikblpgppmkaaGreatDoor
open Go Go.RowKit
set_option linter.unusedVariables false
set_option linter.unusedSimpArgs false

theorem slDs : SlTy Tryz.prog 24 60 3 24 := SlTy.mk' (.agg #[.int .i64 0, .int .i64 0, .int .i64 0]) Tryz.underlying24 (by kernel_rfl) rfl (by decide)
def LoopDs (w : World) (n : Nat) (g : Nat) (v3 v11 : Value) (wr : World) : Prop :=
  ∃ (k : Nat) (a5 : Option Addr) (c5 : Nat) (xs : List Value), g + k = n ∧ v11 = .int .i64 (k : Nat) ∧ v3 = .slice a5 k c5 ∧ (∀ u ∈ xs, u.oneCell' = true) ∧ St w wr [slA 60 3 (.slice a5 k c5) k xs]
set_option maxHeartbeats 2000000 in
theorem reg_descs {w0 w : World} {R : List Asr} {b : Nat} {l : List SlS} {q : RgB} (H : St w0 w (regL b l q ++ R)) (hn : l.length ≤ 64) :
    Calls Tryz.prog 128 #[ptr b] w (fun e w' => ∃ a c, e = .returned (.slice a l.length c) ∧ Keep w w' Nope) := by
  have hc0 := H.regCell
  have hbl := H.regLen
  obtain ⟨n, hln⟩ : ∃ n, l.length = n := ⟨_, rfl⟩
  rw [hln] at hc0 hn ⊢
  have HL := Lib.hid hln
  have HBL := Lib.hid hbl
  have HH := Lib.hid H
  clear H hbl hln
  unfold ptr at *
  go_enter Tryz.func128, Tryz.ntmps128
  go_wp2_with fail
  go_loopg [3, 11] n (fun g v3 v11 wr => LoopDs w n g v3 v11 wr)
  case atStart => exact ⟨0, none, 0, [], rfl, rfl, rfl, fun u hu => by simp at hu, (St.start w).add (Keep.refl _ _) (A := slA 60 3 (.slice none 0 0) 0 []) (Own.nil _ _ _ _)⟩
  case round =>
    obtain ⟨k, a5, c5, xs, hg, rfl, rfl, hone, hst⟩ := hrel
    have HG := Lib.hid hg
    have HST := Lib.hid hst
    have HONE := Lib.hid hone
    have hk64 : k ≤ 64 := by omega
    clear hg hst hone
    by_cases hlt : k < n
    · have hH := HH.out.keep (Keep.ofSt HST.out)
      obtain ⟨x, hx⟩ : ∃ x, q.bs[k]? = some x := ⟨_, List.getElem?_eq_getElem (by rw [HBL.out, HL.out]; exact hlt)⟩
      obtain ⟨s, hs⟩ : ∃ s, l[k]? = some s := ⟨_, List.getElem?_eq_getElem (by rw [HL.out]; exact hlt)⟩
      obtain ⟨gr, hgr, hrow⟩ := hH.regRow hx
      obtain ⟨pp, hp⟩ := hH.regOpen hx hs
      rw [hgr]
      have HB := Lib.hid (hp.blk 0 rfl)
      obtain ⟨G, hown, _, hup, _⟩ := HST.out.opens 0 rfl
      have HOwn := Lib.hid (show Own G wr 60 3 (.slice a5 k c5) k xs from hown)
      have HUP := Lib.hid hup
      have HGR := Lib.hid hgr
      clear hown hup hH hx hs hp hgr
      unfold ptr at hrow
      have HD := Lib.hid (slo_desc x s pp _ (HB.out.alloc (.cells #[.pointer (some ⟨x, 0, none⟩)] 245)))
      obtain ⟨d0, hd0⟩ : ∃ d : Int, ((s.kind : Nat) : Int) = d := ⟨_, rfl⟩
      obtain ⟨d1, hd1⟩ : ∃ d : Int, ((s.var : Nat) : Int) = d := ⟨_, rfl⟩
      obtain ⟨d2, hd2⟩ : ∃ d : Int, ((s.bound : Nat) : Int) = d := ⟨_, rfl⟩
      rw [hd0, hd1, hd2] at HD
      clear hd0 hd1 hd2
      unfold ptr at HD
      go_wp2_with (first
        | (go_at_call 117; refine HD.out.mono ?_; rintro e w2 ⟨rfl, hk2⟩; have HK2 := Lib.hid (((Keep.refl wr Nope).alloc _).trans hk2 (fun _ f => f.elim)); clear hk2)
        | (at_builtin; go_loud (refine wpList_app (P := Tryz.prog) slDs rfl _ _ rfl (S := G) (S2 := fun z => z = w2.heap.size) (n := k) (xs := xs) (m := 1) (news := [.int .i64 d0, .int .i64 d1, .int .i64 d2]) rfl rfl ?_ (Own.lit (S := fun z => z = w2.heap.size) w2 60 3 1 #[.int .i64 d0, .int .i64 d1, .int .i64 d2] (by decide) rfl rfl).rd rfl (by intro u hu; simp at hu; rcases hu with rfl | rfl | rfl <;> rfl) (by omega) (by unfold maxLen; omega) ?_; (· exact HOwn.out.keep (T := Nope) (HK2.out.alloc _) (fun _ _ f => f)); rintro a' k' c' w5 happ; obtain ⟨q1, q2⟩ := app_up (wr := wr) (HK2.out.alloc _) happ; obtain rfl := happ.num; have h5 := HUP.out w5 _ q1 q2; have H5 := Lib.hid h5; clear happ q1 q2 h5)))
      rw [← HGR.out]
      go_roundg (n - (k + 1))
      case measure => have := HG.out; omega
      case rel => exact ⟨k + 1, a', c', _, by have := HG.out; omega, by go_num, rfl, fun u hu => by
        rcases List.mem_append.1 hu with h | h
        · exact HONE.out u h
        · simp at h; rcases h with rfl | rfl | rfl <;> rfl, H5.out⟩
    · obtain rfl : k = n := by have := HG.out; omega
      go_wp2_with fail
      go_ret
      exact ⟨a5, c5, rfl, Keep.ofSt HST.out⟩
end Go.Proofs.YtkiikblpgppmkaaGreatDoor

namespace Go.Proofs.YtkiikblpgppmkaaGreatDoor
open Go Go.RowKit
set_option linter.unusedVariables false
set_option linter.unusedSimpArgs false

structure NdV where
  kind : Int
  a : Option Addr
  n : Nat
  c : Nat
def NdV.cells (x : NdV) : List Value := [.int .i64 x.kind, .slice x.a x.n x.c]
def flatNd (l : List NdV) : List Value := l.flatMap NdV.cells
theorem slNd : SlTy Tryz.prog 321 367 2 32 := SlTy.mk' (.agg #[.int .i64 0, .slice none 0 0]) Tryz.underlying321 (by kernel_rfl) rfl (by decide)
theorem slSet : SlTy Tryz.prog 322 186 1 8 := SlTy.mk' (.pointer none) Tryz.underlying322 (by kernel_rfl) rfl (by decide)
structure ArQ where
  a : Option Addr
  c : Nat
  sa : Option Addr
  sc : Nat
def arL (b : Nat) (ns : List NdV) (ss : List Nat) (q : ArQ) : List Asr :=
  [blkA b #[.slice q.a ns.length q.c, .slice q.sa ss.length q.sc] 324, slA 367 2 (.slice q.a ns.length q.c) ns.length (flatNd ns), slA 186 1 (.slice q.sa ss.length q.sc) ss.length (ss.map ptr)]
set_option maxHeartbeats 400000 in
theorem clone_in (v : Value) (l : List Nat) (w : World) (S : Nat → Prop) (h : Rd S w v l.length (intsN l)) (hb : l.length ≤ 100000) :
    Calls Tryz.prog 253 #[v] w (fun e w' => ∃ a c, e = .returned (.slice a l.length c) ∧ (v = .slice none 0 0 → a = none ∧ c = 0) ∧ Own (New w w') w' 3 1 (.slice a l.length c) l.length (intsN l) ∧ Keep w w' Nope) := by
  obtain ⟨a, c, rfl, h1, h2, h3, h4⟩ := id h
  have hl := intsN_len l
  have hone : ∀ u ∈ intsN l, u.oneCell' = true := fun u hu => by
    obtain ⟨x, _, rfl⟩ := List.mem_map.1 hu
    rfl
  obtain ⟨xs, hxs⟩ : ∃ xs, intsN l = xs := ⟨_, rfl⟩
  rw [hxs] at h hl hone ⊢
  obtain ⟨n, hn⟩ : ∃ n, l.length = n := ⟨_, rfl⟩
  rw [hn] at h h1 h3 hl hb ⊢
  have hmx : 0 + n ≤ maxLen := by unfold maxLen; omega
  have hbb : (0 + n) * 8 ≤ 140737488355328 := by omega
  have hnil := fun w' => Lib.run_eql_slice_nil (P := Tryz.prog) w' 22 3 a n c 0 0 Tryz.underlying22
  clear h1 h2 h4 hn hxs
  cases a with
  | none =>
    obtain ⟨hn, hc⟩ := h3 rfl
    clear h3
    subst hn
    subst hc
    have hx : xs = [] := List.eq_nil_of_length_eq_zero hl
    subst hx
    clear hl hone hb hmx hbb
    simp only [Option.isNone_none] at hnil
    go_enter Tryz.func253, Tryz.ntmps253
    go_wp2_with fail
    go_ret
    exact ⟨_, _, rfl, fun _ => ⟨rfl, rfl⟩, Own.nil _ _ _ _, Keep.refl _ _⟩
  | some ad =>
    clear h3
    simp only [Option.isNone_some] at hnil
    have HL := Lib.hid hl; clear hl
    have HO := Lib.hid hone; clear hone
    go_enter Tryz.func253, Tryz.ntmps253
    go_wp2_with (at_builtin; refine wpList_app (P := Tryz.prog) slIn rfl _ _ rfl (S := fun i => w.heap.size ≤ i) (S2 := S) (n := 0) (xs := []) (m := n) (news := xs) rfl rfl ?hown ?hx ?hl ?h1 hbb hmx ?_)
    case hown => exact Own.lit w _ 1 0 #[] (Nat.zero_le _) rfl (Nat.le_refl _)
    case hx => exact h.alloc _
    case hl => rw [HL.out, Nat.mul_one]
    case h1 => exact HO.out
    rintro a' k c' w1 ⟨ho, hnum, hk1, _⟩
    rw [Nat.zero_add] at hnum
    subst hnum
    clear hnil h hbb hmx hb
    have HO1 := Lib.hid ho; clear ho
    have HK := Lib.hid hk1; clear hk1
    go_wp2_with fail
    go_ret
    exact ⟨_, _, rfl, fun e => by simp at e, (HO1.out.mono (fun i h => h.elim id (fun h => by have := h.1; simp at this; omega))).new, (Keep.alloc (Keep.refl w Nope) _).trans HK.out (fun i h => .inr h)⟩
def LoopAd (w : World) (n : Nat) (g : Nat) (v8 : Value) (wr : World) : Prop :=
  ∃ k : Nat, g + k = n ∧ v8 = .int .i64 k ∧ w = wr
set_option maxHeartbeats 1000000 in
theorem add_1c (b cp k n : Nat) (a : Option Addr) (c : Nat) (hk : k < n) (w : World) (h0 : w.cell? ⟨cp, 0, none⟩ = some (ptr b)) (h1 : w.cell? ⟨b, 0, none⟩ = some (.slice a n c)) :
    Calls Tryz.prog 251 #[.int .i64 (k : Nat), ptr cp] w (fun e w' => e = .returned (.bool false) ∧ w = w') := by
  have e0 : decide ((k : Int) < 0) = false := decide_eq_false (by omega)
  have e1 : decide ((k : Int) ≥ (n : Int)) = false := decide_eq_false (by omega)
  have e2 : decide (n ≤ k) = false := decide_eq_false (by omega)
  unfold ptr at *
  go_enter Tryz.func251, Tryz.ntmps251
  go_wp2_with fail
  go_ret
  exact ⟨rfl, rfl⟩
set_option maxHeartbeats 1000000 in
theorem aix_add (b cp n : Nat) (a : Option Addr) (c : Nat) (v : Value) (l : List Nat) (hl : ∀ k, k ∈ l → k < n) (w : World) (S : Nat → Prop) (h : Rd S w v l.length (intsN l)) (h0 : w.cell? ⟨cp, 0, none⟩ = some (ptr b)) (h1 : w.cell? ⟨b, 0, none⟩ = some (.slice a n c)) :
    Calls Tryz.prog 282 #[v, .func (.func 251) #[] #[ptr cp]] w (fun e w' => e = .returned (.int .i64 (-1)) ∧ w = w') := by
  obtain ⟨va, vc, rfl, g1, g2, g3, g4⟩ := id h
  have hlen : l.length ≤ 9223372036854775807 := by unfold maxLen at g2; omega
  clear g1 g2 g3 g4
  have H := Lib.hid h; clear h
  have HC := Lib.hid (fun k (hk : k < n) => add_1c b cp k n a c hk w h0 h1)
  have HL := Lib.hid hl
  clear h0 h1 hl
  unfold ptr at *
  go_enter Tryz.func282, Tryz.ntmps282
  go_wp2_with fail
  go_loopg [8] l.length (fun g v8 wr => LoopAd w l.length g v8 wr)
  case atStart => exact ⟨0, rfl, rfl, rfl⟩
  case round =>
    obtain ⟨k, hk, rfl, rfl⟩ := hrel
    have hkl : k ≤ l.length := by omega
    have HK := Lib.hid hk; clear hk
    by_cases hlt : k < l.length
    · obtain ⟨x, hx⟩ : ∃ x, l[k]? = some x := ⟨_, List.getElem?_eq_getElem hlt⟩
      obtain ⟨va', vc', he, _, _, _, hel⟩ := id H.out
      injection he with he1 he2 he3
      obtain ⟨bo, oo, e1, hbo, hc0⟩ := hel k (.int .i64 (x : Nat)) (by rw [intsN, List.getElem?_map, hx]; rfl)
      rw [← he1] at e1
      subst e1
      clear hel he1 he3
      have HX := Lib.hid (HC.out x (HL.out x (List.mem_of_getElem? hx)))
      clear hx
      go_wp2_with (go_at_call 251; refine HX.out.mono ?_; rintro e w1 ⟨rfl, rfl⟩)
      go_roundg (l.length - (k + 1))
      case measure => have := HK.out; omega
      case rel => exact ⟨k + 1, by have := HK.out; omega, by go_num, rfl⟩
    · go_wp2_with fail
      go_ret
      exact ⟨rfl, rfl⟩
set_option maxHeartbeats 1000000 in
theorem acon_add (b cp n : Nat) (a : Option Addr) (c : Nat) (v : Value) (l : List Nat) (hl : ∀ k, k ∈ l → k < n) (w : World) (S : Nat → Prop) (h : Rd S w v l.length (intsN l)) (h0 : w.cell? ⟨cp, 0, none⟩ = some (ptr b)) (h1 : w.cell? ⟨b, 0, none⟩ = some (.slice a n c)) :
    Calls Tryz.prog 252 #[v, .func (.func 251) #[] #[ptr cp]] w (fun e w' => e = .returned (.bool false) ∧ w = w') := by
  have HI := Lib.hid (aix_add b cp n a c v l hl w S h h0 h1)
  clear h h0 h1 hl
  unfold ptr at *
  go_enter Tryz.func252, Tryz.ntmps252
  go_wp2_with (go_at_call 282; refine HI.out.mono ?_; rintro e w1 ⟨rfl, rfl⟩)
  go_ret
  exact ⟨rfl, rfl⟩
end Go.Proofs.YtkiikblpgppmkaaGreatDoor
