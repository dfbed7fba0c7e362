/-
  The document's components: what lies where; Index, Ok, find; The document's tables: Put; The document's tables: Take.
-/
import Derived.Test.YtkiikblpgppmkaaGreatDoorTlM12
import Derived.Test.YtkiikblpgppmkaaGreatDoorTlM14
namespace Go.Proofs.YtkiikblpgppmkaaGreatDoor
open Go Go.RowKit
set_option linter.unusedVariables false
set_option linter.unusedSimpArgs false

/-- A table inside a block: the fourth of five cells. -/
structure T5B where
  x0 : Value
  x1 : Value
  x2 : Value
  x4 : Value
def t5L (b : Nat) (x : T5B) (rows : List RowV) (ra : Option Addr) (rc : Nat) : List Asr := [blkA b #[x.x0, x.x1, x.x2, .slice ra rows.length rc, x.x4] 108, slA 342 4 (.slice ra rows.length rc) rows.length (flatRow rows)]
theorem slC5 : SlTy Tryz.prog 103 342 4 32 := SlTy.mk' (.agg #[.int .i64 0, .int .i64 0, .int .i64 0, .int .i64 0]) Tryz.underlying103 (by kernel_rfl) rfl (by decide)
theorem c5_index (k : Nat) (hk : k < 64) (w : World) : Calls Tryz.prog 241 #[.int .i64 (k : Nat)] w (fun e w' => e = .returned (.bool true) ∧ w = w') := by
  have e0 : decide ((k : Int) ≥ 0) = true := decide_eq_true (by omega)
  have e1 : decide ((k : Int) < 65536) = true := decide_eq_true (by omega)
  have e2 : decide (k < 65536) = true := decide_eq_true (by omega)
  go_enter Tryz.func241, Tryz.ntmps241
  go_wp2_with fail
  go_ret
  exact ⟨rfl, rfl⟩
def Loop5Find (w : World) (n : Nat) (g : Nat) (v5 : Value) (wr : World) : Prop := ∃ j : Nat, g + j = n ∧ v5 = .int .i64 (j : Nat) ∧ wr = w
def Ret5Find (n : Nat) (w : World) (e : Ending) (w' : World) : Prop := w' = w ∧ ∃ z : Int, e = .returned (.int .i64 z) ∧ (z = -1 ∨ ∃ p : Nat, z = p ∧ p < n)
set_option maxRecDepth 100000 in
set_option maxHeartbeats 1000000 in
theorem t5_find {w0 w : World} {R : List Asr} {b : Nat} {x : T5B} {rows : List RowV} {ra : Option Addr} {rc : Nat} (H : St w0 w (t5L b x rows ra rc ++ R)) (hn : rows.length ≤ 1000) (k : Int) :
    Calls Tryz.prog 222 #[.pointer (some ⟨b, 3, none⟩), .int .i64 k] w (Ret5Find rows.length w) := by
  obtain ⟨n, hN⟩ : ∃ n, rows.length = n := ⟨_, rfl⟩
  have c3 : w.cell? ⟨b, 3, none⟩ = some (.slice ra n rc) := by rw [← hN, (H.blk 0 rfl).cell]; rfl
  obtain ⟨G, _, hrd, _⟩ := H.rd 1 rfl
  have HR := Lib.hid hrd
  have HN := Lib.hid hN
  rw [hN] at hn ⊢
  clear H hN hrd
  go_enter Tryz.func222, Tryz.ntmps222
  go_wp2_with fail
  go_loopg [5] n (fun g v5 wr => Loop5Find w n g v5 wr)
  case atStart => exact ⟨0, by omega, rfl, rfl⟩
  case round =>
    obtain ⟨j, hg, rfl, rfl⟩ := hrel
    have HG := Lib.hid hg
    by_cases hlt : j < n
    · obtain ⟨⟨xi, xv⟩, hx⟩ : ∃ x, rows[j]? = some x := ⟨_, List.getElem?_eq_getElem (by rw [HN.out]; exact hlt)⟩
      obtain ⟨g, o, hsl, _, hc⟩ := Rd.elem (cells := RowV.cells) (size := 4) HR.out (fun _ => rfl) (by decide) hx
      subst hsl
      have x0 : wr.cell? ⟨g, o + j * 4, none⟩ = some (.int .i64 (xi : Nat)) := hc 0 (by decide)
      have e0 : decide (n ≤ j) = false := decide_eq_false (by omega)
      have HLT := Lib.hid hlt
      clear hc hx hg
      by_cases hk : (xi : Int) = k
      · have e1 : ((xi : Int) == k) = true := by simp [hk]
        go_wp2_with fail
        go_ret
        exact ⟨rfl, j, rfl, .inr ⟨j, rfl, HLT.out⟩⟩
      · have e1 : ((xi : Int) == k) = false := by simp [hk]
        clear hk
        go_wp2_with fail
        go_roundg (n - (j + 1))
        case measure => have := HG.out; have := HLT.out; omega
        case rel => exact ⟨j + 1, by have := HG.out; have := HLT.out; omega, by go_num, rfl⟩
    · clear hg
      go_wp2_with fail
      go_ret
      exact ⟨rfl, -1, rfl, .inl rfl⟩
end Go.Proofs.YtkiikblpgppmkaaGreatDoor

namespace Go.Proofs.YtkiikblpgppmkaaGreatDoor
open Go Go.RowKit
set_option linter.unusedVariables false
set_option linter.unusedSimpArgs false

/-- Behind a change: some rows, no more than so many. -/
def RetT5 (w0 : World) (R : List Asr) (b : Nat) (x : T5B) (n : Nat) (e : Ending) (w' : World) : Prop :=
  ∃ (v0 v1 v2 : Int) (t : Bool) (rows : List RowV) (ra : Option Addr) (rc : Nat), e = .returned (.tuple #[.agg #[.int .i64 v0, .int .i64 v1, .int .i64 v2], .bool t]) ∧ rows.length ≤ n ∧ St w0 w' (t5L b x rows ra rc ++ R)
set_option maxRecDepth 100000 in
set_option maxHeartbeats 2000000 in
set_option maxRecDepth 100000 in
set_option maxHeartbeats 4000000 in
theorem t5_put {w0 w : World} {R : List Asr} {b : Nat} {x : T5B} {rows : List RowV} {ra : Option Addr} {rc : Nat} (H : St w0 w (t5L b x rows ra rc ++ R)) (hle : rows.length ≤ 999) (k : Nat) (hk : k < 64) (v : VV) :
    Calls Tryz.prog 195 #[.pointer (some ⟨b, 3, none⟩), .int .i64 (k : Nat), v.val] w (RetT5 w0 R b x (rows.length + 1)) := by
  obtain ⟨vk, va, vb⟩ := v
  have HB := H.box2 #[.int .i64 vk, .int .i64 va, .int .i64 vb] #[.int .i64 0, .int .i64 0, .int .i64 0] 34 34
  have hkw := H.keep (((Keep.refl w Nope).alloc (.cells #[.int .i64 vk, .int .i64 va, .int .i64 vb] 34)).alloc (.cells #[.int .i64 0, .int .i64 0, .int .i64 0] 34))
  obtain ⟨wa, hwa⟩ : ∃ wa, (w.alloc (.cells #[.int .i64 vk, .int .i64 va, .int .i64 vb] 34)).alloc (.cells #[.int .i64 0, .int .i64 0, .int .i64 0] 34) = wa := ⟨_, rfl⟩
  rw [hwa] at HB hkw
  obtain ⟨vb0, hvb⟩ : ∃ vb0, w.heap.size = vb0 := ⟨_, rfl⟩
  obtain ⟨rb, hrb⟩ : ∃ rb, vb0 + 1 = rb := ⟨_, rfl⟩
  rw [hvb, hrb] at HB
  have HBH := Lib.hid HB
  have HF := Lib.hid (t5_find hkw (by omega) k)
  have HI := Lib.hid (c5_index k hk)
  obtain ⟨n, hn⟩ : ∃ n, rows.length = n := ⟨_, rfl⟩
  rw [hn] at HF hle ⊢
  have HN := Lib.hid hn
  clear H HB hkw hn
  unfold VV.val
  go_enter Tryz.func195, Tryz.ntmps195
  go_upto_region 1 with fail
  try rw [hwa]
  try rw [hvb]
  try rw [hrb]
  clear hwa hvb hrb
  go_upto_region 4 with (first
    | (go_at_call 241; refine (HI.out _).mono ?_; rintro e w1 ⟨rfl, rfl⟩)
    | (go_at_call 222; refine HF.out.mono ?_; rintro e w2 ⟨rfl, z, rfl, hz⟩; have HZ := Lib.hid hz; clear hz))
  rcases HZ.out with rfl | ⟨p, rfl, hpn⟩
  · clear HZ HF
    go_upto_region 8 with fail
    have c3 : w2.cell? ⟨b, 3, none⟩ = some (.slice ra n rc) := by rw [← HN.out, (HBH.out.blk 2 rfl).cell]; rfl
    obtain ⟨v0, v1, v2, _, _, _⟩ := (HBH.out.blk 1 rfl).three
    obtain ⟨G, hown, _, hup, _⟩ := HBH.out.drew.opens 3 rfl
    have HOwn := Lib.hid (show Own G w2.drew 342 4 (.slice ra n rc) n (flatRow rows) from HN.out ▸ hown)
    have HUP := Lib.hid hup
    clear hown hup
    refine wp_region_M (r := 10) (S := fun w' => w'.cell? ⟨b, 3, none⟩ = some (.slice ra n rc) ∧ w'.cell? ⟨vb0, 0, none⟩ = some (.int .i64 vk) ∧ w'.cell? ⟨vb0, 1, none⟩ = some (.int .i64 va) ∧ w'.cell? ⟨vb0, 2, none⟩ = some (.int .i64 vb)) (by kernel_rfl) ?_ (fun hHeld => ?_)
    · (try dsimp only); (first | exact ⟨c3, v0, v1, v2⟩ | exact ⟨((Keep.refl _ Nope).alloc _).cell c3 (fun f => f), ((Keep.refl _ Nope).alloc _).cell v0 (fun f => f), ((Keep.refl _ Nope).alloc _).cell v1 (fun f => f), ((Keep.refl _ Nope).alloc _).cell v2 (fun f => f)⟩)
    refine tkP 0 ?_; refine tkP 1 ?_; refine tkP 2 ?_; refine tkP 3 ?_; refine tkH 4 ?_; refine tkP 5 ?_; refine tkH 6 ?_; refine tkP 7 ?_; refine tkC 8 ?_
    intro K hK
    go_simp
    refine hK.out _ _ ?_ (fun hHeld => ?_)
    · (try dsimp only); (first | exact ⟨c3, v0, v1, v2⟩ | exact ⟨((Keep.refl _ Nope).alloc _).cell c3 (fun f => f), ((Keep.refl _ Nope).alloc _).cell v0 (fun f => f), ((Keep.refl _ Nope).alloc _).cell v1 (fun f => f), ((Keep.refl _ Nope).alloc _).cell v2 (fun f => f)⟩)
    clear hK K
    refine tkC 9 ?_
    intro K hK
    rw [if_pos (by rfl)]
    (refine step_app (P := Tryz.prog) slC5 _ _ rfl (S := G) (S2 := fun z => z = w2.drew.heap.size) (n := n) (xs := flatRow rows) (m := 1) (news := RowV.cells ⟨k, ⟨vk, va, vb⟩⟩) rfl rfl ?_ (Own.lit (S := fun z => z = w2.drew.heap.size) w2.drew 342 4 1 #[.int .i64 (k : Nat), .int .i64 vk, .int .i64 va, .int .i64 vb] (by decide) rfl rfl).rd rfl (by intro u hu; simp [RowV.cells] at hu; rcases hu with rfl | rfl | rfl | rfl <;> rfl) (by omega) (by unfold maxLen; omega) ?_; (· exact HOwn.out.keep (T := Nope) ((Keep.refl w2.drew Nope).alloc _) (fun _ _ f => f)); intro a' k' c' w6 happ; obtain ⟨z1, z2⟩ := app_up (wr := w2.drew) ((Keep.refl w2.drew Nope).alloc _) happ; obtain rfl := happ.num; have h6 := HUP.out w6 _ z1 z2; have H6 := Lib.hid h6; clear happ z1 z2 h6; have c3 : w6.cell? ⟨b, 3, none⟩ = some (.slice ra n rc) := (by rw [← HN.out, (H6.out.blk 2 rfl).cell]; rfl); have y3 := (H6.out.blk 2 rfl).frozen 3; obtain ⟨v0, v1, v2, _, _, _⟩ := (H6.out.blk 1 rfl).three)
    refine hK.out _ _ ?_ (fun hHeld => ?_)
    · (try dsimp only); (first | exact ⟨c3, v0, v1, v2⟩ | exact ⟨((Keep.refl _ Nope).alloc _).cell c3 (fun f => f), ((Keep.refl _ Nope).alloc _).cell v0 (fun f => f), ((Keep.refl _ Nope).alloc _).cell v1 (fun f => f), ((Keep.refl _ Nope).alloc _).cell v2 (fun f => f)⟩)
    clear hK K
    (try simp only [List.getElem_toArray, List.getElem_cons_succ, List.getElem_cons_zero, Act.put, List.setIfInBounds_toArray, List.set_cons_zero, List.set_cons_succ])
    refine tkF 10 ?_
    intro K hK
    go_simp
    refine hK.out _ _ ?_
    clear hK K
    refine tkP 11 ?_; refine tkF 12 ?_
    intro K hK
    go_simp
    refine hK.out _ _ ?_
    clear hK K
    refine wpAnyM_done (by kernel_rfl) ?_ _
    have H7 := Lib.hid (H6.out.write 2 rfl 3 (.slice a' (n + 1) c'))
    obtain ⟨w7, hw7⟩ : ∃ w7, w6.setCell ⟨b, 3, none⟩ (.slice a' (n + 1) c') = w7 := ⟨_, rfl⟩
    rw [hw7] at H7 ⊢
    clear hw7 hHeld c3 v0 v1 v2 y3
    obtain ⟨z1, z2, z3, y1, y2, y3⟩ := (H7.out.blk 0 rfl).three
    go_wp2_with fail
    have h8 := ((H7.out.write 0 rfl 0 (.int .i64 0)).write 0 rfl 1 (.int .i64 0)).write 0 rfl 2 (.int .i64 0)
    obtain ⟨w8, hw8⟩ : ∃ w8, ((w7.setCell ⟨rb, 0, none⟩ (.int .i64 0)).setCell ⟨rb, 1, none⟩ (.int .i64 0)).setCell ⟨rb, 2, none⟩ (.int .i64 0) = w8 := ⟨_, rfl⟩
    rw [hw8] at h8
    try rw [hw8]
    obtain ⟨z1, z2, z3, _, _, _⟩ := (show Blk w8 rb #[.int .i64 0, .int .i64 0, .int .i64 0] 34 from h8.blk 0 rfl).three
    have hl : (rows ++ [(⟨k, ⟨vk, va, vb⟩⟩ : RowV)]).length = n + 1 := by rw [List.length_append, HN.out]; rfl
    refine bodyPost_ret (v := .tuple #[.agg #[.int .i64 0, .int .i64 0, .int .i64 0], .bool false]) (by simp [results, Tryz.results195, go_sem, z1, z2, z3]) rfl ⟨0, 0, 0, false, rows ++ [⟨k, ⟨vk, va, vb⟩⟩], a', c', rfl, by rw [hl]; exact Nat.le_refl _, ?_⟩
    unfold t5L
    rw [hl, flatRow_app]
    exact h8.rest.rest
  · clear HZ HF
    have hpr : p < rows.length := by rw [HN.out]; exact hpn
    obtain ⟨⟨xi, ⟨k0, a0, b0⟩⟩, hx⟩ : ∃ x, rows[p]? = some x := ⟨_, List.getElem?_eq_getElem hpr⟩
    have HRS := Lib.hid (row_set rows p xi _ ⟨vk, va, vb⟩ hx)
    obtain ⟨G, hown, _, _⟩ := HBH.out.rd 3 rfl
    obtain ⟨g, rfl, _, _, _, hc, _⟩ := hown.head (Nat.lt_of_le_of_lt (Nat.zero_le p) hpr)
    have hc2 : ∀ j, j < 4 → w2.cell? ⟨g, p * 4 + j, none⟩ = (RowV.cells ⟨xi, ⟨k0, a0, b0⟩⟩)[j]? := fun j hj => by
      have h1 : p * 4 + 4 ≤ rows.length * 4 := by omega
      rw [hc (p * 4 + j) (by omega)]
      exact flat_get RowV.cells 4 (fun _ => rfl) rows p j _ hx hj
    have x1 : w2.cell? ⟨g, p * 4 + 1, none⟩ = some (.int .i64 k0) := hc2 1 (by decide)
    have x2 : w2.cell? ⟨g, p * 4 + 1 + 1, none⟩ = some (.int .i64 a0) := hc2 2 (by decide)
    have x3 : w2.cell? ⟨g, p * 4 + 1 + 2, none⟩ = some (.int .i64 b0) := hc2 3 (by decide)
    have c3 : w2.cell? ⟨b, 3, none⟩ = some (.slice (some ⟨g, 0, none⟩) n rc) := by rw [← HN.out, (HBH.out.blk 2 rfl).cell]; rfl
    have e0 : decide (n ≤ p) = false := decide_eq_false (by omega)
    have e1 : decide ((p : Int) ≥ 0) = true := decide_eq_true (by omega)
    have HP := Lib.hid hpn
    clear hown hc hc2 hx hpr hpn
    go_upto_region 6 with fail
    have h6 := HBH.out.box0 #[.int .i64 k0, .int .i64 a0, .int .i64 b0] 34
    obtain ⟨ob, hob⟩ : ∃ ob, w2.heap.size = ob := ⟨_, rfl⟩
    obtain ⟨wb, hwb⟩ : ∃ wb, w2.alloc (.cells #[.int .i64 k0, .int .i64 a0, .int .i64 b0] 34) = wb := ⟨_, rfl⟩
    rw [hob, hwb] at h6
    rw [hob, hwb]
    clear x1 x2 x3 c3
    have c3 : wb.cell? ⟨b, 3, none⟩ = some (.slice (some ⟨g, 0, none⟩) n rc) := by rw [← HN.out, (h6.blk 3 rfl).cell]; rfl
    obtain ⟨v0, v1, v2, _, _, _⟩ := (h6.blk 2 rfl).three
    have H6 := Lib.hid h6
    clear hwb h6 HBH hob
    refine wp_region_M (r := 6) (S := fun w' => w'.cell? ⟨b, 3, none⟩ = some (.slice (some ⟨g, 0, none⟩) n rc) ∧ w'.cell? ⟨vb0, 0, none⟩ = some (.int .i64 vk) ∧ w'.cell? ⟨vb0, 1, none⟩ = some (.int .i64 va) ∧ w'.cell? ⟨vb0, 2, none⟩ = some (.int .i64 vb)) (by kernel_rfl) ?_ (fun hHeld => ?_)
    · (try dsimp only); exact ⟨c3, v0, v1, v2⟩
    refine tkP 0 ?_; refine tkP 1 ?_; refine tkP 2 ?_; refine tkH 3 ?_; refine tkP 4 ?_; refine tkH 5 ?_; refine tkF 6 ?_
    intro K hK
    go_simp
    refine hK.out _ _ ?_
    clear hK K
    refine tkP 7 ?_; refine tkF 8 ?_
    intro K hK
    rw [if_pos (by rfl)]
    (refine St.stepMid (i := 4) (H6.out.drew) rfl (by have := HP.out; have := HN.out; omega) 34 _ _ rfl (p * 4 + 1) #[.int .i64 vk, .int .i64 va, .int .i64 vb] rfl rfl (by kernel_rfl) (by kernel_rfl) (by have := HP.out; have := HN.out; show p * 4 + 1 + 3 ≤ rows.length * 4; omega) ?_; intro w5 h5; have H5 := Lib.hid h5; clear h5)
    refine hK.out _ _ ?_
    clear hK K
    (try simp only [List.getElem_toArray, List.getElem_cons_succ, List.getElem_cons_zero, Act.put, List.setIfInBounds_toArray, List.set_cons_zero, List.set_cons_succ])
    refine wpAnyM_done (by kernel_rfl) ?_ _
    have h5 := H5.out
    simp only [List.set_cons_succ, List.set_cons_zero] at h5
    have H5' := Lib.hid h5
    obtain ⟨x1, x2, x3, _, _, _⟩ := (h5.blk 0 rfl).three
    obtain ⟨z1, z2, z3, y1, y2, y3⟩ := (h5.blk 1 rfl).three
    clear h5 H5 c3 v0 v1 v2 hHeld H6
    go_wp2_with fail
    have h7 := ((H5'.out.write 1 rfl 0 (.int .i64 k0)).write 1 rfl 1 (.int .i64 a0)).write 1 rfl 2 (.int .i64 b0)
    obtain ⟨w6, hw6⟩ : ∃ w6, ((w5.setCell ⟨rb, 0, none⟩ (.int .i64 k0)).setCell ⟨rb, 1, none⟩ (.int .i64 a0)).setCell ⟨rb, 2, none⟩ (.int .i64 b0) = w6 := ⟨_, rfl⟩
    rw [hw6] at h7
    try rw [hw6]
    obtain ⟨z1, z2, z3, _, _, _⟩ := (show Blk w6 rb #[.int .i64 k0, .int .i64 a0, .int .i64 b0] 34 from h7.blk 1 rfl).three
    refine bodyPost_ret (v := .tuple #[.agg #[.int .i64 k0, .int .i64 a0, .int .i64 b0], .bool true]) (by simp [results, Tryz.results195, go_sem, z1, z2, z3]) rfl ⟨k0, a0, b0, true, rows.set p ⟨xi, ⟨vk, va, vb⟩⟩, some ⟨g, 0, none⟩, rc, rfl, by rw [List.length_set, HN.out]; omega, ?_⟩
    unfold t5L
    rw [List.length_set, ← HRS.out]
    exact h7.rest.rest.rest
end Go.Proofs.YtkiikblpgppmkaaGreatDoor

namespace Go.Proofs.YtkiikblpgppmkaaGreatDoor
open Go Go.RowKit
set_option linter.unusedVariables false
set_option linter.unusedSimpArgs false

set_option maxRecDepth 100000 in
set_option maxHeartbeats 4000000 in
theorem t5_take {w0 w : World} {R : List Asr} {b : Nat} {x : T5B} {rows : List RowV} {ra : Option Addr} {rc : Nat} (H : St w0 w (t5L b x rows ra rc ++ R)) (hle : rows.length ≤ 1000) (k : Nat) (hk : k < 64) :
    Calls Tryz.prog 192 #[.pointer (some ⟨b, 3, none⟩), .int .i64 (k : Nat)] w (RetT5 w0 R b x rows.length) := by
  have HB := H.box0 #[.int .i64 0, .int .i64 0, .int .i64 0] 34
  have hkw := H.keep ((Keep.refl w Nope).alloc (.cells #[.int .i64 0, .int .i64 0, .int .i64 0] 34))
  obtain ⟨wa, hwa⟩ : ∃ wa, w.alloc (.cells #[.int .i64 0, .int .i64 0, .int .i64 0] 34) = wa := ⟨_, rfl⟩
  rw [hwa] at HB hkw
  obtain ⟨rb, hrb⟩ : ∃ rb, w.heap.size = rb := ⟨_, rfl⟩
  rw [hrb] at HB
  have HBH := Lib.hid HB
  have HF := Lib.hid (t5_find hkw hle k)
  obtain ⟨n1, hn⟩ : ∃ n, rows.length = n := ⟨_, rfl⟩
  rw [hn] at HF hle ⊢
  have HN := Lib.hid hn
  clear H HB hkw hn
  go_enter Tryz.func192, Tryz.ntmps192
  go_upto_region 1 with fail
  try rw [hwa]
  try rw [hrb]
  clear hwa hrb
  go_upto_region 2 with (go_at_call 222; refine HF.out.mono ?_; rintro e w2 ⟨rfl, z, rfl, hz⟩; have HZ := Lib.hid hz; clear hz)
  rcases HZ.out with rfl | ⟨p, rfl, hpn⟩
  · clear HZ HF
    obtain ⟨z1, z2, z3, y1, y2, y3⟩ := (HBH.out.blk 0 rfl).three
    have h8 := ((HBH.out.write 0 rfl 0 (.int .i64 0)).write 0 rfl 1 (.int .i64 0)).write 0 rfl 2 (.int .i64 0)
    go_wp2_with fail
    obtain ⟨w8, hw8⟩ : ∃ w8, ((w2.setCell ⟨rb, 0, none⟩ (.int .i64 0)).setCell ⟨rb, 1, none⟩ (.int .i64 0)).setCell ⟨rb, 2, none⟩ (.int .i64 0) = w8 := ⟨_, rfl⟩
    rw [hw8] at h8
    try rw [hw8]
    obtain ⟨z1, z2, z3, _, _, _⟩ := (show Blk w8 rb #[.int .i64 0, .int .i64 0, .int .i64 0] 34 from h8.blk 0 rfl).three
    refine bodyPost_ret (v := .tuple #[.agg #[.int .i64 0, .int .i64 0, .int .i64 0], .bool false]) (by simp [results, Tryz.results192, go_sem, z1, z2, z3]) rfl ⟨0, 0, 0, false, rows, ra, rc, rfl, by rw [HN.out]; exact Nat.le_refl _, h8.rest⟩
  · clear HZ HF
    have hpr : p < rows.length := by rw [HN.out]; exact hpn
    obtain ⟨n, hn1⟩ : ∃ n, n + 1 = n1 := ⟨n1 - 1, by omega⟩
    obtain ⟨⟨xi, ⟨k0, a0, b0⟩⟩, hx⟩ : ∃ x, rows[p]? = some x := ⟨_, List.getElem?_eq_getElem hpr⟩
    obtain ⟨⟨yi, ⟨yk, ya, yb⟩⟩, hy⟩ : ∃ y, rows[n]? = some y := ⟨_, List.getElem?_eq_getElem (by rw [HN.out]; omega)⟩
    have HR4 := Lib.hid (row_set4 rows p ⟨yi, ⟨yk, ya, yb⟩⟩ hpr)
    have HBN := HBH.out
    unfold t5L at HBN
    rw [HN.out] at HBN
    obtain ⟨G, hown, _, _⟩ := HBN.rd 2 rfl
    obtain ⟨g, rfl, _, _, _, hc, _⟩ := hown.head (by omega)
    have hcp : ∀ j, j < 4 → w2.cell? ⟨g, p * 4 + j, none⟩ = (RowV.cells ⟨xi, ⟨k0, a0, b0⟩⟩)[j]? := fun j hj => by
      have h1 : p * 4 + 4 ≤ n1 * 4 := by omega
      rw [hc (p * 4 + j) (by omega)]
      exact flat_get RowV.cells 4 (fun _ => rfl) rows p j _ hx hj
    have hcn : ∀ j, j < 4 → w2.cell? ⟨g, n * 4 + j, none⟩ = (RowV.cells ⟨yi, ⟨yk, ya, yb⟩⟩)[j]? := fun j hj => by
      rw [hc (n * 4 + j) (by omega)]
      exact flat_get RowV.cells 4 (fun _ => rfl) rows n j _ hy hj
    have x1 : w2.cell? ⟨g, p * 4 + 1, none⟩ = some (.int .i64 k0) := hcp 1 (by decide)
    have x2 : w2.cell? ⟨g, p * 4 + 1 + 1, none⟩ = some (.int .i64 a0) := hcp 2 (by decide)
    have x3 : w2.cell? ⟨g, p * 4 + 1 + 2, none⟩ = some (.int .i64 b0) := hcp 3 (by decide)
    have t0 : w2.cell? ⟨g, n * 4, none⟩ = some (.int .i64 (yi : Nat)) := hcn 0 (by decide)
    have t1 : w2.cell? ⟨g, n * 4 + 1, none⟩ = some (.int .i64 yk) := hcn 1 (by decide)
    have t2 : w2.cell? ⟨g, n * 4 + 2, none⟩ = some (.int .i64 ya) := hcn 2 (by decide)
    have t3 : w2.cell? ⟨g, n * 4 + 3, none⟩ = some (.int .i64 yb) := hcn 3 (by decide)
    have c3 : w2.cell? ⟨b, 3, none⟩ = some (.slice (some ⟨g, 0, none⟩) n1 rc) := by rw [(HBN.blk 1 rfl).cell]; rfl
    have e0 : decide (n1 ≤ p) = false := decide_eq_false (by omega)
    have e1 : decide ((p : Int) < 0) = false := decide_eq_false (by omega)
    have e3 : decide (n1 ≤ n) = false := decide_eq_false (by omega)
    have en : ((n1 : Nat) : Int) - 1 = (n : Int) := by omega
    have enw : IntKind.i64.wrap (n : Int) = (n : Int) := IntWalk.i64_in _ (by omega)
    have ek1 : (p : Int) < (n1 : Int) := by omega
    have ek2 : (n : Int) < (n1 : Int) := by omega
    have HP := Lib.hid hpn
    have HN1 := Lib.hid hn1
    have HBN2 := Lib.hid HBN
    clear hown hc hcp hcn hx hy hpr hpn hn1 HBN HBH
    go_upto_region 5 with fail
    have h6 := HBN2.out.box0 #[.int .i64 k0, .int .i64 a0, .int .i64 b0] 34
    have hka := (Keep.refl w2 Nope).alloc (.cells #[.int .i64 k0, .int .i64 a0, .int .i64 b0] 34)
    obtain ⟨ob, hob⟩ : ∃ ob, w2.heap.size = ob := ⟨_, rfl⟩
    obtain ⟨wb, hwb⟩ : ∃ wb, w2.alloc (.cells #[.int .i64 k0, .int .i64 a0, .int .i64 b0] 34) = wb := ⟨_, rfl⟩
    rw [hob, hwb] at h6
    rw [hwb] at hka
    rw [hob, hwb]
    replace t0 := hka.cell t0 (fun f => f)
    replace t1 := hka.cell t1 (fun f => f)
    replace t2 := hka.cell t2 (fun f => f)
    replace t3 := hka.cell t3 (fun f => f)
    clear x1 x2 x3 c3
    have c3 : wb.cell? ⟨b, 3, none⟩ = some (.slice (some ⟨g, 0, none⟩) n1 rc) := by rw [(h6.blk 2 rfl).cell]; rfl
    have H6 := Lib.hid h6
    clear hwb h6 HBN2 hob hka
    go_upto_region 6 with fail
    refine wp_region_M (r := 12) (S := fun w' => w'.cell? ⟨b, 3, none⟩ = some (.slice (some ⟨g, 0, none⟩) n1 rc) ∧ w'.cell? ⟨g, n * 4, none⟩ = some (.int .i64 (yi : Nat)) ∧ w'.cell? ⟨g, n * 4 + 1, none⟩ = some (.int .i64 yk) ∧ w'.cell? ⟨g, n * 4 + 2, none⟩ = some (.int .i64 ya) ∧ w'.cell? ⟨g, n * 4 + 3, none⟩ = some (.int .i64 yb)) (by kernel_rfl) ?_ (fun hHeld => ?_)
    · (try dsimp only); exact ⟨c3, t0, t1, t2, t3⟩
    refine tkP 0 ?_; refine tkP 1 ?_; refine tkP 2 ?_; refine tkH 3 ?_; refine tkP 4 ?_; refine tkP 5 ?_; refine tkP 6 ?_; refine tkP 7 ?_; refine tkH 8 ?_; refine tkP 9 ?_; refine tkP 10 ?_; refine tkH 11 ?_; refine tkF 12 ?_
    intro K hK
    go_simp
    refine hK.out _ _ ?_
    clear hK K
    refine tkF 13 ?_
    intro K hK
    rw [if_pos (by rfl)]
    (refine St.stepMid (i := 3) (H6.out.drew) rfl (by have := HP.out; omega) 342 _ _ rfl (p * 4) #[.int .i64 (yi : Nat), .int .i64 yk, .int .i64 ya, .int .i64 yb] rfl rfl (by kernel_rfl) (by kernel_rfl) (by have := HP.out; show p * 4 + 4 ≤ n1 * 4; omega) ?_; intro w5 h5; have H5 := Lib.hid h5; clear h5)
    refine hK.out _ _ ?_
    clear hK K
    (try simp only [List.getElem_toArray, List.getElem_cons_succ, List.getElem_cons_zero, Act.put, List.setIfInBounds_toArray, List.set_cons_zero, List.set_cons_succ])
    refine wpAnyM_done (by kernel_rfl) ?_ _
    have h5 := H5.out
    simp only [List.set_cons_succ, List.set_cons_zero] at h5
    rw [HR4.out] at h5
    have H5' := Lib.hid h5
    clear h5 H5 c3 t0 t1 t2 t3 hHeld H6
    go_upto_region 7 with fail
    have c3 : w5.cell? ⟨b, 3, none⟩ = some (.slice (some ⟨g, 0, none⟩) n1 rc) := by rw [(H5'.out.blk 2 rfl).cell]; rfl
    have y0 := (H5'.out.blk 2 rfl).frozen 3
    obtain ⟨G7, hown7, _, _⟩ := H5'.out.rd 3 rfl
    have hcap := hown7.cap.1
    have hrun := slice_h_any slC5 (some ⟨g, 0, none⟩) n1 rc n .i64 (by omega)
    clear hown7 hcap
    go_upto_region 8 with fail
    have h8 := (H5'.out.write 2 rfl 3 (.slice (some ⟨g, 0, none⟩) n rc)).cut 3 rfl n (by omega)
    simp only [List.set_cons_succ, List.set_cons_zero] at h8
    obtain ⟨w8, hw8⟩ : ∃ w8, w5.setCell ⟨b, 3, none⟩ (.slice (some ⟨g, 0, none⟩) n rc) = w8 := ⟨_, rfl⟩
    rw [hw8] at h8 ⊢
    have H8 := Lib.hid h8
    obtain ⟨x1, x2, x3, _, _, _⟩ := (h8.blk 0 rfl).three
    obtain ⟨z1, z2, z3, y1, y2, y3⟩ := (h8.blk 1 rfl).three
    clear h8 hw8 c3 y0 hrun
    go_wp2_with fail
    have h9 := ((H8.out.write 1 rfl 0 (.int .i64 k0)).write 1 rfl 1 (.int .i64 a0)).write 1 rfl 2 (.int .i64 b0)
    obtain ⟨w9, hw9⟩ : ∃ w9, ((w8.setCell ⟨rb, 0, none⟩ (.int .i64 k0)).setCell ⟨rb, 1, none⟩ (.int .i64 a0)).setCell ⟨rb, 2, none⟩ (.int .i64 b0) = w9 := ⟨_, rfl⟩
    rw [hw9] at h9
    try rw [hw9]
    obtain ⟨z1, z2, z3, _, _, _⟩ := (show Blk w9 rb #[.int .i64 k0, .int .i64 a0, .int .i64 b0] 34 from h9.blk 1 rfl).three
    have hl : ((rows.set p (⟨yi, ⟨yk, ya, yb⟩⟩ : RowV)).take n).length = n := by
      have := HN.out
      have := HN1.out
      rw [List.length_take, List.length_set]
      omega
    refine bodyPost_ret (v := .tuple #[.agg #[.int .i64 k0, .int .i64 a0, .int .i64 b0], .bool true]) (by simp [results, Tryz.results192, go_sem, z1, z2, z3]) rfl ⟨k0, a0, b0, true, (rows.set p ⟨yi, ⟨yk, ya, yb⟩⟩).take n, some ⟨g, 0, none⟩, rc, rfl, by rw [hl]; have := HN1.out; omega, ?_⟩
    unfold t5L
    rw [hl, show flatRow ((rows.set p (⟨yi, ⟨yk, ya, yb⟩⟩ : RowV)).take n) = (flatRow (rows.set p ⟨yi, ⟨yk, ya, yb⟩⟩)).take (n * 4) from (flat_take RowV.cells 4 (fun _ => rfl) _ n).symm]
    exact h9.rest.rest
end Go.Proofs.YtkiikblpgppmkaaGreatDoor
