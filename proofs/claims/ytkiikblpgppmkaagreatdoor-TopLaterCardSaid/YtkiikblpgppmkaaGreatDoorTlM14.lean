/-
  The package dense: Take, New; what keeps the values, as a claim.
-/
import Derived.Test.YtkiikblpgppmkaaGreatDoorTlM13
import Derived.Test.YtkiikblpgppmkaaGreatDoorTlM12
namespace Go.Proofs.YtkiikblpgppmkaaGreatDoor
open Go Go.RowKit
set_option linter.unusedVariables false
set_option linter.unusedSimpArgs false

theorem row_set4 : ∀ (l : List RowV) (p : Nat) (y : RowV), p < l.length → setL (flatRow l) (p * 4) [.int .i64 (y.i : Nat), .int .i64 y.v.k, .int .i64 y.v.a, .int .i64 y.v.b] = flatRow (l.set p y)
  | [], p, y, h => by simp at h
  | x :: l, 0, y, h => rfl
  | x :: l, p + 1, y, h => by
    have ih := row_set4 l p y (by simpa using h)
    have e : (p + 1) * 4 = p * 4 + 4 := by omega
    rw [e, List.set_cons_succ]
    show setL (.int .i64 (x.i : Nat) :: .int .i64 x.v.k :: .int .i64 x.v.a :: .int .i64 x.v.b :: flatRow l) (p * 4 + 4) _ = .int .i64 (x.i : Nat) :: .int .i64 x.v.k :: .int .i64 x.v.a :: .int .i64 x.v.b :: flatRow (l.set p y)
    rw [← ih]
    rfl
theorem St.sw {w0 w : World} {A B : Asr} {L : List Asr} (h : St w0 w (A :: B :: L)) : St w0 w (B :: A :: L) := St.sel (P := [_, _]) (P' := [B, A]) [1, 0] h (by decide) rfl rfl
set_option maxRecDepth 100000 in
set_option maxHeartbeats 1000000 in
theorem den_take0 {w0 w : World} {R : List Asr} {b m : Nat} {l : List RowV} {D : MapD} {q : DenB} {f : Nat → VV} (H : St w0 w (denL b l D q ++ R)) (hD : DenOk l D m f) (k : Nat) (hk : k < 64) (hb : m.testBit k = false) :
    Calls Tryz.prog 386 #[ptr b, .int .i64 (k : Nat)] w (Ret w (.tuple #[zVV.val, .bool false])) := by
  obtain ⟨bm, a, c⟩ := q
  have hk1 := (show Keep w (w.alloc (.cells #[.int .i64 0, .int .i64 0, .int .i64 0] 34)) Nope from (Keep.refl w Nope).alloc _)
  have c1 : w.cell? ⟨b, 1, none⟩ = some (.map (some bm)) := by rw [(H.blk 0 rfl).cell]; rfl
  obtain ⟨pc, hrun, hat⟩ := OwnsI.look ((H.keep hk1).mapOwn 2 rfl) k (by omega)
  rw [hD.has, hb] at hrun
  replace c1 := hk1.cell c1 (fun f => f)
  clear H hD hat hb hk1
  unfold ptr zVV VV.val
  go_enter Tryz.func386, Tryz.ntmps386
  go_wp2_with fail
  refine bodyPost_ret (v := .tuple #[.agg #[.int .i64 0, .int .i64 0, .int .i64 0], .bool false]) (by simp [results, Tryz.results386, go_sem]) rfl ⟨rfl, ?_⟩
  exact (show Keep w _ Nope from (by (repeat (first | exact Keep.refl _ _ | apply Keep.drew | apply Keep.drewN | apply Keep.alloc))))
def denT (b : Nat) (l : List RowV) (D : MapD) (bm : Nat) (a : Option Addr) (n c : Nat) (R : List Asr) : List Asr := blkA b #[.slice a n c, .map (some bm)] 433 :: slA 501 4 (.slice a n c) n (flatRow l) :: mapA bm D :: R
set_option maxRecDepth 100000 in
set_option maxHeartbeats 4000000 in
theorem den_take1 {w0 w : World} {R : List Asr} {b m : Nat} {l : List RowV} {D : MapD} {q : DenB} {f : Nat → VV} (H : St w0 w (denL b l D q ++ R)) (hD : DenOk l D m f) (hm : m < 2 ^ 64) (k : Nat) (hk : k < 64) (hb : m.testBit k = true) :
    Calls Tryz.prog 386 #[ptr b, .int .i64 (k : Nat)] w (RetDen w0 R b (delW m k) f (.tuple #[(f k).val, .bool true])) := by
  obtain ⟨bm, a, c⟩ := q
  have HB := H.box0 #[.int .i64 0, .int .i64 0, .int .i64 0] 34
  obtain ⟨rb, hrb⟩ : ∃ rb, w.heap.size = rb := ⟨_, rfl⟩
  rw [hrb] at HB
  obtain ⟨wa, hwa⟩ : ∃ wa, w.alloc (.cells #[.int .i64 0, .int .i64 0, .int .i64 0] 34) = wa := ⟨_, rfl⟩
  rw [hwa] at HB
  obtain ⟨pc, hrun, hat⟩ := OwnsI.look (HB.mapOwn 3 rfl) k (by omega)
  rw [hD.has, hb] at hrun
  obtain ⟨p, rfl, hp⟩ := hD.find hb hat
  have hpl := (List.getElem?_eq_some_iff.1 hp).1
  have hle := hD.le
  obtain ⟨n, hn⟩ : ∃ n, l.length = n + 1 := ⟨l.length - 1, by omega⟩
  obtain ⟨y, hy⟩ : ∃ y, l[n]? = some y := ⟨_, List.getElem?_eq_getElem (by omega)⟩
  have HDD := Lib.hid (hD.del hm hp hn hy)
  have hyl := hD.lt n y hy
  have HR4 := Lib.hid (row_set4 l p y hpl)
  obtain ⟨⟨k0, a0, b0⟩, hv⟩ : ∃ v, f k = v := ⟨_, rfl⟩
  rw [hv] at hp ⊢
  obtain ⟨yi, ⟨yk, ya, yb⟩⟩ := y
  obtain ⟨n1, hn1⟩ : ∃ n1, n + 1 = n1 := ⟨_, rfl⟩
  rw [hn1] at hn
  have HBH := Lib.hid (show St w0 wa (blkA rb #[.int .i64 0, .int .i64 0, .int .i64 0] 34 :: denT b l D bm a n1 c R) from hn ▸ HB)
  obtain ⟨G, hown, _, _⟩ := HBH.out.rd 2 rfl
  obtain ⟨g, rfl, _, _, _, hc, _⟩ := hown.head (by omega)
  rw [hn] at hpl hle
  have hcp : ∀ j, j < 4 → wa.cell? ⟨g, p * 4 + j, none⟩ = (RowV.cells ⟨k, ⟨k0, a0, b0⟩⟩)[j]? := fun j hj => by
    rw [hc (p * 4 + j) (by omega)]
    exact flat_get RowV.cells 4 (fun _ => rfl) l p j _ hp hj
  have hcn : ∀ j, j < 4 → wa.cell? ⟨g, n * 4 + j, none⟩ = (RowV.cells ⟨yi, ⟨yk, ya, yb⟩⟩)[j]? := fun j hj => by
    rw [hc (n * 4 + j) (by omega)]
    exact flat_get RowV.cells 4 (fun _ => rfl) l n j _ hy hj
  have x1 : wa.cell? ⟨g, p * 4 + 1, none⟩ = some (.int .i64 k0) := hcp 1 (by decide)
  have x2 : wa.cell? ⟨g, p * 4 + 1 + 1, none⟩ = some (.int .i64 a0) := hcp 2 (by decide)
  have x3 : wa.cell? ⟨g, p * 4 + 1 + 2, none⟩ = some (.int .i64 b0) := hcp 3 (by decide)
  have t0 : wa.cell? ⟨g, n * 4, none⟩ = some (.int .i64 (yi : Nat)) := hcn 0 (by decide)
  have t1 : wa.cell? ⟨g, n * 4 + 1, none⟩ = some (.int .i64 yk) := hcn 1 (by decide)
  have t2 : wa.cell? ⟨g, n * 4 + 2, none⟩ = some (.int .i64 ya) := hcn 2 (by decide)
  have t3 : wa.cell? ⟨g, n * 4 + 3, none⟩ = some (.int .i64 yb) := hcn 3 (by decide)
  have c0 : wa.cell? ⟨b, 0, none⟩ = some (.slice (some ⟨g, 0, none⟩) n1 c) := by rw [(HBH.out.blk 1 rfl).cell]; rfl
  have c1 : wa.cell? ⟨b, 1, none⟩ = some (.map (some bm)) := by rw [(HBH.out.blk 1 rfl).cell]; rfl
  have e0 : decide (n1 ≤ p) = false := decide_eq_false (by omega)
  have e3 : decide (n1 ≤ n) = false := decide_eq_false (by omega)
  have en : ((n1 : Nat) : Int) - 1 = (n : Int) := by omega
  have enw : IntKind.i64.wrap (n : Int) = (n : Int) := IntWalk.i64_in _ (by omega)
  have ek1 : (p : Int) < (n1 : Int) := by omega
  have ek2 : (n : Int) < (n1 : Int) := by omega
  have HN1 := Lib.hid hn1
  have HP := Lib.hid hpl
  have HN := Lib.hid hn
  clear H HB hD hat hb hp hv hn hown hc hcp hcn hpl hy hn1
  unfold ptr VV.val
  go_enter Tryz.func386, Tryz.ntmps386
  go_upto_region 4 with fail
  try rw [hwa]
  try rw [hrb]
  clear hwa hrun hrb
  go_cut [8, 9] (fun v8 v9 wc => ∃ sb lb : Nat, v8 = .pointer (some ⟨sb, 0, none⟩) ∧ v9 = .pointer (some ⟨lb, 0, none⟩) ∧ St w0 wc (blkA lb #[.int .i64 (yi : Nat), .int .i64 yk, .int .i64 ya, .int .i64 yb] 501 :: blkA sb #[.int .i64 k0, .int .i64 a0, .int .i64 b0] 34 :: blkA rb #[.int .i64 0, .int .i64 0, .int .i64 0] 34 :: denT b l D bm (some ⟨g, 0, none⟩) n1 c R))
  case first =>
    refine wp_region_M (r := 26) (S := fun w' => w'.cell? ⟨b, 0, none⟩ = some (.slice (some ⟨g, 0, none⟩) n1 c) ∧ w'.cell? ⟨g, p * 4 + 1, none⟩ = some (.int .i64 k0) ∧ w'.cell? ⟨g, p * 4 + 1 + 1, none⟩ = some (.int .i64 a0) ∧ w'.cell? ⟨g, p * 4 + 1 + 2, none⟩ = some (.int .i64 b0) ∧ w'.cell? ⟨g, n * 4, none⟩ = some (.int .i64 (yi : Nat)) ∧ w'.cell? ⟨g, n * 4 + 1, none⟩ = some (.int .i64 yk) ∧ w'.cell? ⟨g, n * 4 + 2, none⟩ = some (.int .i64 ya) ∧ w'.cell? ⟨g, n * 4 + 3, none⟩ = some (.int .i64 yb)) (by kernel_rfl) ?_ (fun hHeld => ?_)
    · (try dsimp only); (first | exact ⟨c0, x1, x2, x3, t0, t1, t2, t3⟩ | exact ⟨((Keep.refl _ Nope).alloc _).cell c0 (fun f => f), ((Keep.refl _ Nope).alloc _).cell x1 (fun f => f), ((Keep.refl _ Nope).alloc _).cell x2 (fun f => f), ((Keep.refl _ Nope).alloc _).cell x3 (fun f => f), ((Keep.refl _ Nope).alloc _).cell t0 (fun f => f), ((Keep.refl _ Nope).alloc _).cell t1 (fun f => f), ((Keep.refl _ Nope).alloc _).cell t2 (fun f => f), ((Keep.refl _ Nope).alloc _).cell t3 (fun f => f)⟩ | exact ⟨(((Keep.refl _ Nope).alloc _).alloc _).cell c0 (fun f => f), (((Keep.refl _ Nope).alloc _).alloc _).cell x1 (fun f => f), (((Keep.refl _ Nope).alloc _).alloc _).cell x2 (fun f => f), (((Keep.refl _ Nope).alloc _).alloc _).cell x3 (fun f => f), (((Keep.refl _ Nope).alloc _).alloc _).cell t0 (fun f => f), (((Keep.refl _ Nope).alloc _).alloc _).cell t1 (fun f => f), (((Keep.refl _ Nope).alloc _).alloc _).cell t2 (fun f => f), (((Keep.refl _ Nope).alloc _).alloc _).cell t3 (fun f => f)⟩)
    refine tkP 0 ?_; refine tkP 1 ?_; refine tkP 2 ?_; refine tkP 3 ?_; refine tkH 4 ?_; refine tkP 5 ?_; refine tkP 6 ?_; refine tkP 7 ?_; refine tkH 8 ?_; refine tkP 9 ?_; refine tkP 10 ?_; refine tkP 11 ?_; refine tkP 12 ?_; refine tkH 13 ?_; refine tkP 14 ?_; refine tkP 15 ?_; refine tkP 16 ?_; refine tkP 17 ?_; refine tkH 18 ?_; refine tkP 19 ?_; refine tkP 20 ?_; refine tkP 21 ?_; refine tkH 22 ?_
    refine wpAnyM_ready (rs := [23, 24]) (by kernel_rfl) (by simp) ?_
    refine AllReadyM.cons (o := ?_) ?_ ?_ ?_
    rotate_left 1
    · simp only [List.getElem?_toArray, List.getElem?_cons_succ, List.getElem?_cons_zero]; exact rfl
    · intro K hK
      go_simp
      refine hK.out _ _ ?_ (fun hHeld => ?_)
      · (try dsimp only); (first | exact ⟨c0, x1, x2, x3, t0, t1, t2, t3⟩ | exact ⟨((Keep.refl _ Nope).alloc _).cell c0 (fun f => f), ((Keep.refl _ Nope).alloc _).cell x1 (fun f => f), ((Keep.refl _ Nope).alloc _).cell x2 (fun f => f), ((Keep.refl _ Nope).alloc _).cell x3 (fun f => f), ((Keep.refl _ Nope).alloc _).cell t0 (fun f => f), ((Keep.refl _ Nope).alloc _).cell t1 (fun f => f), ((Keep.refl _ Nope).alloc _).cell t2 (fun f => f), ((Keep.refl _ Nope).alloc _).cell t3 (fun f => f)⟩ | exact ⟨(((Keep.refl _ Nope).alloc _).alloc _).cell c0 (fun f => f), (((Keep.refl _ Nope).alloc _).alloc _).cell x1 (fun f => f), (((Keep.refl _ Nope).alloc _).alloc _).cell x2 (fun f => f), (((Keep.refl _ Nope).alloc _).alloc _).cell x3 (fun f => f), (((Keep.refl _ Nope).alloc _).alloc _).cell t0 (fun f => f), (((Keep.refl _ Nope).alloc _).alloc _).cell t1 (fun f => f), (((Keep.refl _ Nope).alloc _).alloc _).cell t2 (fun f => f), (((Keep.refl _ Nope).alloc _).alloc _).cell t3 (fun f => f)⟩)
      clear hK K
      refine tkC 24 ?_
      intro K hK
      go_simp
      refine hK.out _ _ ?_ (fun hHeld => ?_)
      · (try dsimp only); (first | exact ⟨c0, x1, x2, x3, t0, t1, t2, t3⟩ | exact ⟨((Keep.refl _ Nope).alloc _).cell c0 (fun f => f), ((Keep.refl _ Nope).alloc _).cell x1 (fun f => f), ((Keep.refl _ Nope).alloc _).cell x2 (fun f => f), ((Keep.refl _ Nope).alloc _).cell x3 (fun f => f), ((Keep.refl _ Nope).alloc _).cell t0 (fun f => f), ((Keep.refl _ Nope).alloc _).cell t1 (fun f => f), ((Keep.refl _ Nope).alloc _).cell t2 (fun f => f), ((Keep.refl _ Nope).alloc _).cell t3 (fun f => f)⟩ | exact ⟨(((Keep.refl _ Nope).alloc _).alloc _).cell c0 (fun f => f), (((Keep.refl _ Nope).alloc _).alloc _).cell x1 (fun f => f), (((Keep.refl _ Nope).alloc _).alloc _).cell x2 (fun f => f), (((Keep.refl _ Nope).alloc _).alloc _).cell x3 (fun f => f), (((Keep.refl _ Nope).alloc _).alloc _).cell t0 (fun f => f), (((Keep.refl _ Nope).alloc _).alloc _).cell t1 (fun f => f), (((Keep.refl _ Nope).alloc _).alloc _).cell t2 (fun f => f), (((Keep.refl _ Nope).alloc _).alloc _).cell t3 (fun f => f)⟩)
      clear hK K
      refine tkC 25 ?_
      intro K hK
      go_simp
      refine hK.out _ _ ?_ (fun hHeld => ?_)
      · (try dsimp only); (first | exact ⟨c0, x1, x2, x3, t0, t1, t2, t3⟩ | exact ⟨((Keep.refl _ Nope).alloc _).cell c0 (fun f => f), ((Keep.refl _ Nope).alloc _).cell x1 (fun f => f), ((Keep.refl _ Nope).alloc _).cell x2 (fun f => f), ((Keep.refl _ Nope).alloc _).cell x3 (fun f => f), ((Keep.refl _ Nope).alloc _).cell t0 (fun f => f), ((Keep.refl _ Nope).alloc _).cell t1 (fun f => f), ((Keep.refl _ Nope).alloc _).cell t2 (fun f => f), ((Keep.refl _ Nope).alloc _).cell t3 (fun f => f)⟩ | exact ⟨(((Keep.refl _ Nope).alloc _).alloc _).cell c0 (fun f => f), (((Keep.refl _ Nope).alloc _).alloc _).cell x1 (fun f => f), (((Keep.refl _ Nope).alloc _).alloc _).cell x2 (fun f => f), (((Keep.refl _ Nope).alloc _).alloc _).cell x3 (fun f => f), (((Keep.refl _ Nope).alloc _).alloc _).cell t0 (fun f => f), (((Keep.refl _ Nope).alloc _).alloc _).cell t1 (fun f => f), (((Keep.refl _ Nope).alloc _).alloc _).cell t2 (fun f => f), (((Keep.refl _ Nope).alloc _).alloc _).cell t3 (fun f => f)⟩)
      clear hK K
      refine tkF 26 ?_
      intro K hK
      go_simp
      refine hK.out _ _ ?_
      clear hK K
      refine wpAnyM_done (by kernel_rfl) ?_ _
      go_wp2_with fail
      go_meet
      case rel => first | exact ⟨wa.heap.size, wa.heap.size + 1, rfl, rfl, (HBH.out.box2 #[.int .i64 k0, .int .i64 a0, .int .i64 b0] #[.int .i64 (yi : Nat), .int .i64 yk, .int .i64 ya, .int .i64 yb] 34 501).drew⟩ | exact ⟨wa.heap.size + 1, wa.heap.size, rfl, rfl, (St.sw (HBH.out.box2 #[.int .i64 (yi : Nat), .int .i64 yk, .int .i64 ya, .int .i64 yb] #[.int .i64 k0, .int .i64 a0, .int .i64 b0] 501 34)).drew⟩
    refine AllReadyM.cons (o := ?_) ?_ ?_ ?_
    rotate_left 1
    · simp only [List.getElem?_toArray, List.getElem?_cons_succ, List.getElem?_cons_zero]; exact rfl
    · intro K hK
      go_simp
      refine hK.out _ _ ?_ (fun hHeld => ?_)
      · (try dsimp only); (first | exact ⟨c0, x1, x2, x3, t0, t1, t2, t3⟩ | exact ⟨((Keep.refl _ Nope).alloc _).cell c0 (fun f => f), ((Keep.refl _ Nope).alloc _).cell x1 (fun f => f), ((Keep.refl _ Nope).alloc _).cell x2 (fun f => f), ((Keep.refl _ Nope).alloc _).cell x3 (fun f => f), ((Keep.refl _ Nope).alloc _).cell t0 (fun f => f), ((Keep.refl _ Nope).alloc _).cell t1 (fun f => f), ((Keep.refl _ Nope).alloc _).cell t2 (fun f => f), ((Keep.refl _ Nope).alloc _).cell t3 (fun f => f)⟩ | exact ⟨(((Keep.refl _ Nope).alloc _).alloc _).cell c0 (fun f => f), (((Keep.refl _ Nope).alloc _).alloc _).cell x1 (fun f => f), (((Keep.refl _ Nope).alloc _).alloc _).cell x2 (fun f => f), (((Keep.refl _ Nope).alloc _).alloc _).cell x3 (fun f => f), (((Keep.refl _ Nope).alloc _).alloc _).cell t0 (fun f => f), (((Keep.refl _ Nope).alloc _).alloc _).cell t1 (fun f => f), (((Keep.refl _ Nope).alloc _).alloc _).cell t2 (fun f => f), (((Keep.refl _ Nope).alloc _).alloc _).cell t3 (fun f => f)⟩)
      clear hK K
      refine tkC 23 ?_
      intro K hK
      go_simp
      refine hK.out _ _ ?_ (fun hHeld => ?_)
      · (try dsimp only); (first | exact ⟨c0, x1, x2, x3, t0, t1, t2, t3⟩ | exact ⟨((Keep.refl _ Nope).alloc _).cell c0 (fun f => f), ((Keep.refl _ Nope).alloc _).cell x1 (fun f => f), ((Keep.refl _ Nope).alloc _).cell x2 (fun f => f), ((Keep.refl _ Nope).alloc _).cell x3 (fun f => f), ((Keep.refl _ Nope).alloc _).cell t0 (fun f => f), ((Keep.refl _ Nope).alloc _).cell t1 (fun f => f), ((Keep.refl _ Nope).alloc _).cell t2 (fun f => f), ((Keep.refl _ Nope).alloc _).cell t3 (fun f => f)⟩ | exact ⟨(((Keep.refl _ Nope).alloc _).alloc _).cell c0 (fun f => f), (((Keep.refl _ Nope).alloc _).alloc _).cell x1 (fun f => f), (((Keep.refl _ Nope).alloc _).alloc _).cell x2 (fun f => f), (((Keep.refl _ Nope).alloc _).alloc _).cell x3 (fun f => f), (((Keep.refl _ Nope).alloc _).alloc _).cell t0 (fun f => f), (((Keep.refl _ Nope).alloc _).alloc _).cell t1 (fun f => f), (((Keep.refl _ Nope).alloc _).alloc _).cell t2 (fun f => f), (((Keep.refl _ Nope).alloc _).alloc _).cell t3 (fun f => f)⟩)
      clear hK K
      refine tkC 25 ?_
      intro K hK
      go_simp
      refine hK.out _ _ ?_ (fun hHeld => ?_)
      · (try dsimp only); (first | exact ⟨c0, x1, x2, x3, t0, t1, t2, t3⟩ | exact ⟨((Keep.refl _ Nope).alloc _).cell c0 (fun f => f), ((Keep.refl _ Nope).alloc _).cell x1 (fun f => f), ((Keep.refl _ Nope).alloc _).cell x2 (fun f => f), ((Keep.refl _ Nope).alloc _).cell x3 (fun f => f), ((Keep.refl _ Nope).alloc _).cell t0 (fun f => f), ((Keep.refl _ Nope).alloc _).cell t1 (fun f => f), ((Keep.refl _ Nope).alloc _).cell t2 (fun f => f), ((Keep.refl _ Nope).alloc _).cell t3 (fun f => f)⟩ | exact ⟨(((Keep.refl _ Nope).alloc _).alloc _).cell c0 (fun f => f), (((Keep.refl _ Nope).alloc _).alloc _).cell x1 (fun f => f), (((Keep.refl _ Nope).alloc _).alloc _).cell x2 (fun f => f), (((Keep.refl _ Nope).alloc _).alloc _).cell x3 (fun f => f), (((Keep.refl _ Nope).alloc _).alloc _).cell t0 (fun f => f), (((Keep.refl _ Nope).alloc _).alloc _).cell t1 (fun f => f), (((Keep.refl _ Nope).alloc _).alloc _).cell t2 (fun f => f), (((Keep.refl _ Nope).alloc _).alloc _).cell t3 (fun f => f)⟩)
      clear hK K
      refine tkF 26 ?_
      intro K hK
      go_simp
      refine hK.out _ _ ?_
      clear hK K
      refine wpAnyM_done (by kernel_rfl) ?_ _
      go_wp2_with fail
      go_meet
      case rel => first | exact ⟨wa.heap.size, wa.heap.size + 1, rfl, rfl, (HBH.out.box2 #[.int .i64 k0, .int .i64 a0, .int .i64 b0] #[.int .i64 (yi : Nat), .int .i64 yk, .int .i64 ya, .int .i64 yb] 34 501).drew⟩ | exact ⟨wa.heap.size + 1, wa.heap.size, rfl, rfl, (St.sw (HBH.out.box2 #[.int .i64 (yi : Nat), .int .i64 yk, .int .i64 ya, .int .i64 yb] #[.int .i64 k0, .int .i64 a0, .int .i64 b0] 501 34)).drew⟩
    exact AllReadyM.nil
  case rest =>
    obtain ⟨sb, lb, rfl, rfl, h4⟩ := hcut
    have H4 := Lib.hid h4
    clear HBH x1 x2 x3 t0 t1 t2 t3 c0 c1 e3 h4
    go_upto_region 5 with fail
    have c0 : wc.cell? ⟨b, 0, none⟩ = some (.slice (some ⟨g, 0, none⟩) n1 c) := by rw [(H4.out.blk 3 rfl).cell]; rfl
    have t0 : wc.cell? ⟨lb, 0, none⟩ = some (.int .i64 (yi : Nat)) := by rw [(H4.out.blk 0 rfl).cell]; rfl
    have t1 : wc.cell? ⟨lb, 1, none⟩ = some (.int .i64 yk) := by rw [(H4.out.blk 0 rfl).cell]; rfl
    have t2 : wc.cell? ⟨lb, 2, none⟩ = some (.int .i64 ya) := by rw [(H4.out.blk 0 rfl).cell]; rfl
    have t3 : wc.cell? ⟨lb, 3, none⟩ = some (.int .i64 yb) := by rw [(H4.out.blk 0 rfl).cell]; rfl
    refine wp_region_M (r := 8) (S := fun w' => w'.cell? ⟨b, 0, none⟩ = some (.slice (some ⟨g, 0, none⟩) n1 c) ∧ w'.cell? ⟨lb, 0, none⟩ = some (.int .i64 (yi : Nat)) ∧ w'.cell? ⟨lb, 1, none⟩ = some (.int .i64 yk) ∧ w'.cell? ⟨lb, 2, none⟩ = some (.int .i64 ya) ∧ w'.cell? ⟨lb, 3, none⟩ = some (.int .i64 yb)) (by kernel_rfl) ?_ (fun hHeld => ?_)
    · (try dsimp only); exact ⟨c0, t0, t1, t2, t3⟩
    refine tkP 0 ?_; refine tkP 1 ?_; refine tkP 2 ?_; refine tkP 3 ?_; refine tkH 4 ?_; refine tkP 5 ?_; refine tkH 6 ?_; refine tkP 7 ?_; refine tkF 8 ?_
    intro K hK
    rw [if_pos (by rfl)]
    (refine St.stepMid (i := 4) (H4.out.drew) rfl (by have := HP.out; omega) 501 _ _ rfl (p * 4) #[.int .i64 (yi : Nat), .int .i64 yk, .int .i64 ya, .int .i64 yb] rfl rfl (by kernel_rfl) (by kernel_rfl) (by have := HP.out; show p * 4 + 4 ≤ n1 * 4; omega) ?_; intro w5 h5; have H5 := Lib.hid h5; clear h5 H4)
    refine hK.out _ _ ?_
    clear hK K
    (try simp only [List.getElem_toArray, List.getElem_cons_succ, List.getElem_cons_zero, Act.put, List.setIfInBounds_toArray, List.set_cons_zero, List.set_cons_succ])
    refine wpAnyM_done (by kernel_rfl) ?_ _
    have h5 := H5.out
    simp only [List.set_cons_succ, List.set_cons_zero] at h5
    rw [HR4.out] at h5
    have H5' := Lib.hid (show St w0 w5 (blkA lb #[.int .i64 (yi : Nat), .int .i64 yk, .int .i64 ya, .int .i64 yb] 501 :: blkA sb #[.int .i64 k0, .int .i64 a0, .int .i64 b0] 34 :: blkA rb #[.int .i64 0, .int .i64 0, .int .i64 0] 34 :: denT b (l.set p ⟨yi, ⟨yk, ya, yb⟩⟩) D bm (some ⟨g, 0, none⟩) n1 c R) from h5)
    clear h5 H5 c0 t0 t1 t2 t3 hHeld
    go_upto_region 6 with fail
    have c1 : w5.cell? ⟨b, 1, none⟩ = some (.map (some bm)) := by rw [(H5'.out.blk 3 rfl).cell]; rfl
    have t0 : w5.cell? ⟨lb, 0, none⟩ = some (.int .i64 (yi : Nat)) := by rw [(H5'.out.blk 0 rfl).cell]; rfl
    refine wp_region_M (r := 8) (S := fun w' => w'.cell? ⟨b, 1, none⟩ = some (.map (some bm)) ∧ w'.cell? ⟨lb, 0, none⟩ = some (.int .i64 (yi : Nat))) (by kernel_rfl) ?_ (fun hHeld => ?_)
    · (try dsimp only); exact ⟨c1, t0⟩
    refine tkP 0 ?_; refine tkP 1 ?_; refine tkP 2 ?_; refine tkP 3 ?_; refine tkH 4 ?_; refine tkP 5 ?_; refine tkH 6 ?_; refine tkP 7 ?_; refine tkF 8 ?_
    intro K hK
    rw [if_pos (by rfl)]
    (refine step_mapPut (H5'.out.drew) 5 rfl _ _ _ rfl yi p rfl rfl rfl (Nat.lt_trans hyl (by decide)) (by have := HP.out; omega) (by rw [HDD.out.2, HN.out]; omega) ?_; intro w6 h6; have H6 := Lib.hid h6; clear h6 H5')
    refine hK.out _ _ ?_
    clear hK K
    (try simp only [List.getElem_toArray, List.getElem_cons_succ, List.getElem_cons_zero, Act.put, List.setIfInBounds_toArray, List.set_cons_zero, List.set_cons_succ])
    refine wpAnyM_done (by kernel_rfl) ?_ _
    have h6 := H6.out
    simp only [List.set_cons_succ, List.set_cons_zero, denT] at h6
    have H6' := Lib.hid (show St w0 w6 (blkA lb #[.int .i64 (yi : Nat), .int .i64 yk, .int .i64 ya, .int .i64 yb] 501 :: blkA sb #[.int .i64 k0, .int .i64 a0, .int .i64 b0] 34 :: blkA rb #[.int .i64 0, .int .i64 0, .int .i64 0] 34 :: denT b (l.set p ⟨yi, ⟨yk, ya, yb⟩⟩) (D.put (iK (yi : Nat)) (iD (p : Nat))) bm (some ⟨g, 0, none⟩) n1 c R) from h6)
    clear h6 H6 c1 t0 hHeld
    have c1 : w6.cell? ⟨b, 1, none⟩ = some (.map (some bm)) := by rw [(H6'.out.blk 3 rfl).cell]; rfl
    go_upto_region 8 with (at_delete; refine wpList_plain rfl fun K hK => step_mapDel (H6'.out) 5 rfl _ _ rfl k rfl rfl (by omega) ?_; intro w7 h7; have H7 := Lib.hid h7; clear h7 H6'; refine hK _ _ ?_; clear hK K)
    have h7 := H7.out
    simp only [List.set_cons_succ, List.set_cons_zero, denT] at h7
    have H7' := Lib.hid (show St w0 w7 (blkA lb #[.int .i64 (yi : Nat), .int .i64 yk, .int .i64 ya, .int .i64 yb] 501 :: blkA sb #[.int .i64 k0, .int .i64 a0, .int .i64 b0] 34 :: blkA rb #[.int .i64 0, .int .i64 0, .int .i64 0] 34 :: denT b (l.set p ⟨yi, ⟨yk, ya, yb⟩⟩) ((D.put (iK (yi : Nat)) (iD (p : Nat))).del (iK (k : Nat))) bm (some ⟨g, 0, none⟩) n1 c R) from h7)
    clear h7 H7 c1
    have c0 : w7.cell? ⟨b, 0, none⟩ = some (.slice (some ⟨g, 0, none⟩) n1 c) := by rw [(H7'.out.blk 3 rfl).cell]; rfl
    have y0 := (H7'.out.blk 3 rfl).frozen 0
    obtain ⟨G7, hown7, _, _⟩ := H7'.out.rd 4 rfl
    have hcap := hown7.cap.1
    have hrun := slice_h_any slDr (some ⟨g, 0, none⟩) n1 c n .i64 (by omega)
    clear hown7 hcap
    refine wp_region_M (r := 14) (S := fun w' => w'.cell? ⟨b, 0, none⟩ = some (.slice (some ⟨g, 0, none⟩) n1 c)) (by kernel_rfl) ?_ (fun hHeld => ?_)
    · (try dsimp only); exact c0
    refine tkP 0 ?_; refine tkP 1 ?_; refine tkP 2 ?_; refine tkP 3 ?_; refine tkP 4 ?_; refine tkH 5 ?_; refine tkP 6 ?_; refine tkP 7 ?_; refine tkP 8 ?_; refine tkP 9 ?_; refine tkH 10 ?_; refine tkP 11 ?_; refine tkP 12 ?_; refine tkP 13 ?_; refine tkF 14 ?_
    intro K hK
    go_simp
    refine hK.out _ _ ?_
    clear hK K
    refine tkP 15 ?_; refine tkP 16 ?_; refine tkF 17 ?_
    intro K hK
    go_simp
    refine hK.out _ _ ?_
    clear hK K
    refine wpAnyM_done (by kernel_rfl) ?_ _
    have h8 := (H7'.out.drew.write 3 rfl 0 (.slice (some ⟨g, 0, none⟩) n c)).cut 4 rfl n (by omega)
    go_upto_region 9 with fail
    have h8' : St w0 (w7.setCell ⟨b, 0, none⟩ (.slice (some ⟨g, 0, none⟩) n c)).drew _ := h8
    simp only [List.set_cons_succ, List.set_cons_zero, denT] at h8'
    obtain ⟨w8, hw8⟩ : ∃ w8, (w7.setCell ⟨b, 0, none⟩ (.slice (some ⟨g, 0, none⟩) n c)).drew = w8 := ⟨_, rfl⟩
    rw [hw8] at h8' ⊢
    have H8 := Lib.hid h8'
    obtain ⟨x1, x2, x3, _, _, _⟩ := (show Blk w8 sb #[.int .i64 k0, .int .i64 a0, .int .i64 b0] 34 from h8'.blk 1 rfl).three
    obtain ⟨z1, z2, z3, y1, y2, y3⟩ := (show Blk w8 rb #[.int .i64 0, .int .i64 0, .int .i64 0] 34 from h8'.blk 2 rfl).three
    clear h8 h8' hw8 hHeld c0 y0 hrun
    go_wp2_with fail
    have h9 := ((H8.out.write 2 rfl 0 (.int .i64 k0)).write 2 rfl 1 (.int .i64 a0)).write 2 rfl 2 (.int .i64 b0)
    obtain ⟨w9, hw9⟩ : ∃ w9, ((w8.setCell ⟨rb, 0, none⟩ (.int .i64 k0)).setCell ⟨rb, 1, none⟩ (.int .i64 a0)).setCell ⟨rb, 2, none⟩ (.int .i64 b0) = w9 := ⟨_, rfl⟩
    rw [hw9] at h9
    try rw [hw9]
    obtain ⟨z1, z2, z3, _, _, _⟩ := (show Blk w9 rb #[.int .i64 k0, .int .i64 a0, .int .i64 b0] 34 from h9.blk 2 rfl).three
    refine bodyPost_ret (v := .tuple #[.agg #[.int .i64 k0, .int .i64 a0, .int .i64 b0], .bool true]) (by simp [results, Tryz.results386, go_sem, z1, z2, z3]) rfl ⟨rfl, (l.set p ⟨yi, ⟨yk, ya, yb⟩⟩).take n, _, ⟨bm, some ⟨g, 0, none⟩, c⟩, HDD.out.1, ?_⟩
    have hl : ((l.set p (⟨yi, ⟨yk, ya, yb⟩⟩ : RowV)).take n).length = n := by
      have := HN.out
      have := HN1.out
      rw [List.length_take, List.length_set]
      omega
    unfold denL
    rw [hl, show flatRow ((l.set p (⟨yi, ⟨yk, ya, yb⟩⟩ : RowV)).take n) = (flatRow (l.set p ⟨yi, ⟨yk, ya, yb⟩⟩)).take (n * 4) from (flat_take RowV.cells 4 (fun _ => rfl) _ n).symm]
    exact h9.rest.rest.rest
end Go.Proofs.YtkiikblpgppmkaaGreatDoor
