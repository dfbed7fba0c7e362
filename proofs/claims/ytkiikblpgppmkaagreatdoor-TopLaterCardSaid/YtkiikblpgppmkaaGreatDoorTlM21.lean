/-
  The package world: Insert, apply; The packages slices and world: is one of some ops of such a kind, for the two closures of Defer. (Printed by tools/gen_def.py.); The package world: the closures of Defer; knows; Defer; The package world: Maintain.
-/
import Derived.Test.YtkiikblpgppmkaaGreatDoorTlM20
namespace Go.Proofs.YtkiikblpgppmkaaGreatDoor
open Go Go.RowKit
set_option linter.unusedVariables false
set_option linter.unusedSimpArgs false

set_option maxHeartbeats 2000000 in
theorem wo_insert {w0 w : World} {R : List Asr} {b : Nat} {x : WoS} {p : WoB} (H : St w0 w (woL b x p ++ R)) (hx : x.en.Ok 90000) (k : Nat) (g : Int) (hs : x.en.al.st k g = 1) (c : Nat) (s : SlS) (hc : x.en.sl[c]? = some s) (v : VV) (hv : okV v.k v.a v.b = true) (hkd : v.k = s.kind) :
    Calls Tryz.prog 15 #[ptr b, hdV k g, .int .i64 (c : Nat), v.val] w (fun en w' => en = .returned (.tuple #[(hadV s.m s.f k).val, .bool (s.m.testBit k), .int .i64 0]) ∧ St w0 w' (woL b (x.withE (x.en.ins k c v)) p ++ R)) := by
  obtain ⟨i, hi⟩ : ∃ i : Int, (k : Int) = i := ⟨_, rfl⟩
  have HB := Lib.hid (show St w0 (((w.alloc (.cells #[.int .i64 i, .int .i64 g] 45)).alloc (.cells #[.int .i64 v.k, .int .i64 v.a, .int .i64 v.b] 34)).alloc (.cells #[.int .i64 0, .int .i64 0, .int .i64 0] 34)) (blkA (w.heap.size + 1 + 1) #[.int .i64 0, .int .i64 0, .int .i64 0] 34 :: blkA (w.heap.size + 1) #[.int .i64 v.k, .int .i64 v.a, .int .i64 v.b] 34 :: blkA w.heap.size #[.int .i64 i, .int .i64 g] 45 :: (woL b x p ++ R)) from H.box3 _ _ _ _ _ _)
  have HM := Lib.hid (wo_may HB.out.rest.rest.rest hx.al k g)
  rw [hs] at HM
  rw [show mayE 1 = 0 from rfl] at HM
  obtain ⟨T, hT⟩ : ∃ T : List Asr, T = [blkA (w.heap.size + 1 + 1) #[.int .i64 0, .int .i64 0, .int .i64 0] 34, blkA (w.heap.size + 1) #[.int .i64 v.k, .int .i64 v.a, .int .i64 v.b] 34, blkA w.heap.size #[.int .i64 i, .int .i64 g] 45] := ⟨_, rfl⟩
  have HD := Lib.hid (fun (w1 : World) (h : St w0 w1 (woL b x p ++ (R ++ T))) => ent_insert (St.woEnt h) hx k g hs c s hc v hv hkd)
  have HT := Lib.hid hT
  obtain ⟨y, hy⟩ : ∃ y, x.en.ins k c v = y := ⟨_, rfl⟩
  rw [hy] at HD ⊢
  obtain ⟨⟨hk1, ha1, hb1⟩, hh⟩ : ∃ h, hadV s.m s.f k = h := ⟨_, rfl⟩
  obtain ⟨t, ht⟩ : ∃ t, s.m.testBit k = t := ⟨_, rfl⟩
  rw [hh, ht] at HD ⊢
  obtain ⟨ci, hci⟩ : ∃ ci : Int, (c : Int) = ci := ⟨_, rfl⟩
  rw [hci] at HD ⊢
  rw [hi] at HM HD ⊢
  obtain ⟨vk, va, vb⟩ := v
  clear H hx hs hc hv hkd hT hy hh ht hi hci
  unfold ptr hdV VV.val at *
  simp only at *
  go_enter Tryz.func15, Tryz.ntmps15
  go_wp2_with (go_at_call 52; refine HM.out.mono ?_; rintro e w1 ⟨rfl, hk1⟩; have HB1 := Lib.hid (HB.out.keep hk1); clear hk1 HM HB)
  have c0 := HB1.out.rest.rest.rest.woC.c0
  obtain ⟨h0, h1, _, _⟩ := (HB1.out.blk 2 rfl).two
  obtain ⟨x0, x1, x2, _, _, _⟩ := (HB1.out.blk 1 rfl).three
  refine wp_region_M (r := 8) (S := fun w' => w'.cell? ⟨b, 0, none⟩ = some (.pointer (some ⟨p.eb, 0, none⟩)) ∧ w'.cell? ⟨w.heap.size, 0, none⟩ = some (.int .i64 i) ∧ w'.cell? ⟨w.heap.size, 1, none⟩ = some (.int .i64 g) ∧ w'.cell? ⟨w.heap.size + 1, 0, none⟩ = some (.int .i64 vk) ∧ w'.cell? ⟨w.heap.size + 1, 1, none⟩ = some (.int .i64 va) ∧ w'.cell? ⟨w.heap.size + 1, 2, none⟩ = some (.int .i64 vb)) (by kernel_rfl) ?_ (fun hHeld => ?_)
  · (try dsimp only); exact ⟨c0, h0, h1, x0, x1, x2⟩
  refine tkP 0 ?_; refine tkP 1 ?_; refine tkP 2 ?_; refine tkP 3 ?_; refine tkH 4 ?_; refine tkH 5 ?_; refine tkP 6 ?_; refine tkH 7 ?_; refine tkF 8 ?_
  intro K hK
  go_simp
  go_wp2_with ((go_at_call 53; have hq := (St.rot3 HB1.out.drew); rw [← HT.out] at hq; refine (HD.out _ hq).mono ?_; rintro en w2 ⟨rfl, h2⟩; have h3 := St.woEnt' h2; rw [HT.out] at h3; have HB2 := Lib.hid (St.unrot3 h3); clear h2 h3 hq HB1; obtain ⟨z0, z1, z2, y0, y1, y2⟩ := (HB2.out.blk 0 rfl).three))
  refine hK.out _ _ ?_
  clear hK K
  refine tkP 9 ?_; refine tkP 10 ?_; refine tkP 11 ?_; refine tkF 12 ?_
  intro K hK
  go_simp
  refine hK.out _ _ ?_
  clear hK K
  refine tkP 13 ?_; refine tkP 14 ?_
  refine wpAnyM_done (by kernel_rfl) ?_ _
  clear hHeld c0 h0 h1 x0 x1 x2
  obtain ⟨q0, q1, q2, _, _, _⟩ := ((HB2.out.blk 0 rfl).set3 (.int .i64 hk1) (.int .i64 ha1) (.int .i64 hb1)).three
  have HF := Lib.hid ((HB2.out.write3 (.int .i64 hk1) (.int .i64 ha1) (.int .i64 hb1)).rest.rest.rest)
  clear z0 z1 z2 y0 y1 y2
  go_wp2_with fail
  refine bodyPost_ret (v := .tuple #[.agg #[.int .i64 hk1, .int .i64 ha1, .int .i64 hb1], .bool t, .int .i64 0]) (by simp [results, Tryz.results15, go_sem, q0, q1, q2]) rfl ⟨rfl, HF.out⟩
set_option maxHeartbeats 2000000 in
theorem wo_apply_del {w0 w : World} {R : List Asr} {b : Nat} {x : WoS} {p : WoB} (H : St w0 w (woL b x p ++ R)) (hx : x.en.Ok 90000) (hr : x.en.al.ret ≤ 1000000) (k : Nat) (hs : x.en.al.st k (x.en.al.gen k : Nat) = 1) (o : OpV) (ho : o.kind = 1) (hoi : o.hi = (k : Int)) (hog : o.hg = ((x.en.al.gen k : Nat) : Int)) :
    Calls Tryz.prog 66 #[ptr b, o.val] w (fun e w' => e = .returned (.bool true) ∧ St w0 w' (woL b (x.withE (x.en.del k)) p ++ R)) := by
  obtain ⟨ok, i, g, oc, vk, va, vb⟩ := o
  simp only at ho hoi hog
  subst ho
  have HB := Lib.hid (show St w0 (w.alloc (.cells #[.int .i64 1, .int .i64 i, .int .i64 g, .int .i64 oc, .int .i64 vk, .int .i64 va, .int .i64 vb] 79)) (blkA w.heap.size #[.int .i64 1, .int .i64 i, .int .i64 g, .int .i64 oc, .int .i64 vk, .int .i64 va, .int .i64 vb] 79 :: (woL b x p ++ R)) from H.box0 _ _)
  have HD := Lib.hid (fun (w1 : World) (h : St w0 w1 (blkA w.heap.size #[.int .i64 1, .int .i64 i, .int .i64 g, .int .i64 oc, .int .i64 vk, .int .i64 va, .int .i64 vb] 79 :: (woL b x p ++ R))) => ent_delete (St.woEnt (St.rot1 h)) hx hr k hs)
  have HU := Lib.hid (fun (w1 : World) (h : St w0 w1 (entL p.eb (x.en.del k) p.e ++ (([resA p.rb x.rs, qA p.qb x.qu] ++ (R ++ [blkA w.heap.size #[.int .i64 1, .int .i64 i, .int .i64 g, .int .i64 oc, .int .i64 vk, .int .i64 va, .int .i64 vb] 79]) ++ [blkA b (woCs x p) 124])))) => (St.unrot1 (St.woEnt' h)).rest)
  have c0 := HB.out.rest.woC.c0
  have hb := HB.out.blk 0 rfl
  obtain ⟨wa, hwa⟩ : ∃ wa, w.alloc (.cells #[.int .i64 1, .int .i64 i, .int .i64 g, .int .i64 oc, .int .i64 vk, .int .i64 va, .int .i64 vb] 79) = wa := ⟨_, rfl⟩
  rw [hwa] at hb
  have o1 : wa.cell? ⟨w.heap.size, 1, none⟩ = some (.int .i64 i) := by rw [hb.cell]; rfl
  have o2 : wa.cell? ⟨w.heap.size, 2, none⟩ = some (.int .i64 g) := by rw [hb.cell]; rfl
  subst hwa
  obtain ⟨n, hn⟩ : ∃ n : Int, (((ofL x.en.sl k).length : Nat) : Int) = n := ⟨_, rfl⟩
  rw [hn, ← hog, ← hoi] at HD
  obtain ⟨y, hy⟩ : ∃ y, x.en.del k = y := ⟨_, rfl⟩
  rw [hy] at HD HU ⊢
  clear H hx hr hs hn hy hb hoi hog
  unfold ptr hdV OpV.val at *
  go_enter Tryz.func66, Tryz.ntmps66
  go_wp2_with fail
  refine wp_region_M (r := 7) (S := fun w' => w'.cell? ⟨b, 0, none⟩ = some (.pointer (some ⟨p.eb, 0, none⟩)) ∧ w'.cell? ⟨w.heap.size, 1, none⟩ = some (.int .i64 i) ∧ w'.cell? ⟨w.heap.size, 2, none⟩ = some (.int .i64 g)) (by kernel_rfl) ?_ (fun hHeld => ?_)
  · (try dsimp only); exact ⟨c0, o1, o2⟩
  refine tkP 0 ?_; refine tkP 1 ?_; refine tkP 2 ?_; refine tkP 3 ?_; refine tkH 4 ?_; refine tkP 5 ?_; refine tkH 6 ?_; refine tkF 7 ?_
  intro K hK
  go_simp
  go_wp2_with ((go_at_call 56; refine (HD.out _ HB.out.drew).mono ?_; rintro en w2 ⟨rfl, h2⟩; have HB2 := Lib.hid (HU.out _ h2); clear h2 HB))
  refine hK.out _ _ ?_
  clear hK K
  refine tkP 8 ?_; refine tkP 9 ?_; refine tkP 10 ?_; refine tkP 11 ?_
  refine wpAnyM_done (by kernel_rfl) ?_ _
  clear hHeld
  go_wp2_with fail
  go_ret
  exact ⟨rfl, HB2.out⟩
end Go.Proofs.YtkiikblpgppmkaaGreatDoor

namespace Go.Proofs.YtkiikblpgppmkaaGreatDoor
open Go Go.RowKit
set_option linter.unusedVariables false
set_option linter.unusedSimpArgs false

def RetIxK (w : World) (b : Bool) (en : Ending) (w' : World) : Prop := ∃ i : Int, en = .returned (.int .i64 i) ∧ ((0 ≤ i) = (b = true)) ∧ Keep w w' Nope
def LoopIxP (w : World) (l : List OpV) (p : OpV → Bool) (g : Nat) (v8 : Value) (wr : World) : Prop :=
  ∃ k : Nat, g + k = l.length ∧ v8 = .int .i64 k ∧ (∀ j o, j < k → l[j]? = some o → p o = false) ∧ Keep w wr Nope

set_option maxHeartbeats 1000000 in
theorem index_def1 (p : OpV → Bool) (v : Value) (l : List OpV) (w : World) (S : Nat → Prop) (h : Rd S w v l.length (flatOp l))
    (hf : ∀ o, o ∈ l → ∀ (w' : World), Keep w w' Nope → Calls Tryz.prog 59 #[o.val] w' (Ret w' (.bool (p o)))) :
    Calls Tryz.prog 118 #[v, .func (.func 59) #[] #[]] w (RetIxK w (l.any p)) := by
  obtain ⟨a, c, rfl, h1, h2, h3, h4⟩ := id h
  have hlen : l.length ≤ 9223372036854775807 := by unfold maxLen at h2; omega
  clear h1 h2 h3 h4
  have H := Lib.hid h; clear h
  have HF := Lib.hid hf; clear hf
  go_enter Tryz.func118, Tryz.ntmps118
  go_wp2_with fail
  go_loopg [8] l.length (fun g v8 wr => LoopIxP w l p g v8 wr)
  case atStart => exact ⟨0, rfl, rfl, fun j o h => by omega, Keep.refl _ _⟩
  case round =>
    obtain ⟨k, hk, rfl, hall, hkeep⟩ := hrel
    have hkl : k ≤ l.length := by omega
    have HK := Lib.hid hk; clear hk
    have HA := Lib.hid hall; clear hall
    have HP := Lib.hid hkeep; clear hkeep
    by_cases hlt : k < l.length
    · obtain ⟨o, ho⟩ : ∃ o, l[k]? = some o := ⟨_, List.getElem?_eq_getElem hlt⟩
      obtain ⟨bo, oo, rfl, hbo, hco⟩ := (H.out.keep HP.out (fun _ _ f => f)).elem (cells := OpV.cells) (size := 7) (fun _ => rfl) (by decide) ho
      have HC := Lib.hid (HF.out o (List.mem_of_getElem? ho) wr HP.out)
      have HO := Lib.hid ho; clear ho
      obtain ⟨ok, hok⟩ : ∃ ok, p o = ok := ⟨_, rfl⟩
      rw [hok] at HC
      have HOK := Lib.hid hok; clear hok
      obtain ⟨kind, hi, hg, c', vk, va, vb⟩ := o
      have hc0 := hco 0 (by decide)
      have hc1 := hco 1 (by decide)
      have hc2 := hco 2 (by decide)
      have hc3 := hco 3 (by decide)
      have hc4 := hco 4 (by decide)
      have hc5 := hco 5 (by decide)
      have hc6 := hco 6 (by decide)
      simp [OpV.cells] at hc0 hc1 hc2 hc3 hc4 hc5 hc6
      clear hco
      simp only [OpV.val] at HC
      cases ok
      · go_wp2_with (go_at_call 59; refine HC.out.mono ?_; rintro e w1 ⟨rfl, hk1⟩; have HK1 := Lib.hid hk1; clear hk1)
        go_roundg (l.length - (k + 1))
        case measure => have := HK.out; omega
        case rel =>
          refine ⟨k + 1, by omega, by go_num, fun j o' hj ho' => ?_, HP.out.trans HK1.out (fun _ f => f.elim)⟩
          by_cases e : j = k
          · subst e
            rw [HO.out] at ho'
            cases ho'
            exact HOK.out
          · exact HA.out j o' (by omega) ho'
      · go_wp2_with (go_at_call 59; refine HC.out.mono ?_; rintro e w1 ⟨rfl, hk1⟩; have HK1 := Lib.hid hk1; clear hk1)
        go_ret
        refine ⟨k, rfl, ?_, HP.out.trans HK1.out (fun _ f => f.elim)⟩
        have : l.any p = true := List.any_eq_true.2 ⟨_, List.mem_of_getElem? HO.out, HOK.out⟩
        rw [this]
        simp
    · go_wp2_with fail
      go_ret
      refine ⟨-1, rfl, ?_, HP.out⟩
      have : l.any p = false := by
        rw [List.any_eq_false]
        intro o ho
        obtain ⟨j, hj, rfl⟩ := List.getElem_of_mem ho
        simp [HA.out j _ (by omega) (List.getElem?_eq_getElem hj)]
      rw [this]
      simp
set_option maxHeartbeats 400000 in
theorem contains_def1 (p : OpV → Bool) (v : Value) (l : List OpV) (w : World) (S : Nat → Prop) (h : Rd S w v l.length (flatOp l))
    (hf : ∀ o, o ∈ l → ∀ (w' : World), Keep w w' Nope → Calls Tryz.prog 59 #[o.val] w' (Ret w' (.bool (p o)))) :
    Calls Tryz.prog 58 #[v, .func (.func 59) #[] #[]] w (Ret w (.bool (l.any p))) := by
  have HX := Lib.hid (index_def1 p v l w S h hf)
  clear h hf
  obtain ⟨b, hb⟩ : ∃ b, l.any p = b := ⟨_, rfl⟩
  rw [hb] at HX ⊢
  have HB := Lib.hid hb; clear hb
  go_enter Tryz.func58, Tryz.ntmps58
  go_wp2_with fail
  refine HX.out.mono ?_
  rintro e w1 ⟨i, rfl, hi, hk⟩
  have HI := Lib.hid hi; clear hi
  have HK := Lib.hid hk; clear hk
  cases b
  · have hi : i < 0 := by
      have := HI.out
      simp at this
      exact this
    have hd : decide (0 ≤ i) = false := decide_eq_false (by omega)
    go_wp2_with fail
    go_ret
    exact ⟨rfl, HK.out⟩
  · have hi : 0 ≤ i := by
      have := HI.out
      simpa using this
    go_wp2_with fail
    go_ret
    exact ⟨rfl, HK.out⟩

set_option maxHeartbeats 1000000 in
theorem index_def2 (cp : Value) (p : OpV → Bool) (v : Value) (l : List OpV) (w : World) (S : Nat → Prop) (h : Rd S w v l.length (flatOp l))
    (hf : ∀ o, o ∈ l → ∀ (w' : World), Keep w w' Nope → Calls Tryz.prog 61 #[o.val, cp] w' (Ret w' (.bool (p o)))) :
    Calls Tryz.prog 118 #[v, .func (.func 61) #[] #[cp]] w (RetIxK w (l.any p)) := by
  obtain ⟨a, c, rfl, h1, h2, h3, h4⟩ := id h
  have hlen : l.length ≤ 9223372036854775807 := by unfold maxLen at h2; omega
  clear h1 h2 h3 h4
  have H := Lib.hid h; clear h
  have HF := Lib.hid hf; clear hf
  go_enter Tryz.func118, Tryz.ntmps118
  go_wp2_with fail
  go_loopg [8] l.length (fun g v8 wr => LoopIxP w l p g v8 wr)
  case atStart => exact ⟨0, rfl, rfl, fun j o h => by omega, Keep.refl _ _⟩
  case round =>
    obtain ⟨k, hk, rfl, hall, hkeep⟩ := hrel
    have hkl : k ≤ l.length := by omega
    have HK := Lib.hid hk; clear hk
    have HA := Lib.hid hall; clear hall
    have HP := Lib.hid hkeep; clear hkeep
    by_cases hlt : k < l.length
    · obtain ⟨o, ho⟩ : ∃ o, l[k]? = some o := ⟨_, List.getElem?_eq_getElem hlt⟩
      obtain ⟨bo, oo, rfl, hbo, hco⟩ := (H.out.keep HP.out (fun _ _ f => f)).elem (cells := OpV.cells) (size := 7) (fun _ => rfl) (by decide) ho
      have HC := Lib.hid (HF.out o (List.mem_of_getElem? ho) wr HP.out)
      have HO := Lib.hid ho; clear ho
      obtain ⟨ok, hok⟩ : ∃ ok, p o = ok := ⟨_, rfl⟩
      rw [hok] at HC
      have HOK := Lib.hid hok; clear hok
      obtain ⟨kind, hi, hg, c', vk, va, vb⟩ := o
      have hc0 := hco 0 (by decide)
      have hc1 := hco 1 (by decide)
      have hc2 := hco 2 (by decide)
      have hc3 := hco 3 (by decide)
      have hc4 := hco 4 (by decide)
      have hc5 := hco 5 (by decide)
      have hc6 := hco 6 (by decide)
      simp [OpV.cells] at hc0 hc1 hc2 hc3 hc4 hc5 hc6
      clear hco
      simp only [OpV.val] at HC
      cases ok
      · go_wp2_with (go_at_call 61; refine HC.out.mono ?_; rintro e w1 ⟨rfl, hk1⟩; have HK1 := Lib.hid hk1; clear hk1)
        go_roundg (l.length - (k + 1))
        case measure => have := HK.out; omega
        case rel =>
          refine ⟨k + 1, by omega, by go_num, fun j o' hj ho' => ?_, HP.out.trans HK1.out (fun _ f => f.elim)⟩
          by_cases e : j = k
          · subst e
            rw [HO.out] at ho'
            cases ho'
            exact HOK.out
          · exact HA.out j o' (by omega) ho'
      · go_wp2_with (go_at_call 61; refine HC.out.mono ?_; rintro e w1 ⟨rfl, hk1⟩; have HK1 := Lib.hid hk1; clear hk1)
        go_ret
        refine ⟨k, rfl, ?_, HP.out.trans HK1.out (fun _ f => f.elim)⟩
        have : l.any p = true := List.any_eq_true.2 ⟨_, List.mem_of_getElem? HO.out, HOK.out⟩
        rw [this]
        simp
    · go_wp2_with fail
      go_ret
      refine ⟨-1, rfl, ?_, HP.out⟩
      have : l.any p = false := by
        rw [List.any_eq_false]
        intro o ho
        obtain ⟨j, hj, rfl⟩ := List.getElem_of_mem ho
        simp [HA.out j _ (by omega) (List.getElem?_eq_getElem hj)]
      rw [this]
      simp
set_option maxHeartbeats 400000 in
theorem contains_def2 (cp : Value) (p : OpV → Bool) (v : Value) (l : List OpV) (w : World) (S : Nat → Prop) (h : Rd S w v l.length (flatOp l))
    (hf : ∀ o, o ∈ l → ∀ (w' : World), Keep w w' Nope → Calls Tryz.prog 61 #[o.val, cp] w' (Ret w' (.bool (p o)))) :
    Calls Tryz.prog 58 #[v, .func (.func 61) #[] #[cp]] w (Ret w (.bool (l.any p))) := by
  have HX := Lib.hid (index_def2 cp p v l w S h hf)
  clear h hf
  obtain ⟨b, hb⟩ : ∃ b, l.any p = b := ⟨_, rfl⟩
  rw [hb] at HX ⊢
  have HB := Lib.hid hb; clear hb
  go_enter Tryz.func58, Tryz.ntmps58
  go_wp2_with fail
  refine HX.out.mono ?_
  rintro e w1 ⟨i, rfl, hi, hk⟩
  have HI := Lib.hid hi; clear hi
  have HK := Lib.hid hk; clear hk
  cases b
  · have hi : i < 0 := by
      have := HI.out
      simp at this
      exact this
    have hd : decide (0 ≤ i) = false := decide_eq_false (by omega)
    go_wp2_with fail
    go_ret
    exact ⟨rfl, HK.out⟩
  · have hi : 0 ≤ i := by
      have := HI.out
      simpa using this
    go_wp2_with fail
    go_ret
    exact ⟨rfl, HK.out⟩
end Go.Proofs.YtkiikblpgppmkaaGreatDoor

namespace Go.Proofs.YtkiikblpgppmkaaGreatDoor
open Go Go.RowKit
set_option linter.unusedVariables false
set_option linter.unusedSimpArgs false

set_option maxHeartbeats 400000 in
theorem def_1 (o : OpV) (w : World) : Calls Tryz.prog 59 #[o.val] w (Ret w (.bool (!okOp o))) := by
  have HV := Lib.hid (op_ok o)
  obtain ⟨kind, hi, hg, c, vk, va, vb⟩ := o
  obtain ⟨b, hb⟩ : ∃ b, okOp ⟨kind, hi, hg, c, vk, va, vb⟩ = b := ⟨_, rfl⟩
  rw [hb] at HV ⊢
  clear hb
  simp only [OpV.val] at HV ⊢
  go_enter Tryz.func59, Tryz.ntmps59
  go_wp2_with fail
  refine (HV.out _).mono ?_
  rintro e w1 ⟨rfl, hk⟩
  have HK := Lib.hid hk; clear hk
  go_wp2_with fail
  go_ret
  exact ⟨rfl, (Keep.alloc (Keep.refl _ _) _).trans HK.out (fun _ f => f.elim)⟩
set_option maxHeartbeats 1000000 in
theorem def_2 (o : OpV) (b : Nat) (x : WoS) (p : WoB) (cp : Nat) (hx : x.en.al.Ok) (w : World) (hc : WoCs w b x p) (hR : RdAl w p.e.ab x.en.al) (hcp : w.cell? ⟨cp, 0, none⟩ = some (ptr b)) :
    Calls Tryz.prog 61 #[o.val, ptr cp] w (Ret w (.bool (decide (x.en.al.st o.hi o.hg = 0)))) := by
  obtain ⟨kind, hi, hg, c, vk, va, vb⟩ := o
  have hk1 := (show Keep w (w.alloc (.cells #[.int .i64 kind, .int .i64 hi, .int .i64 hg, .int .i64 c, .int .i64 vk, .int .i64 va, .int .i64 vb] 79)) Nope from (Keep.refl w Nope).alloc _)
  have hb := Blk.new w #[.int .i64 kind, .int .i64 hi, .int .i64 hg, .int .i64 c, .int .i64 vk, .int .i64 va, .int .i64 vb] 79
  have HS := Lib.hid (fun w' (hk : Keep w w' Nope) => al_state p.e.ab x.en.al hi hg hx w' (hR.keep hk))
  have c0 := hk1.cell hc.c0 (fun f => f)
  have e0 := hk1.cell hc.e0 (fun f => f)
  have p0 := hk1.cell hcp (fun f => f)
  obtain ⟨wa, hwa⟩ : ∃ wa, w.alloc (.cells #[.int .i64 kind, .int .i64 hi, .int .i64 hg, .int .i64 c, .int .i64 vk, .int .i64 va, .int .i64 vb] 79) = wa := ⟨_, rfl⟩
  rw [hwa] at hb c0 e0 p0
  have o1 : wa.cell? ⟨w.heap.size, 1, none⟩ = some (.int .i64 hi) := by rw [hb.cell]; rfl
  have o2 : wa.cell? ⟨w.heap.size, 2, none⟩ = some (.int .i64 hg) := by rw [hb.cell]; rfl
  subst hwa
  have HC := Lib.hid (x.en.al.st_cases hi hg)
  show Calls _ _ _ _ (Ret w (.bool (decide (x.en.al.st hi hg = 0))))
  obtain ⟨s, hs⟩ : ∃ s, x.en.al.st hi hg = s := ⟨_, rfl⟩
  rw [hs] at HS HC ⊢
  obtain ⟨q, hq⟩ : ∃ q, decide (s = 0) = q := ⟨_, rfl⟩
  have hq2 : ((s : Int) == 0) = q := by rw [← hq]; rfl
  rw [hq]
  clear hx hc hR hcp hk1 hb hs hq
  unfold ptr OpV.val at *
  simp only at *
  go_enter Tryz.func61, Tryz.ntmps61
  go_wp2_with fail
  refine wp_region_M (r := 11) (S := fun w' => w'.cell? ⟨cp, 0, none⟩ = some (.pointer (some ⟨b, 0, none⟩)) ∧ w'.cell? ⟨b, 0, none⟩ = some (.pointer (some ⟨p.eb, 0, none⟩)) ∧ w'.cell? ⟨p.eb, 0, none⟩ = some (.pointer (some ⟨p.e.ab, 0, none⟩)) ∧ w'.cell? ⟨w.heap.size, 1, none⟩ = some (.int .i64 hi) ∧ w'.cell? ⟨w.heap.size, 2, none⟩ = some (.int .i64 hg)) (by kernel_rfl) ?_ (fun hHeld => ?_)
  · (try dsimp only); exact ⟨p0, c0, e0, o1, o2⟩
  refine tkP 9 ?_; refine tkH 10 ?_; refine tkC 0 ?_
  intro K hK
  go_simp
  refine hK.out _ _ ?_ (fun hHeld => ?_)
  · (try dsimp only); exact ⟨p0, c0, e0, o1, o2⟩
  clear hK K
  refine tkP 1 ?_; refine tkP 2 ?_; refine tkP 3 ?_; refine tkC 4 ?_
  intro K hK
  go_simp
  refine hK.out _ _ ?_ (fun hHeld => ?_)
  · (try dsimp only); exact ⟨p0, c0, e0, o1, o2⟩
  clear hK K
  refine tkP 5 ?_; refine tkP 6 ?_; refine tkP 7 ?_; refine tkH 8 ?_; refine tkF 11 ?_
  intro K hK
  go_simp
  go_wp2_with ((go_at_call 62; refine (HS.out _ (show Keep w _ Nope from (by (repeat (first | exact Keep.refl _ _ | apply Keep.drew | apply Keep.drewN | apply Keep.alloc))))).mono ?_; rintro e w1 ⟨rfl, hk1⟩; have HK1 := Lib.hid ((show Keep w _ Nope from (by (repeat (first | exact Keep.refl _ _ | apply Keep.drew | apply Keep.drewN | apply Keep.alloc)))).trans hk1 (fun _ f => f.elim)); clear hk1))
  refine hK.out _ _ ?_
  clear hK K
  refine tkP 12 ?_; refine tkP 13 ?_
  refine wpAnyM_done (by kernel_rfl) ?_ _
  clear hHeld
  go_wp2_with fail
  go_ret
  exact ⟨rfl, HK1.out⟩
set_option maxHeartbeats 1000000 in
theorem wo_knows_del (b : Nat) (o : OpV) (w : World) (h1 : o.kind = 1) :
    Calls Tryz.prog 57 #[ptr b, o.val] w (Ret w (.tuple #[.bool true, .bool true])) := by
  obtain ⟨kind, hi, hg, c, vk, va, vb⟩ := o
  simp only at h1
  subst h1
  unfold ptr OpV.val at *
  simp only at *
  go_enter Tryz.func57, Tryz.ntmps57
  go_wp2_with fail
  go_ret2
  exact ⟨rfl, (Keep.refl w Nope).alloc _⟩
def LoopDefer (w : World) (n : Nat) (g : Nat) (v5 v6 v13 : Value) (wr : World) : Prop :=
  ∃ k : Nat, g + k = n ∧ v13 = .int .i64 k ∧ v5 = .bool true ∧ v6 = .bool true ∧ Keep w wr Nope
set_option maxRecDepth 100000 in
set_option maxHeartbeats 4000000 in
theorem wo_defer {w0 w : World} {R : List Asr} {b : Nat} {x : WoS} {p : WoB} (H : St w0 w (woL b x p ++ R)) (hx : x.en.al.Ok) (S : Nat → Prop) (l : List OpV) (v : Value) (hv : Rd S w v l.length (flatOp l)) (hok : ∀ o, o ∈ l → okOp o = true) (hst : ∀ o, o ∈ l → x.en.al.st o.hi o.hg ≠ 0)
    (hkn : ∀ o, o ∈ l → ∀ w', Keep w w' Nope → Calls Tryz.prog 57 #[ptr b, o.val] w' (Ret w' (.tuple #[.bool true, .bool true]))) (hlen : x.qu.length + l.length ≤ 10000) :
    Calls Tryz.prog 19 #[ptr b, v] w (fun e w' => e = .returned (.int .i64 0) ∧ St w0 w' (woL b (x.withQ (x.qu ++ l)) p ++ R)) := by
  obtain ⟨a, cv, rfl, g1, g2, g3, g4⟩ := id hv
  have hll : l.length ≤ 9223372036854775807 := by unfold maxLen at g2; omega
  clear g1 g2 g3 g4
  have hkw := (show Keep w (w.alloc (.cells #[ptr b] 61)) Nope from (Keep.refl w Nope).alloc _)
  have HKW := Lib.hid hkw
  have HB := Lib.hid (H.keep hkw)
  have HP0 := Lib.hid (Blk.new w #[ptr b] 61)
  have HV := Lib.hid (hv.keep hkw (fun _ _ f => f))
  have HN := Lib.hid hkn
  have HX := Lib.hid hx
  have HST := Lib.hid hst
  have HOKS := Lib.hid hok
  clear H hx hv hok hst hkn hkw
  obtain ⟨wa, hwa⟩ : ∃ wa, w.alloc (.cells #[ptr b] 61) = wa := ⟨_, rfl⟩
  have HWA := Lib.hid hwa
  rw [hwa] at HKW HB HP0 HV
  unfold ptr at *
  go_enter Tryz.func19, Tryz.ntmps19
  go_wp2_with fail
  try rw [hwa]
  clear hwa
  go_loopg [5, 6, 13] l.length (fun g v5 v6 v13 wr => LoopDefer wa l.length g v5 v6 v13 wr)
  case atStart => exact ⟨0, rfl, rfl, rfl, rfl, Keep.refl _ _⟩
  case round =>
    obtain ⟨k, hk, rfl, rfl, rfl, hkeep⟩ := hrel
    have hkl : k ≤ l.length := by omega
    have HK := Lib.hid hk; clear hk
    have HP := Lib.hid hkeep; clear hkeep
    by_cases hlt : k < l.length
    · obtain ⟨o, ho⟩ : ∃ o, l[k]? = some o := ⟨_, List.getElem?_eq_getElem hlt⟩
      obtain ⟨bo, oo, rfl, hbo, hco⟩ := (HV.out.keep HP.out (fun _ _ f => f)).elem (cells := OpV.cells) (size := 7) (fun _ => rfl) (by decide) ho
      have HC := Lib.hid (fun w' (hk : Keep w w' Nope) => HN.out o (List.mem_of_getElem? ho) w' hk)
      have p0 : wr.cell? ⟨w.heap.size, 0, none⟩ = some (.pointer (some ⟨b, 0, none⟩)) := by rw [(HP0.out.keep HP.out (fun f => f)).cell]; rfl
      obtain ⟨kind, hi, hg, c', vk, va, vb⟩ := o
      have hc0 := hco 0 (by decide)
      have hc1 := hco 1 (by decide)
      have hc2 := hco 2 (by decide)
      have hc3 := hco 3 (by decide)
      have hc4 := hco 4 (by decide)
      have hc5 := hco 5 (by decide)
      have hc6 := hco 6 (by decide)
      simp [OpV.cells] at hc0 hc1 hc2 hc3 hc4 hc5 hc6
      clear hco ho
      simp only [OpV.val] at HC
      have HKR := Lib.hid (HKW.out.trans HP.out (fun _ f => f.elim))
      have p1 := (show Keep wr (wr.alloc (.cells #[.int .i64 kind, .int .i64 hi, .int .i64 hg, .int .i64 c', .int .i64 vk, .int .i64 va, .int .i64 vb] 79)) Nope from (Keep.refl wr Nope).alloc _).cell p0 (fun f => f)
      go_wp2_with (go_at_call 57; refine (HC.out _ (HKR.out.trans (show Keep wr _ Nope from (by (repeat (first | exact Keep.refl _ _ | apply Keep.drew | apply Keep.drewN | apply Keep.alloc)))) (fun _ f => f.elim))).mono ?_; rintro e w1 ⟨rfl, hk1⟩; have HK1 := Lib.hid (HP.out.trans ((show Keep wr _ Nope from (by (repeat (first | exact Keep.refl _ _ | apply Keep.drew | apply Keep.drewN | apply Keep.alloc)))).trans hk1 (fun _ f => f.elim)) (fun _ f => f.elim)); clear hk1)
      go_roundg (l.length - (k + 1))
      case measure => have := HK.out; omega
      case rel => exact ⟨k + 1, by have := HK.out; omega, by go_num, rfl, rfl, HK1.out⟩
    · have HC1 := Lib.hid (fun (w1 : World) (hk : Keep wr w1 Nope) => contains_def1 (fun o => !okOp o) _ l w1 S (HV.out.keep (HP.out.trans hk (fun _ f => f.elim)) (fun _ _ f => f)) (fun o _ w' _ => def_1 o w'))
      rw [show l.any (fun o => !okOp o) = false by rw [List.any_eq_false]; intro o ho; simp [HOKS.out o ho]] at HC1
      have HC2 := Lib.hid (fun (w1 : World) (hk : Keep wr w1 Nope) => contains_def2 (ptr w.heap.size) (fun o => decide (x.en.al.st o.hi o.hg = 0)) _ l w1 S (HV.out.keep (HP.out.trans hk (fun _ f => f.elim)) (fun _ _ f => f)) (fun o _ w' hk' => def_2 o b x p w.heap.size HX.out w' (HB.out.keep (HP.out.trans (hk.trans hk' (fun _ f => f.elim)) (fun _ f => f.elim))).woC ((HB.out.keep (HP.out.trans (hk.trans hk' (fun _ f => f.elim)) (fun _ f => f.elim))).woAl HX.out) (by rw [(HP0.out.keep (HP.out.trans (hk.trans hk' (fun _ f => f.elim)) (fun _ f => f.elim)) (fun f => f)).cell]; rfl)))
      rw [show l.any (fun o => decide (x.en.al.st o.hi o.hg = 0)) = false by rw [List.any_eq_false]; intro o ho; simp [HST.out o ho]] at HC2
      unfold ptr at HC2
      go_wp2_with (first
        | (go_at_call 58; refine (HC1.out _ (Keep.refl _ _)).mono ?_; rintro e w1 ⟨rfl, hk1⟩; have HK1 := Lib.hid hk1; clear hk1)
        | (go_at_call 58; refine (HC2.out _ HK1.out).mono ?_; rintro e w2 ⟨rfl, hk2⟩; have HK2 := Lib.hid (HP.out.trans (HK1.out.trans hk2 (fun _ f => f.elim)) (fun _ f => f.elim)); clear hk2; have p0 : w2.cell? ⟨w.heap.size, 0, none⟩ = some (.pointer (some ⟨b, 0, none⟩)) := (by rw [(HP0.out.keep HK2.out (fun f => f)).cell]; rfl); have c2 := (HB.out.keep HK2.out).woC.c2)
        | (go_at_call 63; refine (st_add (HB.out.keep HK2.out).woQ 1 rfl S l _ (HV.out.keep HK2.out (fun _ _ f => f)) HOKS.out hlen).mono ?_; rintro e w3 ⟨rfl, h3⟩; have HF := Lib.hid (St.woQ' h3); clear h3))
      go_ret
      exact ⟨rfl, HF.out⟩
end Go.Proofs.YtkiikblpgppmkaaGreatDoor

namespace Go.Proofs.YtkiikblpgppmkaaGreatDoor
open Go Go.RowKit
set_option linter.unusedVariables false
set_option linter.unusedSimpArgs false

theorem St.ofMid {w0 w : World} {A : Asr} {P R : List Asr} (h : St w0 w (P ++ A :: R)) : St w0 w (A :: (P ++ R)) :=
  h.pick (fun i => if i = 0 then P.length else if i ≤ P.length then i - 1 else i) (fun i j hi hj e => by
    by_cases a1 : i = 0 <;> by_cases a2 : j = 0 <;> by_cases a3 : i ≤ P.length <;> by_cases a4 : j ≤ P.length <;> simp [a1, a2, a3, a4] at e <;> omega) (fun i B hi => by
    by_cases a1 : i = 0
    · subst a1
      cases hi
      simp
    · simp only [a1, if_false]
      obtain ⟨i', rfl⟩ : ∃ i', i = i' + 1 := ⟨i - 1, by omega⟩
      rw [List.getElem?_cons_succ] at hi
      by_cases a3 : i' + 1 ≤ P.length
      · rw [if_pos a3]
        rw [List.getElem?_append_left (by omega)] at hi
        rw [List.getElem?_append_left (by omega)]
        exact hi
      · rw [if_neg a3]
        rw [List.getElem?_append_right (by omega)] at hi
        rw [List.getElem?_append_right (by omega), show i' + 1 - P.length = (i' - P.length) + 1 by omega, List.getElem?_cons_succ]
        exact hi)
theorem St.init {w0 w : World} {X Y : List Asr} (h : St w0 w (X ++ Y)) : St w0 w X :=
  h.pick id (fun _ _ _ _ e => e) (fun i A hi => by
    rw [id, List.getElem?_append_left (List.getElem?_eq_some_iff.1 hi).1]
    exact hi)
theorem st_drain {w0 w : World} {L : List Asr} (H : St w0 w L) (i : Nat) {b : Nat} {l : List OpV} (hi : L[i]? = some (qA b l)) :
    Calls Tryz.prog 65 #[.pointer (some ⟨b, 0, none⟩)] w (fun e w' => ∃ a c, e = .returned (.slice a l.length c) ∧ St w0 w' (L.set i (qA b []) ++ [slA 79 7 (.slice a l.length c) l.length (flatOp l)])) := by
  obtain ⟨G, hA, _, _, hup⟩ := H.opens i hi
  have hGb : G b := by obtain ⟨_, _, _, _, h, _⟩ := hA; exact h
  refine (q_drain G b l w hA).mono ?_
  rintro e w' ⟨a, n, c, rfl, ho, rfl, hq, hne, hk⟩
  refine ⟨a, c, rfl, hup w' (qA b []) (slA 79 7 (.slice a l.length c) l.length (flatOp l)) (hk.mono (fun i e => .inl (e ▸ hGb))) ⟨fun j x => (j = 0 ∧ x = b) ∨ (j = 1 ∧ rowS (.slice a l.length c) x), fun j A hj => ?_, fun j x hx => ?_, fun j k x hj hk' => ?_⟩⟩
  · match j, hj with
    | 0, hj => cases hj; exact (show IsQ (fun x => (0 = 0 ∧ x = b) ∨ ((0 : Nat) = 1 ∧ rowS (.slice a l.length c) x)) w' b [] from IsQ.mono hq (fun x e => Or.inl ⟨rfl, e⟩))
    | 1, hj => cases hj; exact ho.row.mono (fun x e => .inr ⟨rfl, e⟩)
    | (_ + 2), hj => simp at hj
  · rcases hx with ⟨_, rfl⟩ | ⟨_, h⟩
    · exact .inl hGb
    · exact .inl (ho.rowIn x h)
  · rcases hj with ⟨rfl, rfl⟩ | ⟨rfl, h⟩ <;> rcases hk' with ⟨rfl, h'⟩ | ⟨rfl, h'⟩
    · rfl
    · exact (hne h').elim
    · subst h'; exact (hne h).elim
    · rfl
def LoopMt (w0 : World) (b b2 b5 : Nat) (x : WoS) (p : WoB) (R : List Asr) (es : Nat → EnS) (nr n : Nat) (v : Value) (g : Nat) (v33 : Value) (wr : World) : Prop :=
  ∃ j a s : Nat, g + j = n ∧ v33 = .int .i64 (j : Nat) ∧ a + s = j ∧ St w0 wr (slA 79 7 v n (flatOp x.qu) :: blkA b5 #[.int .i64 (nr : Nat), .int .i64 (a : Nat), .int .i64 (s : Nat)] 52 :: blkA b2 #[.int .i64 0, .int .i64 0, .int .i64 0] 52 :: (woL b ((x.withQ []).withE (es j)) p ++ R))
set_option maxRecDepth 100000 in
set_option maxHeartbeats 4000000 in
theorem wo_maintain {w0 w : World} {R : List Asr} {b : Nat} {x : WoS} {p : WoB} (H : St w0 w (woL b x p ++ R)) (hT : Tab w0) (hx : x.en.al.Ok) (hq : x.qu.length ≤ 10000) (es : Nat → EnS) (h0 : es 0 = x.en.withA x.en.al.merged)
    (hs : ∀ (j : Nat) (o : OpV), x.qu[j]? = some o → ∀ (w1 : World) (R1 : List Asr), St w0 w1 (woL b ((x.withQ []).withE (es j)) p ++ R1) → Calls Tryz.prog 66 #[ptr b, o.val] w1 (fun e w' => ∃ bb : Bool, e = .returned (.bool bb) ∧ St w0 w' (woL b ((x.withQ []).withE (es (j + 1))) p ++ R1))) :
    Calls Tryz.prog 20 #[ptr b] w (fun e w' => ∃ r a s : Nat, e = .returned (.tuple #[.agg #[.int .i64 (r : Nat), .int .i64 (a : Nat), .int .i64 (s : Nat)], .int .i64 0]) ∧ a + s = x.qu.length ∧ St w0 w' (woL b ((x.withQ []).withE (es x.qu.length)) p ++ R)) := by
  have HB := Lib.hid (show St w0 (w.alloc (.cells #[.int .i64 0, .int .i64 0, .int .i64 0] 52)) (blkA w.heap.size #[.int .i64 0, .int .i64 0, .int .i64 0] 52 :: (woL b x p ++ R)) from H.box0 _ _)
  have HM := Lib.hid (al_merge (St.woEnt (R := R ++ [blkA w.heap.size #[.int .i64 0, .int .i64 0, .int .i64 0] 52]) (St.rot1 HB.out)) 1 rfl hT hx)
  have hml : (listW x.en.al.raised).length ≤ 64 := listTo_len _ _
  obtain ⟨nr, hnr⟩ : ∃ n, (listW x.en.al.raised).length = n := ⟨_, rfl⟩
  rw [hnr] at HM hml
  obtain ⟨nq, hnq⟩ : ∃ n, x.qu.length = n := ⟨_, rfl⟩
  rw [hnq] at hq ⊢
  have HNQ := Lib.hid hnq
  have HS := Lib.hid hs
  have H0 := Lib.hid h0
  have c0 := HB.out.rest.woC.c0
  have c3 := HB.out.rest.woC.c3
  have e0 := HB.out.rest.woC.e0
  clear H hT hx hs h0 hnr hnq
  unfold ptr at *
  go_enter Tryz.func20, Tryz.ntmps20
  go_upto_region 5 with (first
    | (go_at_call 47; refine (wo_free b _ c3).mono ?_; rintro e w2 ⟨rfl, rfl⟩)
    | (go_at_call 64; refine HM.out.mono ?_; rintro e w3 ⟨a5, c5, rfl, h3⟩; have HB3 := Lib.hid (St.unrot1 (St.woEnt' (e := x.en.withA x.en.al.merged) (R := R ++ [blkA w.heap.size #[.int .i64 0, .int .i64 0, .int .i64 0] 52]) (St.init h3))); clear h3))
  have HB5 := Lib.hid (show St w0 (w3.alloc (.cells #[.int .i64 (nr : Nat), .int .i64 0, .int .i64 0] 52)) (blkA w3.heap.size #[.int .i64 (nr : Nat), .int .i64 0, .int .i64 0] 52 :: blkA w.heap.size #[.int .i64 0, .int .i64 0, .int .i64 0] 52 :: (woL b (x.withE (x.en.withA x.en.al.merged)) p ++ R)) from HB3.out.box0 _ _)
  obtain ⟨b5, hb5⟩ : ∃ b5, w3.heap.size = b5 := ⟨_, rfl⟩
  obtain ⟨b2, hb2⟩ : ∃ b2, w.heap.size = b2 := ⟨_, rfl⟩
  rw [hb5, hb2] at HB5 ⊢
  obtain ⟨w4, hw4⟩ : ∃ w4, w3.alloc (.cells #[.int .i64 (nr : Nat), .int .i64 0, .int .i64 0] 52) = w4 := ⟨_, rfl⟩
  rw [hw4] at HB5 ⊢
  clear hb5 hb2 hw4 HB3 HB HM c0 c3 e0
  have c2 := HB5.out.rest.rest.woC.c2
  have HDR := Lib.hid (st_drain (St.woQ (x := x.withE (x.en.withA x.en.al.merged)) (R := R ++ [blkA b5 #[.int .i64 (nr : Nat), .int .i64 0, .int .i64 0] 52, blkA b2 #[.int .i64 0, .int .i64 0, .int .i64 0] 52]) HB5.out.rot2) 1 (l := x.qu) rfl)
  rw [HNQ.out] at HDR
  go_wp2_with (go_at_call 65; refine HDR.out.mono ?_; rintro e w5 ⟨a6, c6, rfl, h5⟩; have HQ := Lib.hid h5; clear h5 HDR c2)
  have HST0 := Lib.hid (St.ofMid (P := blkA b5 #[.int .i64 (nr : Nat), .int .i64 0, .int .i64 0] 52 :: blkA b2 #[.int .i64 0, .int .i64 0, .int .i64 0] 52 :: woL b ((x.withE (x.en.withA x.en.al.merged)).withQ []) p) (St.unrot2 (X := woL b ((x.withE (x.en.withA x.en.al.merged)).withQ []) p) (R := slA 79 7 (.slice a6 nq c6) nq (flatOp x.qu) :: R) (St.woQ' (R := slA 79 7 (.slice a6 nq c6) nq (flatOp x.qu) :: (R ++ [blkA b5 #[.int .i64 (nr : Nat), .int .i64 0, .int .i64 0] 52, blkA b2 #[.int .i64 0, .int .i64 0, .int .i64 0] 52])) (St.toMid (P := [resA p.rb x.rs, qA p.qb []]) (St.comm HQ.out)))))
  clear HQ HB5
  go_loopg [33] nq (fun g v33 wr => LoopMt w0 b b2 b5 x p R es nr nq (.slice a6 nq c6) g v33 wr)
  case atStart => exact ⟨0, 0, 0, by omega, rfl, rfl, by rw [H0.out]; exact HST0.out⟩
  case round =>
    obtain ⟨j, a, s, hg, rfl, has, hst⟩ := hrel
    have HG := Lib.hid hg
    have HAS := Lib.hid has
    have HST := Lib.hid hst
    have hab : a ≤ 10000 := by omega
    have hsb : s ≤ 10000 := by omega
    clear hst HST0 has
    by_cases hlt : j < nq
    · obtain ⟨o, ho⟩ : ∃ o, x.qu[j]? = some o := ⟨_, List.getElem?_eq_getElem (by rw [HNQ.out]; exact hlt)⟩
      have hrd0 := (HST.out.rd 0 rfl)
      obtain ⟨G0, _, hr0, _⟩ := hrd0
      obtain ⟨bo, oo, rfl, _, hco⟩ := Rd.elem (cells := OpV.cells) (size := 7) (l := x.qu) hr0 (fun _ => rfl) (by decide) ho
      have HAP := Lib.hid (fun (w1 : World) (h : St w0 w1 (slA 79 7 (.slice (some ⟨bo, oo, none⟩) nq c6) nq (flatOp x.qu) :: blkA b5 #[.int .i64 (nr : Nat), .int .i64 (a : Nat), .int .i64 (s : Nat)] 52 :: blkA b2 #[.int .i64 0, .int .i64 0, .int .i64 0] 52 :: (woL b ((x.withQ []).withE (es j)) p ++ R))) => HS.out j o ho w1 _ h.rot3)
      obtain ⟨kind, hi, hgg, c', vk, va, vb⟩ := o
      have hc0 := hco 0 (by decide)
      have hc1 := hco 1 (by decide)
      have hc2 := hco 2 (by decide)
      have hc3 := hco 3 (by decide)
      have hc4 := hco 4 (by decide)
      have hc5 := hco 5 (by decide)
      have hc6 := hco 6 (by decide)
      simp [OpV.cells] at hc0 hc1 hc2 hc3 hc4 hc5 hc6
      clear hco ho hr0
      simp only [OpV.val] at HAP
      go_wp2_with (go_at_call 66; refine (HAP.out _ (HST.out.alloc _)).mono ?_; rintro e w6 ⟨bb, rfl, h6⟩; have HB6 := Lib.hid (St.unrot3 h6); clear h6 HAP; obtain ⟨z0, z1, z2, y0, y1, y2⟩ := (HB6.out.blk 1 rfl).three)
      have HG2 := Lib.hid (show gk + j = nq from hg)
      · have HW := Lib.hid (HB6.out.write 1 rfl 1 (.int .i64 ((a + 1 : Nat) : Int)))
        go_roundg (nq - (j + 1))
        case measure => have := HG.out; omega
        case rel => exact ⟨j + 1, a + 1, s, by have := HG.out; omega, by go_num, by have := HAS.out; omega, HW.out⟩
      · have HW := Lib.hid (HB6.out.write 1 rfl 2 (.int .i64 ((s + 1 : Nat) : Int)))
        go_roundg (nq - (j + 1))
        case measure => have := HG.out; omega
        case rel => exact ⟨j + 1, a, s + 1, by have := HG.out; omega, by go_num, by have := HAS.out; omega, HW.out⟩
    · obtain rfl : j = nq := by have := HG.out; omega
      obtain ⟨z0, z1, z2, y0, y1, y2⟩ := (HST.out.blk 1 rfl).three
      obtain ⟨v0, v1, v2, t0, t1, t2⟩ := (HST.out.blk 2 rfl).three
      go_wp2_with fail
      obtain ⟨q0, q1, q2, _, _, _⟩ := ((HST.out.blk 2 rfl).set3 (.int .i64 (nr : Nat)) (.int .i64 (a : Nat)) (.int .i64 (s : Nat))).three
      have HF := Lib.hid ((HST.out.rest.rest.write3 (.int .i64 (nr : Nat)) (.int .i64 (a : Nat)) (.int .i64 (s : Nat))).rest)
      clear z0 z1 z2 y0 y1 y2 v0 v1 v2 t0 t1 t2
      refine bodyPost_ret (v := .tuple #[.agg #[.int .i64 (nr : Nat), .int .i64 (a : Nat), .int .i64 (s : Nat)], .int .i64 0]) (by simp [results, Tryz.results20, go_sem, q0, q1, q2]) rfl ⟨nr, a, s, rfl, HAS.out, HF.out⟩
end Go.Proofs.YtkiikblpgppmkaaGreatDoor
