/-
  The package world: what readers are told: flagOf, Reader, Read; The package world: what is deferred: of those that are gone; of an insert.
-/
import Derived.Test.YtkiikblpgppmkaaGreatDoorTlM23
namespace Go.Proofs.YtkiikblpgppmkaaGreatDoor
open Go Go.RowKit
set_option linter.unusedVariables false
set_option linter.unusedSimpArgs false

/-- All of a world but one slot. -/
def woX (b : Nat) (x : WoS) (p : WoB) (c : Nat) (R : List Asr) : List Asr := ((regL p.e.rb x.en.sl p.e.q).set (3 + c) empA ++ [resA p.rb x.rs, qA p.qb x.qu]) ++ (R ++ ([blkA b (woCs x p) 124] ++ [blkA p.eb #[ptr p.e.ab, ptr p.e.rb] 132, alA p.e.ab x.en.al]))
theorem woX_eq {b : Nat} {x : WoS} {p : WoB} {c xa : Nat} {s : SlS} {R : List Asr} (hx : p.e.q.bs[c]? = some xa) (hs : x.en.sl[c]? = some s) : (regL p.e.rb x.en.sl p.e.q ++ (([resA p.rb x.rs, qA p.qb x.qu] ++ R ++ [blkA b (woCs x p) 124]) ++ [blkA p.eb #[ptr p.e.ab, ptr p.e.rb] 132, alA p.e.ab x.en.al])).set (3 + c) empA = woX b x p c R := by
  have hl : 3 + c < (regL p.e.rb x.en.sl p.e.q).length := by
    have := (List.getElem?_eq_some_iff.1 (reg_at (b := p.e.rb) (R := []) hx hs)).1
    simpa using this
  rw [List.set_append_left _ _ hl]
  unfold woX
  simp only [List.append_assoc]
theorem St.woOpen {w0 w : World} {R : List Asr} {b : Nat} {x : WoS} {p : WoB} (H : St w0 w (woL b x p ++ R)) {c xa : Nat} {s : SlS} (hx : p.e.q.bs[c]? = some xa) (hs : x.en.sl[c]? = some s) : ∃ pp, St w0 w (sloL xa s pp ++ woX b x p c R) := by
  obtain ⟨pp, h⟩ := H.woEnt.entReg.regOpen hx hs
  rw [woX_eq hx hs] at h
  exact ⟨pp, h⟩
theorem St.woBs {w0 w : World} {R : List Asr} {b : Nat} {x : WoS} {p : WoB} (H : St w0 w (woL b x p ++ R)) {c : Nat} {s : SlS} (hs : x.en.sl[c]? = some s) : ∃ xa, p.e.q.bs[c]? = some xa := by
  have hcl := (List.getElem?_eq_some_iff.1 hs).1
  have hbl : p.e.q.bs.length = x.en.sl.length := H.woEnt.entReg.regLen
  exact ⟨_, List.getElem?_eq_getElem (by omega)⟩
end Go.Proofs.YtkiikblpgppmkaaGreatDoor

namespace Go.Proofs.YtkiikblpgppmkaaGreatDoor
open Go Go.RowKit
set_option linter.unusedVariables false
set_option linter.unusedSimpArgs false

set_option maxRecDepth 100000 in
set_option maxHeartbeats 2000000 in
theorem wo_knows_ins {w0 w : World} {R : List Asr} {b : Nat} {x : WoS} {p : WoB} (H : St w0 w (woL b x p ++ R)) (hl : x.en.sl.length ≤ 64) (c : Nat) (s : SlS) (hc : x.en.sl[c]? = some s) (o : OpV) (h2 : o.kind = 2) (hoc : o.c = (c : Int)) (hk : o.vk = (s.kind : Int)) :
    Calls Tryz.prog 57 #[ptr b, o.val] w (Ret w (.tuple #[.bool true, .bool true])) := by
  obtain ⟨kind, i, g, oc, vk, va, vb⟩ := o
  simp only at h2 hoc hk
  subst h2 hoc
  have HB := H.box0 #[.int .i64 2, .int .i64 i, .int .i64 g, .int .i64 (c : Nat), .int .i64 vk, .int .i64 va, .int .i64 vb] 79
  obtain ⟨wa, hwa⟩ : ∃ wa, w.alloc (.cells #[.int .i64 2, .int .i64 i, .int .i64 g, .int .i64 (c : Nat), .int .i64 vk, .int .i64 va, .int .i64 vb] 79) = wa := ⟨_, rfl⟩
  have hka := (Keep.refl w Nope).alloc (.cells #[.int .i64 2, .int .i64 i, .int .i64 g, .int .i64 (c : Nat), .int .i64 vk, .int .i64 va, .int .i64 vb] 79)
  rw [hwa] at HB hka
  have HKA := Lib.hid hka
  obtain ⟨xa, hxa⟩ := HB.rest.woBs hc
  obtain ⟨pp, hp1⟩ := HB.rest.woOpen hxa hc
  have HSl := Lib.hid (fun (w' : World) (hkp : Keep wa w' Nope) => reg_slot (HB.rest.keep hkp).woEnt.entReg hxa (by omega))
  have HDe := Lib.hid (fun (w' : World) (hkp : Keep wa w' Nope) => slo_desc xa s pp w' ((hp1.keep hkp).blk 0 rfl))
  have c0 := HB.rest.woC.c0
  have e1 := HB.rest.woC.e1
  have hb := HB.blk 0 rfl
  have o0 : wa.cell? ⟨w.heap.size, 0, none⟩ = some (.int .i64 2) := by rw [hb.cell]; rfl
  have o3 : wa.cell? ⟨w.heap.size, 3, none⟩ = some (.int .i64 (c : Nat)) := by rw [hb.cell]; rfl
  have o4 : wa.cell? ⟨w.heap.size, 4, none⟩ = some (.int .i64 vk) := by rw [hb.cell]; rfl
  have ek : ((vk : Int) == ((s.kind : Nat) : Int)) = true := by simp [hk]
  obtain ⟨sk, hsk⟩ : ∃ k : Int, ((s.kind : Nat) : Int) = k := ⟨_, rfl⟩
  rw [hsk] at HDe hk
  subst hk
  clear H HB hka hp1 hb hxa hc hsk ek
  unfold ptr OpV.val at *
  simp only at *
  go_enter Tryz.func57, Tryz.ntmps57
  go_upto_region 3 with fail
  try rw [hwa]
  clear hwa
  refine wp_region_M (r := 11) (S := fun w' => w'.cell? ⟨b, 0, none⟩ = some (.pointer (some ⟨p.eb, 0, none⟩)) ∧ w'.cell? ⟨p.eb, 1, none⟩ = some (.pointer (some ⟨p.e.rb, 0, none⟩)) ∧ w'.cell? ⟨w.heap.size, 3, none⟩ = some (.int .i64 (c : Nat))) (by kernel_rfl) ?_ (fun hHeld => ?_)
  · (try dsimp only); exact ⟨c0, e1, o3⟩
  refine tkP 0 ?_; refine tkP 1 ?_; refine tkP 2 ?_; refine tkP 3 ?_; refine tkP 9 ?_; refine tkH 10 ?_; refine tkC 4 ?_
  intro K hK
  go_simp
  refine hK.out _ _ ?_ (fun hHeld => ?_)
  · (try dsimp only); exact ⟨c0, e1, o3⟩
  clear hK K
  refine tkP 5 ?_; refine tkP 6 ?_; refine tkP 7 ?_; refine tkH 8 ?_; refine tkF 11 ?_
  intro K hK
  go_simp
  go_wp2_with ((go_at_call 49; refine (HSl.out _ (Keep.refl wa Nope).drew).mono ?_; rintro e w1 ⟨rfl, hk1⟩; have HK1 := Lib.hid ((Keep.refl wa Nope).drew.trans hk1 (fun _ f => f.elim)); clear hk1))
  refine hK.out _ _ ?_
  clear hK K
  refine tkP 12 ?_; refine tkP 13 ?_; refine tkP 14 ?_; refine tkP 15 ?_; refine tkP 16 ?_
  refine wpAnyM_done (by kernel_rfl) ?_ _
  clear hHeld c0 e1 o3
  have o0 := HK1.out.cell o0 (fun f => f)
  have o4 := HK1.out.cell o4 (fun f => f)
  go_upto_region 6 with fail
  have hfd : ∀ w' : World, (Instr.field 60 (.agg #[.int .i64 vk, .int .i64 (s.var : Nat), .int .i64 (s.bound : Nat)]) 0).run Tryz.prog w' = .ok (.int .i64 vk) w' := fun w' => by kernel_rfl
  refine wp_region_held_drew (S := fun w' => w'.cell? ⟨w.heap.size, 0, none⟩ = some (.int .i64 2) ∧ w'.cell? ⟨w.heap.size, 4, none⟩ = some (.int .i64 vk)) (by kernel_rfl) ?_ (fun hHeld => ?_)
  · (try dsimp only); first | exact ⟨o0, o4⟩ | exact ⟨HKP.out.cell o0 (fun f => f), HKP.out.cell o4 (fun f => f)⟩
  refine tkW 0 ?_; refine tkW 1 ?_; refine tkW 2 ?_; refine tkW 3 ?_; refine tkW 4 ?_; refine tkW 5 ?_; refine tkW 6 ?_; refine tkW 7 ?_
  refine wpAnyH_ready (rs := [8]) (by kernel_rfl) (by simp) ?_
  refine AllReadyH.cons rfl (fun K hK => ?_) (AllReadyH.nil)
  go_simp
  go_wp2_with ((go_at_call 117; refine (HDe.out _ HK1.out.drew).mono ?_; rintro e w2 ⟨rfl, hk2⟩; have HK2 := Lib.hid (HKA.out.trans (HK1.out.drew.trans hk2 (fun _ f => f.elim)) (fun _ f => f.elim)); have HKP := Lib.hid hk2; clear hk2))
  refine hK.out _ _ ?_ (fun hHeld => ?_)
  · (try dsimp only); first | exact ⟨o0, o4⟩ | exact ⟨HKP.out.cell o0 (fun f => f), HKP.out.cell o4 (fun f => f)⟩
  clear hK K
  refine tkW 9 ?_; refine tkW 10 ?_; refine tkW 11 ?_; refine tkW 12 ?_; refine tkW 13 ?_
  refine wpAnyH_done (by kernel_rfl) ?_ _
  go_wp2_with fail
  go_ret2
  exact ⟨rfl, HK2.out⟩
set_option maxRecDepth 100000 in
set_option maxHeartbeats 2000000 in
theorem wo_apply_ins {w0 w : World} {R : List Asr} {b : Nat} {x : WoS} {p : WoB} (H : St w0 w (woL b x p ++ R)) (hx : x.en.Ok 90000) (k : Nat) (g : Int) (hs : x.en.al.st k g = 1) (c : Nat) (s : SlS) (hc : x.en.sl[c]? = some s) (vk va vb : Int) (hv : okV vk va vb = true) (hkd : vk = s.kind) :
    Calls Tryz.prog 66 #[ptr b, (⟨2, k, g, c, vk, va, vb⟩ : OpV).val] w (fun e w' => e = .returned (.bool true) ∧ St w0 w' (woL b (x.withE (x.en.ins k c ⟨vk, va, vb⟩)) p ++ R)) := by
  obtain ⟨i, hi⟩ : ∃ i : Int, (k : Int) = i := ⟨_, rfl⟩
  obtain ⟨oc, hoc⟩ : ∃ i : Int, (c : Int) = i := ⟨_, rfl⟩
  have HB := Lib.hid (show St w0 (w.alloc (.cells #[.int .i64 2, .int .i64 i, .int .i64 g, .int .i64 oc, .int .i64 vk, .int .i64 va, .int .i64 vb] 79)) (blkA w.heap.size #[.int .i64 2, .int .i64 i, .int .i64 g, .int .i64 oc, .int .i64 vk, .int .i64 va, .int .i64 vb] 79 :: (woL b x p ++ R)) from H.box0 _ _)
  have HD := Lib.hid (fun (w1 : World) (h : St w0 w1 (blkA w.heap.size #[.int .i64 2, .int .i64 i, .int .i64 g, .int .i64 oc, .int .i64 vk, .int .i64 va, .int .i64 vb] 79 :: (woL b x p ++ R))) => ent_insert (St.woEnt (St.rot1 h)) hx k g hs c s hc ⟨vk, va, vb⟩ hv hkd)
  have HU := Lib.hid (fun (w1 : World) (h : St w0 w1 (entL p.eb (x.en.ins k c ⟨vk, va, vb⟩) p.e ++ (([resA p.rb x.rs, qA p.qb x.qu] ++ (R ++ [blkA w.heap.size #[.int .i64 2, .int .i64 i, .int .i64 g, .int .i64 oc, .int .i64 vk, .int .i64 va, .int .i64 vb] 79]) ++ [blkA b (woCs x p) 124])))) => (St.unrot1 (St.woEnt' h)).rest)
  have c0 := HB.out.rest.woC.c0
  have hb := HB.out.blk 0 rfl
  obtain ⟨wa, hwa⟩ : ∃ wa, w.alloc (.cells #[.int .i64 2, .int .i64 i, .int .i64 g, .int .i64 oc, .int .i64 vk, .int .i64 va, .int .i64 vb] 79) = wa := ⟨_, rfl⟩
  rw [hwa] at hb
  have o1 : wa.cell? ⟨w.heap.size, 1, none⟩ = some (.int .i64 i) := by rw [hb.cell]; rfl
  have o2 : wa.cell? ⟨w.heap.size, 2, none⟩ = some (.int .i64 g) := by rw [hb.cell]; rfl
  have o3 : wa.cell? ⟨w.heap.size, 3, none⟩ = some (.int .i64 oc) := by rw [hb.cell]; rfl
  have o4 : wa.cell? ⟨w.heap.size, 4, none⟩ = some (.int .i64 vk) := by rw [hb.cell]; rfl
  have o5 : wa.cell? ⟨w.heap.size, 5, none⟩ = some (.int .i64 va) := by rw [hb.cell]; rfl
  have o6 : wa.cell? ⟨w.heap.size, 6, none⟩ = some (.int .i64 vb) := by rw [hb.cell]; rfl
  subst hwa
  obtain ⟨⟨q1, q2, q3⟩, hh⟩ : ∃ h, hadV s.m s.f k = h := ⟨_, rfl⟩
  obtain ⟨t, ht⟩ : ∃ t, s.m.testBit k = t := ⟨_, rfl⟩
  rw [hh, ht, hi, hoc] at HD
  obtain ⟨y, hy⟩ : ∃ y, x.en.ins k c ⟨vk, va, vb⟩ = y := ⟨_, rfl⟩
  rw [hy] at HD HU ⊢
  rw [hi, hoc]
  clear H hx hs hc hv hkd hy hb hh ht hi hoc
  unfold ptr hdV OpV.val VV.val at *
  simp only at *
  go_enter Tryz.func66, Tryz.ntmps66
  go_wp2_with fail
  refine wp_region_M (r := 11) (S := fun w' => w'.cell? ⟨b, 0, none⟩ = some (.pointer (some ⟨p.eb, 0, none⟩)) ∧ w'.cell? ⟨w.heap.size, 1, none⟩ = some (.int .i64 i) ∧ w'.cell? ⟨w.heap.size, 2, none⟩ = some (.int .i64 g) ∧ w'.cell? ⟨w.heap.size, 3, none⟩ = some (.int .i64 oc) ∧ w'.cell? ⟨w.heap.size, 4, none⟩ = some (.int .i64 vk) ∧ w'.cell? ⟨w.heap.size, 5, none⟩ = some (.int .i64 va) ∧ w'.cell? ⟨w.heap.size, 6, none⟩ = some (.int .i64 vb)) (by kernel_rfl) ?_ (fun hHeld => ?_)
  · (try dsimp only); exact ⟨c0, o1, o2, o3, o4, o5, o6⟩
  refine tkP 0 ?_; refine tkP 1 ?_; refine tkP 2 ?_; refine tkP 3 ?_; refine tkH 4 ?_; refine tkP 5 ?_; refine tkH 6 ?_; refine tkP 7 ?_; refine tkH 8 ?_; refine tkP 9 ?_; refine tkH 10 ?_; refine tkF 11 ?_
  intro K hK
  go_simp
  go_wp2_with ((go_at_call 53; refine (HD.out _ HB.out.drew).mono ?_; rintro en w2 ⟨rfl, h2⟩; have HB2 := Lib.hid (HU.out _ h2); clear h2 HB))
  refine hK.out _ _ ?_
  clear hK K
  refine tkP 12 ?_; refine tkP 13 ?_; refine tkP 14 ?_; refine tkP 15 ?_; refine tkP 16 ?_
  refine wpAnyM_done (by kernel_rfl) ?_ _
  clear hHeld
  go_wp2_with fail
  go_ret
  exact ⟨rfl, HB2.out⟩
end Go.Proofs.YtkiikblpgppmkaaGreatDoor
