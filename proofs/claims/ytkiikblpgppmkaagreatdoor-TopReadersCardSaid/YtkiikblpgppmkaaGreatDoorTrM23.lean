/-
  The package world: what readers are told: flagOf, Reader, Read; The package world: what is deferred: of those that are gone; of an insert; The laws on who comes ahead of whom: what they have in common.
-/
import Derived.Test.YtkiikblpgppmkaaGreatDoorTrM22
import Derived.Test.YtkiikblpgppmkaaGreatDoorTrM04
import Derived.Test.YtkiikblpgppmkaaGreatDoorTrM02
namespace Go.Proofs.YtkiikblpgppmkaaGreatDoor
open Go Go.RowKit
set_option linter.unusedVariables false
set_option linter.unusedSimpArgs false

/-- What a slot tells is changed. -/
def SlS.flag (s : SlS) (F : FlagV) : SlS := ⟨s.var, s.kind, s.m, s.f, some F⟩
def EnS.flags (e : EnS) (c : Nat) (F : FlagV) : EnS := ⟨e.al, match e.sl[c]? with
  | some s => e.sl.set c (s.flag F)
  | none => e.sl⟩
theorem EnS.flags_some {e : EnS} {c : Nat} {s : SlS} {F : FlagV} (h : e.sl[c]? = some s) : e.flags c F = ⟨e.al, e.sl.set c (s.flag F)⟩ := by
  unfold EnS.flags
  rw [h]
/-- One behind is put in a gap. -/
theorem St.fill {w0 w : World} {P Q : List Asr} {A : Asr} (h : St w0 w ((P ++ empA :: Q) ++ [A])) : St w0 w (P ++ A :: Q) := by
  have h1 : St w0 w ((A :: P) ++ empA :: Q) := h.first
  exact St.toMid (P := P) (R := Q) h1.ofMid.rest
/-- All of a world but one slot. -/
def woX (b : Nat) (x : WoS) (p : WoB) (c : Nat) (R : List Asr) : List Asr := ((regL p.e.rb x.en.sl p.e.q).set (3 + c) empA ++ [resA p.rb x.rs, qA p.qb x.qu]) ++ (R ++ ([blkA b (woCs x p) 124] ++ [blkA p.eb #[ptr p.e.ab, ptr p.e.rb] 132, alA p.e.ab x.en.al]))
theorem woX_eq {b : Nat} {x : WoS} {p : WoB} {c xa : Nat} {s : SlS} {R : List Asr} (hx : p.e.q.bs[c]? = some xa) (hs : x.en.sl[c]? = some s) : (regL p.e.rb x.en.sl p.e.q ++ (([resA p.rb x.rs, qA p.qb x.qu] ++ R ++ [blkA b (woCs x p) 124]) ++ [blkA p.eb #[ptr p.e.ab, ptr p.e.rb] 132, alA p.e.ab x.en.al])).set (3 + c) empA = woX b x p c R := by
  have hl : 3 + c < (regL p.e.rb x.en.sl p.e.q).length := by
    have := (List.getElem?_eq_some_iff.1 (reg_at (b := p.e.rb) (R := []) hx hs)).1
    simpa using this
  rw [List.set_append_left _ _ hl]
  unfold woX
  simp only [List.append_assoc]
theorem St.woOpen {w0 w : World} {R : List Asr} {b : Nat} {x : WoS} {p : WoB} (H : St w0 w (woL b x p ++ R)) {c xa : Nat} {s : SlS} (hx : p.e.q.bs[c]? = some xa) (hs : x.en.sl[c]? = some s) : ∃ pp, St w0 w (sloL xa s pp ++ woX b x p c R) := by
  obtain ⟨pp, h⟩ := H.woEnt.entReg.regOpen hx hs
  rw [woX_eq hx hs] at h
  exact ⟨pp, h⟩
theorem St.woShut {w0 w : World} {R : List Asr} {b : Nat} {x : WoS} {p : WoB} {c xa : Nat} {s s' : SlS} {pp : SlB} (hx : p.e.q.bs[c]? = some xa) (hs : x.en.sl[c]? = some s) (H : St w0 w (sloL xa s' pp ++ woX b x p c R)) : St w0 w (woL b (x.withE ⟨x.en.al, x.en.sl.set c s'⟩) p ++ R) := by
  rw [← woX_eq hx hs] at H
  exact St.woEnt' (St.entReg' (St.regShut hx hs H))
theorem woX_fill {w0 w : World} {R : List Asr} {b : Nat} {x : WoS} {p : WoB} {c : Nat} {Y : List Asr} {A : Asr} (h : St w0 w ((Y ++ woX b x p c (empA :: R)) ++ [A])) : St w0 w (Y ++ woX b x p c (A :: R)) := by
  have e : ∀ B : Asr, Y ++ woX b x p c (B :: R) = (Y ++ ((regL p.e.rb x.en.sl p.e.q).set (3 + c) empA ++ [resA p.rb x.rs, qA p.qb x.qu])) ++ B :: (R ++ ([blkA b (woCs x p) 124] ++ [blkA p.eb #[ptr p.e.ab, ptr p.e.rb] 132, alA p.e.ab x.en.al])) := fun B => by
    unfold woX
    rw [← List.append_assoc]
    rfl
  rw [e] at h ⊢
  exact St.fill h
theorem St.woBs {w0 w : World} {R : List Asr} {b : Nat} {x : WoS} {p : WoB} (H : St w0 w (woL b x p ++ R)) {c : Nat} {s : SlS} (hs : x.en.sl[c]? = some s) : ∃ xa, p.e.q.bs[c]? = some xa := by
  have hcl := (List.getElem?_eq_some_iff.1 hs).1
  have hbl : p.e.q.bs.length = x.en.sl.length := H.woEnt.entReg.regLen
  exact ⟨_, List.getElem?_eq_getElem (by omega)⟩
set_option maxHeartbeats 1000000 in
theorem flag_of (xa : Nat) (s : SlS) (pp : SlB) (F : FlagV) (hF : s.fl = some F) (w : World) (h : Blk w xa (sloCs s pp) 278) :
    Calls Tryz.prog 48 #[ptr xa, .int .i64 0] w (Ret w (.tuple #[.pointer (some ⟨pp.g, 0, none⟩), .int .i64 0])) := by
  have HF := Lib.hid (fun (w' : World) (hk : Keep w w' Nope) => slo_flag xa s pp w' (h.keep hk (fun f => f)))
  rw [show flV s.fl pp.g = .pointer (some ⟨pp.g, 0, none⟩) from by rw [hF]; rfl] at HF
  clear h hF
  unfold ptr at *
  go_enter Tryz.func48, Tryz.ntmps48
  go_wp2_with (first
    | (go_at_call 110; refine (HF.out _ (Keep.refl w Nope)).mono ?_; rintro e w1 ⟨rfl, hk1⟩; have HK1 := Lib.hid hk1; clear hk1)
    | (go_at_call 110; refine (HF.out _ HK1.out).mono ?_; rintro e w2 ⟨rfl, hk2⟩; have HK2 := Lib.hid (HK1.out.trans hk2 (fun _ f => f.elim)); clear hk2))
  go_ret2
  exact ⟨rfl, HK2.out⟩
theorem sloL_flag {xa : Nat} {s : SlS} {pp : SlB} {F F' : FlagV} {R : List Asr} (hF : s.fl = some F) (hb : F'.bound = F.bound) : (sloL xa s pp ++ R).set 3 (flagA pp.g F') = sloL xa (s.flag F') pp ++ R := by
  obtain ⟨var, kind, m, f, fl⟩ := s
  simp only at hF
  subst hF
  obtain ⟨bd, al, ps⟩ := F'
  simp only at hb
  subst hb
  rfl
theorem sloL_fl {xa : Nat} {s : SlS} {pp : SlB} {F : FlagV} {R : List Asr} (hF : s.fl = some F) : (sloL xa s pp ++ R)[3]? = some (flagA pp.g F) := by
  show some (flA s.fl pp.g) = _
  rw [hF]
  rfl
set_option maxRecDepth 100000 in
set_option maxHeartbeats 2000000 in
theorem wo_reader {w0 w : World} {R : List Asr} {b : Nat} {x : WoS} {p : WoB} (H : St w0 w (woL b x p ++ R)) (hl : x.en.sl.length ≤ 64) (c : Nat) (s : SlS) (hc : x.en.sl[c]? = some s) (F : FlagV) (hF : s.fl = some F) (hp : F.pos.length < 100) :
    Calls Tryz.prog 13 #[ptr b, .int .i64 (c : Nat)] w (fun e w' => e = .returned (.tuple #[.int .i64 (F.pos.length : Nat), .int .i64 0]) ∧ St w0 w' (woL b (x.withE (x.en.flags c ⟨F.bound, F.all, F.pos ++ [F.all.length]⟩)) p ++ R)) := by
  obtain ⟨xa, hxa⟩ := H.woBs hc
  obtain ⟨pp, hp1⟩ := H.woOpen hxa hc
  have HC := H.woC
  have c0 := HC.c0
  have c3 := HC.c3
  have e1 := HC.e1
  have HFr := Lib.hid (wo_free b w c3)
  have HSl := Lib.hid (reg_slot H.woEnt.entReg hxa (by omega))
  have HFl := Lib.hid (fun (w' : World) (hk : Keep w w' Nope) => flag_of xa s pp F hF w' ((hp1.keep hk).blk 0 rfl))
  have HRd := Lib.hid (fun (w' : World) (hk : Keep w w' Nope) => flag_reader (hp1.keep hk) 3 (sloL_fl hF) hp)
  have HSh := Lib.hid (fun (w' : World) (h : St w0 w' ((sloL xa s pp ++ woX b x p c R).set 3 (flagA pp.g ⟨F.bound, F.all, F.pos ++ [F.all.length]⟩))) => (show St w0 w' (woL b (x.withE (x.en.flags c ⟨F.bound, F.all, F.pos ++ [F.all.length]⟩)) p ++ R) from by
    have h2 : St w0 w' (sloL xa (s.flag ⟨F.bound, F.all, F.pos ++ [F.all.length]⟩) pp ++ woX b x p c R) := by rw [← sloL_flag (F := F) (F' := ⟨F.bound, F.all, F.pos ++ [F.all.length]⟩) hF rfl]; exact h
    rw [EnS.flags_some hc]
    exact St.woShut hxa hc h2))
  obtain ⟨n, hn⟩ : ∃ n, F.pos.length = n := ⟨_, rfl⟩
  rw [hn] at HRd ⊢
  clear H hxa hp1 HC hc hF hp hn
  unfold ptr at *
  go_enter Tryz.func13, Tryz.ntmps13
  go_wp2_with (first
    | (go_at_call 47; refine HFr.out.mono ?_; rintro e w1 ⟨rfl, rfl⟩)
    | (go_at_call 49; refine HSl.out.mono ?_; rintro e w2 ⟨rfl, hk2⟩; have HK2 := Lib.hid hk2; clear hk2)
    | (go_at_call 48; refine (HFl.out _ HK2.out).mono ?_; rintro e w3 ⟨rfl, hk3⟩; have HK3 := Lib.hid (HK2.out.trans hk3 (fun _ f => f.elim)); clear hk3)
    | (go_at_call 50; refine (HRd.out _ HK3.out).mono ?_; rintro e w4 ⟨rfl, h4⟩; have H4 := Lib.hid (HSh.out _ h4); clear h4))
  go_ret2
  exact ⟨rfl, H4.out⟩
set_option maxRecDepth 100000 in
set_option maxHeartbeats 2000000 in
theorem wo_read {w0 w : World} {R : List Asr} {b : Nat} {x : WoS} {p : WoB} (H0 : St w0 w (woL b x p ++ R)) (hl : x.en.sl.length ≤ 64) (c : Nat) (s : SlS) (hc : x.en.sl[c]? = some s) (F : FlagV) (hF : s.fl = some F) (hp : F.pos.length ≤ 100) (hall : F.all.length ≤ 1000000) (hB2 : F.bound ≤ 1000) (k q d : Nat) (hk : F.pos[k]? = some q) (hd : q + d = F.all.length) (hdb : d ≤ F.bound) :
    Calls Tryz.prog 21 #[ptr b, .int .i64 (c : Nat), .int .i64 (k : Nat)] w (fun e w' => ∃ a cp, e = .returned (.tuple #[.slice a d cp, .bool false, .int .i64 0]) ∧ St w0 w' (woL b (x.withE (x.en.flags c (F.seen k))) p ++ (slA 86 2 (.slice a d cp) d (flatEv (F.all.drop q)) :: R))) := by
  have H : St w0 w (woL b x p ++ (empA :: R)) := (H0.add (Keep.refl _ _) (A := empA) trivial).first.toMid
  obtain ⟨xa, hxa⟩ := H.woBs hc
  obtain ⟨pp, hp1⟩ := H.woOpen hxa hc
  have HC := H.woC
  have c0 := HC.c0
  have e1 := HC.e1
  have HSl := Lib.hid (reg_slot H.woEnt.entReg hxa (by omega))
  have HFl := Lib.hid (fun (w' : World) (hk : Keep w w' Nope) => flag_of xa s pp F hF w' ((hp1.keep hk).blk 0 rfl))
  have HRd := Lib.hid (fun (w' : World) (hkp : Keep w w' Nope) => flag_read_yes (hp1.keep hkp) 3 (sloL_fl hF) hp hall hB2 k q d hk hd hdb)
  have HSh := Lib.hid (fun (w' : World) (a : Option Addr) (cp : Nat) (h : St w0 w' ((sloL xa s pp ++ woX b x p c (empA :: R)).set 3 (flagA pp.g (F.seen k)) ++ [slA 86 2 (.slice a d cp) d (flatEv (F.all.drop q))])) => (show St w0 w' (woL b (x.withE (x.en.flags c (F.seen k))) p ++ (slA 86 2 (.slice a d cp) d (flatEv (F.all.drop q)) :: R)) from by
    have h2 : St w0 w' ((sloL xa (s.flag (F.seen k)) pp ++ woX b x p c (empA :: R)) ++ [slA 86 2 (.slice a d cp) d (flatEv (F.all.drop q))]) := by rw [← sloL_flag (F := F) (F' := F.seen k) hF rfl]; exact h
    rw [EnS.flags_some hc]
    exact St.woShut hxa hc (woX_fill h2)))
  obtain ⟨F', hF'⟩ : ∃ F', F.seen k = F' := ⟨_, rfl⟩
  rw [hF'] at HRd HSh ⊢
  clear H0 H hxa hp1 HC hc hF hp hall hB2 hk hd hdb hF'
  unfold ptr at *
  go_enter Tryz.func21, Tryz.ntmps21
  go_wp2_with (first
    | (go_at_call 49; refine HSl.out.mono ?_; rintro e w2 ⟨rfl, hk2⟩; have HK2 := Lib.hid hk2; clear hk2)
    | (go_at_call 48; refine (HFl.out _ HK2.out).mono ?_; rintro e w3 ⟨rfl, hk3⟩; have HK3 := Lib.hid (HK2.out.trans hk3 (fun _ f => f.elim)); clear hk3)
    | (go_at_call 67; refine (HRd.out _ HK3.out).mono ?_; rintro e w4 ⟨a4, n4, c4, rfl, rfl, h4⟩; have H4 := Lib.hid (HSh.out _ _ _ h4); clear h4))
  refine bodyPost_ret (v := .tuple #[.slice a4 n4 c4, .bool false, .int .i64 0]) (by simp [results, Tryz.results21, go_sem]) rfl ⟨a4, c4, rfl, H4.out⟩
end Go.Proofs.YtkiikblpgppmkaaGreatDoor

namespace Go.Proofs.YtkiikblpgppmkaaGreatDoor
open Go Go.RowKit
set_option linter.unusedVariables false
set_option linter.unusedSimpArgs false

set_option maxRecDepth 100000 in
set_option maxHeartbeats 4000000 in
theorem wo_defer_gone {w0 w : World} {R : List Asr} {b : Nat} {x : WoS} {p : WoB} (H : St w0 w (woL b x p ++ R)) (hx : x.en.al.Ok) (S : Nat → Prop) (l : List OpV) (v : Value) (hv : Rd S w v l.length (flatOp l)) (hok : ∀ o, o ∈ l → okOp o = true) (hst : l.any (fun o => decide (x.en.al.st o.hi o.hg = 0)) = true)
    (hkn : ∀ o, o ∈ l → ∀ w', Keep w w' Nope → Calls Tryz.prog 57 #[ptr b, o.val] w' (Ret w' (.tuple #[.bool true, .bool true]))) :
    Calls Tryz.prog 19 #[ptr b, v] w (Ret w (.int .i64 4)) := by
  obtain ⟨a, cv, rfl, g1, g2, g3, g4⟩ := id hv
  have hll : l.length ≤ 9223372036854775807 := by unfold maxLen at g2; omega
  clear g1 g2 g3 g4
  have hkw := (show Keep w (w.alloc (.cells #[ptr b] 61)) Nope from (Keep.refl w Nope).alloc _)
  have HKW := Lib.hid hkw
  have HB := Lib.hid (H.keep hkw)
  have HP0 := Lib.hid (Blk.new w #[ptr b] 61)
  have HV := Lib.hid (hv.keep hkw (fun _ _ f => f))
  have HN := Lib.hid hkn
  have HX := Lib.hid hx
  have HST := Lib.hid hst
  have HOKS := Lib.hid hok
  clear H hx hv hok hst hkn hkw
  obtain ⟨wa, hwa⟩ : ∃ wa, w.alloc (.cells #[ptr b] 61) = wa := ⟨_, rfl⟩
  have HWA := Lib.hid hwa
  rw [hwa] at HKW HB HP0 HV
  unfold ptr at *
  go_enter Tryz.func19, Tryz.ntmps19
  go_wp2_with fail
  try rw [hwa]
  clear hwa
  go_loopg [5, 6, 13] l.length (fun g v5 v6 v13 wr => LoopDefer wa l.length g v5 v6 v13 wr)
  case atStart => exact ⟨0, rfl, rfl, rfl, rfl, Keep.refl _ _⟩
  case round =>
    obtain ⟨k, hk, rfl, rfl, rfl, hkeep⟩ := hrel
    have hkl : k ≤ l.length := by omega
    have HK := Lib.hid hk; clear hk
    have HP := Lib.hid hkeep; clear hkeep
    by_cases hlt : k < l.length
    · obtain ⟨o, ho⟩ : ∃ o, l[k]? = some o := ⟨_, List.getElem?_eq_getElem hlt⟩
      obtain ⟨bo, oo, rfl, hbo, hco⟩ := (HV.out.keep HP.out (fun _ _ f => f)).elem (cells := OpV.cells) (size := 7) (fun _ => rfl) (by decide) ho
      have HC := Lib.hid (fun w' (hk : Keep w w' Nope) => HN.out o (List.mem_of_getElem? ho) w' hk)
      have p0 : wr.cell? ⟨w.heap.size, 0, none⟩ = some (.pointer (some ⟨b, 0, none⟩)) := by rw [(HP0.out.keep HP.out (fun f => f)).cell]; rfl
      obtain ⟨kind, hi, hg, c', vk, va, vb⟩ := o
      have hc0 := hco 0 (by decide)
      have hc1 := hco 1 (by decide)
      have hc2 := hco 2 (by decide)
      have hc3 := hco 3 (by decide)
      have hc4 := hco 4 (by decide)
      have hc5 := hco 5 (by decide)
      have hc6 := hco 6 (by decide)
      simp [OpV.cells] at hc0 hc1 hc2 hc3 hc4 hc5 hc6
      clear hco ho
      simp only [OpV.val] at HC
      have HKR := Lib.hid (HKW.out.trans HP.out (fun _ f => f.elim))
      have p1 := (show Keep wr (wr.alloc (.cells #[.int .i64 kind, .int .i64 hi, .int .i64 hg, .int .i64 c', .int .i64 vk, .int .i64 va, .int .i64 vb] 79)) Nope from (Keep.refl wr Nope).alloc _).cell p0 (fun f => f)
      go_wp2_with (go_at_call 57; refine (HC.out _ (HKR.out.trans (show Keep wr _ Nope from (by (repeat (first | exact Keep.refl _ _ | apply Keep.drew | apply Keep.drewN | apply Keep.alloc)))) (fun _ f => f.elim))).mono ?_; rintro e w1 ⟨rfl, hk1⟩; have HK1 := Lib.hid (HP.out.trans ((show Keep wr _ Nope from (by (repeat (first | exact Keep.refl _ _ | apply Keep.drew | apply Keep.drewN | apply Keep.alloc)))).trans hk1 (fun _ f => f.elim)) (fun _ f => f.elim)); clear hk1)
      go_roundg (l.length - (k + 1))
      case measure => have := HK.out; omega
      case rel => exact ⟨k + 1, by have := HK.out; omega, by go_num, rfl, rfl, HK1.out⟩
    · have HC1 := Lib.hid (fun (w1 : World) (hk : Keep wr w1 Nope) => contains_def1 (fun o => !okOp o) _ l w1 S (HV.out.keep (HP.out.trans hk (fun _ f => f.elim)) (fun _ _ f => f)) (fun o _ w' _ => def_1 o w'))
      rw [show l.any (fun o => !okOp o) = false by rw [List.any_eq_false]; intro o ho; simp [HOKS.out o ho]] at HC1
      have HC2 := Lib.hid (fun (w1 : World) (hk : Keep wr w1 Nope) => contains_def2 (ptr w.heap.size) (fun o => decide (x.en.al.st o.hi o.hg = 0)) _ l w1 S (HV.out.keep (HP.out.trans hk (fun _ f => f.elim)) (fun _ _ f => f)) (fun o _ w' hk' => def_2 o b x p w.heap.size HX.out w' (HB.out.keep (HP.out.trans (hk.trans hk' (fun _ f => f.elim)) (fun _ f => f.elim))).woC ((HB.out.keep (HP.out.trans (hk.trans hk' (fun _ f => f.elim)) (fun _ f => f.elim))).woAl HX.out) (by rw [(HP0.out.keep (HP.out.trans (hk.trans hk' (fun _ f => f.elim)) (fun _ f => f.elim)) (fun f => f)).cell]; rfl)))
      rw [HST.out] at HC2
      unfold ptr at HC2
      go_wp2_with (first
        | (go_at_call 58; refine (HC1.out _ (Keep.refl _ _)).mono ?_; rintro e w1 ⟨rfl, hk1⟩; have HK1 := Lib.hid hk1; clear hk1)
        | (go_at_call 58; refine (HC2.out _ HK1.out).mono ?_; rintro e w2 ⟨rfl, hk2⟩; have HK2 := Lib.hid (HKW.out.trans (HP.out.trans (HK1.out.trans hk2 (fun _ f => f.elim)) (fun _ f => f.elim)) (fun _ f => f.elim)); clear hk2))
      go_ret
      exact ⟨rfl, HK2.out⟩
set_option maxRecDepth 100000 in
set_option maxHeartbeats 2000000 in
theorem wo_knows_ins {w0 w : World} {R : List Asr} {b : Nat} {x : WoS} {p : WoB} (H : St w0 w (woL b x p ++ R)) (hl : x.en.sl.length ≤ 64) (c : Nat) (s : SlS) (hc : x.en.sl[c]? = some s) (o : OpV) (h2 : o.kind = 2) (hoc : o.c = (c : Int)) (hk : o.vk = (s.kind : Int)) :
    Calls Tryz.prog 57 #[ptr b, o.val] w (Ret w (.tuple #[.bool true, .bool true])) := by
  obtain ⟨kind, i, g, oc, vk, va, vb⟩ := o
  simp only at h2 hoc hk
  subst h2 hoc
  have HB := H.box0 #[.int .i64 2, .int .i64 i, .int .i64 g, .int .i64 (c : Nat), .int .i64 vk, .int .i64 va, .int .i64 vb] 79
  obtain ⟨wa, hwa⟩ : ∃ wa, w.alloc (.cells #[.int .i64 2, .int .i64 i, .int .i64 g, .int .i64 (c : Nat), .int .i64 vk, .int .i64 va, .int .i64 vb] 79) = wa := ⟨_, rfl⟩
  have hka := (Keep.refl w Nope).alloc (.cells #[.int .i64 2, .int .i64 i, .int .i64 g, .int .i64 (c : Nat), .int .i64 vk, .int .i64 va, .int .i64 vb] 79)
  rw [hwa] at HB hka
  have HKA := Lib.hid hka
  obtain ⟨xa, hxa⟩ := HB.rest.woBs hc
  obtain ⟨pp, hp1⟩ := HB.rest.woOpen hxa hc
  have HSl := Lib.hid (fun (w' : World) (hkp : Keep wa w' Nope) => reg_slot (HB.rest.keep hkp).woEnt.entReg hxa (by omega))
  have HDe := Lib.hid (fun (w' : World) (hkp : Keep wa w' Nope) => slo_desc xa s pp w' ((hp1.keep hkp).blk 0 rfl))
  have c0 := HB.rest.woC.c0
  have e1 := HB.rest.woC.e1
  have hb := HB.blk 0 rfl
  have o0 : wa.cell? ⟨w.heap.size, 0, none⟩ = some (.int .i64 2) := by rw [hb.cell]; rfl
  have o3 : wa.cell? ⟨w.heap.size, 3, none⟩ = some (.int .i64 (c : Nat)) := by rw [hb.cell]; rfl
  have o4 : wa.cell? ⟨w.heap.size, 4, none⟩ = some (.int .i64 vk) := by rw [hb.cell]; rfl
  have ek : ((vk : Int) == ((s.kind : Nat) : Int)) = true := by simp [hk]
  obtain ⟨sk, hsk⟩ : ∃ k : Int, ((s.kind : Nat) : Int) = k := ⟨_, rfl⟩
  rw [hsk] at HDe hk
  subst hk
  clear H HB hka hp1 hb hxa hc hsk ek
  unfold ptr OpV.val at *
  simp only at *
  go_enter Tryz.func57, Tryz.ntmps57
  go_upto_region 3 with fail
  try rw [hwa]
  clear hwa
  refine wp_region_M (r := 11) (S := fun w' => w'.cell? ⟨b, 0, none⟩ = some (.pointer (some ⟨p.eb, 0, none⟩)) ∧ w'.cell? ⟨p.eb, 1, none⟩ = some (.pointer (some ⟨p.e.rb, 0, none⟩)) ∧ w'.cell? ⟨w.heap.size, 3, none⟩ = some (.int .i64 (c : Nat))) (by kernel_rfl) ?_ (fun hHeld => ?_)
  · (try dsimp only); exact ⟨c0, e1, o3⟩
  (refine tkMP 0 _ _ ?_; simp only [Act.put, List.setIfInBounds_toArray, List.set_cons_zero, List.set_cons_succ])
  (refine tkMP 1 _ _ ?_; simp only [Act.put, List.setIfInBounds_toArray, List.set_cons_zero, List.set_cons_succ])
  (refine tkMP 2 _ _ ?_; simp only [Act.put, List.setIfInBounds_toArray, List.set_cons_zero, List.set_cons_succ])
  (refine tkMP 3 _ _ ?_; simp only [Act.put, List.setIfInBounds_toArray, List.set_cons_zero, List.set_cons_succ])
  (refine tkMP 9 _ _ ?_; simp only [Act.put, List.setIfInBounds_toArray, List.set_cons_zero, List.set_cons_succ])
  (refine tkM 10 _ _ ?_; simp only [Act.put, List.setIfInBounds_toArray, List.set_cons_zero, List.set_cons_succ])
  refine wpAnyM_ready (rs := [4]) (by kernel_rfl) (by simp) ?_
  refine AllReadyM.cons (o := ?_) ?_ ?_ ?_
  rotate_left 1
  · simp only [List.getElem?_toArray, List.getElem?_cons_succ, List.getElem?_cons_zero]; exact rfl
  rotate_left 1
  · exact AllReadyM.nil
  intro K hK
  go_simp
  refine hK.out _ _ ?_ (fun hHeld => ?_)
  · (try dsimp only); exact ⟨c0, e1, o3⟩
  clear hK K
  (refine tkMP 5 _ _ ?_; simp only [Act.put, List.setIfInBounds_toArray, List.set_cons_zero, List.set_cons_succ])
  (refine tkMP 6 _ _ ?_; simp only [Act.put, List.setIfInBounds_toArray, List.set_cons_zero, List.set_cons_succ])
  (refine tkMP 7 _ _ ?_; simp only [Act.put, List.setIfInBounds_toArray, List.set_cons_zero, List.set_cons_succ])
  (refine tkM 8 _ _ ?_; simp only [Act.put, List.setIfInBounds_toArray, List.set_cons_zero, List.set_cons_succ])
  refine wpAnyM_ready (rs := [11]) (by kernel_rfl) (by simp) ?_
  refine AllReadyM.free (o := ?_) ?_ (by kernel_rfl) ?_ ?_
  rotate_left 1
  · simp only [List.getElem?_toArray, List.getElem?_cons_succ, List.getElem?_cons_zero]; exact rfl
  rotate_left 1
  · exact AllReadyM.nil
  intro K hK
  go_simp
  go_wp2_with ((go_at_call 49; refine (HSl.out _ (Keep.refl wa Nope).drew).mono ?_; rintro e w1 ⟨rfl, hk1⟩; have HK1 := Lib.hid ((Keep.refl wa Nope).drew.trans hk1 (fun _ f => f.elim)); clear hk1))
  refine hK.out _ _ ?_
  clear hK K
  (refine tkMP 12 _ _ ?_; simp only [Act.put, List.setIfInBounds_toArray, List.set_cons_zero, List.set_cons_succ])
  (refine tkMP 13 _ _ ?_; simp only [Act.put, List.setIfInBounds_toArray, List.set_cons_zero, List.set_cons_succ])
  (refine tkMP 14 _ _ ?_; simp only [Act.put, List.setIfInBounds_toArray, List.set_cons_zero, List.set_cons_succ])
  (refine tkMP 15 _ _ ?_; simp only [Act.put, List.setIfInBounds_toArray, List.set_cons_zero, List.set_cons_succ])
  (refine tkMP 16 _ _ ?_; simp only [Act.put, List.setIfInBounds_toArray, List.set_cons_zero, List.set_cons_succ])
  refine wpAnyM_done (by kernel_rfl) ?_ _
  clear hHeld c0 e1 o3
  have o0 := HK1.out.cell o0 (fun f => f)
  have o4 := HK1.out.cell o4 (fun f => f)
  go_upto_region 6 with fail
  have hfd : ∀ w' : World, (Instr.field 60 (.agg #[.int .i64 vk, .int .i64 (s.var : Nat), .int .i64 (s.bound : Nat)]) 0).run Tryz.prog w' = .ok (.int .i64 vk) w' := fun w' => by kernel_rfl
  refine wp_region_held_drew (S := fun w' => w'.cell? ⟨w.heap.size, 0, none⟩ = some (.int .i64 2) ∧ w'.cell? ⟨w.heap.size, 4, none⟩ = some (.int .i64 vk)) (by kernel_rfl) ?_ (fun hHeld => ?_)
  · (try dsimp only); first | exact ⟨o0, o4⟩ | exact ⟨HKP.out.cell o0 (fun f => f), HKP.out.cell o4 (fun f => f)⟩
  refine wpAnyH_take (i := 0) (oi := ?_) (v := ?_) ?_ ?_ ?_ ?_ ?_ ?_ ?_ ?_
  rotate_left 2
  · simp only [List.getElem?_toArray, List.getElem?_cons_succ, List.getElem?_cons_zero]; exact rfl
  · kernel_rfl
  · kernel_rfl
  · kernel_rfl
  · first | exact fun _ _ _ h => h | exact fun _ _ _ h => (HPan.out _ _ _ h).elim
  · (refine Or.inl ⟨by rfl, ?_⟩; (intro w hSw; (try dsimp only at hSw); go_simp) <;> with_reducible rfl)
  · assumption
  simp only [Act.put, List.setIfInBounds_toArray, List.set_cons_zero, List.set_cons_succ]
  refine wpAnyH_take (i := 1) (oi := ?_) (v := ?_) ?_ ?_ ?_ ?_ ?_ ?_ ?_ ?_
  rotate_left 2
  · simp only [List.getElem?_toArray, List.getElem?_cons_succ, List.getElem?_cons_zero]; exact rfl
  · kernel_rfl
  · kernel_rfl
  · kernel_rfl
  · first | exact fun _ _ _ h => h | exact fun _ _ _ h => (HPan.out _ _ _ h).elim
  · (refine Or.inl ⟨by rfl, ?_⟩; (intro w hSw; (try dsimp only at hSw); go_simp) <;> with_reducible rfl)
  · assumption
  simp only [Act.put, List.setIfInBounds_toArray, List.set_cons_zero, List.set_cons_succ]
  refine wpAnyH_take (i := 2) (oi := ?_) (v := ?_) ?_ ?_ ?_ ?_ ?_ ?_ ?_ ?_
  rotate_left 2
  · simp only [List.getElem?_toArray, List.getElem?_cons_succ, List.getElem?_cons_zero]; exact rfl
  · kernel_rfl
  · kernel_rfl
  · kernel_rfl
  · first | exact fun _ _ _ h => h | exact fun _ _ _ h => (HPan.out _ _ _ h).elim
  · (refine Or.inl ⟨by rfl, ?_⟩; (intro w hSw; (try dsimp only at hSw); go_simp) <;> with_reducible rfl)
  · assumption
  simp only [Act.put, List.setIfInBounds_toArray, List.set_cons_zero, List.set_cons_succ]
  refine wpAnyH_take (i := 3) (oi := ?_) (v := ?_) ?_ ?_ ?_ ?_ ?_ ?_ ?_ ?_
  rotate_left 2
  · simp only [List.getElem?_toArray, List.getElem?_cons_succ, List.getElem?_cons_zero]; exact rfl
  · kernel_rfl
  · kernel_rfl
  · kernel_rfl
  · first | exact fun _ _ _ h => h | exact fun _ _ _ h => (HPan.out _ _ _ h).elim
  · (refine Or.inl ⟨by rfl, ?_⟩; (intro w hSw; (try dsimp only at hSw); go_simp) <;> with_reducible rfl)
  · assumption
  simp only [Act.put, List.setIfInBounds_toArray, List.set_cons_zero, List.set_cons_succ]
  refine wpAnyH_take (i := 4) (oi := ?_) (v := ?_) ?_ ?_ ?_ ?_ ?_ ?_ ?_ ?_
  rotate_left 2
  · simp only [List.getElem?_toArray, List.getElem?_cons_succ, List.getElem?_cons_zero]; exact rfl
  · kernel_rfl
  · kernel_rfl
  · kernel_rfl
  · first | exact fun _ _ _ h => h | exact fun _ _ _ h => (HPan.out _ _ _ h).elim
  · (refine Or.inl ⟨by rfl, ?_⟩; (intro w hSw; (try dsimp only at hSw); go_simp) <;> with_reducible rfl)
  · assumption
  simp only [Act.put, List.setIfInBounds_toArray, List.set_cons_zero, List.set_cons_succ]
  refine wpAnyH_take (i := 5) (oi := ?_) (v := ?_) ?_ ?_ ?_ ?_ ?_ ?_ ?_ ?_
  rotate_left 2
  · simp only [List.getElem?_toArray, List.getElem?_cons_succ, List.getElem?_cons_zero]; exact rfl
  · kernel_rfl
  · kernel_rfl
  · kernel_rfl
  · first | exact fun _ _ _ h => h | exact fun _ _ _ h => (HPan.out _ _ _ h).elim
  · (refine Or.inl ⟨by rfl, ?_⟩; (intro w hSw; (try dsimp only at hSw); go_simp) <;> with_reducible rfl)
  · assumption
  simp only [Act.put, List.setIfInBounds_toArray, List.set_cons_zero, List.set_cons_succ]
  refine wpAnyH_take (i := 6) (oi := ?_) (v := ?_) ?_ ?_ ?_ ?_ ?_ ?_ ?_ ?_
  rotate_left 2
  · simp only [List.getElem?_toArray, List.getElem?_cons_succ, List.getElem?_cons_zero]; exact rfl
  · kernel_rfl
  · kernel_rfl
  · kernel_rfl
  · first | exact fun _ _ _ h => h | exact fun _ _ _ h => (HPan.out _ _ _ h).elim
  · (refine Or.inl ⟨by rfl, ?_⟩; (intro w hSw; (try dsimp only at hSw); go_simp) <;> with_reducible rfl)
  · assumption
  simp only [Act.put, List.setIfInBounds_toArray, List.set_cons_zero, List.set_cons_succ]
  refine wpAnyH_take (i := 7) (oi := ?_) (v := ?_) ?_ ?_ ?_ ?_ ?_ ?_ ?_ ?_
  rotate_left 2
  · simp only [List.getElem?_toArray, List.getElem?_cons_succ, List.getElem?_cons_zero]; exact rfl
  · kernel_rfl
  · kernel_rfl
  · kernel_rfl
  · first | exact fun _ _ _ h => h | exact fun _ _ _ h => (HPan.out _ _ _ h).elim
  · (refine Or.inl ⟨by rfl, ?_⟩; (intro w hSw; (try dsimp only at hSw); go_simp) <;> with_reducible rfl)
  · assumption
  simp only [Act.put, List.setIfInBounds_toArray, List.set_cons_zero, List.set_cons_succ]
  refine wpAnyH_ready (rs := [8]) (by kernel_rfl) (by simp) ?_
  refine AllReadyH.cons rfl (fun K hK => ?_) (AllReadyH.nil)
  go_simp
  go_wp2_with ((go_at_call 117; refine (HDe.out _ HK1.out.drew).mono ?_; rintro e w2 ⟨rfl, hk2⟩; have HK2 := Lib.hid (HKA.out.trans (HK1.out.drew.trans hk2 (fun _ f => f.elim)) (fun _ f => f.elim)); have HKP := Lib.hid hk2; clear hk2))
  refine hK.out _ _ ?_ (fun hHeld => ?_)
  · (try dsimp only); first | exact ⟨o0, o4⟩ | exact ⟨HKP.out.cell o0 (fun f => f), HKP.out.cell o4 (fun f => f)⟩
  clear hK K
  refine wpAnyH_take (i := 9) (oi := ?_) (v := ?_) ?_ ?_ ?_ ?_ ?_ ?_ ?_ ?_
  rotate_left 2
  · simp only [List.getElem?_toArray, List.getElem?_cons_succ, List.getElem?_cons_zero]; exact rfl
  · kernel_rfl
  · kernel_rfl
  · kernel_rfl
  · first | exact fun _ _ _ h => h | exact fun _ _ _ h => (HPan.out _ _ _ h).elim
  · (refine Or.inl ⟨by rfl, ?_⟩; (intro w hSw; (try dsimp only at hSw); go_simp) <;> with_reducible rfl)
  · assumption
  simp only [Act.put, List.setIfInBounds_toArray, List.set_cons_zero, List.set_cons_succ]
  refine wpAnyH_take (i := 10) (oi := ?_) (v := ?_) ?_ ?_ ?_ ?_ ?_ ?_ ?_ ?_
  rotate_left 2
  · simp only [List.getElem?_toArray, List.getElem?_cons_succ, List.getElem?_cons_zero]; exact rfl
  · kernel_rfl
  · kernel_rfl
  · kernel_rfl
  · first | exact fun _ _ _ h => h | exact fun _ _ _ h => (HPan.out _ _ _ h).elim
  · (refine Or.inl ⟨by rfl, ?_⟩; (intro w hSw; (try dsimp only at hSw); go_simp) <;> with_reducible rfl)
  · assumption
  simp only [Act.put, List.setIfInBounds_toArray, List.set_cons_zero, List.set_cons_succ]
  refine wpAnyH_take (i := 11) (oi := ?_) (v := ?_) ?_ ?_ ?_ ?_ ?_ ?_ ?_ ?_
  rotate_left 2
  · simp only [List.getElem?_toArray, List.getElem?_cons_succ, List.getElem?_cons_zero]; exact rfl
  · kernel_rfl
  · kernel_rfl
  · kernel_rfl
  · first | exact fun _ _ _ h => h | exact fun _ _ _ h => (HPan.out _ _ _ h).elim
  · (refine Or.inl ⟨by rfl, ?_⟩; (intro w hSw; (try dsimp only at hSw); go_simp) <;> with_reducible rfl)
  · assumption
  simp only [Act.put, List.setIfInBounds_toArray, List.set_cons_zero, List.set_cons_succ]
  refine wpAnyH_take (i := 12) (oi := ?_) (v := ?_) ?_ ?_ ?_ ?_ ?_ ?_ ?_ ?_
  rotate_left 2
  · simp only [List.getElem?_toArray, List.getElem?_cons_succ, List.getElem?_cons_zero]; exact rfl
  · kernel_rfl
  · kernel_rfl
  · kernel_rfl
  · first | exact fun _ _ _ h => h | exact fun _ _ _ h => (HPan.out _ _ _ h).elim
  · (refine Or.inl ⟨by rfl, ?_⟩; (intro w hSw; (try dsimp only at hSw); go_simp) <;> with_reducible rfl)
  · assumption
  simp only [Act.put, List.setIfInBounds_toArray, List.set_cons_zero, List.set_cons_succ]
  refine wpAnyH_take (i := 13) (oi := ?_) (v := ?_) ?_ ?_ ?_ ?_ ?_ ?_ ?_ ?_
  rotate_left 2
  · simp only [List.getElem?_toArray, List.getElem?_cons_succ, List.getElem?_cons_zero]; exact rfl
  · kernel_rfl
  · kernel_rfl
  · kernel_rfl
  · first | exact fun _ _ _ h => h | exact fun _ _ _ h => (HPan.out _ _ _ h).elim
  · (refine Or.inl ⟨by rfl, ?_⟩; (intro w hSw; (try dsimp only at hSw); go_simp) <;> with_reducible rfl)
  · assumption
  simp only [Act.put, List.setIfInBounds_toArray, List.set_cons_zero, List.set_cons_succ]
  refine wpAnyH_done (by kernel_rfl) ?_ _
  go_wp2_with fail
  go_ret2
  exact ⟨rfl, HK2.out⟩
set_option maxRecDepth 100000 in
set_option maxHeartbeats 2000000 in
theorem wo_apply_ins {w0 w : World} {R : List Asr} {b : Nat} {x : WoS} {p : WoB} (H : St w0 w (woL b x p ++ R)) (hx : x.en.Ok 90000) (k : Nat) (g : Int) (hs : x.en.al.st k g = 1) (c : Nat) (s : SlS) (hc : x.en.sl[c]? = some s) (vk va vb : Int) (hv : okV vk va vb = true) (hkd : vk = s.kind) :
    Calls Tryz.prog 66 #[ptr b, (⟨2, k, g, c, vk, va, vb⟩ : OpV).val] w (fun e w' => e = .returned (.bool true) ∧ St w0 w' (woL b (x.withE (x.en.ins k c ⟨vk, va, vb⟩)) p ++ R)) := by
  obtain ⟨i, hi⟩ : ∃ i : Int, (k : Int) = i := ⟨_, rfl⟩
  obtain ⟨oc, hoc⟩ : ∃ i : Int, (c : Int) = i := ⟨_, rfl⟩
  have HB := Lib.hid (show St w0 (w.alloc (.cells #[.int .i64 2, .int .i64 i, .int .i64 g, .int .i64 oc, .int .i64 vk, .int .i64 va, .int .i64 vb] 79)) (blkA w.heap.size #[.int .i64 2, .int .i64 i, .int .i64 g, .int .i64 oc, .int .i64 vk, .int .i64 va, .int .i64 vb] 79 :: (woL b x p ++ R)) from H.box0 _ _)
  have HD := Lib.hid (fun (w1 : World) (h : St w0 w1 (blkA w.heap.size #[.int .i64 2, .int .i64 i, .int .i64 g, .int .i64 oc, .int .i64 vk, .int .i64 va, .int .i64 vb] 79 :: (woL b x p ++ R))) => ent_insert (St.woEnt (St.rot1 h)) hx k g hs c s hc ⟨vk, va, vb⟩ hv hkd)
  have HU := Lib.hid (fun (w1 : World) (h : St w0 w1 (entL p.eb (x.en.ins k c ⟨vk, va, vb⟩) p.e ++ (([resA p.rb x.rs, qA p.qb x.qu] ++ (R ++ [blkA w.heap.size #[.int .i64 2, .int .i64 i, .int .i64 g, .int .i64 oc, .int .i64 vk, .int .i64 va, .int .i64 vb] 79]) ++ [blkA b (woCs x p) 124])))) => (St.unrot1 (St.woEnt' h)).rest)
  have c0 := HB.out.rest.woC.c0
  have hb := HB.out.blk 0 rfl
  obtain ⟨wa, hwa⟩ : ∃ wa, w.alloc (.cells #[.int .i64 2, .int .i64 i, .int .i64 g, .int .i64 oc, .int .i64 vk, .int .i64 va, .int .i64 vb] 79) = wa := ⟨_, rfl⟩
  rw [hwa] at hb
  have o1 : wa.cell? ⟨w.heap.size, 1, none⟩ = some (.int .i64 i) := by rw [hb.cell]; rfl
  have o2 : wa.cell? ⟨w.heap.size, 2, none⟩ = some (.int .i64 g) := by rw [hb.cell]; rfl
  have o3 : wa.cell? ⟨w.heap.size, 3, none⟩ = some (.int .i64 oc) := by rw [hb.cell]; rfl
  have o4 : wa.cell? ⟨w.heap.size, 4, none⟩ = some (.int .i64 vk) := by rw [hb.cell]; rfl
  have o5 : wa.cell? ⟨w.heap.size, 5, none⟩ = some (.int .i64 va) := by rw [hb.cell]; rfl
  have o6 : wa.cell? ⟨w.heap.size, 6, none⟩ = some (.int .i64 vb) := by rw [hb.cell]; rfl
  subst hwa
  obtain ⟨⟨q1, q2, q3⟩, hh⟩ : ∃ h, hadV s.m s.f k = h := ⟨_, rfl⟩
  obtain ⟨t, ht⟩ : ∃ t, s.m.testBit k = t := ⟨_, rfl⟩
  rw [hh, ht, hi, hoc] at HD
  obtain ⟨y, hy⟩ : ∃ y, x.en.ins k c ⟨vk, va, vb⟩ = y := ⟨_, rfl⟩
  rw [hy] at HD HU ⊢
  rw [hi, hoc]
  clear H hx hs hc hv hkd hy hb hh ht hi hoc
  unfold ptr hdV OpV.val VV.val at *
  simp only at *
  go_enter Tryz.func66, Tryz.ntmps66
  go_wp2_with fail
  refine wp_region_M (r := 11) (S := fun w' => w'.cell? ⟨b, 0, none⟩ = some (.pointer (some ⟨p.eb, 0, none⟩)) ∧ w'.cell? ⟨w.heap.size, 1, none⟩ = some (.int .i64 i) ∧ w'.cell? ⟨w.heap.size, 2, none⟩ = some (.int .i64 g) ∧ w'.cell? ⟨w.heap.size, 3, none⟩ = some (.int .i64 oc) ∧ w'.cell? ⟨w.heap.size, 4, none⟩ = some (.int .i64 vk) ∧ w'.cell? ⟨w.heap.size, 5, none⟩ = some (.int .i64 va) ∧ w'.cell? ⟨w.heap.size, 6, none⟩ = some (.int .i64 vb)) (by kernel_rfl) ?_ (fun hHeld => ?_)
  · (try dsimp only); exact ⟨c0, o1, o2, o3, o4, o5, o6⟩
  (refine tkMP 0 _ _ ?_; simp only [Act.put, List.setIfInBounds_toArray, List.set_cons_zero, List.set_cons_succ])
  (refine tkMP 1 _ _ ?_; simp only [Act.put, List.setIfInBounds_toArray, List.set_cons_zero, List.set_cons_succ])
  (refine tkMP 2 _ _ ?_; simp only [Act.put, List.setIfInBounds_toArray, List.set_cons_zero, List.set_cons_succ])
  (refine tkMP 3 _ _ ?_; simp only [Act.put, List.setIfInBounds_toArray, List.set_cons_zero, List.set_cons_succ])
  (refine tkM 4 _ _ ?_; simp only [Act.put, List.setIfInBounds_toArray, List.set_cons_zero, List.set_cons_succ])
  (refine tkMP 5 _ _ ?_; simp only [Act.put, List.setIfInBounds_toArray, List.set_cons_zero, List.set_cons_succ])
  (refine tkM 6 _ _ ?_; simp only [Act.put, List.setIfInBounds_toArray, List.set_cons_zero, List.set_cons_succ])
  (refine tkMP 7 _ _ ?_; simp only [Act.put, List.setIfInBounds_toArray, List.set_cons_zero, List.set_cons_succ])
  (refine tkM 8 _ _ ?_; simp only [Act.put, List.setIfInBounds_toArray, List.set_cons_zero, List.set_cons_succ])
  (refine tkMP 9 _ _ ?_; simp only [Act.put, List.setIfInBounds_toArray, List.set_cons_zero, List.set_cons_succ])
  (refine tkM 10 _ _ ?_; simp only [Act.put, List.setIfInBounds_toArray, List.set_cons_zero, List.set_cons_succ])
  refine wpAnyM_ready (rs := [11]) (by kernel_rfl) (by simp) ?_
  refine AllReadyM.free (o := ?_) ?_ (by kernel_rfl) ?_ ?_
  rotate_left 1
  · simp only [List.getElem?_toArray, List.getElem?_cons_succ, List.getElem?_cons_zero]; exact rfl
  rotate_left 1
  · exact AllReadyM.nil
  intro K hK
  go_simp
  go_wp2_with ((go_at_call 53; refine (HD.out _ HB.out.drew).mono ?_; rintro en w2 ⟨rfl, h2⟩; have HB2 := Lib.hid (HU.out _ h2); clear h2 HB))
  refine hK.out _ _ ?_
  clear hK K
  (refine tkMP 12 _ _ ?_; simp only [Act.put, List.setIfInBounds_toArray, List.set_cons_zero, List.set_cons_succ])
  (refine tkMP 13 _ _ ?_; simp only [Act.put, List.setIfInBounds_toArray, List.set_cons_zero, List.set_cons_succ])
  (refine tkMP 14 _ _ ?_; simp only [Act.put, List.setIfInBounds_toArray, List.set_cons_zero, List.set_cons_succ])
  (refine tkMP 15 _ _ ?_; simp only [Act.put, List.setIfInBounds_toArray, List.set_cons_zero, List.set_cons_succ])
  (refine tkMP 16 _ _ ?_; simp only [Act.put, List.setIfInBounds_toArray, List.set_cons_zero, List.set_cons_succ])
  refine wpAnyM_done (by kernel_rfl) ?_ _
  clear hHeld
  go_wp2_with fail
  go_ret
  exact ⟨rfl, HB2.out⟩
end Go.Proofs.YtkiikblpgppmkaaGreatDoor

namespace Go.Proofs.YtkiikblpgppmkaaGreatDoor
open Go Go.RowKit
set_option linter.unusedVariables false
set_option linter.unusedSimpArgs false

theorem slInt : SlTy Tryz.prog 22 3 1 8 := SlTy.mk' (.int .i64 0) Tryz.underlying22 (by kernel_rfl) rfl (by decide)
def LoopSame (w : World) (l : List Int) (g : Nat) (v5 : Value) (wr : World) : Prop := ∃ k q : Nat, g + k = l.length ∧ v5 = .int .i64 k ∧ wr = w.drewN q

set_option maxHeartbeats 1000000 in
theorem same_ints (v v2 : Value) (l : List Int) (w : World) (S S2 : Nat → Prop) (h : Rd S w v l.length (ints l)) (h2 : Rd S2 w v2 l.length (ints l)) :
    Calls Tryz.prog 27 #[v, v2] w (Ret w (.bool true)) := by
  obtain ⟨a, c, rfl, g1, g2, g3, g4⟩ := id h
  have hlen : l.length ≤ 9223372036854775807 := by unfold maxLen at g2; omega
  clear g1 g2 g3 g4
  obtain ⟨a2, c2, rfl, g1, g2, g3, g4⟩ := id h2
  clear g1 g2 g3 g4
  have H := Lib.hid h; clear h
  have H2 := Lib.hid h2; clear h2
  go_enter Tryz.func27, Tryz.ntmps27
  go_wp2_with fail
  go_loopg [5] l.length (fun g v5 wr => LoopSame w l g v5 wr)
  case atStart => exact ⟨0, 0, rfl, rfl, rfl⟩
  case round =>
    obtain ⟨k, q, hk, rfl, rfl⟩ := hrel
    have hkl : k ≤ l.length := by omega
    have HK := Lib.hid hk; clear hk
    by_cases hlt : k < l.length
    · obtain ⟨x, hx⟩ : ∃ x, l[k]? = some x := ⟨_, List.getElem?_eq_getElem hlt⟩
      obtain ⟨bo, oo, ⟨c', hv⟩, _, hc0⟩ := H.out.int hx
      injection hv with hv1 hv2 hv3
      subst hv1; subst hv3
      obtain ⟨bo2, oo2, ⟨c', hv⟩, _, hd0⟩ := H2.out.int hx
      injection hv with hv1 hv2 hv3
      subst hv1; subst hv3
      clear hx
      go_wp2_with fail
      go_quiet (fail)
      go_wp2_with fail
      go_roundg (l.length - (k + 1))
      case measure => have := HK.out; omega
      case rel => exact ⟨k + 1, _, by omega, by go_num, rfl⟩
    · go_wp2_with fail
      go_ret
      exact ⟨rfl, (Keep.refl _ _).drewN q⟩
end Go.Proofs.YtkiikblpgppmkaaGreatDoor
