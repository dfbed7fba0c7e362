/-
  The package reg: Strip, Descs; The package ent: the claim; live, Delete; The package ent: Insert, Get of what is gone; The package ent: New; The package res, function by function: what each call answers, and what it leaves in memory; The package lazy: a queue and its calls.
-/
import Derived.Test.YtkiikblpgppmkaaGreatDoorTlM18
import Derived.Test.YtkiikblpgppmkaaGreatDoorProg
import Derived.Test.YtkiikblpgppmkaaGreatDoorTlM02
import Derived.Test.YtkiikblpgppmkaaGreatDoorTlM17
namespace Go.Proofs.YtkiikblpgppmkaaGreatDoor
open Go Go.RowKit
set_option linter.unusedVariables false
set_option linter.unusedSimpArgs false

theorem take_no {s : SlS} {k : Nat} (hm : s.m < 2 ^ 64) (h : s.m.testBit k = false) : s.take k = s := by
  unfold SlS.take
  rw [h, delW_no hm h]
  rfl
theorem ofL_mem {l : List SlS} {k c : Nat} : c ∈ ofL l k ↔ c < l.length ∧ hasS l c k = true := by
  unfold ofL ofTo
  rw [List.mem_filter, List.mem_range]
theorem ofL_nodup (l : List SlS) (k : Nat) : (ofL l k).Nodup := List.Nodup.sublist List.filter_sublist List.nodup_range
theorem nodup_get {l : List Nat} (h : l.Nodup) {j c : Nat} (hj : l[j]? = some c) : ¬ c ∈ l.take j := by
  intro hc
  obtain ⟨i, hi, he⟩ := List.getElem_of_mem hc
  have hj2 := (List.getElem?_eq_some_iff.1 hj)
  have hlt : i < j := Nat.lt_of_lt_of_le hi (List.length_take_le j l)
  have hil : i < l.length := Nat.lt_of_lt_of_le hi (List.length_take_le' j l)
  have hp := List.pairwise_iff_getElem.1 h i j hil hj2.1 hlt
  apply hp
  rw [List.getElem_take] at he
  rw [he, hj2.2]
/-- Some of the slots have taken an index away. -/
def TakenL (l : List SlS) (k : Nat) (cs : List Nat) (l' : List SlS) : Prop := l'.length = l.length ∧ ∀ c, l'[c]? = if c ∈ cs then (l[c]?).map (fun s => s.take k) else l[c]?
theorem TakenL.all {l l' : List SlS} {k : Nat} (hm : ∀ s, s ∈ l → s.m < 2 ^ 64) (h : TakenL l k (ofL l k) l') : l' = l.map (fun s => s.take k) := by
  apply List.ext_getElem?
  intro c
  rw [h.2, List.getElem?_map]
  split
  · rfl
  · rename_i hc
    cases e : l[c]? with
    | none => rfl
    | some s =>
      have hb : s.m.testBit k = false := by
        cases eb : s.m.testBit k with
        | false => rfl
        | true => exact absurd (ofL_mem.2 ⟨(List.getElem?_eq_some_iff.1 e).1, by unfold hasS; rw [e]; exact eb⟩) hc
      simp only [Option.map_some]
      rw [take_no (hm s (List.mem_of_getElem? e)) hb]
theorem TakenL.step {l l' : List SlS} {k c : Nat} {cs : List Nat} {s : SlS} (h : TakenL l k cs l') (hs : l[c]? = some s) : TakenL l k (cs ++ [c]) (l'.set c (s.take k)) := by
  refine ⟨by rw [List.length_set]; exact h.1, fun j => ?_⟩
  by_cases e : c = j
  · subst e
    rw [List.getElem?_set_self (by rw [h.1]; exact (List.getElem?_eq_some_iff.1 hs).1), if_pos (by simp), hs]
    rfl
  · rw [List.getElem?_set_ne e, h.2]
    have e2 : ¬ j = c := fun h => e h.symm
    simp [e2]
def LoopStrip (w0 : World) (b : Nat) (l : List SlS) (k : Nat) (q : RgB) (R : List Asr) (n : Nat) (v : Value) (g : Nat) (v13 : Value) (wr : World) : Prop :=
  ∃ (j : Nat) (l' : List SlS), g + j = n ∧ v13 = .int .i64 (j : Nat) ∧ TakenL l k ((ofL l k).take j) l' ∧ St w0 wr (regL b l' q ++ (R ++ [slA 3 1 v n (intsN (ofL l k))]))
set_option maxHeartbeats 2000000 in
theorem reg_strip {w0 w : World} {R : List Asr} {b : Nat} {l : List SlS} {q : RgB} (H : St w0 w (regL b l q ++ R)) (hs : ∀ s, s ∈ l → s.Ok 90000) (hn : l.length ≤ 64) (k : Nat) (hk : k < 64) :
    Calls Tryz.prog 115 #[ptr b, .int .i64 (k : Nat)] w (fun e w' => e = .returned (.int .i64 ((ofL l k).length : Nat)) ∧ St w0 w' (regL b (l.map (fun s => s.take k)) q ++ R)) := by
  have HOf := Lib.hid (reg_of H (fun s h => ⟨(hs s h).var, (hs s h).m⟩) hn k hk)
  have HH := Lib.hid H
  have HS := Lib.hid hs
  have hnl : (ofL l k).length ≤ 64 := by have := ofTo_len l k l.length; unfold ofL; omega
  have HNL := Lib.hid hn
  obtain ⟨n, hN⟩ : ∃ n, (ofL l k).length = n := ⟨_, rfl⟩
  have HNN := Lib.hid hN
  rw [hN] at HOf hnl ⊢
  clear H hs hN hn
  unfold ptr at *
  go_enter Tryz.func115, Tryz.ntmps115
  go_wp2_with (go_at_call 198; refine HOf.out.mono ?_; rintro e w1 ⟨a5, c5, rfl, h1⟩; have H1 := Lib.hid (show St w0 w1 (regL b l q ++ (R ++ [slA 3 1 (.slice a5 n c5) n (intsN (ofL l k))])) from (by rw [← List.append_assoc]; exact HH.out.ofNew h1)); clear h1 HOf)
  go_loopg [13] n (fun g v13 wr => LoopStrip w0 b l k q R n (.slice a5 n c5) g v13 wr)
  case atStart => exact ⟨0, l, rfl, rfl, ⟨rfl, fun c => by simp⟩, H1.out⟩
  case round =>
    obtain ⟨j, l', hg, rfl, ht, hst⟩ := hrel
    have HG := Lib.hid hg
    have HTK := Lib.hid ht
    have HST := Lib.hid hst
    clear ht hst
    by_cases hlt : j < n
    · obtain ⟨c, hc⟩ : ∃ c, (ofL l k)[j]? = some c := ⟨_, List.getElem?_eq_getElem (by rw [HNN.out]; exact hlt)⟩
      have hcm := ofL_mem.1 (List.mem_of_getElem? hc)
      have hnc := nodup_get (ofL_nodup l k) hc
      obtain ⟨s, hsc⟩ : ∃ s, l[c]? = some s := ⟨_, List.getElem?_eq_getElem hcm.1⟩
      have hsc' : l'[c]? = some s := by rw [HTK.out.2, if_neg hnc]; exact hsc
      have hbl := HST.out.regLen
      have hll := HTK.out.1
      obtain ⟨x, hx⟩ : ∃ x, q.bs[c]? = some x := ⟨_, List.getElem?_eq_getElem (by omega)⟩
      obtain ⟨gr, hga, hrow⟩ := HST.out.regRow hx
      have hreg := HST.out.regCell
      rw [hga] at hreg
      obtain ⟨G, _, hrd, _⟩ := (St.unrot1 HST.out).rd 0 (e := 3) (size := 1) (n := n) (v := .slice a5 n c5) (xs := intsN (ofL l k)) rfl
      obtain ⟨bo, oo, rfl, _, hco⟩ := hrd.at (by rw [intsN_len, HNN.out]; omega)
      have hcc := hco j (by rw [intsN_len, HNN.out]; omega)
      rw [show (intsN (ofL l k))[j]? = some (.int .i64 (c : Nat)) by unfold intsN; rw [List.getElem?_map, hc]; rfl] at hcc
      have HTS := Lib.hid (HTK.out.step (c := c) hsc)
      have HTC := Lib.hid (show (ofL l k).take (j + 1) = (ofL l k).take j ++ [c] by rw [List.take_add_one, hc]; rfl)
      obtain ⟨p, H2⟩ := HST.out.regOpen hx hsc'
      have HTake := Lib.hid (slo_take H2 (HS.out s (List.mem_of_getElem? hsc)) k hk)
      have HX := Lib.hid hx
      have HSC := Lib.hid hsc'
      have hl64 : l'.length ≤ 64 := by have := HNL.out; omega
      have hcl : c < l'.length := by omega
      obtain ⟨nl, hnl'⟩ : ∃ n, l'.length = n := ⟨_, rfl⟩
      rw [hnl'] at hreg hl64 hcl
      unfold ptr at hrow HTake
      clear hc hcm hnc hsc hsc' hbl hll hx hga hrd hco H2 hnl'
      go_wp2_with (go_at_call 114; refine HTake.out.mono ?_; rintro e w2 ⟨rfl, h2⟩; have H3 := Lib.hid (St.regShut HX.out HSC.out h2); clear h2 HTake)
      go_roundg (n - (j + 1))
      case measure => have := HG.out; omega
      case rel => exact ⟨j + 1, _, by have := HG.out; omega, by go_num, by rw [HTC.out]; exact HTS.out, H3.out⟩
    · have hjn : j = n := by omega
      subst hjn
      have HF := Lib.hid (show St w0 wr (regL b (l.map (fun s => s.take k)) q ++ R) by
        have e := HTK.out
        rw [List.take_of_length_le (by rw [HNN.out]; exact Nat.le_refl _)] at e
        rw [← e.all (fun s h => (HS.out s h).m)]
        exact (St.unrot1 HST.out).rest)
      go_wp2_with fail
      go_ret
      exact ⟨rfl, HF.out⟩
end Go.Proofs.YtkiikblpgppmkaaGreatDoor

namespace Go.Proofs.YtkiikblpgppmkaaGreatDoor
open Go Go.RowKit
set_option linter.unusedVariables false
set_option linter.unusedSimpArgs false

structure EnS where
  al : AlS
  sl : List SlS
structure EnB where
  ab : Nat
  rb : Nat
  q : RgB
def entL (b : Nat) (e : EnS) (p : EnB) : List Asr := [blkA b #[ptr p.ab, ptr p.rb] 132, alA p.ab e.al] ++ regL p.rb e.sl p.q
def entA (b : Nat) (e : EnS) : Asr := exA fun p => starA (entL b e p)
structure EnS.Ok (e : EnS) (n : Nat) : Prop where
  al : e.al.Ok
  sl : ∀ s, s ∈ e.sl → s.Ok n
  len : e.sl.length ≤ 64
theorem EnS.Ok.le {e : EnS} {n n' : Nat} (h : e.Ok n) (hn : n ≤ n') : e.Ok n' := ⟨h.al, fun s hs => (h.sl s hs).le hn, h.len⟩
theorem St.entAl {w0 w : World} {R : List Asr} {b : Nat} {e : EnS} {p : EnB} (H : St w0 w (entL b e p ++ R)) (ha : e.al.Ok) : RdAl w p.ab e.al := H.alRd 1 rfl ha
theorem St.entC0 {w0 w : World} {R : List Asr} {b : Nat} {e : EnS} {p : EnB} (H : St w0 w (entL b e p ++ R)) : w.cell? ⟨b, 0, none⟩ = some (.pointer (some ⟨p.ab, 0, none⟩)) := by rw [(H.blk 0 rfl).cell]; rfl
theorem St.entC1 {w0 w : World} {R : List Asr} {b : Nat} {e : EnS} {p : EnB} (H : St w0 w (entL b e p ++ R)) : w.cell? ⟨b, 1, none⟩ = some (.pointer (some ⟨p.rb, 0, none⟩)) := by rw [(H.blk 0 rfl).cell]; rfl
/-- The components stand first. -/
theorem St.entReg {w0 w : World} {R : List Asr} {b : Nat} {e : EnS} {p : EnB} (H : St w0 w (entL b e p ++ R)) : St w0 w (regL p.rb e.sl p.q ++ (R ++ [blkA b #[ptr p.ab, ptr p.rb] 132, alA p.ab e.al])) := by
  have h : St w0 w (blkA b #[ptr p.ab, ptr p.rb] 132 :: alA p.ab e.al :: (regL p.rb e.sl p.q ++ R)) := by
    unfold entL at H
    rw [List.append_assoc] at H
    exact H
  exact h.rot2
theorem St.entReg' {w0 w : World} {R : List Asr} {b : Nat} {a : AlS} {l : List SlS} {p : EnB} (H : St w0 w (regL p.rb l p.q ++ (R ++ [blkA b #[ptr p.ab, ptr p.rb] 132, alA p.ab a]))) : St w0 w (entL b ⟨a, l⟩ p ++ R) := by
  have h := St.unrot2 H
  unfold entL
  rw [List.append_assoc]
  exact h

/-- Whether a handle is a live one: its fault. -/
def liveE (s : Int) : Int := if s = 0 then 4 else if s = 2 then 5 else 0
theorem AlS.st_cases (a : AlS) (i g : Int) : a.st i g = 0 ∨ a.st i g = 1 ∨ a.st i g = 2 := by
  unfold AlS.st
  split
  · split
    · exact .inr (.inl rfl)
    · split
      · exact .inr (.inr rfl)
      · exact .inl rfl
  · exact .inl rfl
set_option maxHeartbeats 1000000 in
theorem ent_live (b ab : Nat) (a : AlS) (i g : Int) (ha : a.Ok) (w : World) (hc : w.cell? ⟨b, 0, none⟩ = some (.pointer (some ⟨ab, 0, none⟩))) (hR : RdAl w ab a) :
    Calls Tryz.prog 111 #[ptr b, hdV i g] w (Ret w (.int .i64 (liveE (a.st i g)))) := by
  have HS := Lib.hid (fun w' (hk : Keep w w' Nope) => al_state ab a i g ha w' (hR.keep hk))
  have hk1 := (show Keep w (w.alloc (.cells #[.int .i64 i, .int .i64 g] 45)) Nope from (Keep.refl w Nope).alloc _)
  replace hc := hk1.cell hc (fun f => f)
  obtain ⟨x0, x1, _, _⟩ := (Blk.new w #[.int .i64 i, .int .i64 g] 45).two
  have HC := Lib.hid (a.st_cases i g)
  obtain ⟨s, hs⟩ : ∃ s, a.st i g = s := ⟨_, rfl⟩
  rw [hs] at HS HC ⊢
  clear ha hR hk1 hs
  unfold ptr hdV at *
  go_enter Tryz.func111, Tryz.ntmps111
  go_wp2_with fail
  refine wp_region_M (r := 6) (S := fun w' => w'.cell? ⟨b, 0, none⟩ = some (.pointer (some ⟨ab, 0, none⟩)) ∧ w'.cell? ⟨w.heap.size, 0, none⟩ = some (.int .i64 i) ∧ w'.cell? ⟨w.heap.size, 1, none⟩ = some (.int .i64 g)) (by kernel_rfl) ?_ (fun hHeld => ?_)
  · (try dsimp only); exact ⟨hc, x0, x1⟩
  refine tkP 0 ?_; refine tkP 1 ?_; refine tkP 2 ?_; refine tkP 3 ?_; refine tkH 4 ?_; refine tkH 5 ?_; refine tkF 6 ?_
  intro K hK
  go_simp
  go_wp2_with ((go_at_call 62; refine (HS.out _ (show Keep w _ Nope from (by (repeat (first | exact Keep.refl _ _ | apply Keep.drew | apply Keep.drewN | apply Keep.alloc))))).mono ?_; rintro e w1 ⟨rfl, hk1⟩; have HK1 := Lib.hid ((show Keep w _ Nope from (by (repeat (first | exact Keep.refl _ _ | apply Keep.drew | apply Keep.drewN | apply Keep.alloc)))).trans hk1 (fun _ f => f.elim)); clear hk1))
  refine hK.out _ _ ?_
  clear hK K
  refine wpAnyM_done (by kernel_rfl) ?_ _
  clear hHeld
  rcases HC.out with rfl | rfl | rfl
  · go_wp2_with fail
    go_ret
    exact ⟨rfl, HK1.out⟩
  · go_wp2_with fail
    go_ret
    exact ⟨rfl, HK1.out⟩
  · go_wp2_with fail
    go_ret
    exact ⟨rfl, HK1.out⟩
/-- A thing is taken away. -/
def EnS.del (e : EnS) (k : Nat) : EnS := ⟨e.al.took k (e.al.gen k : Nat), e.sl.map (fun s => s.take k)⟩
set_option maxHeartbeats 2000000 in
theorem ent_delete {w0 w : World} {R : List Asr} {b : Nat} {e : EnS} {p : EnB} (H : St w0 w (entL b e p ++ R)) (he : e.Ok 90000) (hr : e.al.ret ≤ 1000000) (k : Nat) (hs : e.al.st k (e.al.gen k : Nat) = 1) :
    Calls Tryz.prog 56 #[ptr b, hdV k (e.al.gen k : Nat)] w (fun en w' => en = .returned (.tuple #[.int .i64 ((ofL e.sl k).length : Nat), .int .i64 0]) ∧ St w0 w' (entL b (e.del k) p ++ R)) := by
  obtain ⟨k', ek, hkl, _, _⟩ := AlS.st_live hs
  obtain rfl : k' = k := by omega
  have hl64 := he.al.len
  have HB := Lib.hid (show St w0 (w.alloc (.cells #[.int .i64 k', .int .i64 (e.al.gen k' : Nat)] 45)) (blkA w.heap.size #[.int .i64 k', .int .i64 (e.al.gen k' : Nat)] 45 :: (entL b e p ++ R)) from H.box0 _ _)
  have HL := Lib.hid (ent_live b p.ab e.al k' (e.al.gen k' : Nat) he.al _ HB.out.rest.entC0 (HB.out.rest.entAl he.al))
  rw [hs] at HL
  rw [show liveE 1 = 0 from rfl] at HL
  have HE := Lib.hid he
  have HSt := Lib.hid hs
  have HRt := Lib.hid hr
  obtain ⟨g, hg⟩ : ∃ g, e.al.gen k' = g := ⟨_, rfl⟩
  have HG := Lib.hid hg
  rw [hg] at HB HL ⊢
  clear H he hr hs hg ek
  unfold ptr hdV at *
  go_enter Tryz.func56, Tryz.ntmps56
  go_wp2_with (go_at_call 111; refine HL.out.mono ?_; rintro en w1 ⟨rfl, hk1⟩; have HB1 := Lib.hid (HB.out.keep hk1); clear hk1 HL HB)
  have c1 := HB1.out.rest.entC1
  have x0 : w1.cell? ⟨w.heap.size, 0, none⟩ = some (.int .i64 k') := by rw [(HB1.out.blk 0 rfl).cell]; rfl
  refine wp_region_M (r := 7) (S := fun w' => w'.cell? ⟨b, 1, none⟩ = some (.pointer (some ⟨p.rb, 0, none⟩)) ∧ w'.cell? ⟨w.heap.size, 0, none⟩ = some (.int .i64 k')) (by kernel_rfl) ?_ (fun hHeld => ?_)
  · (try dsimp only); exact ⟨c1, x0⟩
  refine tkP 0 ?_; refine tkP 1 ?_; refine tkP 2 ?_; refine tkP 3 ?_; refine tkH 4 ?_; refine tkP 5 ?_; refine tkH 6 ?_; refine tkF 7 ?_
  intro K hK
  go_simp
  go_wp2_with ((go_at_call 115; refine (reg_strip (St.entReg (St.rot1 HB1.out.drew)) HE.out.sl HE.out.len k' (by omega)).mono ?_; rintro en w2 ⟨rfl, h2⟩; have HB2 := Lib.hid (St.unrot1 (St.entReg' h2)); clear h2 HB1))
  refine hK.out _ _ ?_
  clear hK K
  refine tkP 8 ?_
  refine wpAnyM_done (by kernel_rfl) ?_ _
  clear hHeld c1 x0
  have c0 := HB2.out.rest.entC0
  obtain ⟨x0, x1, _, _⟩ := (HB2.out.blk 0 rfl).two
  go_wp2_with fail
  refine wp_region_M (r := 6) (S := fun w' => w'.cell? ⟨b, 0, none⟩ = some (.pointer (some ⟨p.ab, 0, none⟩)) ∧ w'.cell? ⟨w.heap.size, 0, none⟩ = some (.int .i64 k') ∧ w'.cell? ⟨w.heap.size, 1, none⟩ = some (.int .i64 (g : Nat))) (by kernel_rfl) ?_ (fun hHeld => ?_)
  · (try dsimp only); exact ⟨c0, x0, x1⟩
  refine tkP 0 ?_; refine tkP 1 ?_; refine tkP 2 ?_; refine tkP 3 ?_; refine tkH 4 ?_; refine tkH 5 ?_; refine tkF 6 ?_
  intro K hK
  go_simp
  go_wp2_with ((go_at_call 116; have HDel := al_delete HB2.out.drew 2 rfl HE.out.al HRt.out k' HSt.out; rw [HG.out] at HDel; refine HDel.mono ?_; rintro en w3 ⟨rfl, h3⟩; have HB3 := Lib.hid h3; clear h3 HB2 HDel))
  refine hK.out _ _ ?_
  clear hK K
  refine wpAnyM_done (by kernel_rfl) ?_ _
  clear hHeld
  go_wp2_with fail
  go_ret2
  refine ⟨rfl, ?_⟩
  unfold EnS.del entL
  rw [HG.out]
  exact HB3.out.rest
end Go.Proofs.YtkiikblpgppmkaaGreatDoor

namespace Go.Proofs.YtkiikblpgppmkaaGreatDoor
open Go Go.RowKit
set_option linter.unusedVariables false
set_option linter.unusedSimpArgs false

/-- A part is given. -/
def EnS.ins (e : EnS) (k c : Nat) (v : VV) : EnS := ⟨e.al, match e.sl[c]? with
  | some s => e.sl.set c (s.put k v)
  | none => e.sl⟩
theorem EnS.ins_some {e : EnS} {k c : Nat} {v : VV} {s : SlS} (h : e.sl[c]? = some s) : e.ins k c v = ⟨e.al, e.sl.set c (s.put k v)⟩ := by
  unfold EnS.ins
  rw [h]
set_option maxHeartbeats 2000000 in
theorem ent_insert {w0 w : World} {R : List Asr} {b : Nat} {e : EnS} {p : EnB} (H : St w0 w (entL b e p ++ R)) (he : e.Ok 90000) (k : Nat) (g : Int) (hs : e.al.st k g = 1) (c : Nat) (s : SlS) (hc : e.sl[c]? = some s) (v : VV) (hv : okV v.k v.a v.b = true) (hkd : v.k = s.kind) :
    Calls Tryz.prog 53 #[ptr b, hdV k g, .int .i64 (c : Nat), v.val] w (fun en w' => en = .returned (.tuple #[(hadV s.m s.f k).val, .bool (s.m.testBit k), .int .i64 0]) ∧ St w0 w' (entL b (e.ins k c v) p ++ R)) := by
  obtain ⟨k', ek, hkl, _, _⟩ := AlS.st_live hs
  obtain rfl : k' = k := by omega
  have hl64 := he.al.len
  have HB := Lib.hid (show St w0 (((w.alloc (.cells #[.int .i64 k', .int .i64 g] 45)).alloc (.cells #[.int .i64 v.k, .int .i64 v.a, .int .i64 v.b] 34)).alloc (.cells #[.int .i64 0, .int .i64 0, .int .i64 0] 34)) (blkA (w.heap.size + 1 + 1) #[.int .i64 0, .int .i64 0, .int .i64 0] 34 :: blkA (w.heap.size + 1) #[.int .i64 v.k, .int .i64 v.a, .int .i64 v.b] 34 :: blkA w.heap.size #[.int .i64 k', .int .i64 g] 45 :: (entL b e p ++ R)) from H.box3 _ _ _ _ _ _)
  have HL := Lib.hid (ent_live b p.ab e.al k' g he.al _ HB.out.rest.rest.rest.entC0 (HB.out.rest.rest.rest.entAl he.al))
  rw [hs] at HL
  rw [show liveE 1 = 0 from rfl] at HL
  rw [EnS.ins_some hc]
  have HE := Lib.hid he
  have HC := Lib.hid hc
  have HV := Lib.hid (And.intro hv hkd)
  have hcl := (List.getElem?_eq_some_iff.1 hc).1
  have hlen := he.len
  have hbl : p.q.bs.length = e.sl.length := HB.out.rot3.entReg.regLen
  obtain ⟨x, hx⟩ : ∃ x, p.q.bs[c]? = some x := ⟨_, List.getElem?_eq_getElem (by omega)⟩
  have HX := Lib.hid hx
  have HSO := Lib.hid (he.sl s (List.mem_of_getElem? hc))
  obtain ⟨⟨hk1, ha1, hb1⟩, hh⟩ : ∃ h, hadV s.m s.f k' = h := ⟨_, rfl⟩
  have HH := Lib.hid hh
  obtain ⟨t, ht⟩ : ∃ t, s.m.testBit k' = t := ⟨_, rfl⟩
  have HTB := Lib.hid ht
  rw [hh, ht]
  have HPut := Lib.hid (fun (w' : World) (pp : SlB) (R' : List Asr) (h : St w0 w' (sloL x s pp ++ R')) => slo_put h HSO.out k' (by omega) v HV.out.1 HV.out.2)
  rw [hh, ht] at HPut
  obtain ⟨vk, va, vb⟩ := v
  clear H he hs hc hv hkd hx hh ht hbl ek
  unfold ptr hdV VV.val at *
  simp only at *
  go_enter Tryz.func53, Tryz.ntmps53
  go_upto_region 7 with (first
    | (go_at_call 111; refine HL.out.mono ?_; rintro en w1 ⟨rfl, hk1⟩; have HB1 := Lib.hid (HB.out.keep hk1); clear hk1 HL HB; have c1 := HB1.out.rest.rest.rest.entC1)
    | (go_at_call 49; refine (reg_slot HB1.out.rot3.entReg HX.out (by omega)).mono ?_; rintro en w2 ⟨rfl, hk2⟩; have HB2 := Lib.hid (HB1.out.keep hk2); clear hk2 HB1 c1))
  obtain ⟨h0, h1, _, _⟩ := (HB2.out.blk 2 rfl).two
  obtain ⟨x0, x1, x2, _, _, _⟩ := (HB2.out.blk 1 rfl).three
  go_wp2_with (go_at_call 112; obtain ⟨pp, hp⟩ := (HB2.out.rot3.entReg).regOpen HX.out HC.out; refine (HPut.out _ _ _ hp).mono ?_; rintro en w3 ⟨rfl, h3⟩; have HB3 := Lib.hid (St.unrot3 (St.entReg' (St.regShut HX.out HC.out h3))); clear h3 HB2 hp h0 h1 x0 x1 x2; obtain ⟨z0, z1, z2, y0, y1, y2⟩ := (HB3.out.blk 0 rfl).three)
  obtain ⟨q0, q1, q2, _, _, _⟩ := ((HB3.out.blk 0 rfl).set3 (.int .i64 hk1) (.int .i64 ha1) (.int .i64 hb1)).three
  have HF := Lib.hid ((HB3.out.write3 (.int .i64 hk1) (.int .i64 ha1) (.int .i64 hb1)).rest.rest.rest)
  clear z0 z1 z2 y0 y1 y2
  refine bodyPost_ret (v := .tuple #[.agg #[.int .i64 hk1, .int .i64 ha1, .int .i64 hb1], .bool t, .int .i64 0]) (by simp [results, Tryz.results53, go_sem, q0, q1, q2]) rfl ⟨rfl, HF.out⟩
set_option maxHeartbeats 1000000 in
theorem ent_get_gone (b ab : Nat) (a : AlS) (i g c : Int) (ha : a.Ok) (w : World) (hc : w.cell? ⟨b, 0, none⟩ = some (.pointer (some ⟨ab, 0, none⟩))) (hR : RdAl w ab a) (hs : a.st i g = 0) :
    Calls Tryz.prog 71 #[ptr b, hdV i g, .int .i64 c] w (Ret w (.tuple #[zV, .int .i64 4])) := by
  have hk2 := (show Keep w ((w.alloc (.cells #[.int .i64 i, .int .i64 g] 45)).alloc (.cells #[.int .i64 0, .int .i64 0, .int .i64 0] 34)) Nope from ((Keep.refl w Nope).alloc _).alloc _)
  have HL := Lib.hid (ent_live b ab a i g ha _ (hk2.cell hc (fun f => f)) (hR.keep hk2))
  rw [hs] at HL
  rw [show liveE 0 = 4 from rfl] at HL
  have HK2 := Lib.hid hk2
  clear ha hc hR hs hk2
  unfold ptr hdV zV at *
  go_enter Tryz.func71, Tryz.ntmps71
  go_wp2_with (go_at_call 111; refine HL.out.mono ?_; rintro en w1 ⟨rfl, hk1⟩; have HK1 := Lib.hid (HK2.out.trans hk1 (fun _ f => f.elim)); have HB1 := Lib.hid ((Blk.new1 w (.cells #[.int .i64 i, .int .i64 g] 45) #[.int .i64 0, .int .i64 0, .int .i64 0] 34).keep hk1 (fun f => f)); clear hk1; obtain ⟨z0, z1, z2, y0, y1, y2⟩ := HB1.out.three)
  obtain ⟨q0, q1, q2, _, _, _⟩ := (HB1.out.set3 (.int .i64 0) (.int .i64 0) (.int .i64 0)).three
  have HF := Lib.hid (HK1.out.set3 (b := w.heap.size + 1) (by omega) (.int .i64 0) (.int .i64 0) (.int .i64 0))
  clear z0 z1 z2 y0 y1 y2
  refine bodyPost_ret (v := .tuple #[.agg #[.int .i64 0, .int .i64 0, .int .i64 0], .int .i64 4]) (by simp [results, Tryz.results71, go_sem, q0, q1, q2]) rfl ⟨rfl, HF.out⟩
end Go.Proofs.YtkiikblpgppmkaaGreatDoor

namespace Go.Proofs.YtkiikblpgppmkaaGreatDoor
open Go Go.RowKit
set_option linter.unusedVariables false
set_option linter.unusedSimpArgs false

/-- A component's description. -/
structure DescV where
  kd : Nat
  var : Nat
  bd : Nat
def DescV.cells (d : DescV) : List Value := [.int .i64 (d.kd : Nat), .int .i64 (d.var : Nat), .int .i64 (d.bd : Nat)]
def flatDesc (l : List DescV) : List Value := l.flatMap DescV.cells
def DescV.Ok (d : DescV) : Prop := DescOk d.kd d.var d.bd
def DescV.new (f : Nat → VV) (d : DescV) : SlS := newSl d.kd d.var d.bd f
def LoopEnt (w0 : World) (L : List Asr) (ab rb : Nat) (a : AlS) (ds : List DescV) (f : Nat → VV) (g : Nat) (v27 : Value) (wr : World) : Prop :=
  ∃ (j : Nat) (q : RgB), g + j = ds.length ∧ v27 = .int .i64 (j : Nat) ∧ St w0 wr (regL rb ((ds.take j).map (DescV.new f)) q ++ (alA ab a :: L))
set_option maxHeartbeats 2000000 in
theorem ent_new {w0 w : World} {L : List Asr} (H : St w0 w L) (n top : Nat) (h1 : 1 ≤ n) (h2 : n ≤ 64) (h3 : 1 ≤ top) (h4 : top < 4294967296) (ds : List DescV) (hds : ∀ d, d ∈ ds → d.Ok) (hdl : ds.length ≤ 64) (v : Value) (hv : ReadIn w0 L v ds.length (flatDesc ds)) (f : Nat → VV) :
    Calls Tryz.prog 72 #[.int .i64 (n : Nat), .int .i64 (top : Nat), v] w (fun e w' => ∃ b, e = .returned (.tuple #[ptr b, .int .i64 0]) ∧ St w0 w' (L ++ [entA b ⟨newAl n top, ds.map (DescV.new f)⟩])) := by
  have HA := Lib.hid (al_new H n top h1 h2 h3 h4)
  have HD := Lib.hid (And.intro hds (And.intro hdl hv))
  obtain ⟨S0, hr0⟩ := hv w [] H
  obtain ⟨va, vc, rfl, _, _, _, _⟩ := id hr0
  obtain ⟨m, hm⟩ : ∃ m, ds.length = m := ⟨_, rfl⟩
  have HM := Lib.hid hm
  obtain ⟨a0, ha0⟩ : ∃ a, newAl n top = a := ⟨_, rfl⟩
  rw [ha0] at HA ⊢
  rw [hm] at hdl ⊢
  clear H h1 h2 h3 h4 hds hv hr0 hm ha0
  unfold ptr at *
  go_enter Tryz.func72, Tryz.ntmps72
  go_wp2_with (first
    | (go_at_call 142; refine HA.out.mono ?_; rintro e w1 ⟨ab, rfl, h1⟩; have H1 := Lib.hid h1.first; clear h1 HA)
    | (go_at_call 143; refine (reg_new H1.out).mono ?_; rintro e w2 ⟨rb, rfl, h2⟩; have H2 := Lib.hid h2.first; clear h2 H1))
  have H3 := Lib.hid (show ∃ q, St w0 w2 (regL rb [] q ++ (alA ab a0 :: L)) by
    obtain ⟨q, h⟩ := H2.out.exSplit 0 rfl
    refine ⟨q, ?_⟩
    have h4 := h.pick (l' := regL rb [] q ++ (alA ab a0 :: L)) (fun i => if i < (regL rb [] q).length then i else i + 1) (fun i j hi hj e => by
      by_cases a1 : i < (regL rb [] q).length <;> by_cases a2 : j < (regL rb [] q).length <;> simp [a1, a2] at e <;> omega) (fun i A hi => by
      by_cases a1 : i < (regL rb [] q).length
      · simp only [a1, if_true]
        rw [List.getElem?_append_left a1] at hi ⊢
        exact hi
      · simp only [a1, if_false]
        rw [List.getElem?_append_right (by omega)] at hi
        rw [List.getElem?_append_right (by omega), show i + 1 - (regL rb [] q).length = (i - (regL rb [] q).length) + 1 by omega]
        exact hi)
    exact h4)
  clear H2
  obtain ⟨q0, h3⟩ := H3.out
  have HST0 := Lib.hid h3
  clear h3 H3
  go_loopg [27] m (fun g v27 wr => LoopEnt w0 L ab rb a0 ds f g v27 wr)
  case atStart => exact ⟨0, q0, by rw [HM.out]; rfl, rfl, HST0.out⟩
  case round =>
    obtain ⟨j, q, hg, rfl, hst⟩ := hrel
    have HG := Lib.hid hg
    have HST := Lib.hid hst
    clear hg hst HST0
    by_cases hlt : j < m
    · obtain ⟨d, hd⟩ : ∃ d, ds[j]? = some d := ⟨_, List.getElem?_eq_getElem (by rw [HM.out]; exact hlt)⟩
      obtain ⟨S1, hr1⟩ := HD.out.2.2 wr (regL rb ((ds.take j).map (DescV.new f)) q ++ [alA ab a0]) (by rw [List.append_assoc]; exact HST.out)
      obtain ⟨bo, oo, rfl, _, hco⟩ := Rd.elem (cells := DescV.cells) (size := 3) (l := ds) hr1 (fun _ => rfl) (by decide) hd
      have hok := HD.out.1 d (List.mem_of_getElem? hd)
      have HTK := Lib.hid (show (ds.take (j + 1)).map (DescV.new f) = (ds.take j).map (DescV.new f) ++ [d.new f] by rw [List.take_add_one, hd]; simp)
      have HOK := Lib.hid hok
      obtain ⟨kd, var, bd⟩ := d
      have hc0 := hco 0 (by decide)
      have hc1 := hco 1 (by decide)
      have hc2 := hco 2 (by decide)
      simp [DescV.cells] at hc0 hc1 hc2
      have HADD := Lib.hid (reg_add (HST.out.alloc (.cells #[.int .i64 (kd : Nat), .int .i64 (var : Nat), .int .i64 (bd : Nat)] 60)) (by rw [List.length_map, List.length_take]; omega) kd var bd hok f)
      clear hd hr1 hco hok
      unfold ptr at HADD
      go_wp2_with (go_at_call 144; refine HADD.out.mono ?_; rintro e w3 ⟨rfl, q', h3⟩; have H3 := Lib.hid h3; clear h3 HADD)
      go_roundg (m - (j + 1))
      case measure => have := HG.out; have := HM.out; omega
      case rel => exact ⟨j + 1, q', by have := HG.out; have := HM.out; omega, by go_num, by rw [HTK.out]; exact H3.out⟩
    · have hjm : j = m := by have := HG.out; have := HM.out; omega
      have HF := Lib.hid (show St w0 wr (regL rb (ds.map (DescV.new f)) q ++ (alA ab a0 :: L)) by
        have h := HST.out
        rw [List.take_of_length_le (by rw [HM.out]; omega)] at h
        exact h)
      have HF2 := Lib.hid (HF.out.box0 #[.pointer (some ⟨ab, 0, none⟩), .pointer (some ⟨rb, 0, none⟩)] 132)
      clear HST
      go_wp2_with fail
      go_ret2
      refine ⟨wr.heap.size, rfl, St.pack (entL wr.heap.size ⟨a0, ds.map (DescV.new f)⟩) ⟨ab, rb, q⟩ ?_⟩
      have h := HF2.out
      have h2 : St w0 (wr.alloc (.cells #[.pointer (some ⟨ab, 0, none⟩), .pointer (some ⟨rb, 0, none⟩)] 132)) (alA ab a0 :: ((blkA wr.heap.size #[.pointer (some ⟨ab, 0, none⟩), .pointer (some ⟨rb, 0, none⟩)] 132 :: regL rb (ds.map (DescV.new f)) q) ++ L)) := by
        refine h.pick (fun i => if i = 0 then (regL rb (ds.map (DescV.new f)) q).length + 1 else if i ≤ (regL rb (ds.map (DescV.new f)) q).length + 1 then i - 1 else i) (fun i k hi hk e => ?_) (fun i A hi => ?_)
        · by_cases a1 : i = 0 <;> by_cases a2 : k = 0 <;> by_cases a3 : i ≤ (regL rb (ds.map (DescV.new f)) q).length + 1 <;> by_cases a4 : k ≤ (regL rb (ds.map (DescV.new f)) q).length + 1 <;> simp [a1, a2, a3, a4] at e <;> omega
        · by_cases a1 : i = 0
          · subst a1
            cases hi
            simp
          · simp only [a1, if_false]
            obtain ⟨i', rfl⟩ : ∃ i', i = i' + 1 := ⟨i - 1, by omega⟩
            rw [List.getElem?_cons_succ] at hi
            by_cases a3 : i' + 1 ≤ (regL rb (ds.map (DescV.new f)) q).length + 1
            · rw [if_pos a3]
              by_cases a5 : i' = 0
              · subst a5
                exact hi
              · obtain ⟨i2, rfl⟩ : ∃ i2, i' = i2 + 1 := ⟨i' - 1, by omega⟩
                rw [List.cons_append, List.getElem?_cons_succ, List.getElem?_append_left (by omega)] at hi
                rw [show i2 + 1 + 1 - 1 = i2 + 1 by omega, List.getElem?_cons_succ, List.getElem?_append_left (by omega)]
                exact hi
            · rw [if_neg a3]
              obtain ⟨i2, rfl⟩ : ∃ i2, i' = i2 + 1 := ⟨i' - 1, by omega⟩
              rw [List.cons_append, List.getElem?_cons_succ, List.getElem?_append_right (by omega)] at hi
              rw [List.getElem?_cons_succ, List.getElem?_append_right (by omega), show i2 + 1 - (regL rb (ds.map (DescV.new f)) q).length = (i2 - (regL rb (ds.map (DescV.new f)) q).length) + 1 by omega, List.getElem?_cons_succ]
              exact hi
      have h3 := St.toMid (P := [blkA wr.heap.size #[.pointer (some ⟨ab, 0, none⟩), .pointer (some ⟨rb, 0, none⟩)] 132]) (R := regL rb (ds.map (DescV.new f)) q ++ L) h2
      unfold entL
      rw [List.append_assoc]
      exact h3
end Go.Proofs.YtkiikblpgppmkaaGreatDoor

namespace Go.Proofs.YtkiikblpgppmkaaGreatDoor
open Go Go.RowKit
set_option linter.unusedVariables false
set_option linter.unusedSimpArgs false

def i64s (l : List Int) : List Value := l.map (Value.int .i64)
theorem i64s_len (l : List Int) : (i64s l).length = l.length := by simp [i64s]
theorem i64s_one (l : List Int) : ∀ u ∈ i64s l, u.oneCell' = true := by
  intro u hu
  obtain ⟨n, _, rfl⟩ := List.mem_map.1 hu
  rfl
theorem sl64 : SlTy Tryz.prog 25 2 1 8 := SlTy.mk' (.int .i64 0) Tryz.underlying25 (by kernel_rfl) rfl (by decide)


set_option maxHeartbeats 400000 in
theorem clone64 (v : Value) (l : List Int) (w : World) (S : Nat → Prop) (h : Rd S w v l.length (i64s l)) (hb : l.length * 8 ≤ 140737488355328) :
    Calls Tryz.prog 145 #[v] w (RetOwn w 2 1 (i64s l)) := by
  have hmx : 0 + l.length ≤ maxLen := by unfold maxLen; omega
  have hbb : (0 + l.length) * 8 ≤ 140737488355328 := by omega
  obtain ⟨a, c, rfl, h1, h2, h3, h4⟩ := id h
  have hnil := fun w' => Lib.run_eql_slice_nil (P := Tryz.prog) w' 25 2 a l.length c 0 0 Tryz.underlying25
  clear h1 h2 h4
  cases a with
  | none =>
    obtain ⟨hl, hc⟩ := h3 rfl
    have hl' : l = [] := List.eq_nil_of_length_eq_zero hl
    subst hl'
    clear h3 hl
    subst hc
    simp only [Option.isNone_none, List.length_nil] at hnil
    go_enter Tryz.func145, Tryz.ntmps145
    go_wp2_with fail
    go_ret
    exact ⟨_, _, _, rfl, Own.nil _ _ _ _, Keep.refl _ _⟩
  | some ad =>
    clear h3
    simp only [Option.isNone_some] at hnil
    go_enter Tryz.func145, Tryz.ntmps145
    go_wp2_with (at_builtin; refine wpList_app (P := Tryz.prog) sl64 rfl _ _ rfl (S := fun i => w.heap.size ≤ i) (S2 := S) (n := 0) (xs := []) (m := l.length) (news := i64s l) rfl rfl ?hown ?hx ?hl ?h1 hbb hmx ?_)
    case hown => exact Own.lit w _ 1 0 #[] (Nat.zero_le _) rfl (Nat.le_refl _)
    case hx => exact h.alloc _
    case hl => simp [i64s_len]
    case h1 => exact i64s_one l
    rintro a' k c' w1 ⟨ho, _, hk1, _⟩
    clear hnil h hbb hmx
    have HO := Lib.hid ho; clear ho
    have HK := Lib.hid hk1; clear hk1
    go_wp2_with fail
    go_ret
    exact ⟨_, _, _, rfl, (HO.out.mono (fun i h => h.elim id (fun h => by have := h.1; simp at this; omega))).new, (Keep.alloc (Keep.refl w Nope) _).trans HK.out (fun i h => .inr h)⟩

/-- A Res at block b, that holds l; its own blocks lie in S. -/
def IsRes (S : Nat → Prop) (w : World) (b : Nat) (l : List Int) : Prop :=
  ∃ a n c, Blk w b #[.slice a n c] 285 ∧ S b ∧ Own S w 2 1 (.slice a n c) n (i64s l) ∧ n = l.length ∧ n ≤ 32
theorem IsRes.keep {S T : Nat → Prop} {w w' : World} {b : Nat} {l : List Int} (h : IsRes S w b l) (hk : Keep w w' T) (hd : ∀ i, S i → T i → False) : IsRes S w' b l := by
  obtain ⟨a, n, c, h1, h2, h3, h4⟩ := h
  exact ⟨a, n, c, h1.keep hk (hd b h2), h2, h3.keep hk hd, h4⟩
theorem IsRes.mono {S T : Nat → Prop} {w : World} {b : Nat} {l : List Int} (h : IsRes S w b l) (hT : ∀ i, S i → T i) : IsRes T w b l := by
  obtain ⟨a, n, c, h1, h2, h3, h4⟩ := h
  exact ⟨a, n, c, h1, hT b h2, h3.mono hT, h4⟩

/-- A pointer to a new Res that holds l; nothing old has turned. -/
def RetRes (w : World) (l : List Int) (en : Ending) (w' : World) : Prop :=
  ∃ b, en = .returned (.pointer (some ⟨b, 0, none⟩)) ∧ IsRes (New w w') w' b l ∧ Keep w w' Nope

set_option maxHeartbeats 400000 in
theorem res_new (v : Value) (l : List Int) (w : World) (S : Nat → Prop) (h : Rd S w v l.length (i64s l)) :
    Calls Tryz.prog 73 #[v] w (RetRes w (l.take 32)) := by
  have hrd : ∀ a c, v = .slice a l.length c → Rd S w (.slice a (min l.length 32) c) (l.take 32).length (i64s (l.take 32)) := by
    rintro a c rfl
    obtain ⟨a', c', he, h1, h2, h3, h4⟩ := h
    injection he with e1 e2 e3
    subst e1; subst e3
    refine ⟨a, c, by simp [Nat.min_comm], by simp; omega, h2, fun hx => ⟨by have := h3 hx; rw [List.length_take]; omega, (h3 hx).2⟩, fun j u hu => h4 j u ?_⟩
    simp only [i64s, List.map_take, List.getElem?_take] at hu
    split at hu
    · exact hu
    · cases hu
  obtain ⟨a, c, rfl, h1, h2, h3, h4⟩ := h
  have hR := Lib.hid (hrd a c rfl)
  clear h4 hrd h3
  unfold maxLen at h2
  have hbb : (l.take 32).length * 8 ≤ 140737488355328 := by rw [List.length_take]; omega
  have hHb := Lib.hid hbb; clear hbb
  go_enter Tryz.func73, Tryz.ntmps73
  go_wp2_with fail
  all_goals
    refine (clone64 _ (l.take 32) _ S ?_ hHb.out).mono ?_
    · have := hR.out
      first
      | rw [Nat.min_eq_left (by omega)] at this; exact this
      | rw [Nat.min_eq_right (by omega)] at this; exact this
    rintro e w1 ⟨a', n', c', rfl, ho, hk⟩
    have HO := Lib.hid ho; clear ho
    have HK := Lib.hid hk; clear hk
    go_wp2_with fail
    go_ret
    have hn := HO.out.len
    rw [i64s_len, Nat.mul_one] at hn
    exact ⟨_, rfl, ⟨_, _, _, Blk.new _ _ _, ⟨HK.out.size, by simp⟩, (HO.out.alloc _).mono (fun i h => ⟨h.1, by simp; have := h.2; omega⟩), hn.symm, by rw [← hn, List.length_take]; omega⟩, HK.out.alloc _⟩

end Go.Proofs.YtkiikblpgppmkaaGreatDoor

namespace Go.Proofs.YtkiikblpgppmkaaGreatDoor
open Go Go.RowKit
set_option linter.unusedVariables false
set_option linter.unusedSimpArgs false

set_option maxHeartbeats 400000 in
theorem add_1 (o : OpV) (w : World) : Calls Tryz.prog 121 #[o.val] w (Ret w (.bool (!okOp o))) := by
  have HV := Lib.hid (op_ok o)
  obtain ⟨kind, hi, hg, c, vk, va, vb⟩ := o
  obtain ⟨b, hb⟩ : ∃ b, okOp ⟨kind, hi, hg, c, vk, va, vb⟩ = b := ⟨_, rfl⟩
  rw [hb] at HV ⊢
  clear hb
  simp only [OpV.val] at HV ⊢
  go_enter Tryz.func121, Tryz.ntmps121
  go_wp2_with fail
  refine (HV.out _).mono ?_
  rintro e w1 ⟨rfl, hk⟩
  have HK := Lib.hid hk; clear hk
  go_wp2_with fail
  go_ret
  exact ⟨rfl, (Keep.alloc (Keep.refl _ _) _).trans HK.out (fun _ f => f.elim)⟩

/-- A number, at least 0 just if one of the ops may not be. -/
def RetIx (w : World) (l : List OpV) (en : Ending) (w' : World) : Prop := ∃ i : Int, en = .returned (.int .i64 i) ∧ ((0 ≤ i) = (l.any (fun o => !okOp o) = true)) ∧ Keep w w' Nope

def LoopIx (w : World) (l : List OpV) (g : Nat) (v8 : Value) (wr : World) : Prop :=
  ∃ k : Nat, g + k = l.length ∧ v8 = .int .i64 k ∧ (∀ j o, j < k → l[j]? = some o → okOp o = true) ∧ Keep w wr Nope

set_option maxHeartbeats 1000000 in
theorem index_op (v : Value) (l : List OpV) (w : World) (S : Nat → Prop) (h : Rd S w v l.length (flatOp l)) :
    Calls Tryz.prog 118 #[v, .func (.func 121) #[] #[]] w (RetIx w l) := by
  obtain ⟨a, c, rfl, h1, h2, h3, h4⟩ := id h
  have hlen : l.length ≤ 9223372036854775807 := by unfold maxLen at h2; omega
  clear h1 h2 h3 h4
  have H := Lib.hid h; clear h
  go_enter Tryz.func118, Tryz.ntmps118
  go_wp2_with fail
  go_loopg [8] l.length (fun g v8 wr => LoopIx w l g v8 wr)
  case atStart => exact ⟨0, rfl, rfl, fun j o h => by omega, Keep.refl _ _⟩
  case round =>
    obtain ⟨k, hk, rfl, hall, hkeep⟩ := hrel
    have hkl : k ≤ l.length := by omega
    have HK := Lib.hid hk; clear hk
    have HA := Lib.hid hall; clear hall
    have HP := Lib.hid hkeep; clear hkeep
    by_cases hlt : k < l.length
    · obtain ⟨o, ho⟩ : ∃ o, l[k]? = some o := ⟨_, List.getElem?_eq_getElem hlt⟩
      obtain ⟨bo, oo, rfl, hbo, hco⟩ := (H.out.keep HP.out (fun _ _ f => f)).elem (cells := OpV.cells) (size := 7) (fun _ => rfl) (by decide) ho
      have HO := Lib.hid ho; clear ho
      have HC := Lib.hid (add_1 o)
      obtain ⟨ok, hok⟩ : ∃ ok, okOp o = ok := ⟨_, rfl⟩
      rw [hok] at HC
      have HOK := Lib.hid hok; clear hok
      obtain ⟨kind, hi, hg, c', vk, va, vb⟩ := o
      have hc0 := hco 0 (by decide)
      have hc1 := hco 1 (by decide)
      have hc2 := hco 2 (by decide)
      have hc3 := hco 3 (by decide)
      have hc4 := hco 4 (by decide)
      have hc5 := hco 5 (by decide)
      have hc6 := hco 6 (by decide)
      simp [OpV.cells] at hc0 hc1 hc2 hc3 hc4 hc5 hc6
      clear hco
      simp only [OpV.val] at HC
      cases ok
      · go_wp2_with fail
        refine (HC.out _).mono ?_
        rintro e w1 ⟨rfl, hk1⟩
        have HK1 := Lib.hid hk1; clear hk1
        go_wp2_with fail
        go_ret
        refine ⟨k, rfl, ?_, HP.out.trans HK1.out (fun _ f => f.elim)⟩
        have : l.any (fun o => !okOp o) = true := List.any_eq_true.2 ⟨_, List.mem_of_getElem? HO.out, by simp [HOK.out]⟩
        rw [this]
        simp
      · go_wp2_with fail
        refine (HC.out _).mono ?_
        rintro e w1 ⟨rfl, hk1⟩
        have HK1 := Lib.hid hk1; clear hk1
        go_wp2_with fail
        go_roundg (l.length - (k + 1))
        case measure => have := HK.out; omega
        case rel =>
          refine ⟨k + 1, by omega, by go_num, fun j o' hj ho' => ?_, HP.out.trans HK1.out (fun _ f => f.elim)⟩
          by_cases e : j = k
          · subst e
            rw [HO.out] at ho'
            cases ho'
            exact HOK.out
          · exact HA.out j o' (by omega) ho'
    · go_wp2_with fail
      go_ret
      refine ⟨-1, rfl, ?_, HP.out⟩
      have : l.any (fun o => !okOp o) = false := by
        rw [List.any_eq_false]
        intro o ho
        obtain ⟨j, hj, rfl⟩ := List.getElem_of_mem ho
        simp [HA.out j _ (by omega) (List.getElem?_eq_getElem hj)]
      rw [this]
      simp

set_option maxHeartbeats 400000 in
theorem contains_op (v : Value) (l : List OpV) (w : World) (S : Nat → Prop) (h : Rd S w v l.length (flatOp l)) :
    Calls Tryz.prog 58 #[v, .func (.func 121) #[] #[]] w (Ret w (.bool (l.any (fun o => !okOp o)))) := by
  have H := Lib.hid h; clear h
  obtain ⟨b, hb⟩ : ∃ b, l.any (fun o => !okOp o) = b := ⟨_, rfl⟩
  rw [hb]
  have HB := Lib.hid hb; clear hb
  go_enter Tryz.func58, Tryz.ntmps58
  go_wp2_with fail
  refine (index_op v l _ S H.out).mono ?_
  rintro e w1 ⟨i, rfl, hi, hk⟩
  have HI := Lib.hid hi; clear hi
  have HK := Lib.hid hk; clear hk
  cases b
  · have hi : i < 0 := by
      have := HI.out
      rw [HB.out] at this
      simp at this
      exact this
    have hd : decide (0 ≤ i) = false := decide_eq_false (by omega)
    go_wp2_with fail
    go_ret
    exact ⟨rfl, HK.out⟩
  · have hi : 0 ≤ i := by
      have := HI.out
      rw [HB.out] at this
      simpa using this
    go_wp2_with fail
    go_ret
    exact ⟨rfl, HK.out⟩
end Go.Proofs.YtkiikblpgppmkaaGreatDoor
