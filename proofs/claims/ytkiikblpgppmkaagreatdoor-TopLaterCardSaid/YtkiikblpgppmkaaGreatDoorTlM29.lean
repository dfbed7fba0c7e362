/-
  The document's handles: In: those that are live; The document's components: NewSlot; NewAlloc; The laws' helpers: a value of a kind; a component that may be; The laws' helpers: components made of numbers; a configuration; The document's world: what lies where; comp, may, Create.
-/
import Derived.Test.YtkiikblpgppmkaaGreatDoorTlM28
import Derived.Test.YtkiikblpgppmkaaGreatDoorTlM27
import Derived.Test.YtkiikblpgppmkaaGreatDoorTlM25
namespace Go.Proofs.YtkiikblpgppmkaaGreatDoor
open Go Go.RowKit
set_option linter.unusedVariables false
set_option linter.unusedSimpArgs false

theorem hd5_snoc (l : List HdV) (x g : Int) : flatHd l ++ [.int .i64 x, .int .i64 g] = flatHd (l ++ [⟨x, g⟩]) := by
  rw [flatHd_app]
  rfl
def hsTo (a : AlS) (i : Nat) : List HdV := (listTo a.live i).map fun k => ⟨(k : Nat), (a.gen k : Nat)⟩
def liveH (a : AlS) : List HdV := (listW a.live).map fun k => ⟨(k : Nat), (a.gen k : Nat)⟩
theorem hsTo_step_yes {a : AlS} {j : Nat} (h : a.live.testBit j = true) : hsTo a (j + 1) = hsTo a j ++ [⟨(j : Nat), (a.gen j : Nat)⟩] := by
  unfold hsTo listTo
  rw [List.range_succ, List.filter_append, List.map_append]
  simp [h]
theorem hsTo_step_no {a : AlS} {j : Nat} (h : a.live.testBit j = false) : hsTo a (j + 1) = hsTo a j := by
  unfold hsTo listTo
  rw [List.range_succ, List.filter_append, List.map_append]
  simp [h]
theorem hsTo_len (a : AlS) (i : Nat) : (hsTo a i).length ≤ i := by
  unfold hsTo listTo
  rw [List.length_map]
  exact Nat.le_trans (List.length_filter_le _ _) (by rw [List.length_range]; exact Nat.le_refl _)
theorem A5Rel.hsEnd {a : AlS} {L : Nat} (h : A5Rel a L) : hsTo a L = liveH a := by
  have h1 := h.ok.len
  have h2 := h.le
  unfold hsTo liveH
  rw [← listTo_none (m := a.live) (i := L) (j := 64) (by omega) (fun k hk _ => h.bl k hk)]
  rfl
def Loop5I (w0 : World) (R : List Asr) (b : Nat) (a : AlS) (L : Nat) (q : A5B) (g : Nat) (v5 v6 : Value) (wr : World) : Prop :=
  ∃ (j n : Nat) (sa : Option Addr) (c : Nat), g + j = L ∧ v6 = .int .i64 (j : Nat) ∧ v5 = .slice sa n c ∧ (hsTo a j).length = n ∧ St w0 wr (a5L b (a.d5 L) q ++ (slA 45 2 (.slice sa n c) n (flatHd (hsTo a j)) :: R))
def Ret5In (w0 : World) (R : List Asr) (b : Nat) (a : AlS) (e : Ending) (w' : World) : Prop := ∃ (sa : Option Addr) (n c : Nat), e = .returned (.slice sa n c) ∧ (liveH a).length = n ∧ St w0 w' (slA 45 2 (.slice sa n c) n (flatHd (liveH a)) :: a5A b a :: R)
set_option maxRecDepth 100000 in
set_option maxHeartbeats 4000000 in
theorem a5_in {w0 w : World} {R : List Asr} {b : Nat} {a : AlS} (H : St w0 w (a5A b a :: R)) :
    Calls Tryz.prog 29 #[ptr b, .int .i64 1] w (Ret5In w0 R b a) := by
  obtain ⟨L, ⟨ga, gc, sa, sc⟩, hr, h⟩ := H.a5Open
  have h0 := (h.add (Keep.refl _ _) (A := slA 45 2 (.slice none 0 0) 0 (flatHd (hsTo a 0))) (Own.nil _ _ _ _)).first
  have H0 := Lib.hid (show St w0 w (a5L b (a.d5 L) ⟨ga, gc, sa, sc⟩ ++ (slA 45 2 (.slice none 0 0) 0 (flatHd (hsTo a 0)) :: R)) from St.sel (P := [_, _, _, _]) (P' := [_, _, _, _]) (R := R) [1, 2, 3, 0] h0 (by decide) rfl rfl)
  have hle := hr.le
  have hl64 := hr.ok.len
  have hL64 : L ≤ 64 := by omega
  have HR := Lib.hid hr
  have HS := Lib.hid (fun j (hj : j < L) => d5_ss a hj)
  have HG := Lib.hid (fun j (hj : j < L) => d5_gs a hj)
  clear H h hr h0 hle hl64
  unfold ptr
  go_enter Tryz.func29, Tryz.ntmps29
  go_wp2_with fail
  go_loopg [5, 6] L (fun g v5 v6 wr => Loop5I w0 R b a L ⟨ga, gc, sa, sc⟩ g v5 v6 wr)
  case atStart => exact ⟨0, 0, none, 0, by omega, rfl, rfl, rfl, H0.out⟩
  case round =>
    obtain ⟨j, n, ha, c, hgj, rfl, rfl, hn, hst⟩ := hrel
    have HGJ := Lib.hid hgj
    have HN := Lib.hid hn
    have hnj : n ≤ j := by rw [← hn]; exact hsTo_len a j
    have c3 : wr.cell? ⟨b, 3, none⟩ = some (.slice sa L sc) := by
      rw [(hst.blk 0 rfl).cell]
      show some (Value.slice sa (a.d5 L).ss.length sc) = _
      rw [d5_len]
    have c2 : wr.cell? ⟨b, 2, none⟩ = some (.slice ga L gc) := by
      rw [(hst.blk 0 rfl).cell]
      show some (Value.slice ga (a.d5 L).gs.length gc) = _
      rw [HR.out.glen]
    have HST := Lib.hid hst
    by_cases hjl : j < L
    · have hsome : (a.d5 L).ss[j]? = some (a.stD j) := by rw [getD_some (d := 0) (by rw [d5_len]; exact hjl), d5_ss a hjl]
      obtain ⟨G2, _, hr2, _⟩ := hst.rd 2 (e := 3) (size := 1) (n := (a.d5 L).ss.length) (v := .slice sa (a.d5 L).ss.length sc) (xs := intsN (a.d5 L).ss) rfl
      obtain ⟨a2, k2, hv2, _, _, _, hc2⟩ := hr2
      obtain ⟨g2, o2, he2, _, x2⟩ := hc2 j _ (intsN_get hsome)
      injection hv2 with ea2 _ _
      subst ea2
      subst he2
      have e0 : decide ((j : Int) < (L : Int)) = true := decide_eq_true (by omega)
      have e3 : decide (L ≤ j) = false := decide_eq_false (by omega)
      have HJL := Lib.hid hjl
      cases hb : a.live.testBit j with
      | false =>
        have hs1 : a.stD j ≠ 1 := by
          unfold AlS.stD
          rw [hb]
          split
          · contradiction
          · split
            · omega
            · split <;> omega
        obtain ⟨sj, hsj⟩ : ∃ s, a.stD j = s := ⟨_, rfl⟩
        rw [hsj] at x2 hs1
        have e2 : ((sj : Int) == 1) = false := by simp; omega
        have HE := Lib.hid (hsTo_step_no hb)
        clear hc2 hsome hsj hs1 hgj hst hb hn
        go_wp2_with fail
        go_roundg (L - (j + 1))
        case measure => have := HGJ.out; have := HJL.out; omega
        case rel => exact ⟨j + 1, n, ha, c, by have := HGJ.out; have := HJL.out; omega, by go_num, rfl, by rw [HE.out]; exact HN.out, by rw [HE.out]; exact HST.out⟩
      | true =>
        have hs1 : a.stD j = 1 := by
          unfold AlS.stD
          rw [hb]
          rfl
        rw [hs1] at x2
        have hsg : (a.d5 L).gs[j]? = some (a.gen j) := by rw [getD_some (d := 0) (by rw [HR.out.glen]; exact hjl), d5_gs a hjl]
        obtain ⟨G3, _, hr3, _⟩ := hst.rd 1 (e := 2) (size := 1) (n := (a.d5 L).gs.length) (v := .slice ga (a.d5 L).gs.length gc) (xs := intsN (a.d5 L).gs) rfl
        obtain ⟨a3, k3, hv3, _, _, _, hc3⟩ := hr3
        obtain ⟨g3, o3, he3, _, x3⟩ := hc3 j _ (intsN_get hsg)
        injection hv3 with ea3 _ _
        subst ea3
        subst he3
        obtain ⟨G, hown, _, hup, _⟩ := hst.opens 3 rfl
        have HOwn := Lib.hid (show Own G wr 45 2 (.slice ha n c) n (flatHd (hsTo a j)) from hown)
        have HUP := Lib.hid hup
        have HE := Lib.hid (hsTo_step_yes hb)
        obtain ⟨gj, hgj2⟩ : ∃ g : Int, ((a.gen j : Nat) : Int) = g := ⟨_, rfl⟩
        rw [hgj2] at x3
        have HGJ2 := Lib.hid hgj2
        have hn64 : n ≤ 64 := by omega
        clear hc2 hsome hs1 hgj hst hb hn hown hup hsg hc3 hgj2
        go_wp2_with (at_builtin; go_loud (refine wpList_app (P := Tryz.prog) slHd rfl _ _ rfl (S := G) (S2 := fun z => z = wr.heap.size) (n := n) (xs := flatHd (hsTo a j)) (m := 1) (news := [.int .i64 (j : Nat), .int .i64 gj]) rfl rfl ?_ (Own.lit (S := fun z => z = wr.heap.size) wr 45 2 1 #[.int .i64 (j : Nat), .int .i64 gj] (by decide) rfl rfl).rd rfl (by intro u hu; simp at hu; rcases hu with rfl | rfl <;> rfl) (by omega) (by unfold maxLen; omega) ?_; (· exact HOwn.out.keep (T := Nope) ((Keep.refl wr Nope).alloc _) (fun _ _ f => f)); rintro a' k' c' w5 happ; obtain ⟨z1, z2⟩ := app_up (wr := wr) ((Keep.refl wr Nope).alloc _) happ; obtain rfl := happ.num; have h5 := HUP.out w5 _ z1 z2; rw [← HGJ2.out, hd5_snoc, ← HE.out] at h5; have H5 := Lib.hid h5; clear happ z1 z2 h5 HOwn HUP))
        go_roundg (L - (j + 1))
        case measure => have := HGJ.out; have := HJL.out; omega
        case rel => exact ⟨j + 1, n + 1, a', c', by have := HGJ.out; have := HJL.out; omega, by go_num, rfl, by rw [HE.out, List.length_append, HN.out]; rfl, H5.out⟩
    · have hjL : j = L := by omega
      have e0 : decide ((j : Int) < (L : Int)) = false := decide_eq_false (by omega)
      have HE := Lib.hid (show hsTo a j = liveH a by rw [hjL]; exact HR.out.hsEnd)
      clear hgj hst hn
      go_wp2_with fail
      go_ret
      have h5 := HST.out
      rw [HE.out] at h5
      refine ⟨ha, n, c, rfl, by rw [← HE.out]; exact HN.out, ?_⟩
      exact St.sw (St.a5Shut HR.out h5)
end Go.Proofs.YtkiikblpgppmkaaGreatDoor

namespace Go.Proofs.YtkiikblpgppmkaaGreatDoor
open Go Go.RowKit
set_option linter.unusedVariables false
set_option linter.unusedSimpArgs false

def DescV.val (d : DescV) : Value := .agg #[.int .i64 (d.kd : Nat), .int .i64 (d.var : Nat), .int .i64 (d.bd : Nat)]
set_option maxRecDepth 100000 in
set_option maxHeartbeats 2000000 in
theorem s5_new {w0 w : World} {L : List Asr} (H : St w0 w L) (d : DescV) :
    Calls Tryz.prog 102 #[d.val] w (fun e w' => ∃ b, e = .returned (ptr b) ∧ St w0 w' (L ++ [s5A b d 0])) := by
  obtain ⟨kd, var, bd⟩ := d
  have HB := H.box2 #[.int .i64 (kd : Nat), .int .i64 (var : Nat), .int .i64 (bd : Nat)] #[.int .i64 (kd : Nat), .int .i64 (var : Nat), .int .i64 (bd : Nat), .slice none 0 0, .pointer none] 60 108
  obtain ⟨db, hdb⟩ : ∃ db, w.heap.size = db := ⟨_, rfl⟩
  obtain ⟨b, hb⟩ : ∃ b, db + 1 = b := ⟨_, rfl⟩
  obtain ⟨wa, hwa⟩ : ∃ wa, (w.alloc (.cells #[.int .i64 (kd : Nat), .int .i64 (var : Nat), .int .i64 (bd : Nat)] 60)).alloc (.cells #[.int .i64 (kd : Nat), .int .i64 (var : Nat), .int .i64 (bd : Nat), .slice none 0 0, .pointer none] 108) = wa := ⟨_, rfl⟩
  have HBH := Lib.hid (show St w0 wa (blkA b #[.int .i64 (kd : Nat), .int .i64 (var : Nat), .int .i64 (bd : Nat), .slice none 0 0, .pointer none] 108 :: blkA db #[.int .i64 (kd : Nat), .int .i64 (var : Nat), .int .i64 (bd : Nat)] 60 :: L) by rw [hdb, hb] at HB; rw [← hwa]; exact HB)
  obtain ⟨x0, x1, x2, _, _, _⟩ := (HBH.out.blk 1 rfl).three
  clear H HB
  unfold DescV.val ptr
  go_enter Tryz.func102, Tryz.ntmps102
  go_upto_region 2 with fail
  try rw [hdb]
  try rw [hb]
  try rw [hwa]
  clear hdb hb hwa
  by_cases h0 : bd = 0
  · have e1 : decide ((bd : Int) > 0) = false := decide_eq_false (by omega)
    have e2 : decide (0 < bd) = false := decide_eq_false (by omega)
    have H0 := Lib.hid h0
    clear h0
    go_wp2_with fail
    go_ret
    have h1 := (HBH.out.add (Keep.refl _ _) (A := slA 342 4 (.slice none 0 0) 0 []) (Own.nil _ _ _ _)).first
    have h2 := (h1.add (Keep.refl _ _) (A := empA) trivial).first
    have h3 := (h2.add (Keep.refl _ _) (A := empA) trivial).first
    have h4 := (h3.add (Keep.refl _ _) (A := pureA (S5Le ⟨[], none, 0, none⟩ 0 0)) ⟨Nat.le_refl _, fun f hf => by cases hf⟩).first
    exact ⟨b, rfl, St.pack (fun q => s5L b ⟨kd, var, bd⟩ q ++ [pureA (S5Le q 0 0)]) ⟨[], none, 0, none⟩ (St.sel (P := [_, _, _, _, _, _]) (P' := [_, _, _, _, _]) (R := L) [4, 3, 2, 1, 0] h4 (by decide) rfl rfl)⟩
  · have e1 : decide ((bd : Int) > 0) = true := decide_eq_true (by omega)
    have e2 : decide (0 < bd) = true := decide_eq_true (by omega)
    clear h0
    have hf := HBH.out.box0 #[.int .i64 (bd : Nat), .slice none 0 0, .slice none 0 0] 306
    have c4 : (wa.alloc (.cells #[.int .i64 (bd : Nat), .slice none 0 0, .slice none 0 0] 306)).cell? ⟨b, 4, none⟩ = some (.pointer none) := by rw [(hf.blk 1 (b := b) (cs := #[.int .i64 (kd : Nat), .int .i64 (var : Nat), .int .i64 (bd : Nat), .slice none 0 0, .pointer none]) (t := 108) rfl).cell]; rfl
    have y4 := (hf.blk 1 (b := b) (cs := #[.int .i64 (kd : Nat), .int .i64 (var : Nat), .int .i64 (bd : Nat), .slice none 0 0, .pointer none]) (t := 108) rfl).frozen 4
    have HF := Lib.hid (hf.write 1 (b := b) (cs := #[.int .i64 (kd : Nat), .int .i64 (var : Nat), .int .i64 (bd : Nat), .slice none 0 0, .pointer none]) (t := 108) rfl 4 (.pointer (some ⟨wa.heap.size, 0, none⟩)))
    clear hf
    go_wp2_with fail
    go_ret
    have h1 := (HF.out.add (Keep.refl _ _) (A := slA 342 4 (.slice none 0 0) 0 []) (Own.nil _ _ _ _)).first
    have h2 := (h1.add (Keep.refl _ _) (A := slA 86 2 (.slice none 0 0) 0 []) (Own.nil _ _ _ _)).first
    have h4 := (h2.add (Keep.refl _ _) (A := pureA (S5Le ⟨[], none, 0, some ⟨wa.heap.size, [], none, 0⟩⟩ 0 0)) ⟨Nat.le_refl _, fun f hf => by cases hf; exact Nat.le_refl _⟩).first
    exact ⟨b, rfl, St.pack (fun q => s5L b ⟨kd, var, bd⟩ q ++ [pureA (S5Le q 0 0)]) ⟨[], none, 0, some ⟨wa.heap.size, [], none, 0⟩⟩ (St.sel (P := [_, _, _, _, _, _]) (P' := [_, _, _, _, _]) (R := L) [4, 2, 3, 1, 0] h4 (by decide) rfl rfl)⟩
set_option maxHeartbeats 1000000 in
theorem a5_new {w0 w : World} {L : List Asr} (H : St w0 w L) (n top : Nat) (hr : A5Rel (newAl n top) 0) (hn : (newAl n top).gens.length = n) (ht : (newAl n top).top = top) :
    Calls Tryz.prog 101 #[.int .i64 (n : Nat), .int .i64 (top : Nat)] w (fun e w' => ∃ b, e = .returned (ptr b) ∧ St w0 w' (a5A b (newAl n top) :: L)) := by
  have HB := Lib.hid (H.box0 #[.int .i64 (n : Nat), .int .i64 (top : Nat), .slice none 0 0, .slice none 0 0] 180)
  have HR := Lib.hid (And.intro hr (And.intro hn ht))
  clear H hr hn ht
  unfold ptr
  go_enter Tryz.func101, Tryz.ntmps101
  go_wp2_with fail
  go_ret
  have h1 := (HB.out.add (Keep.refl _ _) (A := slA 2 1 (.slice none 0 0) 0 []) (Own.nil _ _ _ _)).first
  have h2 := (h1.add (Keep.refl _ _) (A := slA 3 1 (.slice none 0 0) 0 []) (Own.nil _ _ _ _)).first
  have h3 := St.sel (P := [_, _, _]) (P' := [_, _, _]) (R := L) [2, 1, 0] h2 (by decide) rfl rfl
  refine ⟨w.heap.size, rfl, St.a5Shut (n := 0) (q := ⟨none, 0, none, 0⟩) HR.out.1 ?_⟩
  unfold a5L AlS.d5
  rw [HR.out.2.1, HR.out.2.2]
  exact h3
end Go.Proofs.YtkiikblpgppmkaaGreatDoor

namespace Go.Proofs.YtkiikblpgppmkaaGreatDoor
open Go Go.RowKit
set_option linter.unusedVariables false
set_option linter.unusedSimpArgs false

def lawV (kd : Nat) (a b : Int) : VV := if kd = 1 then ⟨1, a, 0⟩ else if kd = 2 then ⟨2, a, b⟩ else ⟨3, 0, 0⟩
theorem lawV_ok {kd : Nat} (h : kd = 1 ∨ kd = 2 ∨ kd = 3) (a b : Int) : okV (lawV kd a b).k (lawV kd a b).a (lawV kd a b).b = true := by
  rcases h with rfl | rfl | rfl <;> rfl
theorem lawV_k {kd : Nat} (h : kd = 1 ∨ kd = 2 ∨ kd = 3) (a b : Int) : (lawV kd a b).k = (kd : Int) := by
  rcases h with rfl | rfl | rfl <;> rfl
set_option maxHeartbeats 1000000 in
theorem law_value (kd : Nat) (h : kd = 1 ∨ kd = 2 ∨ kd = 3) (a b : Int) (w : World) : Calls Tryz.prog 30 #[.int .i64 (kd : Nat), .int .i64 a, .int .i64 b] w (Ret w (lawV kd a b).val) := by
  rcases h with rfl | rfl | rfl
  · go_enter Tryz.func30, Tryz.ntmps30
    go_wp2_with fail
    refine bodyPost_ret (v := .agg #[.int .i64 1, .int .i64 a, .int .i64 0]) (by simp [results, Tryz.results30, go_sem]) rfl ⟨rfl, (show Keep w _ Nope from (by (repeat (first | exact Keep.refl _ _ | apply Keep.drew | apply Keep.drewN | apply Keep.alloc))))⟩
  · go_enter Tryz.func30, Tryz.ntmps30
    go_wp2_with fail
    refine bodyPost_ret (v := .agg #[.int .i64 2, .int .i64 a, .int .i64 b]) (by simp [results, Tryz.results30, go_sem]) rfl ⟨rfl, (show Keep w _ Nope from (by (repeat (first | exact Keep.refl _ _ | apply Keep.drew | apply Keep.drewN | apply Keep.alloc))))⟩
  · go_enter Tryz.func30, Tryz.ntmps30
    go_wp2_with fail
    refine bodyPost_ret (v := .agg #[.int .i64 3, .int .i64 0, .int .i64 0]) (by simp [results, Tryz.results30, go_sem]) rfl ⟨rfl, (show Keep w _ Nope from (by (repeat (first | exact Keep.refl _ _ | apply Keep.drew | apply Keep.drewN | apply Keep.alloc))))⟩
/-- A component, made of three numbers. -/
def lawD (a b c : Int) : DescV := ⟨(a % 256 % 3 + 1).toNat, if (a % 256 % 3 + 1).toNat = 3 ∧ bits .and .i64 b 768 = 0 then 4 else (b % 256 % 3 + 1).toNat, (c % 32).toNat - 10⟩
theorem lawD_ok (a b c : Int) : (lawD a b c).Ok := by
  have h1 : (a % 256 % 3 + 1).toNat = 1 ∨ (a % 256 % 3 + 1).toNat = 2 ∨ (a % 256 % 3 + 1).toNat = 3 := by omega
  have h2 : (b % 256 % 3 + 1).toNat = 1 ∨ (b % 256 % 3 + 1).toNat = 2 ∨ (b % 256 % 3 + 1).toNat = 3 := by omega
  refine ⟨h1, ?_, ?_, ?_⟩
  · show VarOk (if (a % 256 % 3 + 1).toNat = 3 ∧ bits .and .i64 b 768 = 0 then 4 else (b % 256 % 3 + 1).toNat)
    split
    · exact VarOk.v4
    · rcases h2 with e | e | e <;> rw [e]
      · exact VarOk.v1
      · exact VarOk.v2
      · exact VarOk.v3
  · show (if (a % 256 % 3 + 1).toNat = 3 ∧ bits .and .i64 b 768 = 0 then 4 else (b % 256 % 3 + 1).toNat) = 4 → (a % 256 % 3 + 1).toNat = 3
    split
    · rename_i h
      exact fun _ => h.1
    · omega
  · show (c % 32).toNat - 10 ≤ 1000
    omega
set_option maxHeartbeats 2000000 in
theorem law_desc (a b c : Int) (w : World) : Calls Tryz.prog 150 #[.int .i64 a, .int .i64 b, .int .i64 c] w (Ret w (lawD a b c).val) := by
  obtain ⟨kd, hk, hk1, hk2, hk3⟩ : ∃ k : Nat, (bits .and .i64 a 255).tmod 3 = (k : Int) - 1 ∧ 1 ≤ k ∧ k ≤ 3 ∧ (a % 256 % 3 + 1).toNat = k := by
    have e : bits .and .i64 a 255 = a % 256 := by rw [and_mask a 8 255 (by decide) rfl]; rfl
    have h0 : 0 ≤ a % 256 := by omega
    rw [e, Int.tmod_eq_emod_of_nonneg h0]
    exact ⟨(a % 256 % 3 + 1).toNat, by omega, by omega, by omega, rfl⟩
  obtain ⟨vr, hv, hv1, hv2, hv3⟩ : ∃ k : Nat, (bits .and .i64 b 255).tmod 3 = (k : Int) - 1 ∧ 1 ≤ k ∧ k ≤ 3 ∧ (b % 256 % 3 + 1).toNat = k := by
    have e : bits .and .i64 b 255 = b % 256 := by rw [and_mask b 8 255 (by decide) rfl]; rfl
    have h0 : 0 ≤ b % 256 := by omega
    rw [e, Int.tmod_eq_emod_of_nonneg h0]
    exact ⟨(b % 256 % 3 + 1).toNat, by omega, by omega, by omega, rfl⟩
  obtain ⟨z, hz, hz1, hz2⟩ : ∃ z : Nat, bits .and .i64 c 31 = (z : Int) ∧ z < 32 ∧ (c % 32).toNat = z := by
    rw [and_mask c 5 31 (by decide) rfl]
    exact ⟨(c % 32).toNat, by omega, by omega, rfl⟩
  have hk4 : (kd : Int) - 1 + 1 = kd := by omega
  have hv4 : (vr : Int) - 1 + 1 = vr := by omega
  obtain ⟨bd, hb⟩ : ∃ bd : Nat, z - 10 = bd := ⟨_, rfl⟩
  have hmx : (if (z : Int) - 10 < 0 then (0 : Int) else (z : Int) - 10) = (bd : Int) := by split <;> omega
  have HE := Lib.hid (show lawD a b c = ⟨kd, if kd = 3 ∧ bits .and .i64 b 768 = 0 then 4 else vr, bd⟩ by unfold lawD; rw [hk3, hv3, hz2, hb])
  obtain ⟨q, hq⟩ : ∃ q, bits .and .i64 b 768 = q := ⟨_, rfl⟩
  rw [hq] at HE
  clear hk3 hv3 hz2 hb
  go_enter Tryz.func150, Tryz.ntmps150
  go_upto_region 2 with fail
  try simp only [hmx]
  clear hk hv hz hk4 hv4 hmx
  by_cases h3 : kd = 3
  · subst h3
    by_cases hq0 : q = 0
    · subst hq0
      have HE2 := Lib.hid (show lawD a b c = ⟨3, 4, bd⟩ by rw [HE.out, if_pos ⟨rfl, rfl⟩])
      clear HE
      go_wp2_with fail
      refine bodyPost_ret (v := .agg #[.int .i64 3, .int .i64 4, .int .i64 (bd : Nat)]) (by simp [results, Tryz.results150, go_sem]) rfl ⟨by rw [HE2.out]; rfl, (show Keep w _ Nope from (by (repeat (first | exact Keep.refl _ _ | apply Keep.drew | apply Keep.drewN | apply Keep.alloc))))⟩
    · have e1 : ((q : Int) == 0) = false := by simp [hq0]
      have HE2 := Lib.hid (show lawD a b c = ⟨3, vr, bd⟩ by rw [HE.out, if_neg (fun h => hq0 h.2)])
      clear HE
      go_wp2_with fail
      refine bodyPost_ret (v := .agg #[.int .i64 3, .int .i64 (vr : Nat), .int .i64 (bd : Nat)]) (by simp [results, Tryz.results150, go_sem]) rfl ⟨by rw [HE2.out]; rfl, (show Keep w _ Nope from (by (repeat (first | exact Keep.refl _ _ | apply Keep.drew | apply Keep.drewN | apply Keep.alloc))))⟩
  · have e1 : ((kd : Int) == 3) = false := by simp; omega
    have HE2 := Lib.hid (show lawD a b c = ⟨kd, vr, bd⟩ by rw [HE.out, if_neg (fun h => h3 h.1)])
    clear HE
    go_wp2_with fail
    refine bodyPost_ret (v := .agg #[.int .i64 (kd : Nat), .int .i64 (vr : Nat), .int .i64 (bd : Nat)]) (by simp [results, Tryz.results150, go_sem]) rfl ⟨by rw [HE2.out]; rfl, (show Keep w _ Nope from (by (repeat (first | exact Keep.refl _ _ | apply Keep.drew | apply Keep.drewN | apply Keep.alloc))))⟩
end Go.Proofs.YtkiikblpgppmkaaGreatDoor

namespace Go.Proofs.YtkiikblpgppmkaaGreatDoor
open Go Go.RowKit
set_option linter.unusedVariables false
set_option linter.unusedSimpArgs false

theorem sl5D : SlTy Tryz.prog 24 60 3 24 := SlTy.mk' (.agg #[.int .i64 0, .int .i64 0, .int .i64 0]) Tryz.underlying24 (by kernel_rfl) rfl (by decide)
def lawDsTo (l : List Int) (n : Nat) : List DescV := (List.range n).map fun i => lawD (l.getD (3 * i) 0) (l.getD (3 * i + 1) 0) (l.getD (3 * i + 2) 0)
def lawDs (l : List Int) : List DescV := lawDsTo l (min 8 (l.length / 3))
theorem lawDsTo_len (l : List Int) (n : Nat) : (lawDsTo l n).length = n := by simp [lawDsTo]
theorem lawDsTo_succ (l : List Int) (n : Nat) : lawDsTo l (n + 1) = lawDsTo l n ++ [lawD (l.getD (3 * n) 0) (l.getD (3 * n + 1) 0) (l.getD (3 * n + 2) 0)] := by
  unfold lawDsTo
  rw [List.range_succ, List.map_append]
  rfl
theorem flatDesc_snoc (l : List DescV) (d : DescV) : flatDesc l ++ d.cells = flatDesc (l ++ [d]) := by simp [flatDesc]
theorem lawDs_le (l : List Int) : (lawDs l).length ≤ 8 := by
  unfold lawDs
  rw [lawDsTo_len]
  exact Nat.min_le_left _ _
theorem lawDs_ok (l : List Int) : ∀ d, d ∈ lawDs l → d.Ok := by
  intro d hd
  unfold lawDs lawDsTo at hd
  obtain ⟨i, _, rfl⟩ := List.mem_map.1 hd
  exact lawD_ok _ _ _
def LoopLD (w0 : World) (L : List Asr) (l : List Int) (m : Nat) (g : Nat) (v3 v4 : Value) (wr : World) : Prop :=
  ∃ (j : Nat) (a : Option Addr) (c : Nat), g + j = m ∧ v4 = .int .i64 (j : Nat) ∧ v3 = .slice a j c ∧ St w0 wr (slA 60 3 (.slice a j c) j (flatDesc (lawDsTo l j)) :: L)
def RetLD (w0 : World) (L : List Asr) (l : List Int) (e : Ending) (w' : World) : Prop := ∃ (a : Option Addr) (n c : Nat), e = .returned (.slice a n c) ∧ (lawDs l).length = n ∧ St w0 w' (slA 60 3 (.slice a n c) n (flatDesc (lawDs l)) :: L)
set_option maxRecDepth 100000 in
set_option maxHeartbeats 4000000 in
theorem law_descs {w0 w : World} {L : List Asr} (H : St w0 w L) (l : List Int) (v : Value) (hv : ReadIn w0 L v l.length (ints l)) :
    Calls Tryz.prog 76 #[v] w (RetLD w0 L l) := by
  obtain ⟨S0, hr0⟩ := hv w [] H
  obtain ⟨va, vc, rfl, hle0, hmax, _, _⟩ := id hr0
  have H0 := Lib.hid (H.add (Keep.refl _ _) (A := slA 60 3 (.slice none 0 0) 0 (flatDesc (lawDsTo l 0))) (Own.nil _ _ _ _)).first
  have HV := Lib.hid hv
  obtain ⟨n, hn⟩ : ∃ n, l.length = n := ⟨_, rfl⟩
  have HN := Lib.hid hn
  rw [hn] at hle0 ⊢
  have hll : n ≤ 9223372036854775807 := by unfold maxLen at hmax; omega
  obtain ⟨m, hm⟩ : ∃ m, min 8 (n / 3) = m := ⟨_, rfl⟩
  have HM := Lib.hid hm
  have hm8 : m ≤ 8 := by omega
  clear H hv hr0 hn hmax hm hle0
  go_enter Tryz.func76, Tryz.ntmps76
  go_wp2_with fail
  go_loopg [3, 4] m (fun g v3 v4 wr => LoopLD w0 L l m g v3 v4 wr)
  case atStart => exact ⟨0, none, 0, by omega, rfl, rfl, H0.out⟩
  case round =>
    obtain ⟨j, a, c, hg, rfl, rfl, hst⟩ := hrel
    have HG := Lib.hid hg
    have HST := Lib.hid hst
    by_cases hlt : j < m
    · have hj3 : 3 * j + 2 < n := by have := HM.out; omega
      have hj3l : 3 * j + 2 < l.length := by rw [HN.out]; exact hj3
      obtain ⟨S1, hr1⟩ := HV.out wr [slA 60 3 (.slice a j c) j (flatDesc (lawDsTo l j))] hst
      obtain ⟨x0, hx0⟩ : ∃ x, l.getD (3 * j) 0 = x := ⟨_, rfl⟩
      obtain ⟨x1, hx1⟩ : ∃ x, l.getD (3 * j + 1) 0 = x := ⟨_, rfl⟩
      obtain ⟨x2, hx2⟩ : ∃ x, l.getD (3 * j + 2) 0 = x := ⟨_, rfl⟩
      have g0 : l[3 * j]? = some x0 := by rw [← hx0, List.getD_eq_getElem?_getD, List.getElem?_eq_getElem (by omega)]; rfl
      have g1 : l[3 * j + 1]? = some x1 := by rw [← hx1, List.getD_eq_getElem?_getD, List.getElem?_eq_getElem (by omega)]; rfl
      have g2 : l[3 * j + 2]? = some x2 := by rw [← hx2, List.getD_eq_getElem?_getD, List.getElem?_eq_getElem (by omega)]; rfl
      obtain ⟨bo, oo, ⟨cc, hv1⟩, _, c0⟩ := hr1.int g0
      obtain ⟨bo1, oo1, ⟨cc1, hv2⟩, _, c1⟩ := hr1.int g1
      obtain ⟨bo2, oo2, ⟨cc2, hv3⟩, _, c2⟩ := hr1.int g2
      simp only [Value.slice.injEq, true_and] at hv1 hv2 hv3
      have ea1 := hv1.1
      have ea2 := hv2.1
      have ea3 := hv3.1
      clear hv1 hv2 hv3
      subst ea1
      injection ea2 with ea2
      injection ea2 with ea2 eo2 _
      injection ea3 with ea3
      injection ea3 with ea3 eo3 _
      subst ea2
      subst eo2
      subst ea3
      subst eo3
      obtain ⟨i0, hi0⟩ : ∃ i, 3 * j = i := ⟨_, rfl⟩
      obtain ⟨i1, hi1⟩ : ∃ i, i0 + 1 = i := ⟨_, rfl⟩
      obtain ⟨i2, hi2⟩ : ∃ i, i0 + 2 = i := ⟨_, rfl⟩
      rw [hi0] at c0 c1 c2
      rw [hi1] at c1
      rw [hi2] at c2
      have em0 : 3 * (j : Int) = (i0 : Int) := by omega
      have em1 : (i0 : Int) + 1 = (i1 : Int) := by omega
      have em2 : (i0 : Int) + 2 = (i2 : Int) := by omega
      have b2 : i2 < n := by omega
      have b1 : i1 < n := by omega
      have b0 : i0 < n := by omega
      have e0 : decide ((i2 : Int) < (n : Int)) = true := decide_eq_true (by omega)
      have e1 : decide ((j : Int) < 8) = true := decide_eq_true (by omega)
      have e2 : decide (n ≤ i0) = false := decide_eq_false (by omega)
      have e3 : decide (n ≤ i1) = false := decide_eq_false (by omega)
      have e4 : decide (n ≤ i2) = false := decide_eq_false (by omega)
      have HX := Lib.hid (show lawDsTo l (j + 1) = lawDsTo l j ++ [lawD x0 x1 x2] by rw [lawDsTo_succ, hx0, hx1, hx2])
      obtain ⟨⟨kd, var, bd⟩, hd⟩ : ∃ d, lawD x0 x1 x2 = d := ⟨_, rfl⟩
      have hdc := law_desc x0 x1 x2
      rw [hd] at HX hdc
      have HDc := Lib.hid hdc
      have HLT := Lib.hid hlt
      clear hr1 hx0 hx1 hx2 g0 g1 g2 hi0 hi1 hi2 hg hst hj3l hd hdc
      unfold DescV.val at HDc
      simp only at HDc
      go_upto_region 5 with fail
      have k0 : (i0 : Int) < (n : Int) := by omega
      have k1 : (i1 : Int) < (n : Int) := by omega
      have k2 : (i2 : Int) < (n : Int) := by omega
      have enw0 : IntKind.i64.wrap (i0 : Int) = (i0 : Int) := IntWalk.i64_in _ (by omega)
      have enw1 : IntKind.i64.wrap (i1 : Int) = (i1 : Int) := IntWalk.i64_in _ (by omega)
      have enw2 : IntKind.i64.wrap (i2 : Int) = (i2 : Int) := IntWalk.i64_in _ (by omega)
      refine wp_region_M (r := 18) (S := fun w' => w'.cell? ⟨bo, oo + i0, none⟩ = some (.int .i64 x0) ∧ w'.cell? ⟨bo, oo + i1, none⟩ = some (.int .i64 x1) ∧ w'.cell? ⟨bo, oo + i2, none⟩ = some (.int .i64 x2)) (by kernel_rfl) ?_ (fun hHeld => ?_)
      · (try dsimp only); exact ⟨c0, c1, c2⟩
      refine tkP 0 ?_; refine tkP 1 ?_; refine tkP 2 ?_; refine tkP 3 ?_; refine tkP 4 ?_; refine tkH 5 ?_; refine tkP 6 ?_; refine tkP 7 ?_; refine tkP 8 ?_; refine tkP 9 ?_; refine tkP 10 ?_; refine tkH 11 ?_; refine tkP 12 ?_; refine tkP 13 ?_; refine tkP 14 ?_; refine tkP 15 ?_; refine tkP 16 ?_; refine tkH 17 ?_; refine tkF 18 ?_
      intro K hK
      go_simp
      go_wp2_with ((clear enw0 enw1 enw2; go_at_call 150; refine (HDc.out _).mono ?_; rintro e w1 ⟨rfl, hk1⟩; have h1 := HST.out.drew.keep hk1; obtain ⟨G, hown, _, hup, _⟩ := h1.opens 0 rfl; have HOwn := Lib.hid (show Own G w1 60 3 (.slice a j c) j (flatDesc (lawDsTo l j)) from hown); have HUP := Lib.hid hup; clear h1 hown hup hk1))
      refine hK.out _ _ ?_
      clear hK K
      refine tkF 19 ?_
      intro K hK
      go_simp
      refine hK.out _ _ ?_
      clear hK K
      refine tkF 20 ?_
      intro K hK
      rw [if_pos (by rfl)]
      (refine step_app (P := Tryz.prog) sl5D _ _ rfl (S := G) (S2 := fun z => z = w1.heap.size) (n := j) (xs := flatDesc (lawDsTo l j)) (m := 1) (news := DescV.cells ⟨kd, var, bd⟩) rfl rfl ?_ (Own.lit (S := fun z => z = w1.heap.size) w1 60 3 1 #[.int .i64 (kd : Nat), .int .i64 (var : Nat), .int .i64 (bd : Nat)] (by decide) rfl rfl).rd rfl (by intro u hu; simp [DescV.cells] at hu; rcases hu with rfl | rfl | rfl <;> rfl) (by omega) (by unfold maxLen; omega) ?_; (· exact HOwn.out.keep (T := Nope) ((Keep.refl w1 Nope).alloc _) (fun _ _ f => f)); intro a' k' c' w5 happ; obtain ⟨z1, z2⟩ := app_up (wr := w1) ((Keep.refl w1 Nope).alloc _) happ; obtain rfl := happ.num; have h5 := HUP.out w5 _ z1 z2; rw [flatDesc_snoc, ← HX.out] at h5; have H5 := Lib.hid h5; clear happ z1 z2 h5)
      refine hK.out _ _ ?_
      clear hK K
      (try simp only [List.getElem_toArray, List.getElem_cons_succ, List.getElem_cons_zero, Act.put, List.setIfInBounds_toArray, List.set_cons_zero, List.set_cons_succ])
      refine tkP 21 ?_
      refine wpAnyM_done (by kernel_rfl) ?_ _
      clear hHeld
      go_wp2_with fail
      go_roundg (m - (j + 1))
      case measure => have := HG.out; have := HLT.out; omega
      case rel => exact ⟨j + 1, a', c', by have := HG.out; have := HLT.out; omega, by go_num, rfl, H5.out⟩
    · have hjm : j = m := by omega
      have hj3 : n ≤ 3 * j + 2 ∨ 8 ≤ j := by have := HM.out; omega
      obtain ⟨i0, hi0⟩ : ∃ i, 3 * j = i := ⟨_, rfl⟩
      obtain ⟨i2, hi2⟩ : ∃ i, i0 + 2 = i := ⟨_, rfl⟩
      have em0 : 3 * (j : Int) = (i0 : Int) := by omega
      have em2 : (i0 : Int) + 2 = (i2 : Int) := by omega
      have hi28 : i2 ≤ 30 := by omega
      have HF := Lib.hid (show St w0 wr (slA 60 3 (.slice a j c) j (flatDesc (lawDs l)) :: L) by
        unfold lawDs
        rw [HN.out, HM.out, ← hjm]
        exact HST.out)
      have HLn := Lib.hid (show (lawDs l).length = j by unfold lawDs; rw [lawDsTo_len, HN.out, HM.out]; exact hjm.symm)
      by_cases h0 : i2 < n
      · have e0 : decide ((i2 : Int) < (n : Int)) = true := decide_eq_true (by omega)
        have e1 : decide ((j : Int) < 8) = false := decide_eq_false (by omega)
        clear hjm hg hst hi0 hi2 hj3 hlt
        go_wp2_with fail
        go_ret
        exact ⟨a, j, c, rfl, HLn.out, HF.out⟩
      · have e0 : decide ((i2 : Int) < (n : Int)) = false := decide_eq_false (by omega)
        clear hjm hg hst hi0 hi2 hj3 hlt
        go_wp2_with fail
        go_ret
        exact ⟨a, j, c, rfl, HLn.out, HF.out⟩
end Go.Proofs.YtkiikblpgppmkaaGreatDoor

namespace Go.Proofs.YtkiikblpgppmkaaGreatDoor
open Go Go.RowKit
set_option linter.unusedVariables false
set_option linter.unusedSimpArgs false

structure M5B where
  ab : Nat
  sa : Option Addr
  sc : Nat
  bs : List Nat
  ra : Option Addr
  rn : Nat
  rc : Nat
def s5P (x : Nat) (e : DescV × Nat) : Asr := s5A x e.1 e.2
def m5Cs (p : M5B) (n : Nat) : Array Value := #[.pointer (some ⟨p.ab, 0, none⟩), .slice p.sa n p.sc, .slice p.ra p.rn p.rc, .slice none 0 0, .bool false]
def m5L (b : Nat) (al : AlS) (xs : List (DescV × Nat)) (p : M5B) : List Asr :=
  [blkA b (m5Cs p xs.length) 100, a5A p.ab al, slA 109 1 (.slice p.sa xs.length p.sc) xs.length (p.bs.map ptr), pureA (p.bs.length = xs.length)] ++ List.zipWith s5P p.bs xs
/-- The document's world: handles, components of some kinds; in each no more than N rows, N events. -/
def m5A (b : Nat) (al : AlS) (ds : List DescV) (N : Nat) : Asr := exA fun z : List (DescV × Nat) × M5B => starA (m5L b al z.1 z.2 ++ [pureA (z.1.map Prod.fst = ds ∧ ∀ e, e ∈ z.1 → e.2 ≤ N)])
theorem St.m5Open {w0 w : World} {L : List Asr} {b N : Nat} {al : AlS} {ds : List DescV} (h : St w0 w (m5A b al ds N :: L)) : ∃ (xs : List (DescV × Nat)) (p : M5B), xs.map Prod.fst = ds ∧ (∀ e, e ∈ xs → e.2 ≤ N) ∧ St w0 w (m5L b al xs p ++ L) := by
  obtain ⟨⟨xs, p⟩, h⟩ := h.exTop
  rw [List.append_assoc] at h
  have h2 := St.ofMid (P := m5L b al xs p) h
  have hp : xs.map Prod.fst = ds ∧ ∀ e, e ∈ xs → e.2 ≤ N := by
    obtain ⟨G, h, _⟩ := h2.get 0 rfl
    exact h
  exact ⟨xs, p, hp.1, hp.2, h2.rest⟩
theorem St.m5Shut {w0 w : World} {L : List Asr} {b N : Nat} {al : AlS} {ds : List DescV} {xs : List (DescV × Nat)} {p : M5B} (h1 : xs.map Prod.fst = ds) (h2 : ∀ e, e ∈ xs → e.2 ≤ N) (h : St w0 w (m5L b al xs p ++ L)) : St w0 w (m5A b al ds N :: L) := by
  have h3 := (h.add (Keep.refl _ _) (A := pureA (xs.map Prod.fst = ds ∧ ∀ e, e ∈ xs → e.2 ≤ N)) ⟨h1, h2⟩).first.toMid (P := m5L b al xs p)
  have h4 : St w0 w ((m5L b al xs p ++ [pureA (xs.map Prod.fst = ds ∧ ∀ e, e ∈ xs → e.2 ≤ N)]) ++ L) := by rw [List.append_assoc]; exact h3
  exact (St.pack (fun z : List (DescV × Nat) × M5B => m5L b al z.1 z.2 ++ [pureA (z.1.map Prod.fst = ds ∧ ∀ e, e ∈ z.1 → e.2 ≤ N)]) (xs, p) h4).first
theorem St.m5Len {w0 w : World} {R : List Asr} {b : Nat} {al : AlS} {xs : List (DescV × Nat)} {p : M5B} (H : St w0 w (m5L b al xs p ++ R)) : p.bs.length = xs.length := by
  obtain ⟨G, h, _⟩ := H.get 3 rfl
  exact h
theorem m5_at {b : Nat} {al : AlS} {xs : List (DescV × Nat)} {p : M5B} {R : List Asr} {c x : Nat} {e : DescV × Nat} (hx : p.bs[c]? = some x) (hs : xs[c]? = some e) : (m5L b al xs p ++ R)[4 + c]? = some (s5P x e) := by
  unfold m5L
  rw [List.append_assoc, List.getElem?_append_right (by simp), show 4 + c - [blkA b (m5Cs p xs.length) 100, a5A p.ab al, slA 109 1 (.slice p.sa xs.length p.sc) xs.length (p.bs.map ptr), pureA (p.bs.length = xs.length)].length = c by simp]
  have hl : c < (List.zipWith s5P p.bs xs).length := by
    rw [List.length_zipWith]
    have h1 := (List.getElem?_eq_some_iff.1 hx).1
    have h2 := (List.getElem?_eq_some_iff.1 hs).1
    omega
  rw [List.getElem?_append_left hl, List.getElem?_zipWith, hx, hs]
theorem zip5_set (bs : List Nat) (l : List (DescV × Nat)) (c x : Nat) (s : DescV × Nat) (hx : bs[c]? = some x) : (List.zipWith s5P bs l).set c (s5P x s) = List.zipWith s5P bs (l.set c s) := by
  apply List.ext_getElem?
  intro j
  by_cases e : c = j
  · subst e
    by_cases hl : c < l.length
    · have hb := (List.getElem?_eq_some_iff.1 hx).1
      rw [List.getElem?_set_self (by rw [List.length_zipWith]; omega), List.getElem?_zipWith, hx, List.getElem?_set_self hl]
    · rw [List.getElem?_eq_none (by simp; omega), List.getElem?_eq_none (by simp; omega)]
  · rw [List.getElem?_set_ne e, List.getElem?_zipWith, List.getElem?_zipWith, List.getElem?_set_ne e]
theorem m5_set {b : Nat} {al : AlS} {xs : List (DescV × Nat)} {p : M5B} {R : List Asr} {c x : Nat} {e e' : DescV × Nat} (hx : p.bs[c]? = some x) (hs : xs[c]? = some e) : (m5L b al xs p ++ R).set (4 + c) (s5P x e') = m5L b al (xs.set c e') p ++ R := by
  have hl : c < (List.zipWith s5P p.bs xs).length := by
    rw [List.length_zipWith]
    have h1 := (List.getElem?_eq_some_iff.1 hx).1
    have h2 := (List.getElem?_eq_some_iff.1 hs).1
    omega
  unfold m5L
  rw [List.length_set, List.append_assoc, List.append_assoc, List.set_append_right _ _ (by simp), show 4 + c - [blkA b (m5Cs p xs.length) 100, a5A p.ab al, slA 109 1 (.slice p.sa xs.length p.sc) xs.length (p.bs.map ptr), pureA (p.bs.length = xs.length)].length = c by simp]
  rw [List.set_append_left _ _ hl, zip5_set _ _ _ _ _ hx]
/-- One component is opened; it is closed again. -/
theorem St.m5Slot {w0 w : World} {R : List Asr} {b : Nat} {al : AlS} {xs : List (DescV × Nat)} {p : M5B} (H : St w0 w (m5L b al xs p ++ R)) {c x : Nat} {e : DescV × Nat} (hx : p.bs[c]? = some x) (hs : xs[c]? = some e) : ∃ q, S5Le q e.2 e.2 ∧ St w0 w (s5L x e.1 q ++ (m5L b al xs p ++ R).set (4 + c) empA) := by
  obtain ⟨q, h⟩ := H.exSplit (4 + c) (m5_at hx hs)
  rw [List.append_assoc] at h
  have h2 := St.ofMid (P := s5L x e.1 q) h
  have hp : S5Le q e.2 e.2 := by
    obtain ⟨G, h, _⟩ := h2.get 0 rfl
    exact h
  exact ⟨q, hp, h2.rest⟩
theorem St.m5Slot' {w0 w : World} {R : List Asr} {b n : Nat} {al : AlS} {xs : List (DescV × Nat)} {p : M5B} {c x : Nat} {e : DescV × Nat} {q : S5B} (hx : p.bs[c]? = some x) (hs : xs[c]? = some e) (hq : S5Le q n n) (H : St w0 w (s5L x e.1 q ++ (m5L b al xs p ++ R).set (4 + c) empA)) : St w0 w (m5L b al (xs.set c (e.1, n)) p ++ R) := by
  have h3 := (H.add (Keep.refl _ _) (A := pureA (S5Le q n n)) hq).first.toMid (P := s5L x e.1 q)
  have h4 : St w0 w ((s5L x e.1 q ++ [pureA (S5Le q n n)]) ++ (m5L b al xs p ++ R).set (4 + c) empA) := by rw [List.append_assoc]; exact h3
  have h := St.exJoin (fun q => s5L x e.1 q ++ [pureA (S5Le q n n)]) q (4 + c) (List.getElem?_eq_some_iff.1 (m5_at hx hs)).1 h4
  have e2 := m5_set (b := b) (al := al) (R := R) (e' := (e.1, n)) hx hs
  rw [← e2]
  exact h
theorem St.m5Row {w0 w : World} {R : List Asr} {b : Nat} {al : AlS} {xs : List (DescV × Nat)} {p : M5B} (H : St w0 w (m5L b al xs p ++ R)) {c x : Nat} (hx : p.bs[c]? = some x) : ∃ g, p.sa = some ⟨g, 0, none⟩ ∧ w.cell? ⟨g, c, none⟩ = some (ptr x) := by
  have hl := H.m5Len
  have hc := (List.getElem?_eq_some_iff.1 hx).1
  obtain ⟨g, e, _, _, hcell, _⟩ := H.store 2 (n := xs.length) (a := p.sa) (c := p.sc) (xs := p.bs.map ptr) rfl (by omega)
  refine ⟨g, e, ?_⟩
  rw [hcell c (by omega), List.getElem?_map, hx]
  rfl
/-- The cells that each call reads. -/
structure M5Cs (w : World) (b n : Nat) (p : M5B) : Prop where
  c0 : w.cell? ⟨b, 0, none⟩ = some (.pointer (some ⟨p.ab, 0, none⟩))
  c1 : w.cell? ⟨b, 1, none⟩ = some (.slice p.sa n p.sc)
  c4 : w.cell? ⟨b, 4, none⟩ = some (.bool false)
theorem St.m5C {w0 w : World} {R : List Asr} {b : Nat} {al : AlS} {xs : List (DescV × Nat)} {p : M5B} (H : St w0 w (m5L b al xs p ++ R)) : M5Cs w b xs.length p := by
  have hb := H.blk 0 rfl
  refine ⟨?_, ?_, ?_⟩ <;> (rw [hb.cell]; rfl)
theorem m5_comp (b n c cp : Nat) (a : Option Addr) (hc : c < n) (hn : n ≤ 64) (w : World) (h1 : w.cell? ⟨b, 1, none⟩ = some (.slice a n cp)) :
    Calls Tryz.prog 157 #[ptr b, .int .i64 (c : Nat)] w (fun e w' => e = .returned (.int .i64 0) ∧ w = w') := by
  have e0 : decide ((c : Int) < 0) = false := decide_eq_false (by omega)
  have e1 : decide ((c : Int) ≥ (n : Int)) = false := decide_eq_false (by omega)
  have e2 : decide (n ≤ c) = false := decide_eq_false (by omega)
  unfold ptr
  go_enter Tryz.func157, Tryz.ntmps157
  go_wp2_with fail
  go_ret
  exact ⟨rfl, rfl⟩
theorem a5A_may {w0 w : World} {L : List Asr} {b : Nat} {a : AlS} (H : St w0 w (a5A b a :: L)) (i g : Int) :
    Calls Tryz.prog 105 #[ptr b, hdV i g] w (Ret w (.int .i64 (liveE (a.st i g)))) := by
  obtain ⟨n, q, hr, h⟩ := H.a5Open
  have := a5_may h hr.okD i g
  rw [hr.st] at this
  exact this
theorem a5A_delete {w0 w : World} {L : List Asr} {b : Nat} {a : AlS} (H : St w0 w (a5A b a :: L)) (k : Nat) (hs : a.st k (a.gen k : Nat) = 1) :
    Calls Tryz.prog 107 #[ptr b, hdV k (a.gen k : Nat)] w (fun e w' => e = .returned (.int .i64 0) ∧ St w0 w' (a5A b (a.took k (a.gen k : Nat)) :: L)) := by
  obtain ⟨n, q, hr, h⟩ := H.a5Open
  obtain ⟨k', ek, _, _, hl⟩ := AlS.st_live hs
  obtain rfl : k' = k := by omega
  have h1 := hr.st (k' : Nat) (a.gen k' : Nat)
  rw [hs] at h1
  have h2 := hr.took hl
  refine (a5_delete h hr.okD k' (a.gen k' : Nat) (by omega)).mono ?_
  rintro e w' ⟨rfl, h3⟩
  rw [h2.2] at h3
  exact ⟨rfl, St.a5Shut h2.1 h3⟩
end Go.Proofs.YtkiikblpgppmkaaGreatDoor
